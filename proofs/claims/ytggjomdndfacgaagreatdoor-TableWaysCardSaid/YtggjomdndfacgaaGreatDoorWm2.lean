/- For TableWays: AMOps21 AMOps22 AMCode AMCode2 AMLooks AMStep2 AMDraw AMDraw2 AMDraw3 AMDraw4 AMDraw5 AMExt AMExt2 AMExt3 AMExt4 AMAbs AMAbs2 AMCon AMIdx AMPiece AMIns AMIns2 AMOv AMIns3 AMEd AMEd2 AMEd3. -/
import Derived.Test.YtggjomdndfacgaaGreatDoorWm1
import Derived.Laws.RangeString
import Derived.Scope
import Derived.LoopN
import Derived.Laws.Externs
set_option linter.unusedSectionVars false
set_option linter.unusedVariables false
set_option linter.unusedSimpArgs false
noncomputable section
namespace Go.AM
variable [Tok]
variable {P:Program}
section
variable {o:Oper} {c:Call} {b:Builtin} (h:o.op=.call c) (hb:c.callee=.builtin b)
include h hb
theorem bval {a:Act} {w w':World} {v:Value} (hr:∀ consts,(builtin b c.argTypes o.type consts (c.args.map a.eval)).run P w=.ok (.value v) w'):(execOp a.eval o).run P w=.ok (.value v) w':=by
 obtain ⟨consts,he⟩:=builtin_val (P:=P) h hb a.eval w
 rw[he]; exact hr consts
end
theorem args_at {a:Act} {c:Call} {l:List Operand} (ha:c.args.toList=l) (i:Nat):(c.args.map a.eval)[i]? = (l.map a.eval)[i]?:=by
 rw[zAs (l:=c.args.toList.map a.eval) (by simp),ha]
section
variable {o:Oper} {c:Call} (h:o.op=.call c) {t:TypeId} {ts:List TypeId} (ht:c.argTypes.toList=t::ts)
include h ht
theorem len_ok (hb:c.callee=.builtin .len) {x:Operand} {rest:List Operand} (ha:c.args.toList=x::rest):OpOk P o (cLen P t x):=by
 have opsx:∀ {φ r a},zCw φ r a o→VRel φ ((opd x).get r) (a.eval x):=fun ho=>ZCe h hb ho x (by rw[ha]; simp)
 have t0:c.argTypes[0]? = some t:=by rw[zAs ht]; rfl
 have a0:∀ a:Act,(c.args.map a.eval)[0]? = some (a.eval x):=fun a=>by rw[args_at ha]; rfl
 unfold cLen
 split
 · rename_i hu
   intro r k v mf hk
   obtain ⟨s,hx,hk⟩:=onStr_ok hk
   rw[ZAs] at hk
   refine ⟨_,hk,fun φ m w a hr ho=>⟨goInt (lenL s),.int _ _,?_⟩⟩
   have h1:=opsx ho
   rw[hx] at h1
   generalize hc:a.eval x=cc at h1
   cases h1 with
   |str _ t' ht'=>
    refine bval h hb fun consts=>zAg ?_
    have:t'.size=lenL s:=by rw[ZAm,← ht',List.length_map,Array.length_toList]; rfl
    simp[Builtin.len_,t0,a0,hc,run_underlying hu,this]
 · rename_i e hu
   intro r k v mf hk
   rcases ZCm hk with ⟨hx,hk⟩|⟨b,o',n,p,e',s,hx,hk⟩
   · refine ⟨_,hk,fun φ m w a hr ho=>⟨goInt 0,.int _ _,?_⟩⟩
     have h1:=opsx ho
     rw[hx] at h1
     generalize hc:a.eval x=cc at h1
     cases h1
     refine bval h hb fun consts=>zAg ?_
     simp[Builtin.len_,t0,a0,hc,run_underlying hu]
   · refine ⟨_,hk,fun φ m w a hr ho=>⟨goInt n,.int _ _,?_⟩⟩
     have h1:=opsx ho
     rw[hx] at h1
     generalize hc:a.eval x=cc at h1
     cases h1
     refine bval h hb fun consts=>zAg ?_
     simp[Builtin.len_,t0,a0,hc,run_underlying hu]
 · rename_i kt e hu
   intro K _ r m k v mf hk
   rcases onMapN_ok hk with ⟨hx,hk⟩|⟨b,hx,hk⟩
   · refine ⟨_,_,hk,fun φ w a hr ho next Q hnext=>?_⟩
     have h1:=opsx ho
     rw[hx] at h1
     generalize hc:a.eval x=cc at h1
     cases h1
     refine zBh (bval h hb fun consts=>zAg (c:=goInt 0) ?_) (hnext _ _ _ (Step.refl hr) (.int _ _))
     simp[Builtin.len_,t0,a0,hc,run_underlying hu]
   · obtain ⟨es,clock,hb',hk⟩:=bonMap_ok hk
     rw[ZAs] at hk
     refine ⟨_,_,hk,fun φ w a hr ho next Q hnext=>?_⟩
     have h1:=opsx ho
     rw[hx] at h1
     obtain ⟨cb,co,sz,ces,hc,hφ,hh,he⟩:=map_at hr h1 hb'
     refine zBh (bval h hb fun consts=>zAg (c:=goInt (lenL es)) ?_) (hnext _ _ _ (Step.refl hr) (.int _ _))
     have:ces.size=lenL es:=by rw[ZAm,← he.length,Array.length_toList]
     simp[Builtin.len_,t0,a0,hc,run_underlying hu,ZBl hh,this]
 · rename_i n e hu
   intro r k v mf hk
   refine ⟨_,hk,fun φ m w a hr ho=>⟨goInt n,.int _ _,?_⟩⟩
   refine bval h hb fun consts=>zAg ?_
   simp[Builtin.len_,t0,a0,run_underlying hu]
 · split
   · rename_i h1 h2 h3 h4 _ n hn
     unfold arrLen at hn
     split at hn
     · rename_i hu
       exact absurd hu (h4 _ _)
     · rename_i at_ hu
       split at hn
       · rename_i n' e hu2
         cases hn
         intro r k v mf hk
         refine ⟨_,hk,fun φ m w a hr ho=>⟨goInt n,.int _ _,?_⟩⟩
         refine bval h hb fun consts=>zAg ?_
         simp[Builtin.len_,t0,a0,run_underlying hu,run_underlying hu2]
       · cases hn
     · cases hn
   · trivial
theorem cap_ok (hb:c.callee=.builtin .cap) {x:Operand} {rest:List Operand} (ha:c.args.toList=x::rest):OpOk P o (cCap P t x):=by
 have opsx:∀ {φ r a},zCw φ r a o→VRel φ ((opd x).get r) (a.eval x):=fun ho=>ZCe h hb ho x (by rw[ha]; simp)
 have t0:c.argTypes[0]? = some t:=by rw[zAs ht]; rfl
 have a0:∀ a:Act,(c.args.map a.eval)[0]? = some (a.eval x):=fun a=>by rw[args_at ha]; rfl
 unfold cCap
 split
 · rename_i e hu
   intro r k v mf hk
   rcases ZCm hk with ⟨hx,hk⟩|⟨b,o',n,p,e',s,hx,hk⟩
   · refine ⟨_,hk,fun φ m w a hr ho=>⟨goInt 0,.int _ _,?_⟩⟩
     have h1:=opsx ho
     rw[hx] at h1
     generalize hc:a.eval x=cc at h1
     cases h1
     refine bval h hb fun consts=>zAg ?_
     simp[Builtin.cap_,t0,a0,hc,run_underlying hu]
   · obtain ⟨rfl,hk⟩:=zAm hk
     refine ⟨_,hk,fun φ m w a hr ho=>⟨goInt p,.int _ _,?_⟩⟩
     have h1:=opsx ho
     rw[hx] at h1
     generalize hc:a.eval x=cc at h1
     cases h1 with
     |slice _ _ _ _ _ _ cb co sz o'' cap' hφ g1 g2 g3 g4 g5=>
      obtain rfl:=g3 rfl
      refine bval h hb fun consts=>zAg ?_
      simp[Builtin.cap_,t0,a0,hc,run_underlying hu]
 · trivial
theorem copy_ok (hb:c.callee=.builtin .copy) {d s:Operand} {rest:List Operand} (ha:c.args.toList=d::s::rest):OpOk P o (cCopy P t d s):=by
 have opsd:∀ {φ r a},zCw φ r a o→VRel φ ((opd d).get r) (a.eval d):=fun ho=>ZCe h hb ho d (by rw[ha]; simp)
 have opss:∀ {φ r a},zCw φ r a o→VRel φ ((opd s).get r) (a.eval s):=fun ho=>ZCe h hb ho s (by rw[ha]; simp)
 have t0:c.argTypes[0]? = some t:=by rw[zAs ht]; rfl
 have a0:∀ a:Act,(c.args.map a.eval)[0]? = some (a.eval d):=fun a=>by rw[args_at ha]; rfl
 have a1:∀ a:Act,(c.args.map a.eval)[1]? = some (a.eval s):=fun a=>by rw[args_at ha]; rfl
 unfold cCopy
 split
 · rename_i e hu
   split
   · rename_i hte
     intro K _ r m k v mf hk
     obtain ⟨n,hk,hnl,hlen⟩:=srcLen_ok (P:=P) hk
     rcases ZCm hk with ⟨hx,hk⟩|⟨b,o',dl,p,e',es,hx,hk⟩
     · refine ⟨_,_,hk,fun φ w a hr ho next Q hnext=>?_⟩
       have h1:=opsd ho
       rw[hx] at h1
       generalize hc:a.eval d=cc at h1
       cases h1
       have h2:=hlen φ _ w (opss ho)
       refine zBh (bval h hb fun consts=>zAg (c:=goInt 0) ?_) (hnext _ _ _ (Step.refl hr) (.int _ _))
       have h3:∃ arr,(Builtin.firstCells (szOf P e) 0 (a.eval s)).run P w=.ok arr w:=by
        generalize a.eval s=cx at h2
        cases cx<;>first|(simp[Builtin.lenOf] at h2; done)|skip
        · rename_i bs; exact ⟨_,rfl⟩
        · rename_i ad _ _
          cases ad with
          |none=>exact ⟨_,rfl⟩
          |some ad=>exact ⟨#[],by have:=run_loadCells_list (P:=P) (w:=w) ad [] (by simp); simpa[Builtin.firstCells] using this⟩
       obtain ⟨arr,h3⟩:=h3
       simp[Builtin.copy_,t0,a0,a1,hc,run_underlying hu,h2,zAw hte,h3]
     · rw[ZAs] at hk
       obtain ⟨he,hk2⟩:=zAm hk
       rw[beq_true] at he
       have hmin:zAc n dl (Nat.ble n dl)=min n dl:=by
        cases hb:Nat.ble n dl with
        |true=>rw[zAd] at hb; show n=_; omega
        |false=>rw[zBj] at hb; show dl=_; omega
       rw[hmin] at hk2
       obtain ⟨ns,hk3,hl,hns⟩:=srcCells_ok (P:=P) hk2 (fun b o l p e s hx=>by rw[hnl b o l p e s hx]; exact Nat.min_le_left _ _)
       obtain ⟨cs,hbc,hpl,hk4⟩:=ZCl hk3
       refine ⟨_,_,hk4,fun φ w a hr ho next Q hnext=>?_⟩
       have h1:=opsd ho
       have h2:=opss ho
       rw[hx] at h1
       generalize hc:a.eval d=cc at h1
       obtain ⟨q1,news,q2,q3⟩:=hns φ w _ hr h2
       cases h1 with
       |slice _ _ _ _ _ _ cb co sz o'' cap' hφ g1 g2 g3 g4 g5=>
        obtain ⟨w',hst,hstep⟩:=ZCv hr hφ hbc hpl q2 q1
        have hst2:(storeCells ⟨cb,o'',none⟩ news 0).run P w=.ok () w':=by
         by_cases hc0:p=0
         · have hn0:min n dl=0:=by omega
           have hnews:news=[]:=List.length_eq_zero_iff.1 (by rw[q2.length,hl,hn0,Nat.zero_mul])
           subst hnews
           exact hst
         · rw[g4 hc0]; exact hst
        refine zBh (w':=w') (bval h hb fun consts=>zAg (c:=goInt ((min n dl:Nat):Int)) ?_) (hnext _ _ _ hstep (.int _ _))
        have h5:=q3 w rfl
        have hmm:n.min dl=min n dl:=rfl
        simp[Builtin.copy_,t0,a0,a1,hc,run_underlying hu,hlen φ _ w h2,zAw hte,hmm,h5,hst2]
   · trivial
 · trivial
theorem clear_ok (hb:c.callee=.builtin .clear) {x:Operand} {rest:List Operand} (ha:c.args.toList=x::rest):OpOk P o (cClear P t x):=by
 have opsx:∀ {φ r a},zCw φ r a o→VRel φ ((opd x).get r) (a.eval x):=fun ho=>ZCe h hb ho x (by rw[ha]; simp)
 have t0:c.argTypes[0]? = some t:=by rw[zAs ht]; rfl
 have a0:∀ a:Act,(c.args.map a.eval)[0]? = some (a.eval x):=fun a=>by rw[args_at ha]; rfl
 unfold cClear
 split
 · rename_i e hu
   split
   · rename_i z hte hz
     obtain ⟨zc,hc1,hc2,hc3⟩:=zeroA_ok hz
     simp only
     split
     · trivial
     · rename_i hzl
       rw[ne_eq,Decidable.not_not] at hzl
       intro K _ r m k v mf hk
       rcases ZCm hk with ⟨hx,hk⟩|⟨b,o',n,p,e',es,hx,hk⟩
       · refine ⟨_,_,hk,fun φ w a hr ho next Q hnext=>?_⟩
         have h1:=opsx ho
         rw[hx] at h1
         generalize hc:a.eval x=cc at h1
         cases h1
         refine zBh (bval h hb fun consts=>zAg (c:=undef) ?_) (hnext _ _ _ (Step.refl hr) (ZAy _))
         simp[Builtin.clear_,t0,a0,hc,run_underlying hu]; rfl
       · obtain ⟨he,hk1⟩:=zAm hk
         rw[beq_true] at he
         rcases zBx hk1 with ⟨h0,hk2⟩|⟨h0,hk2⟩
         · rw[beq_true] at h0
           subst h0
           refine ⟨_,_,hk2,fun φ w a hr ho next Q hnext=>?_⟩
           have h1:=opsx ho
           rw[hx] at h1
           generalize hc:a.eval x=cc at h1
           cases h1
           refine zBh (bval h hb fun consts=>zAg (c:=undef) ?_) (hnext _ _ _ (Step.refl hr) (ZAy _))
           simp[Builtin.clear_,t0,a0,hc,run_underlying hu]; rfl
         · have hn0:n≠0:=fun e=>by rw[beq_true.2 e] at h0; cases h0
           obtain ⟨cs,hbc,hpl,hk4⟩:=ZCl hk2
           refine ⟨_,_,hk4,fun φ w a hr ho next Q hnext=>?_⟩
           have h1:=opsx ho
           rw[hx] at h1
           generalize hc:a.eval x=cc at h1
           cases h1 with
           |slice _ _ _ _ _ _ cb co sz o'' cap' hφ g1 g2 g3 g4 g5=>
            obtain ⟨w',hst,hstep⟩:=ZCv hr hφ hbc hpl (made_rel (hc2 φ) n) (repL_cell hc3)
            obtain rfl:=g4 (by omega)
            refine zBh (w':=w') (bval h hb fun consts=>zAg (c:=undef) ?_) (hnext _ _ _ hstep (ZAy _))
            rw[← zeroCells_made] at hst
            obtain ⟨n',rfl⟩:=Nat.exists_eq_succ_of_ne_zero hn0
            simp[Builtin.clear_,t0,a0,hc,run_underlying hu,ZCt hc1,hst]; rfl
   · trivial
 · rename_i kt e hu
   intro K _ r m k v mf hk
   rcases onMapN_ok hk with ⟨hx,hk⟩|⟨b,hx,hk⟩
   · refine ⟨_,_,hk,fun φ w a hr ho next Q hnext=>?_⟩
     have h1:=opsx ho
     rw[hx] at h1
     generalize hc:a.eval x=cc at h1
     cases h1
     refine zBh (bval h hb fun consts=>zAg (c:=undef) ?_) (hnext _ _ _ (Step.refl hr) (ZAy _))
     simp[Builtin.clear_,t0,a0,hc,run_underlying hu]; rfl
   · obtain ⟨es,clock,hb',hk⟩:=bonMap_ok hk
     refine ⟨_,_,hk,fun φ w a hr ho next Q hnext=>?_⟩
     have h1:=opsx ho
     rw[hx] at h1
     obtain ⟨cb,co,sz,ces,hc,hφ,hh,he⟩:=map_at hr h1 hb'
     have hst:=map_upd hr hφ hb' hh (es':=[]) (ces':=#[]) (clock':=clock) trivial
     refine zBh (bval h hb fun consts=>zAg (c:=undef) ?_) (hnext _ _ _ hst (ZAy _))
     simp[Builtin.clear_,t0,a0,hc,run_underlying hu,ZBl hh,ZCo hh]; rfl
 · trivial
theorem delete_ok (hb:c.callee=.builtin .delete) {x y:Operand} {rest:List Operand} (ha:c.args.toList=x::y::rest):OpOk P o (cDelete P t x y):=by
 have opsx:∀ {φ r a},zCw φ r a o→VRel φ ((opd x).get r) (a.eval x):=fun ho=>ZCe h hb ho x (by rw[ha]; simp)
 have opsy:∀ {φ r a},zCw φ r a o→VRel φ ((opd y).get r) (a.eval y):=fun ho=>ZCe h hb ho y (by rw[ha]; simp)
 have t0:c.argTypes[0]? = some t:=by rw[zAs ht]; rfl
 have a0:∀ a:Act,(c.args.map a.eval)[0]? = some (a.eval x):=fun a=>by rw[args_at ha]; rfl
 have a1:∀ a:Act,(c.args.map a.eval)[1]? = some (a.eval y):=fun a=>by rw[args_at ha]; rfl
 unfold cDelete
 split
 · rename_i e el hm
   obtain ⟨kt,d,hu,hd,hf⟩:=mapTypes_ok hm
   intro K _ r m k v mf hk
   rcases onMapN_ok hk with ⟨hx,hk⟩|⟨b,hx,hk⟩
   · refine ⟨_,_,hk,fun φ w a hr ho next Q hnext=>?_⟩
     have h1:=opsx ho
     rw[hx] at h1
     generalize hc:a.eval x=cc at h1
     cases h1
     refine zBh (bval h hb fun consts=>zAg (c:=undef) ?_) (hnext _ _ _ (Step.refl hr) (ZAy _))
     simp[Builtin.delete_,t0,a0,a1,hc,run_underlying hu,run_checkKey hd hf]; rfl
   · obtain ⟨es,clock,hb',hk⟩:=bonMap_ok hk
     rcases findM_ok hf hk with ⟨hk,hall⟩|⟨j,en,hk,hj,hall⟩
     · refine ⟨_,_,hk,fun φ w a hr ho next Q hnext=>?_⟩
       have h1:=opsx ho
       rw[hx] at h1
       obtain ⟨cb,co,sz,ces,hc,hφ,hh,he⟩:=map_at hr h1 hb'
       refine zBh (w':=w) (bval h hb fun consts=>zAg (c:=undef) ?_) (hnext _ _ _ (Step.refl hr) (ZAy _))
       simp[Builtin.delete_,t0,a0,a1,hc,run_underlying hu,ZBl hh,run_checkKey hd hf,run_findKey hd (hall φ _ _ (opsy ho) he),ZCo hh,setBlk_same hh]; rfl
     · refine ⟨_,_,hk,fun φ w a hr ho next Q hnext=>?_⟩
       have h1:=opsx ho
       rw[hx] at h1
       obtain ⟨cb,co,sz,ces,hc,hφ,hh,he⟩:=map_at hr h1 hb'
       obtain ⟨ce,q1,q2,q3,q4,q5,q6⟩:=hall φ _ _ (opsy ho) he
       have hst:=map_upd hr hφ hb' hh (es':=delEnt (0+j) es) (ces':=ces.eraseIdxIfInBounds (0+j)) (clock':=clock)
        (by rw[Array.toList_eraseIdxIfInBounds]; exact zCs.del he)
       refine zBh (bval h hb fun consts=>zAg (c:=undef) ?_) (hnext _ _ _ hst (ZAy _))
       simp[Builtin.delete_,t0,a0,a1,hc,run_underlying hu,ZBl hh,run_checkKey hd hf,run_findKey hd q2,ZCo hh]; rfl
 · trivial
end
end Go.AM
namespace Go.AM
variable [Tok]
variable {P:Program}
theorem minMax_ok (mx:Bool) {r:Regs}:∀ {l:List Operand} {j:IntKind} {z:Int} {k:AVal→R} {v:AVal} {m:Mem},(minMax mx l).run r j z k=.ok v m→
 ∃ z',k (.int j z')=.ok v m∧∀ (φ:Phi) (a:Act) (w:World),(∀ x,x∈l→VRel φ ((opd x).get r) (a.eval x))→
  ((l.map a.eval).foldlM (if mx then Builtin.max2 else Builtin.min2) (.int j z)).run P w=.ok (.int j z') w
 | [],j,z,k,v,m,h=>⟨z,h,fun φ a w _=>rfl⟩
 |y::l,j,z,k,v,m,h=>by
  obtain ⟨j',b,hy,h1⟩:=zCo h
  obtain ⟨hj,h2⟩:=zAm h1
  have hj':=zCz hj
  subst hj'
  obtain ⟨z',h3,h4⟩:=minMax_ok mx h2
  refine ⟨z',h3,fun φ a w ho=>?_⟩
  have h5:=h4 φ a w (fun x hx=>ho x (List.mem_cons_of_mem _ hx))
  have h6:=ho y (List.mem_cons_self ..)
  rw[hy] at h6
  generalize hc:a.eval y=cy at h6
  cases h6
  simp only[List.map_cons,List.foldlM_cons,hc,Sem.run_bind]
  rw[ilt_eq,ilt_eq] at h5
  cases mx with
  |true=>
   simp only[if_true,Builtin.max2,Sem.run_pure,Result.andThen_ok] at h5 ⊢
   by_cases hlt:z<b
   · simp only[hlt,decide_true,if_true] at h5 ⊢; exact h5
   · simp only[hlt,decide_false,if_false] at h5 ⊢; exact h5
  |false=>
   simp only[Bool.false_eq_true,if_false,Builtin.min2,Sem.run_pure,Result.andThen_ok] at h5 ⊢
   by_cases hlt:b<z
   · simp only[hlt,decide_true,if_true] at h5 ⊢; exact h5
   · simp only[hlt,decide_false,if_false] at h5 ⊢; exact h5
theorem minMax_op {o:Oper} {c:Call} (h:o.op=.call c) {mx:Bool} (hb:c.callee=.builtin (if mx then .max else .min)):OpOk P o (cMinMax mx c.args.toList):=by
 unfold cMinMax
 split
 · rename_i x l ha
   intro r k v mf hk
   obtain ⟨j,z,hx,hk1⟩:=zCo hk
   obtain ⟨z',hk2,hrun⟩:=minMax_ok (P:=P) mx hk1
   obtain ⟨j',z2,he,hk3⟩:=zCo hk2
   cases he
   rw[forceI_eq] at hk3
   refine ⟨_,hk3,fun φ m w a hr ho=>⟨.int j z',.int _ _,?_⟩⟩
   have hl:∀ y,y∈c.args.toList→VRel φ ((opd y).get r) (a.eval y):=ZCe h hb ho
   rw[ha] at hl
   have h1:=hl x (List.mem_cons_self ..)
   rw[hx] at h1
   generalize hc:a.eval x=cc at h1
   cases h1
   have h2:=hrun φ a w fun y hy=>hl y (List.mem_cons_of_mem _ hy)
   refine bval h hb fun consts=>?_
   have hl2:(c.args.map a.eval).toList=.int j z::l.map a.eval:=by simp[ha,hc]
   cases mx with
   |true=>
    simp only[if_true] at h2 ⊢
    refine zAg ?_
    simp only[Builtin.max_,hl2]; exact h2
   |false=>
    simp only[Bool.false_eq_true,if_false] at h2 ⊢
    refine zAg ?_
    simp only[Builtin.min_,hl2]; exact h2
 · trivial
theorem range_ok {o:Oper} {t:TypeId} {x:Operand} (h:o.op=.range t x):OpOk P o (cRange P t x):=by
 unfold cRange
 split
 · rename_i hu
   intro K _ r m k v mf hk
   obtain ⟨s,hx,hk1⟩:=onStr_ok hk
   obtain ⟨hn,hk2⟩:=zCi hk1
   refine ⟨_,_,hk2,fun φ w a hr ho next Q hnext=>?_⟩
   have h1:=ho x (by simp[h,Op.operands])
   rw[hx] at h1
   generalize hc:a.eval x=cc at h1
   cases h1 with
   |str _ t' ht=>
    have hst:=Step.new (w':=w.iter t' 0) (o:=0) (s:=0) (x:=.iter s 0) hr hn rfl rfl rfl rfl ⟨w.heap.size,0,t',by simp,World.iter_heap w t' 0,ht⟩
    refine zBh (w':=w.iter t' 0) (c:=.pointer (some ⟨w.heap.size,0,none⟩)) ?_ (hnext _ _ _ hst (.ptr _ 0 w.heap.size 0 0 (by simp)))
    simp only[execOp,h,hc]
    exact zAg (run_range_string w t t' hu)
 · trivial
theorem next_ok {o:Oper} {it:Operand} {b:Bool} (h:o.op=.next it b):OpOk P o (cNext it b):=by
 unfold cNext
 split
 · rename_i hb
   subst hb
   intro K _ r m k v mf hk
   obtain ⟨p,o',hx,hk1⟩:=ZCi hk
   obtain ⟨ho',hk2⟩:=zAm hk1
   rw[beq_true] at ho'
   subst ho'
   obtain ⟨s,pos,hbk,hk3⟩:=onIter_ok hk2
   have key:∀ φ w (a:Act),Rel P φ m w→zCw φ r a o→∃ cb sz t,a.eval it=.pointer (some ⟨cb,0,none⟩)∧φ p=some (cb,0,sz)∧w.heap[cb]? = some (.stringIter t pos)∧t.data.toList.map UInt8.toNat=s:=by
    intro φ w a hr ho
    have h1:=ho it (by simp[h,Op.operands])
    rw[hx] at h1
    generalize hc:a.eval it=cc at h1
    cases h1 with
    |ptr _ _ cb co sz hφ=>
     have hB:=hr.blk p (hr.dom _ _ hφ)
     rw[hbk] at hB
     obtain ⟨cb',sz',t,q1,q2,q3⟩:=hB
     rw[hφ] at q1; cases q1
     exact ⟨cb,sz,t,rfl,hφ,q2,q3⟩
   cases hd:ZAe pos s with
   |nil=>
    rw[hd] at hk3
    refine ⟨_,_,hk3,fun φ w a hr ho next Q hnext=>?_⟩
    obtain ⟨cb,sz,t,hc,hφ,hh,ht⟩:=key φ w a hr ho
    refine zBh (w':=w) (c:=.tuple #[.bool false]) ?_ (hnext _ _ _ (Step.refl hr) (.tuple _ _ (.cons (.bool false) .nil)))
    have hsz:¬ pos<t.size:=by
     rw[ZBk] at hd
     have:=congrArg List.length hd
     simp only[List.length_drop,List.length_nil,← ht,List.length_map,Array.length_toList] at this
     have e:t.data.size=t.size:=rfl
     omega
    simp only[execOp,h,hc]
    refine zAg ?_
    simp[Instr.next,getObj,Sem.run,hh,hsz]
   |cons c rest=>
    rw[hd] at hk3
    obtain ⟨hc8,hk4⟩:=zAm hk3
    rw[ZAs] at hk4
    rw[zAd] at hc8
    refine ⟨_,_,hk4,fun φ w a hr ho next Q hnext=>?_⟩
    obtain ⟨cb,sz,t,hc,hφ,hh,ht⟩:=key φ w a hr ho
    rw[ZBk] at hd
    have hget:s[pos]? = some c:=by
     have:=congrArg (fun l=>l[0]?) hd
     simpa using this
    rw[← ht,List.getElem?_map,Array.getElem?_toList] at hget
    have hsz:pos<t.size:=by
     rcases Nat.lt_or_ge pos t.data.size with h1|h1
     · exact h1
     · rw[Array.getElem?_eq_none h1] at hget; cases hget
    have hval:(t[pos]'hsz).toNat=c:=by
     rw[Array.getElem?_eq_getElem (show pos<t.data.size from hsz)] at hget
     have h9:(t.data[pos]'hsz).toNat=c:=by simpa using hget
     exact h9
    have hlt:cb<w.heap.size:=by
     rcases Nat.lt_or_ge cb w.heap.size with h|h
     · exact h
     · rw[Array.getElem?_eq_none h] at hh; cases hh
    have hst:=Step.upd hr (x':=.iter s (pos+1)) (ob:=.stringIter t (pos+1)) (hr.dom _ _ hφ) (by rw[hbk]; rfl) hφ ⟨cb,sz,t,hφ,setBlk_get _ _ _ hlt,ht⟩
    refine zBh (w':=ZBv w cb (.stringIter t (pos+1))) (c:=.tuple #[.bool true,goInt pos,.int .i32 c]) ?_
     (hnext _ _ _ hst (.tuple _ _ (.cons (.bool true) (.cons (.int _ _) (.cons (.int _ _) .nil)))))
    simp only[execOp,h,hc]
    refine zAg ?_
    have hdec:=decode_ascii t pos hsz (by rw[hval]; omega)
    rw[hval] at hdec
    simp[Instr.next,run_getObj hh,run_setObj hh,hsz,hdec]
 · trivial
theorem ends_wp {o:Oper} {a:Act} {w:World} {next:Act→World→Prop} {Q:Exit→Act→World→Prop} {f:FuncId} {cargs:Array Value} {R':Value→World→Prop}
 (he:(execOp a.eval o).run P w=(callFunc f cargs).run P w) (hE:Ends P f cargs w R') (hn:∀ c w',R' c w'→next (a.put o.dst c) w'):o.wp P a w next Q:=by
 unfold Oper.wp
 rw[he]
 rcases hE with ⟨c,w',h1,h2⟩|⟨h1,h2⟩
 · rw[h1]; exact hn c w' h2
 · rw[h1,Oper.upon_enter]
   refine Calls.mono h2 fun e w' hR=>?_
   obtain ⟨c,rfl,hR⟩:=hR
   exact hn c w' hR
theorem follows_ok:∀ {l:List FieldStep} {p:List (Nat×Nat×Bool)} {u:Option TypeId},pathOf P l=some (p,u)→∀ {v:AVal} {k:AVal→R} {rv:AVal} {mf:Mem},(follows p).run v k=.ok rv mf→
 ∃ x,k x=.ok rv mf∧∀ φ cv (w:World) t,VRel φ v cv→∃ cx,VRel φ x cx∧(follow l t (.val cv)).run P w=.ok (u.getD t,.val cx) w
 | [],p,u,hp,v,k,rv,mf,h=>by
  unfold pathOf at hp
  cases hp
  exact ⟨v,h,fun φ cv w t hv=>⟨cv,hv,rfl⟩⟩
 |s::l,p,u,hp,v,k,rv,mf,h=>by
  unfold pathOf at hp
  split at hp
  · cases hp
  · rename_i hd
    split at hp
    · rename_i f r t' hf hp2
      split at hp
      · rename_i ht
        cases hp
        obtain ⟨cs,rfl,h1⟩:=zDa h
        obtain ⟨u',h2,hpart⟩:=part_ok ht h1
        obtain ⟨x,h3,hfol⟩:=follows_ok hp2 h2
        obtain ⟨fs,hu,hfs⟩:=fieldOf_ok hf
        refine ⟨x,h3,fun φ cv w t hv=>?_⟩
        cases hv with
        |agg _ cc hcc hcell=>
         obtain ⟨c,hc,hrun⟩:=hpart φ w cc hcc hcell
         obtain ⟨cx,hcx,hrun2⟩:=hfol φ c w f.type hc
         refine ⟨cx,hcx,?_⟩
         have hd':s.deref=false:=by simpa using hd
         simp only[follow,Sem.run_bind,zAz hu,Result.andThen_ok,hfs,hd',Bool.false_eq_true,if_false,hrun,hrun2]
         rfl
      · cases hp
    · cases hp
theorem methodOf_ok {t:TypeId} {name:String} {f:FuncId} {p:List (Nat×Nat×Bool)} (h:methodOf P t name=some (f,p)) {v:AVal} {k:AVal→R} {rv:AVal} {mf:Mem} (hk:(follows p).run v k=.ok rv mf) :
 ∃ x,k x=.ok rv mf∧∀ φ cv (w:World) n,VRel φ v cv→∃ cx,VRel φ x cx∧(method (n+1) t cv name).run P w=.ok (f,cx) w:=by
 unfold methodOf at h
 split at h
 · rename_i m hm
   split at h
   · rename_i p' u hp
     have fin:∀ (ptr:Bool) f' d,m.func=some (f',ptr)→(f',p')=(f,p)→P.underlying (u.getD t)=some d→((∃ e,d=.pointer e)→ptr=true)→((∀ e,d≠.pointer e)→ptr=false)→
      ∃ x,k x=.ok rv mf∧∀ φ cv (w:World) n,VRel φ v cv→∃ cx,VRel φ x cx∧(method (n+1) t cv name).run P w=.ok (f,cx) w:=by
      intro ptr f' d hf he hd hp1 hp2
      cases he
      obtain ⟨x,h1,h2⟩:=follows_ok hp hk
      refine ⟨x,h1,fun φ cv w n hv=>?_⟩
      obtain ⟨cx,hcx,hrun⟩:=h2 φ cv w t hv
      refine ⟨cx,hcx,?_⟩
      cases hi:P.info? t with
      |none=>rw[hi] at hm; cases hm
      |some i=>
       rw[hi] at hm
       have hm':i.methods.find? (·.name == name)=some m:=hm
       have hti:(typeInfo t).run P w=.ok i w:=by simp[typeInfo,hi]
       have hra:∀ wr:Option String,(receiverAt (u.getD t) (.val cx) ptr wr).run P w=.ok cx w:=by
        intro wr
        unfold receiverAt
        simp only[Sem.run_bind,zAz hd,Result.andThen_ok]
        by_cases hpd:∃ e,d=.pointer e
        · obtain ⟨e,rfl⟩:=hpd
          rw[hp1 ⟨e,rfl⟩]
          simp[Place.get]
        · rw[hp2 (fun e he=>hpd ⟨e,he⟩)]
          cases d<;>first|(exact absurd ⟨_,rfl⟩ hpd)|simp[Place.get]
       unfold method
       simp only[Sem.run_bind,hti,Result.andThen_ok,hm',hrun,hf,hra,Sem.run_pure]
     split at h
     · rename_i f' e hf hd
       exact fin true f' _ hf (Option.some.inj h) hd (fun _=>rfl) (fun hn=>absurd rfl (hn e))
     · cases h
     · rename_i f' d hno hf hd
       exact fin false f' _ hf (Option.some.inj h) hd (fun ⟨e,he⟩=>(hno e (by rw[he])).elim) (fun _=>rfl)
     · cases h
   · cases h
 · cases h
theorem call_ok {o:Oper} {c:Call} (h:o.op=.call c):OpOk P o (cCall P c):=by
 unfold cCall
 split
 · rename_i b hb
   unfold cBuiltin
   split
   · rename_i t ts x rest ht ha; exact len_ok h ht hb ha
   · rename_i t ts x rest ht ha; exact cap_ok h ht hb ha
   · rename_i s x rest ha; exact append_ok h hb ha
   · rename_i t ts x y rest ht ha; exact copy_ok h ht hb ha
   · rename_i t ts x rest ht ha; exact clear_ok h ht hb ha
   · rename_i t ts x y rest ht ha; exact delete_ok h ht hb ha
   · exact minMax_op h (mx:=true) hb
   · exact minMax_op h (mx:=false) hb
   · trivial
 · rename_i f hcal
   intro K hK r m k v mf hk
   obtain ⟨u,m',hk1,hk2⟩:=andThen_ok hk
   have hs:=hK f _ m u m' hk1
   refine ⟨u,m',hk2,fun φ w a hr ho next Q hnext=>?_⟩
   have hv:zAa φ ((opds c.args.toList).get r) (c.args.map a.eval).toList:=by
    rw[Array.toList_map]
    exact opds_rel _ fun x hx=>ho x (by simp only[h,Op.operands,Call.operands,hcal]; simp[Array.mem_toList_iff.1 hx])
   refine ends_wp (R':=fun c w'=>∃ φ',Step P φ m w φ' m' w'∧VRel φ' u c) ?_ (hs φ w _ hr hv) (fun c w' ⟨φ',h1,h2⟩=>hnext φ' c w' h1 h2)
   simp[execOp,h,resolve,hcal,Act.eval,Deferred.ofValue,invoke]
 · rename_i x _ hcal
   intro K hK r m k v mf hk
   obtain ⟨f,caps,hx,hk0⟩:=onFunc_ok hk
   obtain ⟨u,m',hk1,hk2⟩:=andThen_ok hk0
   have hs:=hK f _ m u m' hk1
   refine ⟨u,m',hk2,fun φ w a hr ho next Q hnext=>?_⟩
   have hv:zAa φ ((opds c.args.toList).get r) (c.args.map a.eval).toList:=by
    rw[Array.toList_map]
    exact opds_rel _ fun x hx=>ho x (by simp only[h,Op.operands,Call.operands,hcal]; simp[Array.mem_toList_iff.1 hx])
   have h1:=ho x (by simp[h,Op.operands,Call.operands,hcal])
   rw[hx] at h1
   generalize hc:a.eval x=cc at h1
   cases h1 with
   |func _ _ cs hcs hcell=>
    have hfa:funcArgs ((opds c.args.toList).get r) caps=appL caps ((opds c.args.toList).get r):=by
     unfold funcArgs
     split
     · have:=hcell _ (List.mem_cons_self ..); cases this
     · rfl
    refine ends_wp (cargs:=c.args.map a.eval++cs) (R':=fun c w'=>∃ φ',Step P φ m w φ' m' w'∧VRel φ' u c) ?_
     (hs φ w _ hr (by rw[hfa,zCa,Array.toList_append]; exact hv.append hcs)) (fun c w' ⟨φ',h1,h2⟩=>hnext φ' c w' h1 h2)
    simp[execOp,h,resolve,hcal,hc,Deferred.ofValue,invoke]
   |meth _ fl l first cs h3 h4=>
    have hfa:funcArgs ((opds c.args.toList).get r) (.tuple fl::l)=appL (appL l ((opds c.args.toList).get r)) fl:=rfl
    refine ends_wp (cargs:=first++c.args.map a.eval++cs) (R':=fun c w'=>∃ φ',Step P φ m w φ' m' w'∧VRel φ' u c) ?_
     (hs φ w _ hr (by rw[hfa,zCa,zCa,Array.toList_append,Array.toList_append,List.append_assoc]; exact h3.append (hv.append h4))) (fun c w' ⟨φ',h1,h2⟩=>hnext φ' c w' h1 h2)
    simp[execOp,h,resolve,hcal,hc,Deferred.ofValue,invoke]
 · rename_i x name hcal
   intro K hK r m k v mf hk
   rcases zCp hk with ⟨_,hk0⟩|⟨t,iv,hx,hk0⟩
   · cases hk0
   · split at hk0
     · rename_i f p hm
       obtain ⟨rv,hk1,hmeth⟩:=methodOf_ok hm hk0
       obtain ⟨u,m',hk2,hk3⟩:=andThen_ok hk1
       have hs:=hK f _ m u m' hk2
       refine ⟨u,m',hk3,fun φ w a hr ho next Q hnext=>?_⟩
       have hv:zAa φ ((opds c.args.toList).get r) (c.args.map a.eval).toList:=by
        rw[Array.toList_map]
        exact opds_rel _ fun x hx=>ho x (by simp only[h,Op.operands,Call.operands,hcal]; simp[Array.mem_toList_iff.1 hx])
       have h1:=ho x (by simp[h,Op.operands,Call.operands,hcal])
       rw[hx] at h1
       generalize hc:a.eval x=cc at h1
       cases h1 with
       |iface _ _ ci hci=>
        obtain ⟨cx,hcx,hrun⟩:=hmeth φ ci w (P.types.size+Made.depth-1) hci
        refine ends_wp (cargs:=#[cx]++c.args.map a.eval) (R':=fun c w'=>∃ φ',Step P φ m w φ' m' w'∧VRel φ' u c) ?_
         (hs φ w _ hr (by rw[Array.toList_append]; exact .cons hcx hv)) (fun c w' ⟨φ',h1,h2⟩=>hnext φ' c w' h1 h2)
        have hd:P.types.size+Made.depth-1+1=P.types.size+Made.depth:=by
         have:0<Made.depth:=by decide
         omega
        rw[hd] at hrun
        have h0:(#[Value.iface t ci]++c.args.map a.eval)[0]? = some (Value.iface t ci):=by simp[Array.getElem?_append]
        have hx2:(c.args.map a.eval).extract 0 c.args.size=c.args.map a.eval:=by
         have:=Array.extract_size (xs:=c.args.map a.eval)
         rwa [Array.size_map] at this
        simp[execOp,h,resolve,hcal,hc,invoke,callMethod,h0,hrun,hx2]
     · cases hk0
theorem cOper_ok (o:Oper):OpOk P o (cOper P o):=by
 unfold cOper
 split
 all_goals first
  |trivial
  |(rename_i h; exact move_ok (.inl h))
  |(rename_i h; exact move_ok (.inr h))
  |(rename_i h; exact pick_ok h)
  |(rename_i h; exact alloc_ok h)
  |(rename_i h; exact box_ok h)
  |(rename_i h; exact build_ok h)
  |(rename_i h; exact buildSlice_ok h)
  |(rename_i h; exact load_ok h)
  |(rename_i h; exact store_ok h)
  |(rename_i h; exact nilCheck_ok h)
  |(rename_i h; exact bin_all h)
  |(rename_i h; exact un_all h)
  |(rename_i h; exact conv_ok h)
  |(rename_i h; exact makeIface_ok h)
  |(rename_i h; exact makeFunc_ok h)
  |(rename_i h; exact makeMap_ok h)
  |(rename_i h; exact makeSlice_ok h)
  |(rename_i h; exact slice_ok h)
  |(rename_i h; exact fieldAddr_ok h)
  |(rename_i h; exact field_ok h)
  |(rename_i h; exact indexAddr_ok h)
  |(rename_i h; exact index_ok h)
  |(rename_i h; exact lookup_ok h)
  |(rename_i h; exact mapUpdate_ok (.inl h))
  |(rename_i h; exact mapUpdate_ok (.inr h))
  |(rename_i h; exact mapEntry_ok h)
  |(rename_i h; exact entryStore_ok h)
  |(rename_i h; exact range_ok h)
  |(rename_i h; exact next_ok h)
  |(rename_i h; exact assert_ok h)
  |(rename_i h; exact extract_ok h)
  |(rename_i h; exact call_ok h)
end Go.AM
namespace Go.AM
variable [Tok]
variable {P:Program}
structure RRel (φ:Phi) (nt:Nat) (r:Regs) (a:Act):Prop where
 size:a.tmps.size=nt
 le:nt≤4096
 defers:a.defers=[]
 reg:∀ t,VRel φ ((opd (.tmp t)).get r) (a.tmps.getD t undef)
theorem RRel.mono {φ φ':Phi} {nt:Nat} {r:Regs} {a:Act} (h:RRel φ nt r a) (he:Ext' φ φ'):RRel φ' nt r a:=⟨h.size,h.le,h.defers,fun t=>(h.reg t).mono he⟩
theorem RRel.put {φ:Phi} {nt:Nat} {r:Regs} {a:Act} (h:RRel φ nt r a) {v:AVal} {c:Value} (hv:VRel φ v c) (d:Option Tmp):RRel φ nt ((cDst nt d).run v r) (a.put d c):=by
 cases d with
 |none=>exact h
 |some d=>
  have hr:(cDst nt (some d)).run v r=if d<nt then rput d v r else r:=by
   show (if d<nt then (⟨fun v r=>rput d v r⟩:DstC) else ⟨fun _ r=>r⟩).run v r=_
   split<;>rfl
  rw[hr]
  refine ⟨by simp[Act.put,h.size],h.le,h.defers,fun t=>?_⟩
  have hreg:=h.reg t
  have hle:=h.le
  have hsz:=h.size
  by_cases hd:d<nt
  · have hd':@LT.lt Nat _ d nt:=hd
    rw[if_pos hd,opd_tmp]
    rw[opd_tmp] at hreg
    have hget:(a.put (some d) c).tmps.getD t undef=if t=d then c else a.tmps.getD t undef:=by
     simp only[Act.put,Array.getD_eq_getD_getElem?,Array.getElem?_setIfInBounds]
     by_cases e:d=t
     · subst e; simp[hsz,hd]
     · simp[e,Ne.symm e]
    rw[hget]
    by_cases ht:t<4096
    · rw[if_pos ht,rget_rput _ _ _ _ (by omega) ht]
      by_cases e:t=d
      · rw[if_pos e,if_pos e]; exact hv
      · rw[if_neg e,if_neg e]; rw[if_pos ht] at hreg; exact hreg
    · have htd:¬ (t=d):=fun e=>ht (by rw[e]; exact Nat.lt_of_lt_of_le hd' hle)
      rw[if_neg ht,if_neg htd]; rw[if_neg ht] at hreg; exact hreg
  · have hd':¬ @LT.lt Nat _ d nt:=hd
    rw[if_neg hd]
    have hget:(a.put (some d) c).tmps=a.tmps:=by
     simp only[Act.put]
     apply Array.ext_getElem?
     intro i
     rw[Array.getElem?_setIfInBounds]
     split
     · rename_i e; subst e
       rw[if_neg (by omega),Array.getElem?_eq_none (by omega)]
     · rfl
    rw[hget]; exact hreg
def gOpd (n:Nat):Operand→Bool
 | .global g=>Nat.blt g n
 |_=>true
def ZBo (n:Nat) (o:Oper):Bool:=o.op.operands.toList.all (gOpd n)
def ZBh (n:Nat):Code→Bool
 | .region _ ops _=>ops.toList.all (ZBo n)
 | .seq x y=>ZBh n x&&ZBh n y
 | .cond _ x y=>ZBh n x&&ZBh n y
 | .block _ b=>ZBh n b
 | .loop b=>ZBh n b
 | .scope b=>ZBh n b
 |_=>true
def gFunc (n:Nat) (fn:Func):Bool:=match fn.body with|some c=>ZBh n c|none=>true
def gProg (P:Program):Bool:=P.funcs.toList.all (gFunc P.globals.size)
theorem opd_rel {φ:Phi} {m:Mem} {w:World} {nt:Nat} {r:Regs} {a:Act} (hr:Rel P φ m w) (h:RRel φ nt r a) {x:Operand} (hg:gOpd P.globals.size x=true):VRel φ ((opd x).get r) (a.eval x):=by
 cases x with
 |tmp t=>exact h.reg t
 |const v=>exact cval_rel φ v
 |global g=>
  have hlt:g<P.globals.size:=by
   simpa[gOpd,Nat.blt_eq] using hg
  obtain ⟨sz,hs⟩:=hr.glob g hlt
  exact .ptr g 0 g 0 sz hs
 |func f=>exact .func f [] #[] .nil (fun v hv=>by cases hv)
theorem ops_rel {φ:Phi} {m:Mem} {w:World} {nt:Nat} {r:Regs} {a:Act} (hr:Rel P φ m w) (h:RRel φ nt r a) {o:Oper} (hg:ZBo P.globals.size o=true):zCw φ r a o:=
 fun x hx=>opd_rel hr h (List.all_eq_true.1 hg x (Array.mem_toList_iff.2 hx))
section
variable {K:KH} (hK:zBb P K) {nt:Nat}
include hK
theorem stepOf_ok {o:Oper} {oc:OpC} (ho:OpOk P o oc) (hg:ZBo P.globals.size o=true) {r:Regs} {m:Mem} {k:Ct} {v:AVal} {mf:Mem} (h:(stepOf (cDst nt o.dst) oc).run K r m k=.ok v mf)
 {φ:Phi} {w:World} {a:Act} (hr:Rel P φ m w) (ha:RRel φ nt r a) {next:Act→World→Prop} {Q:Exit→Act→World→Prop}
 (hn:∀ φ' r' m' a' w',Step P φ m w φ' m' w'→RRel φ' nt r' a'→k r' m'=.ok v mf→next a' w'):o.wp P a w next Q:=by
 have hops:=ops_rel hr ha hg
 cases oc with
 |pure f=>
  obtain ⟨u,h1,h2⟩:=ho r _ v mf h
  obtain ⟨c,hc,hrun⟩:=h2 φ m w a hr hops
  exact zBh hrun (hn φ _ _ _ w (Step.refl hr) (ha.put hc o.dst) h1)
 |read x f=>
  obtain ⟨ad,hop,rfl,hf⟩:=ho
  obtain ⟨u,h1,h2⟩:=hf _ m _ v mf h
  obtain ⟨c,hc,hrun⟩:=h2 φ w a hr (hops ad (by rw[hop]; simp))
  exact zBh hrun (hn φ _ _ _ w (Step.refl hr) (ha.put hc o.dst) h1)
 |alloc f=>
  obtain ⟨hlt,h1⟩:=zAm h
  rw[ZAs] at h1
  rw[zAd] at hlt
  obtain ⟨u,b,h2,hb,h3⟩:=ho r _ _ v mf h1
  obtain ⟨c,ob,s,hrun,hrel⟩:=h3 φ m w a hr hops
  have ext:Ext' φ (fun q=>if q=m.next then some (w.heap.size,0,s) else φ q):=by
   intro q y hq
   have:=hr.dom q y hq
   show (if q=m.next then _ else _)=_
   rw[if_neg (by omega)]; exact hq
  obtain ⟨hv,hB⟩:=hrel _ ext (by simp)
  have hst:=Step.new (w':=w.alloc ob) hr hlt rfl rfl rfl rfl hB
  exact zBh hrun (hn _ _ _ _ _ hst ((ha.mono ext).put hv o.dst) h2)
 |heavy f=>
  obtain ⟨u,m',h1,h2⟩:=ho K hK r m _ v mf h
  exact h2 φ w a hr hops next Q fun φ' c w' hst hv=>hn φ' _ m' _ w' hst ((ha.mono hst.ext).put hv o.dst) h1
 |bad c=>cases h
omit hK in
theorem guard_ok {ops:Array Oper} {o:Oper} {r:Regs} {k:Bool→R} {v:AVal} {mf:Mem} (h:(cGuard ops o.guard).run r k=.ok v mf) {φ:Phi} {a:Act} (ha:RRel φ nt r a) :
 k (Region.wanted o (yielded ops a.tmps))=.ok v mf:=by
 unfold Region.wanted
 cases hg:o.guard with
 |none=>rw[hg] at h; exact h
 |some p=>
  obtain ⟨j,want⟩:=p
  rw[hg] at h
  unfold cGuard at h
  simp only at h ⊢
  unfold yielded
  cases hd:(ops[j]?).bind (·.dst) with
  |none=>
   rw[hd] at h
   simpa using h
  |some d=>
   rw[hd] at h
   simp only[Option.bind_some] at h ⊢
   have hreg:=ha.reg d
   have hgd:a.tmps.getD d undef=(a.tmps[d]?).getD undef:=by rw[Array.getD_eq_getD_getElem?]
   rw[hgd] at hreg
   cases want with
   |true=>
    change ((opd (.tmp d)).get r).onYes k=_ at h
    generalize (opd (.tmp d)).get r=x at h hreg
    cases hx:a.tmps[d]? with
    |none=>
     rw[hx] at hreg
     have hu:(Option.getD none undef:Value)=.tuple #[]:=rfl
     rw[hu] at hreg
     simp only
     generalize hz:(Value.tuple #[]:Value)=z at hreg
     cases hreg<;>first|(cases hz; done)|(cases h; done)|exact h
    |some y=>
     rw[hx] at hreg
     simp only[Option.getD_some] at hreg
     cases hreg<;>first|(cases h; done)|exact h|skip
     all_goals (rename_i b; cases b<;>exact h)
   |false=>
    change ((opd (.tmp d)).get r).onNo k=_ at h
    generalize (opd (.tmp d)).get r=x at h hreg
    cases hx:a.tmps[d]? with
    |none=>
     rw[hx] at hreg
     have hu:(Option.getD none undef:Value)=.tuple #[]:=rfl
     rw[hu] at hreg
     simp only
     generalize hz:(Value.tuple #[]:Value)=z at hreg
     cases hreg<;>first|(cases hz; done)|(cases h; done)|exact h
    |some y=>
     rw[hx] at hreg
     simp only[Option.getD_some] at hreg
     cases hreg<;>first|(cases h; done)|exact h|skip
     all_goals (rename_i b; cases b<;>exact h)
theorem cStep_ok {ops:Array Oper} {o:Oper} (hg:ZBo P.globals.size o=true) {r:Regs} {m:Mem} {k:Ct} {v:AVal} {mf:Mem} (h:(cStep P nt ops o).run K r m k=.ok v mf)
 {φ:Phi} {w:World} {a:Act} (hr:Rel P φ m w) (ha:RRel φ nt r a) {next:Act→World→Prop} {Q:Exit→Act→World→Prop}
 (hn:∀ φ' r' m' a' w',Step P φ m w φ' m' w'→RRel φ' nt r' a'→k r' m'=.ok v mf→next a' w') :
 if Region.wanted o (yielded ops a.tmps) then o.wp P a w next Q∨(o.asks P a w∧LetsOut Q) else next (a.put o.dst undef) w:=by
 cases hgd:o.guard with
 |none=>
  have hw:Region.wanted o (yielded ops a.tmps)=true:=by unfold Region.wanted; rw[hgd]
  rw[if_pos hw]
  unfold cStep at h
  rw[hgd] at h
  exact .inl (stepOf_ok hK (cOper_ok o) hg h hr ha hn)
 |some p=>
  unfold cStep at h
  rw[hgd] at h
  simp only at h
  rw[← hgd] at h
  have h2:=guard_ok h ha
  cases hw:Region.wanted o (yielded ops a.tmps) with
  |true=>
   rw[hw] at h2
   rw[if_pos rfl]
   exact .inl (stepOf_ok hK (cOper_ok o) hg h2 hr ha hn)
  |false=>
   rw[hw] at h2
   rw[if_neg (by simp)]
   exact hn φ _ m _ w (Step.refl hr) (ha.put (ZAy φ) o.dst) h2
theorem cOps_ok {ops:Array Oper} {Q:Exit→Act→World→Prop} {v:AVal} {mf:Mem} {k:Ct}:∀ (l:List Oper) (i:Nat),ops.toList.drop i=l→l.all (ZBo P.globals.size)=true→∀ {r:Regs} {m:Mem},
 (cOps P nt ops l).run K r m k=.ok v mf→∀ {φ:Phi} {w:World} {a:Act},Rel P φ m w→RRel φ nt r a→
 (∀ φ' r' m' a' w',Step P φ m w φ' m' w'→RRel φ' nt r' a'→k r' m'=.ok v mf→Q .normal a' w')→wpOps P ops Q (List.range' i l.length) a w
 | [],i,_,_,r,m,h,φ,w,a,hr,ha,hn=>hn φ r m a w (Step.refl hr) ha h
 |o::l,i,hd,hg,r,m,h,φ,w,a,hr,ha,hn=>by
  rw[List.all_cons,Bool.and_eq_true] at hg
  have hoi:ops[i]? = some o:=by
   rw[← Array.getElem?_toList]
   have:=congrArg (fun l=>l[0]?) hd
   simpa using this
  have hd2:ops.toList.drop (i+1)=l:=by
   rw[← List.drop_drop,hd]; rfl
  rw[List.length_cons,List.range'_succ]
  unfold wpOps
  rw[hoi]
  simp only
  refine cStep_ok hK hg.1 h hr ha fun φ' r' m' a' w' hst ha' h2=>?_
  exact cOps_ok l (i+1) hd2 hg.2 h2 hst.rel ha' fun φ'' r'' m'' a'' w'' hst' ha'' h3=>hn φ'' r'' m'' a'' w'' (hst.trans hst') ha'' h3
end
end Go.AM
namespace Go.AM
variable [Tok]
variable {P:Program}
def DrawOk (P:Program) (K:KH):Prop:=∀ (nt:Nat) (ops:Array Oper),ops.toList.all (ZBo P.globals.size)=true→∀ {r:Regs} {m:Mem} {k:Ct} {v:AVal} {mf:Mem},(cDraw P nt ops).run K r m k=.ok v mf→
 ∀ (id:Nat) {φ:Phi} {w:World} {a:Act} {Q:Exit→Act→World→Prop},Rel P φ m w→RRel φ nt r a→
  (∀ φ' r' m' a' w',Step P φ m w φ' m' w'→RRel φ' nt r' a'→k r' m'=.ok v mf→Q .normal a' w')→(Code.region id ops true).wp P Q a w
section
variable {K:KH} (hK:zBb P K) (hD:DrawOk P K) {nt:Nat}
include hK hD
theorem zCr {v:AVal} {mf:Mem}:∀ (c:Code),ZBh P.globals.size c=true→∀ {e:Nat→Ct} {rt k:Ct} {r:Regs} {m:Mem},(cCode P nt c).run K e rt k r m=.ok v mf→
 ∀ {φ:Phi} {w:World} {a:Act} {Q:Exit→Act→World→Prop},Rel P φ m w→RRel φ nt r a→
 (∀ φ' r' m' a' w',Step P φ m w φ' m' w'→RRel φ' nt r' a'→k r' m'=.ok v mf→Q .normal a' w')→
 (∀ i φ' r' m' a' w',Step P φ m w φ' m' w'→RRel φ' nt r' a'→e i r' m'=.ok v mf→Q (.exit i) a' w')→
 (∀ φ' r' m' a' w',Step P φ m w φ' m' w'→RRel φ' nt r' a'→rt r' m'=.ok v mf→Q .ret a' w')→c.wp P Q a w
 | .skip,_,e,rt,k,r,m,h,φ,w,a,Q,hr,ha,hn,_,_=>Go.wp_skip (hn φ r m a w (Step.refl hr) ha h)
 | .region id ops false,hg,e,rt,k,r,m,h,φ,w,a,Q,hr,ha,hn,_,_=>by
  refine wp_region ?_
  rw[List.range_eq_range',← Array.length_toList]
  exact cOps_ok hK ops.toList 0 rfl hg h hr ha hn
 | .region id ops true,hg,e,rt,k,r,m,h,φ,w,a,Q,hr,ha,hn,_,_=>hD nt ops hg h id hr ha hn
 | .seq x y,hg,e,rt,k,r,m,h,φ,w,a,Q,hr,ha,hn,he,hrt=>by
  have hg':=hg
  simp only[ZBh,Bool.and_eq_true] at hg'
  refine wp_seq (zCr x hg'.1 h hr ha ?_ he hrt)
  intro φ' r' m' a' w' hst ha' h2
  exact zCr y hg'.2 h2 hst.rel ha' (fun φ'' r'' m'' a'' w'' hst' ha'' h3=>hn φ'' r'' m'' a'' w'' (hst.trans hst') ha'' h3)
   (fun i φ'' r'' m'' a'' w'' hst' ha'' h3=>he i φ'' r'' m'' a'' w'' (hst.trans hst') ha'' h3)
   (fun φ'' r'' m'' a'' w'' hst' ha'' h3=>hrt φ'' r'' m'' a'' w'' (hst.trans hst') ha'' h3)
 | .cond c x y,hg,e,rt,k,r,m,h,φ,w,a,Q,hr,ha,hn,he,hrt=>by
  have hg':=hg
  simp only[ZBh,Bool.and_eq_true] at hg'
  obtain ⟨b,hb,h2⟩:=ZCz h
  have hc:a.eval c=.bool b:=by
   cases c with
   |global g=>cases hb
   |func f=>cases hb
   |tmp t=>
    have:=opd_rel (x:=.tmp t) hr ha rfl
    rw[hb] at this
    generalize a.eval (.tmp t)=z at this ⊢
    cases this; rfl
   |const v=>have:=opd_rel (x:=.const v) hr ha rfl; rw[hb] at this; cases this; rfl
  refine wp_cond hc ?_
  cases b with
  |true=>exact zCr x hg'.1 h2 hr ha hn he hrt
  |false=>exact zCr y hg'.2 h2 hr ha hn he hrt
 | .block id b,hg,e,rt,k,r,m,h,φ,w,a,Q,hr,ha,hn,he,hrt=>by
  refine wp_block (zCr b hg h hr ha hn ?_ hrt)
  intro i φ' r' m' a' w' hst ha' h2
  show if i=id then Q .normal a' w' else Q (.exit i) a' w'
  rcases zBx h2 with ⟨hi,h3⟩|⟨hi,h3⟩
  · rw[beq_true] at hi
    rw[if_pos hi]
    exact hn φ' r' m' a' w' hst ha' h3
  · rw[if_neg (fun e=>by rw[beq_true.2 e] at hi; cases hi)]
    exact he i φ' r' m' a' w' hst ha' h3
 | .loop b,hg,e,rt,k,r,m,h,φ,w,a,Q,hr,ha,hn,he,hrt=>by
  refine wp_loop_rounds loopFuel ?_
  have key:∀ n {r:Regs} {m:Mem},iterN (α:=Ct) (fun _ _=>.fail 84) (fun ih r m=>(cCode P nt b).run K e rt ih r m) n r m=.ok v mf→∀ {φ:Phi} {w:World} {a:Act},Rel P φ m w→RRel φ nt r a→
   (∀ i φ' r' m' a' w',Step P φ m w φ' m' w'→RRel φ' nt r' a'→e i r' m'=.ok v mf→Q (.exit i) a' w')→
   (∀ φ' r' m' a' w',Step P φ m w φ' m' w'→RRel φ' nt r' a'→rt r' m'=.ok v mf→Q .ret a' w')→Code.rounds P b Q n a w:=by
   intro n
   induction n with
   |zero=>intro r m h; cases h
   |succ n ih=>
    intro r m h φ w a hr ha he hrt
    rw[rounds_succ]
    refine zCr b hg (k:=fun r m=>iterN (α:=Ct) (fun _ _=>.fail 84) (fun ih r m=>(cCode P nt b).run K e rt ih r m) n r m) h hr ha ?_ he hrt
    intro φ' r' m' a' w' hst ha' h2
    exact ih h2 hst.rel ha' (fun i φ'' r'' m'' a'' w'' hst' ha'' h3=>he i φ'' r'' m'' a'' w'' (hst.trans hst') ha'' h3)
     (fun φ'' r'' m'' a'' w'' hst' ha'' h3=>hrt φ'' r'' m'' a'' w'' (hst.trans hst') ha'' h3)
  exact key loopFuel h hr ha he hrt
 | .exit id,_,e,rt,k,r,m,h,φ,w,a,Q,hr,ha,_,he,_=>Go.wp_exit (he id φ r m a w (Step.refl hr) ha h)
 | .ret,_,e,rt,k,r,m,h,φ,w,a,Q,hr,ha,_,_,hrt=>Go.wp_ret (hrt φ r m a w (Step.refl hr) ha h)
 | .scope b,hg,e,rt,k,r,m,h,φ,w,a,Q,hr,ha,hn,he,hrt=>wp_scope_straight (zCr b hg h hr ha hn he hrt)
 | .label l,_,e,rt,k,r,m,h,φ,w,a,Q,hr,ha,hn,_,_=>Go.wp_label (hn φ r m a w (Step.refl hr) ha h)
 | .rangeFunc _ _ _ _,_,e,rt,k,r,m,h,φ,w,a,Q,hr,ha,hn,_,_=>by cases h
 | .goto _,_,e,rt,k,r,m,h,φ,w,a,Q,hr,ha,hn,_,_=>by cases h
 | .refuse _,_,e,rt,k,r,m,h,φ,w,a,Q,hr,ha,hn,_,_=>by cases h
def resOne (tmps:Array Value):ResultVar→Sem Value
 | .tmp t=>pure (tmps.getD t undef)
 | .cell b t=>do loadVar t (← asAddr (tmps.getD b undef))
omit hK hD in
theorem results_eq (fn:Func) (tmps:Array Value):results fn tmps=(do let vs ← fn.results.mapM (resOne tmps); pure (if h:vs.size=1 then vs[0] else .tuple vs)):=by
 unfold results
 congr 1
omit hK hD in
theorem cResults_ok {r:Regs} {m:Mem}:∀ {l:List ResultVar} {k:List AVal→R} {v:AVal} {mf:Mem},(cResults P l).run r m k=.ok v mf→∃ vs,k vs=.ok v mf∧
 ∀ {φ:Phi} {w:World} {a:Act},Rel P φ m w→RRel φ nt r a→∃ cs:List Value,zAa φ vs cs∧
  (l.mapM (resOne a.tmps)).run P w=.ok cs w
 | [],k,v,mf,h=>⟨[],h,fun hr ha=>⟨[],.nil,rfl⟩⟩
 | .tmp t::l,k,v,mf,h=>by
  obtain ⟨vs,h1,h2⟩:=cResults_ok (l:=l) (k:=fun vs=>k ((opd (.tmp t)).get r::vs)) h
  refine ⟨_,h1,fun {φ w a} hr ha=>?_⟩
  obtain ⟨cs,h3,h4⟩:=h2 hr ha
  exact ⟨_,.cons (ha.reg t) h3,by simp only[List.mapM_cons,resOne,Sem.run_bind,Sem.run_pure,Result.andThen_ok,h4]⟩
 | .cell b t::l,k,v,mf,h=>by
  by_cases ht:hasT P t=true
  · have hc:(cResults P (.cell b t::l)).run r m k=aLoad (aggB P t) (szOf P t) ((opd (.tmp b)).get r) m fun v=>(cResults P l).run r m fun vs=>k (v::vs):=by
     show (if hasT P t=true then (⟨_⟩:ResC) else ⟨_⟩).run r m k=_
     rw[if_pos ht]
    rw[hc] at h
    obtain ⟨u,h1,hdet⟩:=aLoad_det h
    obtain ⟨vs,h2,h3⟩:=cResults_ok h1
    refine ⟨_,h2,fun {φ w a} hr ha=>?_⟩
    obtain ⟨cs,h4,h5⟩:=h3 hr ha
    have h6:aLoad (aggB P t) (szOf P t) ((opd (.tmp b)).get r) m (fun u=>.ok u m)=.ok u m:=hdet _
    obtain ⟨u',x,hu',hx,hrun⟩:=run_loadAt hr ht (ha.reg b) h6
    cases hu'
    refine ⟨x::cs,.cons hx h4,?_⟩
    have hreg:=ha.reg b
    obtain ⟨b',o',hp,_⟩:=ZCi h6
    rw[hp] at hreg
    simp only[List.mapM_cons,resOne,Sem.run_bind]
    generalize a.tmps.getD b undef=cc at hreg hrun
    cases hreg
    simp only[Instr.loadAt,Instr.sureAddr,Sem.run_bind,Sem.run_pure,Result.andThen_ok] at hrun
    simp[asAddr,hrun,h5]
  · have hc:(cResults P (.cell b t::l)).run r m k=.fail 86:=by
     show (if hasT P t=true then (⟨_⟩:ResC) else ⟨_⟩).run r m k=_
     rw[if_neg ht]
    rw[hc] at h
    cases h
omit hK hD in
theorem init_reg {φ:Phi}:∀ (args:List AVal) (cs:List Value) (i:Nat) (r:Regs),zAa φ args cs→i+args.length≤4096→∀ t,t<4096→
 (i≤t→t<i+args.length→∃ c,cs[t-i]? = some c∧VRel φ (rgetV (initRegs i args r) t) c)∧(t<i∨i+args.length≤t→rgetV (initRegs i args r) t=rgetV r t)
 | [],cs,i,r,h,hl,t,ht=>⟨fun h1 h2=>by simp at h2; omega,fun _=>rfl⟩
 |v::l,cs,i,r,h,hl,t,ht=>by
  cases h with
  |cons h hs=>
   rename_i c cs
   simp only[List.length_cons] at hl ⊢
   obtain ⟨h1,h2⟩:=init_reg l cs (i+1) (rput i v r) hs (by omega) t ht
   unfold initRegs
   constructor
   · intro h3 h4
     by_cases e:t=i
     · subst e
       refine ⟨c,by simp,?_⟩
       rw[h2 (.inl (by omega)),rget_rput _ _ _ _ (by omega) ht,if_pos rfl]
       exact h
     · obtain ⟨c',h5,h6⟩:=h1 (by omega) (by omega)
       refine ⟨c',?_,h6⟩
       have:t-i=(t-(i+1))+1:=by omega
       rw[this]; simpa using h5
   · intro h3
     rw[h2 (by omega),rget_rput _ _ _ _ (by omega) ht,if_neg (by omega)]
theorem cFunc_ok (hG:gProg P=true) {f:FuncId} {args:List AVal} {m:Mem} {v:AVal} {mf:Mem} (h:(cFunc P f).run K args m=.ok v mf) {φ:Phi} {w:World} {cargs:Array Value} (hr:Rel P φ m w)
 (hv:zAa φ args cargs.toList):Ends P f cargs w fun c w'=>∃ φ',Step P φ m w φ' mf w'∧VRel φ' v c:=by
 unfold cFunc at h
 split at h
 · rename_i fn hf
   split at h
   · rename_i c hb
     split at h
     · rename_i hcond
       simp only[Bool.and_eq_true,decide_eq_true_eq,Bool.not_eq_true'] at hcond
       obtain ⟨hnt,hname⟩:=hcond
       obtain ⟨hlen,h2⟩:=zAm h
       rw[zAd,ZAm] at hlen
       have hcl:=hv.length
       rw[Array.length_toList] at hcl
       have hgc:ZBh P.globals.size c=true:=by
        have h3:=List.all_eq_true.1 hG fn (by
         rw[Array.mem_toList_iff]
         exact Array.mem_of_getElem? hf)
        unfold gFunc at h3
        rw[hb] at h3; exact h3
       right
       have hname':fn.name≠ "runtime.NumGoroutine":=by simpa using hname
       refine ⟨by simp[callFunc,hf,hname',hb],?_⟩
       refine calls_of_wp hf hb ?_
       have ha:RRel φ fn.ntmps (initRegs 0 args Regs.empty) { tmps:=cargs++Array.replicate (fn.ntmps-cargs.size) undef,defers:=[] }:=by
        refine ⟨by simp; omega,hnt,rfl,fun (t:Nat)=>?_⟩
        rw[opd_tmp]
        simp only[Array.getD_eq_getD_getElem?]
        by_cases ht:t<4096
        · rw[if_pos ht]
          obtain ⟨g1,g2⟩:=init_reg args cargs.toList 0 Regs.empty hv (by omega) t ht
          by_cases hta:t<args.length
          · obtain ⟨c',h5,h6⟩:=g1 (Nat.zero_le _) (by omega)
            have:(cargs++Array.replicate (fn.ntmps-cargs.size) undef)[t]? = some c':=by
             rw[Array.getElem?_append_left (by omega),← Array.getElem?_toList]; simpa using h5
            rw[this]; exact h6
          · rw[g2 (.inr (by omega)),rget_empty]
            have:((cargs++Array.replicate (fn.ntmps-cargs.size) undef)[t]?).getD undef=undef:=by
             rw[Array.getElem?_append_right (by omega),Array.getElem?_replicate]
             split<;>rfl
            rw[this]; exact ZAy φ
        · rw[if_neg ht]
          have:((cargs++Array.replicate (fn.ntmps-cargs.size) undef)[t]?).getD undef=undef:=by
           rw[Array.getElem?_eq_none (by simp; omega)]; rfl
          rw[this]; exact ZAy φ
       have fin:∀ φ' r' m' a' w',Step P φ m w φ' m' w'→RRel φ' fn.ntmps r' a'→((cResults P fn.results.toList).run r' m' fun vs=>.ok (oneOf vs) m')=.ok v mf→
        a'.defers=[]∧∃ v1,(results fn a'.tmps).run P w'=.ok v1 w'∧∃ c,Ending.returned v1=.returned c∧∃ φ',Step P φ m w φ' mf w'∧VRel φ' v c:=by
        intro φ' r' m' a' w' hst ha' h3
        obtain ⟨vs,h4,h5⟩:=cResults_ok (P:=P) (nt:=fn.ntmps) h3
        obtain ⟨cs,h6,h7⟩:=h5 hst.rel ha'
        cases h4
        refine ⟨ha'.defers,if h:cs.toArray.size=1 then cs.toArray[0] else .tuple cs.toArray,?_,_,rfl,φ',hst,?_⟩
        · rw[results_eq]
          simp[Array.mapM_eq_mapM_toList,h7]
        · cases h6 with
          |nil=>exact .tuple [] #[] .nil
          |cons h6 h8=>
           cases h8 with
           |nil=>simpa[oneOf] using h6
           |cons h8 h9=>
            simp only[List.size_toArray,List.length_cons]
            rw[dif_neg (by omega)]
            exact .tuple _ _ (.cons h6 (.cons h8 h9))
       refine zCr hK hD c hgc h2 hr ha ?_ ?_ ?_
       · intro φ' r' m' a' w' hst ha' h3; exact fin φ' r' m' a' w' hst ha' h3
       · intro i φ' r' m' a' w' hst ha' h3; cases h3
       · intro φ' r' m' a' w' hst ha' h3; exact fin φ' r' m' a' w' hst ha' h3
     · cases h
   · cases h
 · cases h
end
end Go.AM
namespace Go.AM
variable {P:Program}
def ZAp (o:Oper) (r r':Regs):Prop:=∀ x,x∈o.op.operands→(opd x).get r=(opd x).get r'
def ZAl (o:Oper):OpC→Prop
 | .pure f=>∀ r r',ZAp o r r'→f r=f r'
 | .alloc f=>∀ r r',ZAp o r r'→f r=f r'
 | .heavy f=>∀ K r r',ZAp o r r'→f K r=f K r'
 | .read x _=>∀ r r',ZAp o r r'→x.get r=x.get r'
 | .bad _=>True
theorem opds_looks {r r':Regs}:∀ {l:List Operand},(∀ x,x∈l→(opd x).get r=(opd x).get r')→(opds l).get r=(opds l).get r'
 | [],_=>rfl
 |x::l,h=>by
  show (opd x).get r::(opds l).get r=(opd x).get r'::(opds l).get r'
  rw[h x (List.mem_cons_self ..),opds_looks fun y hy=>h y (List.mem_cons_of_mem _ hy)]
theorem fills_looks {r r':Regs}:∀ {l:List (Nat×Nat×Operand)},(∀ x,x∈l.map (fun e=>e.2.2)→(opd x).get r=(opd x).get r')→(fills l).run r=(fills l).run r'
 | [],_=>rfl
 |(o,n,x)::l,h=>by
  funext cs k
  unfold fills
  simp only
  rw[h x (by simp),fills_looks (l:=l) fun y hy=>h y (by simp at hy ⊢; exact .inr hy)]
theorem minMax_looks (mx:Bool) {r r':Regs}:∀ {l:List Operand},(∀ x,x∈l→(opd x).get r=(opd x).get r')→(minMax mx l).run r=(minMax mx l).run r'
 | [],_=>rfl
 |x::l,h=>by
  funext j a k
  unfold minMax
  simp only
  rw[h x (by simp),minMax_looks mx (l:=l) fun y hy=>h y (by simp[hy])]
theorem optNat_looks {r r':Regs} {x:Option Operand} (h:∀ y,x=some y→(opd y).get r=(opd y).get r') (d:Nat) (k:Nat→R):optNat x d r k=optNat x d r' k:=by
 cases x with
 |none=>rfl
 |some y=>show ((opd y).get r).onNat k=((opd y).get r').onNat k; rw[h y rfl]
theorem bounds_looks {r r':Regs} {lo hi mx:Option Operand} (h1:∀ y,lo=some y→(opd y).get r=(opd y).get r') (h2:∀ y,hi=some y→(opd y).get r=(opd y).get r')
 (h3:∀ y,mx=some y→(opd y).get r=(opd y).get r') (l c:Nat) (k:Nat→Nat→Nat→R):aBounds lo hi mx r l c k=aBounds lo hi mx r' l c k:=by
 unfold aBounds
 rw[optNat_looks h3]
 congr 1; funext m
 rw[optNat_looks h2]
 congr 2; funext h
 rw[optNat_looks h1]
theorem mapM_ops {fs:Array Field} {P:Program}:∀ {ps:List (Nat×Operand)} {l:List (Nat×Nat×Operand)},(ps.mapM fun (i,x)=>(fs[i]?).map fun (f:Field)=>(f.offset,szOf P f.type,x))=some l→
 ∀ x,x∈l.map (fun e=>e.2.2)→x∈ps.map (·.2)
 | [],l,h,x,hx=>by
  have:l=[]:=by simpa using h.symm
  subst this; simp at hx
 |p::ps,l,h,x,hx=>by
  simp only[List.mapM_cons] at h
  cases hf:fs[p.1]? with
  |none=>rw[hf] at h; simp at h
  |some f=>
   rw[hf] at h
   cases hr:(ps.mapM fun (i,x)=>(fs[i]?).map fun (f:Field)=>(f.offset,szOf P f.type,x)) with
   |none=>rw[hr] at h; simp at h
   |some r=>
    rw[hr] at h
    simp at h
    subst h
    simp only[List.map_cons,List.mem_cons] at hx ⊢
    rcases hx with hx|hx
    · exact .inl hx
    · exact .inr (mapM_ops hr x hx)
theorem looks_move {o:Oper} {x:Operand} (h:o.op=.move x):ZAl o (.pure fun r k=>k ((opd x).get r)):=by
 have kx:∀ r r',ZAp o r r'→(opd x).get r=(opd x).get r':=fun r r' ha=>ha x (by simp[h,Op.operands])
 repeat' split
 all_goals first|trivial|(intro r r' ha; simp only[kx r r' ha])|(intro K r r' ha; simp only[kx r r' ha])
theorem looks_assign {o:Oper} {x:Operand} (h:o.op=.assign x):ZAl o (.pure fun r k=>k ((opd x).get r)):=by
 have kx:∀ r r',ZAp o r r'→(opd x).get r=(opd x).get r':=fun r r' ha=>ha x (by simp[h,Op.operands])
 repeat' split
 all_goals first|trivial|(intro r r' ha; simp only[kx r r' ha])|(intro K r r' ha; simp only[kx r r' ha])
theorem looks_pick {o:Oper} {c x y:Operand} (h:o.op=.pick c x y):ZAl o (.pure fun r k=>((opd c).get r).onBool fun t=>k (zAc ((opd x).get r) ((opd y).get r) t)):=by
 have kc:∀ r r',ZAp o r r'→(opd c).get r=(opd c).get r':=fun r r' ha=>ha c (by simp[h,Op.operands])
 have kx:∀ r r',ZAp o r r'→(opd x).get r=(opd x).get r':=fun r r' ha=>ha x (by simp[h,Op.operands])
 have ky:∀ r r',ZAp o r r'→(opd y).get r=(opd y).get r':=fun r r' ha=>ha y (by simp[h,Op.operands])
 repeat' split
 all_goals first|trivial|(intro r r' ha; simp only[kc r r' ha,kx r r' ha,ky r r' ha])|(intro K r r' ha; simp only[kc r r' ha,kx r r' ha,ky r r' ha])
theorem looks_alloc {o:Oper} {e:TypeId} (_h:o.op=.alloc e):ZAl o (cAlloc P e):=by
 unfold cAlloc
 repeat' split
 all_goals first|trivial|(intro r r' ha; rfl)|(intro K r r' ha; rfl)
theorem looks_box {o:Oper} {e:TypeId} {x:Operand} (h:o.op=.box e x):ZAl o (cBox x):=by
 have kx:∀ r r',ZAp o r r'→(opd x).get r=(opd x).get r':=fun r r' ha=>ha x (by simp[h,Op.operands])
 unfold cBox
 repeat' split
 all_goals first|trivial|(intro r r' ha; simp only[kx r r' ha])|(intro K r r' ha; simp only[kx r r' ha])
theorem looks_load {o:Oper} {t:TypeId} {x:Operand} (h:o.op=.load t x):ZAl o (cLoad P t x):=by
 have kx:∀ r r',ZAp o r r'→(opd x).get r=(opd x).get r':=fun r r' ha=>ha x (by simp[h,Op.operands])
 unfold cLoad
 repeat' split
 all_goals first|trivial|(intro r r' ha; simp only[kx r r' ha])|(intro K r r' ha; simp only[kx r r' ha])
theorem looks_store {o:Oper} {t:TypeId} {x y:Operand} (h:o.op=.store t x y):ZAl o (cStore P t x y):=by
 have kx:∀ r r',ZAp o r r'→(opd x).get r=(opd x).get r':=fun r r' ha=>ha x (by simp[h,Op.operands])
 have ky:∀ r r',ZAp o r r'→(opd y).get r=(opd y).get r':=fun r r' ha=>ha y (by simp[h,Op.operands])
 unfold cStore
 repeat' split
 all_goals first|trivial|(intro r r' ha; simp only[kx r r' ha,ky r r' ha])|(intro K r r' ha; simp only[kx r r' ha,ky r r' ha])
theorem looks_nilCheck {o:Oper} {x:Operand} (h:o.op=.nilCheck x):ZAl o (.pure fun r k=>((opd x).get r).onPtr fun b o=>k (.ptr b o)):=by
 have kx:∀ r r',ZAp o r r'→(opd x).get r=(opd x).get r':=fun r r' ha=>ha x (by simp[h,Op.operands])
 repeat' split
 all_goals first|trivial|(intro r r' ha; simp only[kx r r' ha])|(intro K r r' ha; simp only[kx r r' ha])
theorem looks_bin0 {o:Oper} {op:BinOp} {t yt:TypeId} {x y:Operand} (h:o.op=.binOp op t x y yt):ZAl o (cBin0 P op t x y):=by
 have kx:∀ r r',ZAp o r r'→(opd x).get r=(opd x).get r':=fun r r' ha=>ha x (by simp[h,Op.operands])
 have ky:∀ r r',ZAp o r r'→(opd y).get r=(opd y).get r':=fun r r' ha=>ha y (by simp[h,Op.operands])
 unfold cBin0
 repeat' split
 all_goals first|trivial|(intro r r' ha; simp only[kx r r' ha,ky r r' ha])|(intro K r r' ha; simp only[kx r r' ha,ky r r' ha])
theorem looks_un {o:Oper} {op:UnOp} {t:TypeId} {x:Operand} (h:o.op=.unOp op t x):ZAl o (cUn op x):=by
 have kx:∀ r r',ZAp o r r'→(opd x).get r=(opd x).get r':=fun r r' ha=>ha x (by simp[h,Op.operands])
 unfold cUn
 repeat' split
 all_goals first|trivial|(intro r r' ha; simp only[kx r r' ha])|(intro K r r' ha; simp only[kx r r' ha])
theorem looks_conv {o:Oper} {s d:TypeId} {x:Operand} (h:o.op=.convert s d x):ZAl o (cConv P s d x):=by
 have kx:∀ r r',ZAp o r r'→(opd x).get r=(opd x).get r':=fun r r' ha=>ha x (by simp[h,Op.operands])
 unfold cConv
 repeat' split
 all_goals first|trivial|(intro r r' ha; simp only[kx r r' ha])|(intro K r r' ha; simp only[kx r r' ha])
theorem looks_makeIface {o:Oper} {t:TypeId} {x:Operand} (h:o.op=.makeInterface t x):ZAl o (cMakeIface P t x):=by
 have kx:∀ r r',ZAp o r r'→(opd x).get r=(opd x).get r':=fun r r' ha=>ha x (by simp[h,Op.operands])
 unfold cMakeIface
 repeat' split
 all_goals first|trivial|(intro r r' ha; simp only[kx r r' ha])|(intro K r r' ha; simp only[kx r r' ha])
theorem looks_makeSlice {o:Oper} {t:TypeId} {x y:Operand} (h:o.op=.makeSlice t x y):ZAl o (cMakeSlice P t x y):=by
 have kx:∀ r r',ZAp o r r'→(opd x).get r=(opd x).get r':=fun r r' ha=>ha x (by simp[h,Op.operands])
 have ky:∀ r r',ZAp o r r'→(opd y).get r=(opd y).get r':=fun r r' ha=>ha y (by simp[h,Op.operands])
 unfold cMakeSlice
 repeat' split
 all_goals try dsimp only
 all_goals repeat' split
 all_goals first|trivial|(intro r r' ha; simp only[kx r r' ha,ky r r' ha])|(intro K r r' ha; simp only[kx r r' ha,ky r r' ha])
theorem looks_fieldAddr {o:Oper} {s:TypeId} {x:Operand} {f:Nat} (h:o.op=.fieldAddr s x f):ZAl o (cFieldAddr P s x f):=by
 have kx:∀ r r',ZAp o r r'→(opd x).get r=(opd x).get r':=fun r r' ha=>ha x (by simp[h,Op.operands])
 unfold cFieldAddr
 repeat' split
 all_goals first|trivial|(intro r r' ha; simp only[kx r r' ha])|(intro K r r' ha; simp only[kx r r' ha])
theorem looks_field {o:Oper} {s:TypeId} {x:Operand} {f:Nat} (h:o.op=.field s x f):ZAl o (cField P s x f):=by
 have kx:∀ r r',ZAp o r r'→(opd x).get r=(opd x).get r':=fun r r' ha=>ha x (by simp[h,Op.operands])
 unfold cField
 repeat' split
 all_goals first|trivial|(intro r r' ha; simp only[kx r r' ha])|(intro K r r' ha; simp only[kx r r' ha])
theorem looks_indexAddr {o:Oper} {t:TypeId} {x y:Operand} (h:o.op=.indexAddr t x y):ZAl o (cIndexAddr P t x y):=by
 have kx:∀ r r',ZAp o r r'→(opd x).get r=(opd x).get r':=fun r r' ha=>ha x (by simp[h,Op.operands])
 have ky:∀ r r',ZAp o r r'→(opd y).get r=(opd y).get r':=fun r r' ha=>ha y (by simp[h,Op.operands])
 unfold cIndexAddr
 repeat' split
 all_goals first|trivial|(intro r r' ha; simp only[kx r r' ha,ky r r' ha])|(intro K r r' ha; simp only[kx r r' ha,ky r r' ha])
theorem looks_index {o:Oper} {t:TypeId} {x y:Operand} (h:o.op=.index t x y):ZAl o (cIndex P t x y):=by
 have kx:∀ r r',ZAp o r r'→(opd x).get r=(opd x).get r':=fun r r' ha=>ha x (by simp[h,Op.operands])
 have ky:∀ r r',ZAp o r r'→(opd y).get r=(opd y).get r':=fun r r' ha=>ha y (by simp[h,Op.operands])
 unfold cIndex
 repeat' split
 all_goals first|trivial|(intro r r' ha; simp only[kx r r' ha,ky r r' ha])|(intro K r r' ha; simp only[kx r r' ha,ky r r' ha])
theorem looks_lookup {o:Oper} {t:TypeId} {x y:Operand} {ok:Bool} (h:o.op=.lookup t x y ok):ZAl o (cLookup P t x y ok):=by
 have kx:∀ r r',ZAp o r r'→(opd x).get r=(opd x).get r':=fun r r' ha=>ha x (by simp[h,Op.operands])
 have ky:∀ r r',ZAp o r r'→(opd y).get r=(opd y).get r':=fun r r' ha=>ha y (by simp[h,Op.operands])
 unfold cLookup
 repeat' split
 all_goals first|trivial|(intro r r' ha; simp only[kx r r' ha,ky r r' ha])|(intro K r r' ha; simp only[kx r r' ha,ky r r' ha])
theorem looks_mapUpdate {o:Oper} {t:TypeId} {x y z:Operand} (h:o.op=.mapUpdate t x y z):ZAl o (ZCp P t x y z):=by
 have kx:∀ r r',ZAp o r r'→(opd x).get r=(opd x).get r':=fun r r' ha=>ha x (by simp[h,Op.operands])
 have ky:∀ r r',ZAp o r r'→(opd y).get r=(opd y).get r':=fun r r' ha=>ha y (by simp[h,Op.operands])
 have kz:∀ r r',ZAp o r r'→(opd z).get r=(opd z).get r':=fun r r' ha=>ha z (by simp[h,Op.operands])
 unfold ZCp
 repeat' split
 all_goals first|trivial|(intro r r' ha; simp only[kx r r' ha,ky r r' ha,kz r r' ha])|(intro K r r' ha; simp only[kx r r' ha,ky r r' ha,kz r r' ha])
theorem looks_insert {o:Oper} {t:TypeId} {x y z:Operand} (h:o.op=.insert t x y z):ZAl o (ZCp P t x y z):=by
 have kx:∀ r r',ZAp o r r'→(opd x).get r=(opd x).get r':=fun r r' ha=>ha x (by simp[h,Op.operands])
 have ky:∀ r r',ZAp o r r'→(opd y).get r=(opd y).get r':=fun r r' ha=>ha y (by simp[h,Op.operands])
 have kz:∀ r r',ZAp o r r'→(opd z).get r=(opd z).get r':=fun r r' ha=>ha z (by simp[h,Op.operands])
 unfold ZCp
 repeat' split
 all_goals first|trivial|(intro r r' ha; simp only[kx r r' ha,ky r r' ha,kz r r' ha])|(intro K r r' ha; simp only[kx r r' ha,ky r r' ha,kz r r' ha])
theorem looks_mapEntry {o:Oper} {t:TypeId} {x y:Operand} (h:o.op=.mapEntry t x y):ZAl o (cMapEntry P t x y):=by
 have kx:∀ r r',ZAp o r r'→(opd x).get r=(opd x).get r':=fun r r' ha=>ha x (by simp[h,Op.operands])
 have ky:∀ r r',ZAp o r r'→(opd y).get r=(opd y).get r':=fun r r' ha=>ha y (by simp[h,Op.operands])
 unfold cMapEntry
 repeat' split
 all_goals first|trivial|(intro r r' ha; simp only[kx r r' ha,ky r r' ha])|(intro K r r' ha; simp only[kx r r' ha,ky r r' ha])
theorem looks_entryStore {o:Oper} {t:TypeId} {x y z:Operand} (h:o.op=.entryStore t x y z):ZAl o (cEntryStore x y z):=by
 have kx:∀ r r',ZAp o r r'→(opd x).get r=(opd x).get r':=fun r r' ha=>ha x (by simp[h,Op.operands])
 have ky:∀ r r',ZAp o r r'→(opd y).get r=(opd y).get r':=fun r r' ha=>ha y (by simp[h,Op.operands])
 have kz:∀ r r',ZAp o r r'→(opd z).get r=(opd z).get r':=fun r r' ha=>ha z (by simp[h,Op.operands])
 unfold cEntryStore
 repeat' split
 all_goals first|trivial|(intro r r' ha; simp only[kx r r' ha,ky r r' ha,kz r r' ha])|(intro K r r' ha; simp only[kx r r' ha,ky r r' ha,kz r r' ha])
theorem looks_range {o:Oper} {t:TypeId} {x:Operand} (h:o.op=.range t x):ZAl o (cRange P t x):=by
 have kx:∀ r r',ZAp o r r'→(opd x).get r=(opd x).get r':=fun r r' ha=>ha x (by simp[h,Op.operands])
 unfold cRange
 repeat' split
 all_goals first|trivial|(intro r r' ha; simp only[kx r r' ha])|(intro K r r' ha; simp only[kx r r' ha])
theorem looks_next {o:Oper} {x:Operand} {b:Bool} (h:o.op=.next x b):ZAl o (cNext x b):=by
 have kx:∀ r r',ZAp o r r'→(opd x).get r=(opd x).get r':=fun r r' ha=>ha x (by simp[h,Op.operands])
 unfold cNext
 repeat' split
 all_goals first|trivial|(intro r r' ha; simp only[kx r r' ha])|(intro K r r' ha; simp only[kx r r' ha])
theorem looks_assert {o:Oper} {t u:TypeId} {x:Operand} {ok:Bool} (h:o.op=.typeAssert x u t ok):ZAl o (cAssert P x t ok):=by
 have kx:∀ r r',ZAp o r r'→(opd x).get r=(opd x).get r':=fun r r' ha=>ha x (by simp[h,Op.operands])
 unfold cAssert
 repeat' split
 all_goals first|trivial|(intro r r' ha; simp only[kx r r' ha])|(intro K r r' ha; simp only[kx r r' ha])
theorem looks_extract {o:Oper} {x:Operand} {i:Nat} (h:o.op=.extract x i):ZAl o (.pure fun r k=>((opd x).get r).onTuple fun vs=>onL (.fail 82) (fun v _=>k v) (ZAe i vs)):=by
 have kx:∀ r r',ZAp o r r'→(opd x).get r=(opd x).get r':=fun r r' ha=>ha x (by simp[h,Op.operands])
 repeat' split
 all_goals first|trivial|(intro r r' ha; simp only[kx r r' ha])|(intro K r r' ha; simp only[kx r r' ha])
theorem looks_bin {o:Oper} {op:BinOp} {t yt:TypeId} {x y:Operand} (h:o.op=.binOp op t x y yt):ZAl o (cBin P op t x y):=by
 have kx:∀ r r',ZAp o r r'→(opd x).get r=(opd x).get r':=fun r r' ha=>ha x (by simp[h,Op.operands])
 have ky:∀ r r',ZAp o r r'→(opd y).get r=(opd y).get r':=fun r r' ha=>ha y (by simp[h,Op.operands])
 have h0:=looks_bin0 (P:=P) h
 unfold cBin
 cases hasTok op with
 |false=>exact h0
 |true=>
  show ZAl o (withTok op x y (cBin0 P op t x y))
  cases hc:cBin0 P op t x y with
  |pure f=>
   rw[hc] at h0
   intro r r' ha
   simp only[kx r r' ha,ky r r' ha,h0 r r' ha]
  |read a f=>rw[hc] at h0; exact h0
  |alloc f=>rw[hc] at h0; exact h0
  |heavy f=>rw[hc] at h0; exact h0
  |bad n=>trivial
theorem looks_build {o:Oper} {t:TypeId} {ps:Array (Nat×Operand)} (h:o.op=.build t ps):ZAl o (cBuild P t ps.toList):=by
 have kp:∀ r r',ZAp o r r'→∀ x,x∈ps.toList.map (·.2)→(opd x).get r=(opd x).get r':=fun r r' ha x hx=>ha x (by simp only[h,Op.operands]; exact List.mem_toArray.2 hx)
 unfold cBuild
 split
 · split
   · split
     · rename_i l hl
       intro r r' ha
       have:(fills l).run r=(fills l).run r':=fills_looks fun x hx=>kp r r' ha x (mapM_ops hl x hx)
       simp only[this]
     · trivial
   · trivial
 · split
   · intro r r' ha
     have:∀ n,(fills (ps.toList.map fun (i,x)=>(i*n,n,x))).run r=(fills (ps.toList.map fun (i,x)=>(i*n,n,x))).run r':=fun n=>fills_looks fun x hx=>kp r r' ha x (by
      simp only[List.map_map,List.mem_map] at hx ⊢
      obtain ⟨e,h1,h2⟩:=hx
      exact ⟨e,h1,h2⟩)
     simp only[this]
   · trivial
 · trivial
theorem looks_buildSlice {o:Oper} {t:TypeId} {len:Nat} {ps:Array (Nat×Operand)} (h:o.op=.buildSlice t len ps):ZAl o (cBuildSlice P t len ps.toList):=by
 have kp:∀ r r',ZAp o r r'→∀ x,x∈ps.toList.map (·.2)→(opd x).get r=(opd x).get r':=fun r r' ha x hx=>ha x (by simp only[h,Op.operands]; exact List.mem_toArray.2 hx)
 unfold cBuildSlice
 split
 · split
   · dsimp only
     split
     · trivial
     · intro r r' ha
       have:∀ n,(fills (ps.toList.map fun (i,x)=>(i*n,n,x))).run r=(fills (ps.toList.map fun (i,x)=>(i*n,n,x))).run r':=fun n=>fills_looks fun x hx=>kp r r' ha x (by
        simp only[List.map_map,List.mem_map] at hx ⊢
        obtain ⟨e,h1,h2⟩:=hx
        exact ⟨e,h1,h2⟩)
       simp only[this]
   · trivial
 · trivial
theorem looks_makeFunc {o:Oper} {f:FuncId} {first caps:Array Operand} (h:o.op=.makeFunc (.func f) first caps):ZAl o (cMakeFunc f first.toList caps.toList):=by
 have k1:∀ r r',ZAp o r r'→(opds caps.toList).get r=(opds caps.toList).get r':=fun r r' ha=>opds_looks fun x hx=>ha x (by simp[h,Op.operands]; exact .inr (Array.mem_toList_iff.1 hx))
 have k2:∀ r r',ZAp o r r'→(opds first.toList).get r=(opds first.toList).get r':=fun r r' ha=>opds_looks fun x hx=>ha x (by simp[h,Op.operands]; exact .inl (Array.mem_toList_iff.1 hx))
 unfold cMakeFunc
 dsimp only
 split
 · intro r r' ha; simp only[k1 r r' ha]
 · intro r r' ha; simp only[k1 r r' ha,k2 r r' ha]
theorem looks_makeMap {o:Oper} {t:TypeId} {x:Option Operand} (h:o.op=.makeMap t x):ZAl o (cMakeMap P t x):=by
 unfold cMakeMap
 split
 · split
   · intro K r r' ha; rfl
   · rename_i y
     intro K r r' ha
     have:=ha y (by simp[h,Op.operands])
     simp only[this]
 · trivial
theorem looks_slice {o:Oper} {t:TypeId} {x:Operand} {lo hi mx:Option Operand} (h:o.op=.slice t x lo hi mx):ZAl o (cSlice P t x lo hi mx):=by
 have k0:∀ r r',ZAp o r r'→(opd x).get r=(opd x).get r':=fun r r' ha=>ha x (by simp[h,Op.operands])
 have kb:∀ r r',ZAp o r r'→∀ l c (k:Nat→Nat→Nat→R),aBounds lo hi mx r l c k=aBounds lo hi mx r' l c k:=fun r r' ha l c k=>
  bounds_looks (fun y hy=>ha y (by simp[h,Op.operands,hy])) (fun y hy=>ha y (by simp[h,Op.operands,hy])) (fun y hy=>ha y (by simp[h,Op.operands,hy])) l c k
 have kb2:∀ r r',ZAp o r r'→∀ l c (k:Nat→Nat→Nat→R),aBounds lo hi none r l c k=aBounds lo hi none r' l c k:=fun r r' ha l c k=>
  bounds_looks (fun y hy=>ha y (by simp[h,Op.operands,hy])) (fun y hy=>ha y (by simp[h,Op.operands,hy])) (fun y hy=>by cases hy) l c k
 unfold cSlice
 split
 · trivial
 · split
   · split
     · trivial
     · intro r r' ha; simp only[k0 r r' ha,kb2 r r' ha]
   · split
     · intro r r' ha; simp only[k0 r r' ha,kb r r' ha]
     · trivial
   · trivial
theorem looks_call {o:Oper} {c:Call} (h:o.op=.call c):ZAl o (cCall P c):=by
 have ka:∀ r r',ZAp o r r'→∀ x,x∈c.args.toList→(opd x).get r=(opd x).get r':=fun r r' ha x hx=>ha x (by
  simp only[h,Op.operands,Call.operands]
  split<;>simp[Array.mem_toList_iff.1 hx])
 unfold cCall
 split
 · rename_i b hb
   unfold cBuiltin
   split
   · rename_i t ts x rest ht hargs
     have k1:∀ r r',ZAp o r r'→(opd x).get r=(opd x).get r':=fun r r' ha=>ka r r' ha x (by rw[hargs]; simp)
     unfold cLen
     repeat' split
     all_goals first|trivial|(intro r r' ha; simp only[k1 r r' ha])|(intro K r r' ha; simp only[k1 r r' ha])|(intro r r' ha; rfl)
   · rename_i t ts x rest ht hargs
     have k1:∀ r r',ZAp o r r'→(opd x).get r=(opd x).get r':=fun r r' ha=>ka r r' ha x (by rw[hargs]; simp)
     unfold cCap
     repeat' split
     all_goals first|trivial|(intro r r' ha; simp only[k1 r r' ha])
   · rename_i x y rest hargs
     have k1:∀ r r',ZAp o r r'→(opd x).get r=(opd x).get r':=fun r r' ha=>ka r r' ha x (by rw[hargs]; simp)
     have k2:∀ r r',ZAp o r r'→(opd y).get r=(opd y).get r':=fun r r' ha=>ka r r' ha y (by rw[hargs]; simp)
     unfold cAppend
     repeat' split
     all_goals try dsimp only
     all_goals repeat' split
     all_goals first|trivial|(intro K r r' ha; simp only[k1 r r' ha,k2 r r' ha])
   · rename_i t ts x y rest ht hargs
     have k1:∀ r r',ZAp o r r'→(opd x).get r=(opd x).get r':=fun r r' ha=>ka r r' ha x (by rw[hargs]; simp)
     have k2:∀ r r',ZAp o r r'→(opd y).get r=(opd y).get r':=fun r r' ha=>ka r r' ha y (by rw[hargs]; simp)
     unfold cCopy
     repeat' split
     all_goals first|trivial|(intro K r r' ha; simp only[k1 r r' ha,k2 r r' ha])
   · rename_i t ts x rest ht hargs
     have k1:∀ r r',ZAp o r r'→(opd x).get r=(opd x).get r':=fun r r' ha=>ka r r' ha x (by rw[hargs]; simp)
     unfold cClear
     repeat' split
     all_goals try dsimp only
     all_goals repeat' split
     all_goals first|trivial|(intro K r r' ha; simp only[k1 r r' ha])
   · rename_i t ts x y rest ht hargs
     have k1:∀ r r',ZAp o r r'→(opd x).get r=(opd x).get r':=fun r r' ha=>ka r r' ha x (by rw[hargs]; simp)
     have k2:∀ r r',ZAp o r r'→(opd y).get r=(opd y).get r':=fun r r' ha=>ka r r' ha y (by rw[hargs]; simp)
     unfold cDelete
     repeat' split
     all_goals first|trivial|(intro K r r' ha; simp only[k1 r r' ha,k2 r r' ha])
   · unfold cMinMax
     split
     · rename_i x l hargs
       intro r r' ha
       simp only[ka r r' ha x (by rw[hargs]; simp),minMax_looks true (l:=l) fun y hy=>ka r r' ha y (by rw[hargs]; simp[hy])]
     · trivial
   · unfold cMinMax
     split
     · rename_i x l hargs
       intro r r' ha
       simp only[ka r r' ha x (by rw[hargs]; simp),minMax_looks false (l:=l) fun y hy=>ka r r' ha y (by rw[hargs]; simp[hy])]
     · trivial
   · trivial
 · intro K r r' ha
   simp only[opds_looks (ka r r' ha)]
 · rename_i x _ hc
   intro K r r' ha
   simp only[opds_looks (ka r r' ha),ha x (by simp[h,Op.operands,Call.operands,hc])]
 · rename_i x name hc
   intro K r r' ha
   simp only[opds_looks (ka r r' ha),ha x (by simp[h,Op.operands,Call.operands,hc])]
theorem cOper_looks (o:Oper):ZAl o (cOper P o):=by
 unfold cOper
 split
 all_goals first
  |trivial
  |(rename_i h; exact looks_move h)
  |(rename_i h; exact looks_assign h)
  |(rename_i h; exact looks_pick h)
  |(rename_i h; exact looks_alloc h)
  |(rename_i h; exact looks_box h)
  |(rename_i h; exact looks_load h)
  |(rename_i h; exact looks_store h)
  |(rename_i h; exact looks_nilCheck h)
  |(rename_i h; exact looks_un h)
  |(rename_i h; exact looks_conv h)
  |(rename_i h; exact looks_makeIface h)
  |(rename_i h; exact looks_makeSlice h)
  |(rename_i h; exact looks_fieldAddr h)
  |(rename_i h; exact looks_field h)
  |(rename_i h; exact looks_indexAddr h)
  |(rename_i h; exact looks_index h)
  |(rename_i h; exact looks_lookup h)
  |(rename_i h; exact looks_mapUpdate h)
  |(rename_i h; exact looks_insert h)
  |(rename_i h; exact looks_mapEntry h)
  |(rename_i h; exact looks_entryStore h)
  |(rename_i h; exact looks_range h)
  |(rename_i h; exact looks_next h)
  |(rename_i h; exact looks_assert h)
  |(rename_i h; exact looks_extract h)
  |(rename_i h; exact looks_bin h)
  |(rename_i h; exact looks_build h)
  |(rename_i h; exact looks_buildSlice h)
  |(rename_i h; exact looks_makeFunc h)
  |(rename_i h; exact looks_makeMap h)
  |(rename_i h; exact looks_slice h)
  |(rename_i h; exact looks_call h)
end Go.AM
namespace Go.AM
variable [Tok]
variable {P:Program} {φ:Phi} {w:World}
theorem Blk.dead {b:Blk} (h:b.live=false):b=.none:=by cases b<;>first|rfl|cases h
theorem Rel.weaken {V m:Mem} (h:Rel P φ V w) (hn:m.next=V.next) (hg:∀ p,p<65536→m.get p=V.get p∨m.get p=.none):Rel P φ m w:=by
 have hb:=h.bound
 have lv:∀ p,p<65536→(m.get p).live=true→m.get p=V.get p:=by
  intro p hp hl
  rcases hg p hp with h1|h1
  · exact h1
  · rw[h1] at hl; cases hl
 refine ⟨by rw[hn]; exact hb,fun p x hp=>by rw[hn]; exact h.dom p x hp,h.heap,h.handle,?_,h.glob,?_,?_,?_,h.held,fun p b o s hp hw hφ=>by
  rw[hn] at hp
  rw[lv p (by omega) (Blk.live_of_wr hw)] at hw
  exact h.apart p b o s hp hw hφ,fun hs=>Blk.dead_of fun hl=>by
  have:=h.mode hs
  rw[lv 0 (by omega) hl] at hl
  rw[hl] at this; cases this⟩
 · rcases hg P.globals.size (Nat.lt_of_lt_of_le (h.dom _ _ h.handle) hb) with h1|h1
   · rw[h1]; exact h.nohandle
   · exact h1
 · intro p hp
   rw[hn] at hp
   rcases hg p (by omega) with h1|h1
   · rw[h1]; exact h.blk p hp
   · rw[h1]; trivial
 · intro p q b o s o' s' hp hq hne hw hl h1 h2
   rw[hn] at hp hq
   rw[lv p (by omega) (Blk.live_of_wr hw)] at hw
   rw[lv q (by omega) hl] at hl
   exact h.inj p q b o s o' s' hp hq hne hw hl h1 h2
 · intro p hp hlt
   rw[hn] at hp
   rcases hg p hlt with h1|h1
   · rw[h1]; exact h.clean p hp hlt
   · exact h1
theorem Step.raise {m:Mem} {n:Nat} (h:Rel P φ m w) (hn:m.next+n≤65536):Step P φ m w φ ⟨m.next+n,m.t⟩ w:=by
 have get:∀ p,(⟨m.next+n,m.t⟩:Mem).get p=m.get p:=fun p=>rfl
 refine ⟨⟨hn,fun p x hp=>Nat.lt_of_lt_of_le (h.dom p x hp) (Nat.le_add_right _ _),h.heap,h.handle,h.nohandle,h.glob,?_,?_,?_,h.held,fun p b o s hp hw hφ=>by
  rw[get] at hw
  exact h.apart p b o s (h.dom _ _ hφ) hw hφ,h.mode⟩,fun _ _ h=>h,Nat.le_add_right _ _,fun _ _ h=>.inl h,
  fun _ _ h=>h,fun _ _ h=>h,?_,fun _ _ _=>rfl,Nat.le_refl _,rfl,rfl,rfl⟩
 · intro p hp
   rw[get]
   change p<m.next+n at hp
   rcases Nat.lt_or_ge p m.next with h1|h1
   · exact h.blk p h1
   · rw[h.clean p h1 (by omega)]; trivial
 · intro p q b o s o' s' hp hq hne hw hl h1 h2
   rw[get] at hw hl
   change p<m.next+n at hp
   change q<m.next+n at hq
   have hp':p<m.next:=by
    rcases Nat.lt_or_ge p m.next with h3|h3
    · exact h3
    · rw[h.clean p h3 (by omega)] at hw; cases hw
   have hq':q<m.next:=by
    rcases Nat.lt_or_ge q m.next with h3|h3
    · exact h3
    · rw[h.clean q h3 (by omega)] at hl; cases hl
   exact h.inj p q b o s o' s' hp' hq' hne hw hl h1 h2
 · intro p hp hlt
   rw[get]
   change m.next+n≤p at hp
   exact h.clean p (by omega) hlt
 · intro p b o s h1 h2 h3
   change p<m.next+n at h2
   rw[get,h.clean p h1 (by omega)] at h3
   cases h3
theorem Step.allocAt {φ0:Phi} {m0 V V':Mem} {w0 w':World} (h:Step P φ0 m0 w0 φ V w) {id:Nat} (h0:m0.next≤id) (h1:id<V.next) (hφ:φ id=none) {ob:Obj} {s:Nat} {b:Blk}
 (hh:w'.heap=w.heap.push ob) (hos:w'.os=w.os) (hout:w'.output=w.output) (ht:w'.tape=w.tape) (hx:BRel (fun q=>if q=id then some (w.heap.size,0,s) else φ q) w' id b)
 (hn:V'.next=V.next) (hget:∀ p,p<65536→V'.get p=if p=id then b else V.get p):Step P φ0 m0 w0 (fun q=>if q=id then some (w.heap.size,0,s) else φ q) V' w':=by
 have R:=h.rel
 have hb:=R.bound
 have ext:Ext' φ (fun q=>if q=id then some (w.heap.size,0,s) else φ q):=by
  intro q y hq
  show (if q=id then _ else _)=_
  rw[if_neg (fun e=>by rw[e,hφ] at hq; cases hq)]; exact hq
 have hG:P.globals.size≠id:=fun e=>by have:=R.handle; rw[e,hφ] at this; cases this
 have hGlt:=R.dom _ _ R.handle
 have hsz:w'.heap.size=w.heap.size+1:=by rw[hh]; simp
 have hget':∀ b,b<w.heap.size→w'.heap[b]? = w.heap[b]?:=fun b hb=>by rw[hh,Array.getElem?_push]; rw[if_neg (by omega)]
 have old:∀ q b o s',q<65536→q≠id→(V'.get q).live=true→(fun q=>if q=id then some (w.heap.size,0,s) else φ q) q=some (b,o,s')→φ q=some (b,o,s')∧(V.get q).live=true∧b<w.heap.size:=by
  intro q b' o' s' hq hne hl hq2
  rw[hget q hq,if_neg hne] at hl
  have hq3:φ q=some (b',o',s'):=by simpa[hne] using hq2
  exact ⟨hq3,hl,R.heap q b' o' s' hq3 (fun e=>by rw[e,R.nohandle] at hl; cases hl)⟩
 refine ⟨⟨by rw[hn]; exact hb,?_,?_,ext _ _ R.handle,?_,?_,?_,?_,?_,fun b' o' hb'=>by rw[hget' b' (R.held_lt hb')]; exact R.held b' o' hb',fun q b' o' s' hq hw hφ'=>by
  rw[hn] at hq
  by_cases e:q=id
  · simp[e] at hφ'
    exact R.free (by omega)
  · obtain ⟨h3,_,_⟩:=old q _ _ _ (by omega) e (Blk.live_of_wr hw) hφ'
    rw[hget q (by omega),if_neg e] at hw
    exact R.apart q b' o' s' hq hw h3,fun hs=>by
  have hid:(0:Nat)≠id:=fun e=>by obtain ⟨x,hx⟩:=R.zero; rw[e,hφ] at hx; cases hx
  rw[hget 0 (by omega),if_neg hid]; exact R.mode hs⟩,fun p x hp=>ext p x (h.ext p x hp),by rw[hn]; exact h.next,?_,?_,?_,?_,?_,by rw[hsz]; exact Nat.le_succ_of_le h.size,hos.trans h.os,hout.trans h.out,ht.trans h.tape⟩
 · intro q y hq
   rw[hn]
   by_cases e:q=id
   · omega
   · exact R.dom q y (by simpa[e] using hq)
 · intro q b' o' s' hq hne
   by_cases e:q=id
   · simp[e] at hq; omega
   · have hq':φ q=some (b',o',s'):=by simpa[e] using hq
     have:=R.heap q b' o' s' hq' hne; omega
 · rw[hget _ (by omega),if_neg hG]; exact R.nohandle
 · intro g hg
   obtain ⟨sz,hsz⟩:=R.glob g hg
   exact ⟨sz,ext _ _ hsz⟩
 · intro q hq
   rw[hn] at hq
   rw[hget q (by omega)]
   by_cases e:q=id
   · rw[if_pos e,e]; exact hx
   · rw[if_neg e]
     cases hl:(V.get q).live with
     |false=>rw[Blk.dead hl]; trivial
     |true=>
      refine ((R.blk q hq).mono ext).congr fun b' o' s' hφ'=>?_
      have hφq:φ q=some (b',o',s'):=by simpa[e] using hφ'
      exact hget' _ (R.heap q b' o' s' hφq (fun hG=>by rw[hG,R.nohandle] at hl; cases hl))
 · intro q q' b' o' s' o'' s'' hq hq' hne hw hl h1 h2
   rw[hn] at hq hq'
   by_cases e1:q=id
   · have e2:q'≠id:=fun e=>hne (e1.trans e.symm)
     obtain ⟨_,_,h5⟩:=old q' _ _ _ (by omega) e2 hl h2
     simp[e1] at h1; omega
   · obtain ⟨h3,h4,h5⟩:=old q _ _ _ (by omega) e1 (Blk.live_of_wr hw) h1
     by_cases e2:q'=id
     · simp[e2] at h2; omega
     · obtain ⟨h6,h7,h8⟩:=old q' _ _ _ (by omega) e2 hl h2
       rw[hget q (by omega),if_neg e1] at hw
       exact R.inj q q' b' o' s' o'' s'' hq hq' hne hw h7 h3 h6
 · intro q h3 h4
   rw[hn] at h3
   rw[hget q h4,if_neg (by omega)]; exact R.clean q h3 h4
 · intro q y hq
   by_cases e:q=id
   · right; omega
   · exact h.fresh q y (by simpa[e] using hq)
 · intro q hq hl
   rw[hget q (by have:=h.next; omega),if_neg (by omega)] at hl
   exact h.live q hq hl
 · intro q hq hl
   rw[hget q (by have:=h.next; omega),if_neg (by omega)] at hl
   exact h.wr q hq hl
 · intro q b' o' s' h3 h4 h5 h6 h7
   rw[hn] at h4
   by_cases e:q=id
   · simp[e] at h6
     have:=h.size; omega
   · obtain ⟨h8,h9,_⟩:=old q _ _ _ (by omega) e h5 h6
     exact h.img q b' o' s' h3 h4 h9 h8 h7
 · intro b' hb' hno
   rw[hget' b' (Nat.lt_of_lt_of_le hb' h.size)]
   exact h.frame b' hb' hno
theorem Step.framed {V F M V':Mem} {φ':Phi} {w':World} (RV:Rel P φ V w) (hFn:F.next=V.next) (hF:∀ p,p<65536→F.get p=V.get p∨F.get p=.none) (h:Step P φ F w φ' M w')
 (hn:V'.next=M.next) (hE:∀ p,p<65536→(p<V.next∧F.get p=.none∧(V.get p).live=true→V'.get p=V.get p)∧(¬ (p<V.next∧F.get p=.none∧(V.get p).live=true)→V'.get p=M.get p)) :
 Step P φ V w φ' V' w':=by
 have hb:=RV.bound
 have hMb:=h.rel.bound
 have hnx:=h.next
 have same:∀ p,p<65536→(F.get p).live=true→F.get p=V.get p:=by
  intro p hp hl
  rcases hF p hp with h1|h1
  · exact h1
  · rw[h1] at hl; cases hl
 have eat:∀ p,p<V.next→F.get p=.none→(V.get p).live=true→∃ b o s,φ p=some (b,o,s)∧b<w.heap.size∧w'.heap[b]? = w.heap[b]?∧(∀ q o' s',q<F.next→(F.get q).wr=true→φ q≠some (b,o',s')):=by
  intro p hp hf hl
  obtain ⟨b,o,s,hφ⟩:=(RV.blk p hp).at_ hl
  have hbs:=RV.heap p b o s hφ (fun e=>by rw[e,RV.nohandle] at hl; cases hl)
  have hno:∀ q o' s',q<F.next→(F.get q).wr=true→φ q≠some (b,o',s'):=by
   intro q o' s' hq hw hφq
   have hs:=same q (by omega) (Blk.live_of_wr hw)
   exact RV.inj q p b o' s' o s (by omega) hp (fun e=>by rw[e,hf] at hw; cases hw) (by rw[← hs]; exact hw) hl hφq hφ
  exact ⟨b,o,s,hφ,hbs,h.frame b hbs fun q o' s' hq hw=>hno q o' s' hq hw,hno⟩
 have old:∀ q b o s,q<F.next→φ' q=some (b,o,s)→φ q=some (b,o,s):=by
  intro q b o s hq hφ
  rcases h.fresh q _ hφ with h1|h1
  · exact h1
  · omega
 have apart:∀ p q b o s o' s',p<V.next→F.get p=.none→(V.get p).live=true→q<M.next→(M.get q).live=true→((V.get p).wr=true∨(M.get q).wr=true)→p≠q→
  φ' p=some (b,o,s)→φ' q=some (b,o',s')→False:=by
  intro p q b o s o' s' hp hf hl hq hql hw hne h1 h2
  obtain ⟨b1,o1,s1,g1,g2,g3,g4⟩:=eat p hp hf hl
  have:=h.ext p _ g1
  rw[h1] at this; cases this
  rcases Nat.lt_or_ge q F.next with h3|h3
  · have h4:=old q _ _ _ h3 h2
    have hFl:=h.live q h3 hql
    have hs:=same q (by omega) hFl
    rcases hw with hw|hw
    · exact RV.inj p q b o s o' s' hp (by omega) hne hw (by rw[← hs]; exact hFl) g1 h4
    · exact g4 q o' s' h3 (h.wr q h3 hw) h4
  · obtain ⟨q0,o0,s0,h4,h5,h6⟩:=h.img q b o' s' h3 hq hql h2 g2
    exact g4 q0 o0 s0 h4 h5 h6
 refine ⟨⟨by rw[hn]; exact hMb,fun p x hp=>by rw[hn]; exact h.rel.dom p x hp,h.rel.heap,h.rel.handle,?_,h.rel.glob,?_,?_,?_,h.rel.held,fun p b o s hp hw hφ=>by
  rw[hn] at hp
  by_cases e:p<V.next∧F.get p=.none∧(V.get p).live=true
  · rw[(hE p (by omega)).1 e] at hw
    obtain ⟨b1,o1,s1,g1,_⟩:=eat p e.1 e.2.1 e.2.2
    have g2:=h.ext p _ g1
    rw[hφ] at g2; cases g2
    exact RV.apart p b o s e.1 hw g1
  · rw[(hE p (by omega)).2 e] at hw
    exact h.rel.apart p b o s hp hw hφ,fun hs=>Blk.dead_of fun hl=>by
  have hV:=RV.mode hs
  by_cases e:0<V.next∧F.get 0=.none∧(V.get 0).live=true
  · rw[e.2.2] at hV; cases hV
  · rw[(hE 0 (by omega)).2 e,h.rel.mode hs] at hl; cases hl⟩,h.ext,by omega,fun p x hp=>by rw[← hFn]; exact h.fresh p x hp,?_,?_,?_,?_,h.size,h.os,h.out,h.tape⟩
 · have hG:=h.rel.dom _ _ h.rel.handle
   rw[(hE _ (by omega)).2 (fun e=>by rw[RV.nohandle] at e; cases e.2.2)]
   exact h.rel.nohandle
 · intro p hp
   rw[hn] at hp
   by_cases e:p<V.next∧F.get p=.none∧(V.get p).live=true
   · rw[(hE p (by omega)).1 e]
     obtain ⟨b,o,s,g1,g2,g3,g4⟩:=eat p e.1 e.2.1 e.2.2
     refine ((RV.blk p e.1).mono h.ext).congr fun b' o' s' hφ=>?_
     have:=h.ext p _ g1
     rw[hφ] at this; cases this
     exact g3
   · rw[(hE p (by omega)).2 e]; exact h.rel.blk p hp
 · intro p q b o s o' s' hp hq hne hw hl h1 h2
   rw[hn] at hp hq
   by_cases e1:p<V.next∧F.get p=.none∧(V.get p).live=true
   · rw[(hE p (by omega)).1 e1] at hw
     by_cases e2:q<V.next∧F.get q=.none∧(V.get q).live=true
     · obtain ⟨b1,o1,s1,g1,_⟩:=eat p e1.1 e1.2.1 e1.2.2
       obtain ⟨b2,o2,s2,g2,_⟩:=eat q e2.1 e2.2.1 e2.2.2
       have g1':=h.ext p _ g1
       have g2':=h.ext q _ g2
       rw[h1] at g1'; cases g1'
       rw[h2] at g2'; cases g2'
       exact RV.inj p q b o s o' s' e1.1 e2.1 hne hw e2.2.2 g1 g2
     · rw[(hE q (by omega)).2 e2] at hl
       exact apart p q b o s o' s' e1.1 e1.2.1 e1.2.2 hq hl (.inl hw) hne h1 h2
   · rw[(hE p (by omega)).2 e1] at hw
     by_cases e2:q<V.next∧F.get q=.none∧(V.get q).live=true
     · exact apart q p b o' s' o s e2.1 e2.2.1 e2.2.2 hp (Blk.live_of_wr hw) (.inr hw) (Ne.symm hne) h2 h1
     · rw[(hE q (by omega)).2 e2] at hl
       exact h.rel.inj p q b o s o' s' hp hq hne hw hl h1 h2
 · intro p hp hlt
   rw[hn] at hp
   rw[(hE p hlt).2 (fun e=>by omega)]
   exact h.rel.clean p hp hlt
 · intro p hp hl
   by_cases e:p<V.next∧F.get p=.none∧(V.get p).live=true
   · exact e.2.2
   · rw[(hE p (by omega)).2 e] at hl
     have:=h.live p (by omega) hl
     rw[← same p (by omega) this]; exact this
 · intro p hp hl
   by_cases e:p<V.next∧F.get p=.none∧(V.get p).live=true
   · rw[(hE p (by omega)).1 e] at hl; exact hl
   · rw[(hE p (by omega)).2 e] at hl
     have:=h.wr p (by omega) hl
     rw[← same p (by omega) (Blk.live_of_wr this)]; exact this
 · intro p b o s h1 h2 h3 h4 h5
   rw[hn] at h2
   rw[(hE p (by omega)).2 (fun e=>by omega)] at h3
   obtain ⟨q,o',s',g1,g2,g3⟩:=h.img p b o s (by omega) h2 h3 h4 h5
   exact ⟨q,o',s',by omega,by rw[← same q (by omega) (Blk.live_of_wr g2)]; exact g2,g3⟩
 · intro b hb hno
   exact h.frame b hb fun q o s hq hw=>hno q o s (by omega) (by rw[← same q (by omega) (Blk.live_of_wr hw)]; exact hw)
end Go.AM
namespace Go.AM
variable [Tok]
variable {P:Program}
theorem tb_eq (m n:Nat):tb m n=m.testBit n:=by
 have h1:tb m n=Nat.beq (Nat.land (Nat.shiftRight m n) 1) 1:=rfl
 have h2:Nat.land (Nat.shiftRight m n) 1=(m >>> n) &&& 1:=rfl
 rw[h1,h2]
 have h3:m.testBit n=((m >>> n) &&& 1 != 0):=by
  rw[Nat.testBit]; rw[Nat.and_comm]
 rw[h3]
 have h4:(m >>> n) &&& 1=(m >>> n) % 2:=Nat.and_one_is_mod _
 rw[h4]
 rcases Nat.mod_two_eq_zero_or_one (m >>> n) with h|h<;>rw[h]<;>rfl
theorem bit_eq (n:Nat):bit n=2 ^ n:=rfl
theorem tb_lor (a b n:Nat):tb (Nat.lor a b) n=(tb a n||tb b n):=by
 rw[tb_eq,tb_eq,tb_eq]; exact Nat.testBit_or a b n
theorem tb_bit (a n:Nat):tb (bit a) n=true ↔ a=n:=by
 rw[tb_eq,bit_eq,Nat.testBit_two_pow]; simp
theorem fold_bits:∀ (l:List Tmp) (s:Nat) (t:Nat),(t∈l∨tb s t=true)→tb (l.foldl (fun s t=>Nat.lor s (bit t)) s) t=true
 | [],s,t,h=>by rcases h with h|h; cases h; exact h
 |x::l,s,t,h=>by
  refine fold_bits l _ t ?_
  rcases h with h|h
  · cases h with
    |head=>right; rw[tb_lor,(tb_bit _ _).2 rfl]; simp
    |tail _ h=>exact .inl h
  · right; rw[tb_lor,h]; rfl
theorem looks_bit {ops:Array Oper} {o:Oper} {t:Nat} (h:t∈o.looksAt ops):tb (zBr ops o) t=true:=fold_bits _ 0 t (.inl h)
theorem dst_bit {o:Oper} {t:Nat} (h:o.dst=some t):tb (ZBu o) t=true:=by
 unfold ZBu; rw[h]; exact (tb_bit t t).2 rfl
def Apart (ops:Array Oper) (x y:Oper):Prop:=(∀ d,x.dst=some d→d ∉ y.looksAt ops∧y.dst≠some d)∧(∀ d,y.dst=some d→d ∉ x.looksAt ops∧x.dst≠some d)
theorem Apart.symm {ops:Array Oper} {x y:Oper} (h:Apart ops x y):Apart ops y x:=⟨h.2,h.1⟩
theorem land_zero {a b n:Nat} (h:Nat.land a b=0) (ha:tb a n=true) (hb:tb b n=true):False:=by
 have h1:(Nat.land a b).testBit n=true:=by
  have:=Nat.testBit_and a b n
  rw[tb_eq] at ha hb
  rw[ha,hb] at this
  exact this
 rw[h] at h1; simp at h1
theorem clash_apart {ops:Array Oper} {x y:Oper} (h:clash (zBr ops x,ZBu x) (zBr ops y,ZBu y)=false):Apart ops x y:=by
 unfold clash at h
 simp only[Bool.not_eq_false',beq_true] at h
 obtain ⟨h1,h2⟩:Nat.land (ZBu x) (Nat.lor (zBr ops y) (ZBu y))=0∧Nat.land (ZBu y) (zBr ops x)=0:=by
  constructor
  · apply Nat.eq_of_testBit_eq
    intro i
    have:=congrArg (fun n=>Nat.testBit n i) h
    simp only[Nat.zero_testBit] at this ⊢
    have h3:=Nat.testBit_or (Nat.land (ZBu x) (Nat.lor (zBr ops y) (ZBu y))) (Nat.land (ZBu y) (zBr ops x)) i
    change Nat.testBit (Nat.lor _ _) i=_ at h3
    rw[this] at h3
    exact (Bool.or_eq_false_iff.1 h3.symm).1
  · apply Nat.eq_of_testBit_eq
    intro i
    have:=congrArg (fun n=>Nat.testBit n i) h
    simp only[Nat.zero_testBit] at this ⊢
    have h3:=Nat.testBit_or (Nat.land (ZBu x) (Nat.lor (zBr ops y) (ZBu y))) (Nat.land (ZBu y) (zBr ops x)) i
    change Nat.testBit (Nat.lor _ _) i=_ at h3
    rw[this] at h3
    exact (Bool.or_eq_false_iff.1 h3.symm).2
 refine ⟨fun d hd=>⟨fun hl=>?_,fun hy=>?_⟩,fun d hd=>⟨fun hl=>?_,fun hy=>?_⟩⟩
 · exact land_zero h1 (dst_bit hd) (by rw[tb_lor,looks_bit hl]; rfl)
 · exact land_zero h1 (dst_bit hd) (by rw[tb_lor,dst_bit hy]; simp)
 · exact land_zero h2 (dst_bit hd) (looks_bit hl)
 · exact land_zero h1 (dst_bit hy) (by rw[tb_lor,dst_bit hd]; simp)
theorem putV_comm {d e:D16} (h:d≠e) (u v:AVal) (t:N16 AVal):putV d u (putV e v t)=putV e v (putV d u t):=by
 cases d<;>cases e<;>first|rfl|exact absurd rfl h
theorem putR_comm {d e:D16} (h:d≠e) (u v:N16 AVal) (t:N16 (N16 AVal)):putR d u (putR e v t)=putR e v (putR d u t):=by
 cases d<;>cases e<;>first|rfl|exact absurd rfl h
theorem putR_put (d:D16) (u v:N16 AVal) (t:N16 (N16 AVal)):putR d u (putR d v t)=putR d u t:=by
 cases d<;>rfl
theorem putQ_comm {d e:D16} (h:d≠e) (u v:N16 (N16 AVal)) (t:Regs):putQ d u (putQ e v t)=putQ e v (putQ d u t):=by
 cases d<;>cases e<;>first|rfl|exact absurd rfl h
theorem putQ_put (d:D16) (u v:N16 (N16 AVal)) (t:Regs):putQ d u (putQ d v t)=putQ d u t:=by
 cases d<;>rfl
theorem rput_comm {d e:Nat} (h:d≠e) (hd:d<4096) (he:e<4096) (u v:AVal) (r:Regs):rput d u (rput e v r)=rput e v (rput d u r):=by
 unfold rput
 by_cases h2:dig (Nat.div d 256)=dig (Nat.div e 256)
 · rw[h2,selQ_same,selQ_same,putQ_put,putQ_put]
   congr 1
   by_cases h1:dig (Nat.div d 16)=dig (Nat.div e 16)
   · have h0:dig d≠dig e:=by
      intro h0
      have e2:=dig_inj h2; have e1:=dig_inj h1; have e0:=dig_inj h0
      have d2:∀ n,Nat.div n 256=n / 256:=fun _=>rfl
      have d1:∀ n,Nat.div n 16=n / 16:=fun _=>rfl
      rw[d2,d2] at e2
      rw[d1,d1] at e1
      omega
     rw[h1,selR_same,selR_same,putR_put,putR_put,putV_comm h0]
   · rw[selR_ne _ _ (fun e=>h1 e.symm),selR_ne _ _ h1,putR_comm h1]
 · rw[selQ_ne _ _ (fun e=>h2 e.symm),selQ_ne _ _ h2,putQ_comm h2]
section
variable {nt:Nat} (hnt:nt≤4096)
include hnt
theorem dst_comm {x y:Option Tmp} (h:∀ d,x=some d→y≠some d) (u v:AVal) (r:Regs):(cDst nt x).run u ((cDst nt y).run v r)=(cDst nt y).run v ((cDst nt x).run u r):=by
 cases x with
 |none=>rfl
 |some d=>
  cases y with
  |none=>rfl
  |some e=>
   have hne:d≠e:=fun e'=>h d rfl (by rw[e'])
   have hr:∀ (d:Tmp) v r,(cDst nt (some d)).run v r=if d<nt then rput d v r else r:=by
    intro d v r
    show (if d<nt then (⟨fun v r=>rput d v r⟩:DstC) else ⟨fun _ r=>r⟩).run v r=_
    split<;>rfl
   rw[hr,hr,hr,hr]
   by_cases h1:d<nt
   · by_cases h2:e<nt
     · rw[if_pos h1,if_pos h2,if_pos h2,if_pos h1]
       exact rput_comm hne (Nat.lt_of_lt_of_le h1 hnt) (Nat.lt_of_lt_of_le h2 hnt) u v r
     · rw[if_neg h2,if_neg h2]
   · rw[if_neg h1,if_neg h1]
theorem opd_put_ne {x:Option Tmp} {t:Nat} (h:x≠some t) (u:AVal) (r:Regs):(opd (.tmp t)).get ((cDst nt x).run u r)=(opd (.tmp t)).get r:=by
 cases x with
 |none=>rfl
 |some d=>
  have hr:(cDst nt (some d)).run u r=if d<nt then rput d u r else r:=by
   show (if d<nt then (⟨fun v r=>rput d v r⟩:DstC) else ⟨fun _ r=>r⟩).run u r=_
   split<;>rfl
  rw[hr]
  by_cases h1:d<nt
  · rw[if_pos h1,opd_tmp,opd_tmp]
    by_cases h2:t<4096
    · rw[if_pos h2,if_pos h2,rget_rput _ _ _ _ (Nat.lt_of_lt_of_le h1 hnt) h2,if_neg (fun e=>h (by rw[e]))]
    · rw[if_neg h2,if_neg h2]
  · rw[if_neg h1]
theorem agree_put {ops:Array Oper} {o:Oper} {x:Option Tmp} (h:∀ d,x=some d→d ∉ o.looksAt ops) (u:AVal) (r:Regs):ZAp o ((cDst nt x).run u r) r:=by
 intro y hy
 cases y with
 |tmp t=>
  refine opd_put_ne hnt (fun e=>h t e ?_) u r
  unfold Oper.looksAt
  exact List.mem_append_left _ (List.mem_filterMap.2 ⟨.tmp t,Array.mem_toList_iff.2 hy,rfl⟩)
 |const v=>rfl
 |global g=>rfl
 |func f=>rfl
theorem guard_put {ops:Array Oper} {o:Oper} {x:Option Tmp} (h:∀ d,x=some d→d ∉ o.looksAt ops) (u:AVal) (r:Regs):(cGuard ops o.guard).run ((cDst nt x).run u r)=(cGuard ops o.guard).run r:=by
 cases hg:o.guard with
 |none=>rfl
 |some p=>
  obtain ⟨j,want⟩:=p
  unfold cGuard
  simp only
  cases hd:(ops[j]?).bind (·.dst) with
  |none=>rfl
  |some d=>
   have hne:x≠some d:=fun e=>h d e (by
    unfold Oper.looksAt
    rw[hg]
    simp only[hd]
    exact List.mem_append_right _ (by simp))
   have:=opd_put_ne hnt hne u r
   cases want with
   |true=>funext k; show ((opd (.tmp d)).get _).onYes k=((opd (.tmp d)).get _).onYes k; rw[this]
   |false=>funext k; show ((opd (.tmp d)).get _).onNo k=((opd (.tmp d)).get _).onNo k; rw[this]
end
theorem guard_det {ops:Array Oper} {g:Option (Nat×Bool)} {r:Regs} {k:Bool→R} {v:AVal} {mf:Mem} (h:(cGuard ops g).run r k=.ok v mf) :
 ∃ b,k b=.ok v mf∧∀ k':Bool→R,(cGuard ops g).run r k'=k' b:=by
 cases g with
 |none=>exact ⟨true,h,fun _=>rfl⟩
 |some p=>
  obtain ⟨j,want⟩:=p
  unfold cGuard at h ⊢
  simp only at h ⊢
  cases hd:(ops[j]?).bind (·.dst) with
  |none=>rw[hd] at h; exact ⟨false,h,fun _=>rfl⟩
  |some d=>
   rw[hd] at h
   cases want with
   |true=>
    change ((opd (.tmp d)).get r).onYes k=_ at h
    have:∃ b,k b=.ok v mf∧∀ k':Bool→R,((opd (.tmp d)).get r).onYes k'=k' b:=by
     generalize (opd (.tmp d)).get r=x at h
     cases x<;>first|(cases h; done)|exact ⟨_,h,fun _=>rfl⟩
    exact this
   |false=>
    change ((opd (.tmp d)).get r).onNo k=_ at h
    have:∃ b,k b=.ok v mf∧∀ k':Bool→R,((opd (.tmp d)).get r).onNo k'=k' b:=by
     generalize (opd (.tmp d)).get r=x at h
     cases x<;>first|(cases h; done)|exact ⟨_,h,fun _=>rfl⟩
    exact this
end Go.AM
namespace Go.AM
variable [Tok]
variable {P:Program}
structure St where
 r:Regs
 m:Mem
 p:Pend
 c:Chk
structure Out where
 u:AVal
 pb:Option Blk
 cb:Option (AVal×AVal)
 hm:Option Mem
section
variable (P:Program) (K:KH) (nt:Nat) (ops:Array Oper) (A:List Nat) (al:List (Nat×Nat)) (base:Nat)
def csOf:List OpC:=ops.toList.map (cOper P)
def reOf (i:Nat):RechkC:=rechecks (readsOf (zBa A i) (csOf P ops).zipIdx)
def CondT (i:Nat):OpC→St→Out→Prop
 | .pure f,s,x=>(∃ m1,f s.r (fun v=>.ok v Mem.zero)=.ok x.u m1)∧x.pb=none∧x.cb=none∧x.hm=none
 | .read a f,s,x=>(∃ m1,f (a.get s.r) s.m (fun v=>.ok v Mem.zero)=.ok x.u m1)∧x.pb=none∧x.cb=some (a.get s.r,x.u)∧x.hm=none
 | .alloc f,s,x=>∃ e,al.find? (fun e=>Nat.beq e.1 i)=some e∧(∃ m1,f s.r (Nat.add base e.2) (fun v b=>.ok v (Mem.zero.put (Nat.add base e.2) b))=.ok x.u m1∧x.pb=some (m1.get (Nat.add base e.2)))∧x.cb=none∧x.hm=none
 | .heavy f,s,x=>∃ m1,f K s.r (flushM base (zBa A i) s.p al s.m) (fun v m=>.ok v m)=.ok x.u m1∧(∃ u2 m2,(reOf P ops A i).run m1 s.c=.ok u2 m2)∧x.pb=none∧x.cb=none∧x.hm=some m1
 | .bad _,_,_=>False
def Cond (i:Nat) (o:Oper) (s:St) (x:Out):Prop:=
 ((∀ k',(cGuard ops o.guard).run s.r k'=k' false)∧x=⟨zBi,none,none,none⟩)∨((∀ k',(cGuard ops o.guard).run s.r k'=k' true)∧CondT P K ops A al base i (cOper P o) s x)
def zCt (i:Nat) (o:Oper) (s:St) (x:Out):St:=
 ⟨(cDst nt o.dst).run x.u s.r,x.hm.getD s.m,match x.pb with|some b=>setF i b s.p|none=>if x.hm.isSome then dropF (zBa A i) s.p else s.p,match x.cb with|some y=>setF i (some y) s.c|none=>s.c⟩
def Eff (i:Nat) (s s':St):Prop:=∃ o,ops[i]? = some o∧∃ x,Cond P K ops A al base i o s x∧s'=zCt nt A i o s x
def Runs:List Nat→St→St→Prop
 | [],s,s'=>s=s'
 |i::l,s,s'=>∃ s1,Eff P K nt ops A al base i s s1∧Runs l s1 s'
end
section
variable {K:KH} {nt:Nat} {ops:Array Oper} {A:List Nat} {al:List (Nat×Nat)} {base:Nat}
theorem dAct_ok {i:Nat} {o:Oper} {s:St} {k:DCt} {v:AVal} {mf:Mem} (h:(dAct (cDst nt o.dst) al (reOf P ops A i) (zBa A i) i (cOper P o)).run K base s.r s.m s.p s.c k=.ok v mf) :
 ∃ x,CondT P K ops A al base i (cOper P o) s x∧k (zCt nt A i o s x).r (zCt nt A i o s x).m (zCt nt A i o s x).p (zCt nt A i o s x).c=.ok v mf:=by
 cases hc:cOper P o with
 |pure f=>
  rw[hc] at h
  obtain ⟨u,m1,h1,h2⟩:=andThen_ok h
  exact ⟨⟨u,none,none,none⟩,⟨⟨m1,h1⟩,rfl,rfl,rfl⟩,h2⟩
 |read a f=>
  rw[hc] at h
  obtain ⟨u,m1,h1,h2⟩:=andThen_ok h
  exact ⟨⟨u,none,some (a.get s.r,u),none⟩,⟨⟨m1,h1⟩,rfl,rfl,rfl⟩,h2⟩
 |alloc f=>
  rw[hc] at h
  simp only[dAct] at h
  cases he:al.find? (fun e=>Nat.beq e.1 i) with
  |none=>rw[he] at h; cases h
  |some e=>
   rw[he] at h
   obtain ⟨u,m1,h1,h2⟩:=andThen_ok h
   exact ⟨⟨u,some (m1.get (Nat.add base e.2)),none,none⟩,⟨e,he,⟨m1,h1,rfl⟩,rfl,rfl⟩,h2⟩
 |heavy f=>
  rw[hc] at h
  obtain ⟨u,m1,h1,h2⟩:=andThen_ok h
  obtain ⟨u2,m2,h3,h4⟩:=andThen_ok h2
  exact ⟨⟨u,none,none,some m1⟩,⟨m1,h1,⟨u2,m2,h3⟩,rfl,rfl,rfl⟩,h4⟩
 |bad n=>rw[hc] at h; cases h
theorem eff_of_run {i:Nat} {s:St} {k:DCt} {v:AVal} {mf:Mem} (h:(dOne nt ops (csOf P ops) A al i).run K base s.r s.m s.p s.c k=.ok v mf) :
 ∃ s',Eff P K nt ops A al base i s s'∧k s'.r s'.m s'.p s'.c=.ok v mf:=by
 unfold dOne at h
 cases ho:ops[i]? with
 |none=>rw[ho] at h; cases h
 |some o=>
  have hcs:(csOf P ops)[i]? = some (cOper P o):=by
   unfold csOf
   rw[List.getElem?_map,Array.getElem?_toList,ho]; rfl
  rw[ho,hcs] at h
  simp only at h
  unfold guarded at h
  split at h
  · rename_i hg
    obtain ⟨x,h1,h2⟩:=dAct_ok h
    exact ⟨_,⟨o,ho,x,.inr ⟨fun k'=>by rw[hg]; rfl,h1⟩,rfl⟩,h2⟩
  · obtain ⟨b,h1,h2⟩:=guard_det h
    cases b with
    |true=>
     obtain ⟨x,h3,h4⟩:=dAct_ok h1
     exact ⟨_,⟨o,ho,x,.inr ⟨h2,h3⟩,rfl⟩,h4⟩
    |false=>exact ⟨_,⟨o,ho,⟨zBi,none,none,none⟩,.inl ⟨h2,rfl⟩,rfl⟩,h1⟩
theorem runs_of_seq:∀ {l:List Nat} {s:St} {k:DCt} {v:AVal} {mf:Mem},(dSeq (dOne nt ops (csOf P ops) A al) l).run K base s.r s.m s.p s.c k=.ok v mf→
 ∃ s',Runs P K nt ops A al base l s s'∧k s'.r s'.m s'.p s'.c=.ok v mf
 | [],s,k,v,mf,h=>⟨s,rfl,h⟩
 |i::l,s,k,v,mf,h=>by
  obtain ⟨s1,h1,h2⟩:=eff_of_run h
  obtain ⟨s2,h3,h4⟩:=runs_of_seq h2
  exact ⟨s2,⟨s1,h1,h3⟩,h4⟩
theorem ZAf:∀ (d:Nat) (x y:AVal),aeqN d x y=true→x=y
 |0,x,y,h=>by cases h
 |d+1,x,y,h=>by
  have zip:∀ (a b:List AVal),zipAll (aeqN d) a b=true→a=b:=by
   intro a
   induction a with
   |nil=>intro b h; cases b with
    |nil=>rfl
    |cons y l=>cases h
   |cons x a ih=>intro b h; cases b with
    |nil=>cases h
    |cons y l=>
     have h':zAc (zipAll (aeqN d) a l) false (aeqN d x y)=true:=h
     cases hx:aeqN d x y with
     |false=>rw[hx] at h'; cases h'
     |true=>rw[hx] at h'; rw[ZAf d x y hx,ih l h']
  have bools:∀ (a b:Bool),zAc b (not b) a=true→a=b:=by intro a b h; cases a<;>cases b<;>first|rfl|cases h
  cases x<;>cases y<;>simp only[aeqN,Bool.and_eq_true,beq_true,Bool.false_eq_true] at h<;>first
   |rfl
   |(obtain ⟨h1,h2⟩:=h; rw[zCz h1]; rw[ieq_eq] at h2; rw[eq_of_beq h2])
   |(rw[listEq_iff.1 h])
   |(rw[bools _ _ h])
   |(obtain ⟨⟨⟨h1,h2⟩,h3,h4⟩,h5,h6⟩:=h; rw[h1,h2,h3,h4,bools _ _ h5,h6])
   |(obtain ⟨h1,h2⟩:=h; rw[zCz h1,h2])
   |(obtain ⟨h1,h2⟩:=h; rw[h1,h2])
   |(rw[h])
   |(obtain ⟨h1,h2⟩:=h; rw[h1,zip _ _ h2])
   |(obtain ⟨h1,h2⟩:=h; rw[h1,ZAf d _ _ h2])
   |(rw[zip _ _ h])
theorem rechecks_ok:∀ {l:List (Nat×(AVal→Mem→(AVal→R)→R))} {m:Mem} {c:Chk} {u:AVal} {m2:Mem},(rechecks l).run m c=.ok u m2→
 ∀ j f a v,(j,f)∈l→c j=some (a,v)→∃ m1,f a m (fun v=>.ok v Mem.zero)=.ok v m1
 | [],_,_,_,_,_,j,f,a,v,hm,_=>by cases hm
 |(i,g)::l,m,c,u,m2,h,j,f,a,v,hm,hc=>by
  unfold rechecks at h
  simp only at h
  cases hci:c i with
  |none=>
   rw[hci] at h
   cases hm with
   |head=>rw[hc] at hci; cases hci
   |tail _ hm=>exact rechecks_ok h j f a v hm hc
  |some av=>
   rw[hci] at h
   obtain ⟨v',m1,h1,h2⟩:=andThen_ok h
   obtain ⟨h3,h4⟩:=zAm h2
   cases hm with
   |head=>
    rw[hc] at hci; cases hci
    have:=ZAf _ _ _ h3
    simp only at this
    subst this
    exact ⟨m1,h1⟩
   |tail _ hm=>exact rechecks_ok h4 j f a v hm hc
theorem rechecks_less:∀ {l:List (Nat×(AVal→Mem→(AVal→R)→R))} {m:Mem} {c:Chk} {u:AVal} {m2:Mem} {x:Nat} {y:AVal×AVal},c x=none→(rechecks l).run m (setF x (some y) c)=.ok u m2→
 ∃ u m2,(rechecks l).run m c=.ok u m2
 | [],m,c,u,m2,x,y,_,h=>⟨u,m2,h⟩
 |(i,g)::l,m,c,u,m2,x,y,hx,h=>by
  have hset:setF x (some y) c i=if i=x then some y else c i:=by
   show zAc (some y) (c i) (Nat.beq i x)=_
   by_cases e:i=x
   · rw[beq_true.2 e,if_pos e]; rfl
   · have:Nat.beq i x=false:=by
      cases hb:Nat.beq i x with
      |false=>rfl
      |true=>exact absurd (beq_true.1 hb) e
     rw[this,if_neg e]; rfl
  unfold rechecks at h ⊢
  simp only at h ⊢
  rw[hset] at h
  by_cases e:i=x
  · rw[if_pos e] at h
    obtain ⟨v',m1,h1,h2⟩:=andThen_ok h
    obtain ⟨h3,h4⟩:=zAm h2
    rw[e,hx]
    exact rechecks_less hx h4
  · rw[if_neg e] at h
    cases hci:c i with
    |none=>rw[hci] at h; exact rechecks_less hx h
    |some av=>
     rw[hci] at h
     obtain ⟨v',m1,h1,h2⟩:=andThen_ok h
     obtain ⟨h3,h4⟩:=zAm h2
     obtain ⟨u3,m3,h5⟩:=rechecks_less hx h4
     refine ⟨u3,m3,?_⟩
     show R.andThen _ _=_
     rw[h1]
     show zAc _ _ _=_
     rw[h3]; exact h5
theorem readsOf_mem {a:Nat}:∀ {l:List (OpC×Nat)} {x:Od} {f:AVal→Mem→(AVal→R)→R} {j:Nat},(OpC.read x f,j)∈l→tb a j=false→(j,f)∈readsOf a l
 |(oc,i)::l,x,f,j,hm,ht=>by
  cases hm with
  |head=>
   show _∈zAc _ _ (tb a _)
   rw[ht]; exact List.mem_cons_self ..
  |tail _ hm=>
   have ih:=readsOf_mem hm ht
   cases oc with
   |read y g=>
    show (j,f)∈zAc (readsOf a l) ((i,g)::readsOf a l) (tb a i)
    cases tb a i with
    |true=>exact ih
    |false=>exact List.mem_cons_of_mem _ ih
   |_=>exact ih
end
end Go.AM
namespace Go.AM
variable [Tok]
variable {P:Program}
section
variable {K:KH} {nt:Nat} {ops:Array Oper} {A:List Nat} {al:List (Nat×Nat)} {base:Nat}
theorem ZCj {α:Type} (i:Nat) (x:α) (p:Nat→α) (j:Nat):setF i x p j=if j=i then x else p j:=by
 show zAc x (p j) (Nat.beq j i)=_
 by_cases e:j=i
 · rw[beq_true.2 e,if_pos e]; rfl
 · have:Nat.beq j i=false:=by
    cases hb:Nat.beq j i with
    |false=>rfl
    |true=>exact absurd (beq_true.1 hb) e
   rw[this,if_neg e]; rfl
theorem dropF_at (a:Nat) (p:Pend) (j:Nat):dropF a p j=if tb a j=true then .none else p j:=by
 show zAc Blk.none (p j) (tb a j)=_
 cases tb a j<;>rfl
theorem setF_comm {α:Type} {i j:Nat} (h:i≠j) (x y:α) (p:Nat→α):setF i x (setF j y p)=setF j y (setF i x p):=by
 funext k
 rw[ZCj,ZCj,ZCj,ZCj]
 by_cases e1:k=i
 · rw[if_pos e1,if_neg (fun e=>h (e1.symm.trans e)),if_pos e1]
 · rw[if_neg e1,if_neg e1]
theorem dropF_setF {a i:Nat} (h:tb a i=false) (x:Blk) (p:Pend):dropF a (setF i x p)=setF i x (dropF a p):=by
 funext k
 rw[dropF_at,ZCj,ZCj,dropF_at]
 by_cases e1:k=i
 · rw[if_pos e1,if_pos e1,e1,h]; simp
 · rw[if_neg e1,if_neg e1]
theorem condT_light {i:Nat} {o:Oper} {oc:OpC} (hl:isHeavy oc=false) (hlk:ZAl o oc) {s s':St} (hag:ZAp o s'.r s.r)
 (hm:∀ a f,oc=.read a f→∀ u m1,f (a.get s.r) s.m (fun v=>.ok v Mem.zero)=.ok u m1→∃ m2,f (a.get s.r) s'.m (fun v=>.ok v Mem.zero)=.ok u m2) {x:Out} (h:CondT P K ops A al base i oc s x) :
 CondT P K ops A al base i oc s' x:=by
 cases oc with
 |pure f=>
  obtain ⟨⟨m1,h1⟩,h2⟩:=h
  exact ⟨⟨m1,by rw[hlk _ _ hag]; exact h1⟩,h2⟩
 |read a f=>
  obtain ⟨⟨m1,h1⟩,h2,h3,h4⟩:=h
  obtain ⟨m2,h5⟩:=hm a f rfl _ _ h1
  have e:a.get s'.r=a.get s.r:=hlk _ _ hag
  exact ⟨⟨m2,by rw[e]; exact h5⟩,h2,by rw[e]; exact h3,h4⟩
 |alloc f=>
  obtain ⟨e,he,⟨m1,h1,h2⟩,h3⟩:=h
  exact ⟨e,he,⟨m1,by rw[hlk _ _ hag]; exact h1,h2⟩,h3⟩
 |heavy f=>cases hl
 |bad n=>cases hl
theorem condT_hm {i:Nat} {oc:OpC} (hl:isHeavy oc=false) {s:St} {x:Out} (h:CondT P K ops A al base i oc s x):x.hm=none:=by
 cases oc with
 |pure f=>exact h.2.2.2
 |read a f=>exact h.2.2.2
 |alloc f=>obtain ⟨e,he,_,_,h4⟩:=h; exact h4
 |heavy f=>cases hl
 |bad n=>cases hl
theorem cond_hm {i:Nat} {o:Oper} (hl:isHeavy (cOper P o)=false) {s:St} {x:Out} (h:Cond P K ops A al base i o s x):x.hm=none:=by
 rcases h with ⟨_,rfl⟩|⟨_,h⟩
 · rfl
 · exact condT_hm hl h
theorem after_comm (hnt:nt≤4096) {x i:Nat} {ox oi:Oper} (hne:x≠i) (hap:Apart ops ox oi) (hnx:tb (zBa A i) x=false) {s:St} {X Y:Out} (hX:X.hm=none) (hYc:Y.hm=none∨Y.cb=none) :
 zCt nt A i oi (zCt nt A x ox s X) Y=zCt nt A x ox (zCt nt A i oi s Y) X:=by
 unfold zCt
 simp only[hX,Option.getD_none,Option.isSome_none,Bool.false_eq_true,if_false]
 congr 1
 · exact dst_comm hnt (fun d hd e=>(hap.2 d hd).2 e) Y.u X.u s.r
 · cases X.pb with
   |none=>rfl
   |some b=>
    cases Y.pb with
    |some b'=>exact setF_comm (Ne.symm hne) b' b s.p
    |none=>
     cases Y.hm with
     |none=>rfl
     |some m1=>exact dropF_setF hnx b s.p
 · cases X.cb with
   |none=>rfl
   |some b=>
    cases Y.cb with
    |some b'=>exact setF_comm (Ne.symm hne) (some b') (some b) s.c
    |none=>rfl
theorem flush_keep {mask:Nat} {x:Nat} {b:Blk} (h:tb mask x=false):∀ (l:List (Nat×Nat)) (p:Pend) (m:Mem),flushM base mask (setF x b p) l m=flushM base mask p l m
 | [],_,_=>rfl
 |(j,q)::l,p,m=>by
  show zAc (flushM base mask (setF x b p) l (putIf (Nat.add base q) (setF x b p j) m)) (flushM base mask (setF x b p) l m) (tb mask j)=zAc (flushM base mask p l (putIf (Nat.add base q) (p j) m)) (flushM base mask p l m) (tb mask j)
  cases hj:tb mask j with
  |false=>exact flush_keep h l p m
  |true=>
   have:setF x b p j=p j:=by
    rw[ZCj,if_neg (fun e=>by rw[e,h] at hj; cases hj)]
   rw[this]
   exact flush_keep h l p _
theorem exchange (hnt:nt≤4096) {x i:Nat} {ox oi:Oper} (hox:ops[x]? = some ox) (hoi:ops[i]? = some oi) (hne:x≠i) (hap:Apart ops ox oi) (hxl:isHeavy (cOper P ox)=false)
 (hnx:tb (zBa A i) x=false) {s s1 s2:St} (hcx:s.c x=none) (h1:Eff P K nt ops A al base x s s1) (h2:Eff P K nt ops A al base i s1 s2) :
 ∃ s1',Eff P K nt ops A al base i s s1'∧Eff P K nt ops A al base x s1' s2:=by
 obtain ⟨ox',hox',X,hX,rfl⟩:=h1
 rw[hox] at hox'; cases hox'
 obtain ⟨oi',hoi',Y,hY,rfl⟩:=h2
 rw[hoi] at hoi'; cases hoi'
 have hXhm:=cond_hm hxl hX
 have lkx:=cOper_looks (P:=P) ox
 have lki:=cOper_looks (P:=P) oi
 have hagi:ZAp oi s.r (zCt nt A x ox s X).r:=fun y hy=>(agree_put hnt (fun d hd=>(hap.1 d hd).1) X.u s.r y hy).symm
 have hgi:(cGuard ops oi.guard).run (zCt nt A x ox s X).r=(cGuard ops oi.guard).run s.r:=guard_put hnt (fun d hd=>(hap.1 d hd).1) X.u s.r
 have hagx:ZAp ox (zCt nt A i oi s Y).r s.r:=fun y hy=>agree_put hnt (fun d hd=>(hap.2 d hd).1) Y.u s.r y hy
 have hgx:(cGuard ops ox.guard).run (zCt nt A i oi s Y).r=(cGuard ops ox.guard).run s.r:=guard_put hnt (fun d hd=>(hap.2 d hd).1) Y.u s.r
 have hsm:(zCt nt A x ox s X).m=s.m:=by unfold zCt; simp only[hXhm,Option.getD_none]
 have hYi:Cond P K ops A al base i oi s Y:=by
  rcases hY with ⟨g,e⟩|⟨g,hT⟩
  · exact .inl ⟨by rw[← hgi]; exact g,e⟩
  · refine .inr ⟨by rw[← hgi]; exact g,?_⟩
    cases hil:isHeavy (cOper P oi) with
    |false=>
     refine condT_light hil lki hagi (fun a f he u m1 hr=>⟨m1,?_⟩) hT
     rw[hsm] at hr; exact hr
    |true=>
     cases hc:cOper P oi with
     |heavy f=>
      rw[hc] at hT lki
      obtain ⟨m1,g1,⟨u2,m2,g2⟩,g3,g4,g5⟩:=hT
      refine ⟨m1,?_,?_,g3,g4,g5⟩
      · rw[hsm] at g1
        rw[lki K _ _ hagi]
        have hfl:flushM base (zBa A i) (zCt nt A x ox s X).p al s.m=flushM base (zBa A i) s.p al s.m:=by
         unfold zCt
         simp only[hXhm,Option.isSome_none,Bool.false_eq_true,if_false]
         cases X.pb with
         |none=>rfl
         |some b=>exact flush_keep hnx al s.p s.m
        rw[hfl] at g1
        exact g1
      · have hcc:(zCt nt A x ox s X).c=match X.cb with|some y=>setF x (some y) s.c|none=>s.c:=rfl
        rw[hcc] at g2
        cases hcb:X.cb with
        |none=>rw[hcb] at g2; exact ⟨u2,m2,g2⟩
        |some y=>rw[hcb] at g2; exact rechecks_less hcx g2
     |bad n=>rw[hc] at hT; exact hT.elim
     |_=>rw[hc] at hil; cases hil
 refine ⟨_,⟨oi,hoi,Y,hYi,rfl⟩,ox,hox,X,?_,after_comm hnt hne hap hnx hXhm ?_⟩
 · rcases hX with ⟨g,e⟩|⟨g,hT⟩
   · exact .inl ⟨by rw[hgx]; exact g,e⟩
   · refine .inr ⟨by rw[hgx]; exact g,?_⟩
     refine condT_light hxl lkx hagx (fun a f he u m1 hr=>?_) hT
     cases hYm:Y.hm with
     |none=>exact ⟨m1,by show f _ (Y.hm.getD s.m) _=_; rw[hYm]; exact hr⟩
     |some mm=>
      show ∃ m2,f _ (Y.hm.getD s.m) _=_
      rw[hYm,Option.getD_some]
      rcases hY with ⟨g',e⟩|⟨g',hTi⟩
      · rw[e] at hYm; cases hYm
      · cases hc:cOper P oi with
        |heavy fi=>
         rw[hc] at hTi
         obtain ⟨m1',g1,⟨u2,m2,g2⟩,g3,g4,g5⟩:=hTi
         rw[hYm] at g5; cases g5
         rw[he] at hT
         obtain ⟨⟨m3,k1⟩,k2,k3,k4⟩:=hT
         have hu:X.u=u:=by rw[hr] at k1; cases k1; rfl
         have hcx':(zCt nt A x ox s X).c x=some (a.get s.r,u):=by
          show (match X.cb with|some y=>setF x (some y) s.c|none=>s.c) x=_
          rw[k3,hu]
          exact (ZCj x _ s.c x).trans (if_pos rfl)
         refine rechecks_ok g2 x f (a.get s.r) u ?_ hcx'
         refine readsOf_mem (x:=a) ?_ hnx
         rw[← he]
         have hxs:x<ops.size:=by
          rcases Nat.lt_or_ge x ops.size with h|h
          · exact h
          · rw[Array.getElem?_eq_none h] at hox; cases hox
         rw[List.mem_zipIdx_iff_getElem?]
         unfold csOf
         rw[List.getElem?_map,Array.getElem?_toList,hox]; rfl
        |bad n=>rw[hc] at hTi; exact hTi.elim
        |pure f'=>rw[hc] at hTi; rw[hTi.2.2.2] at hYm; cases hYm
        |read a' f'=>rw[hc] at hTi; rw[hTi.2.2.2] at hYm; cases hYm
        |alloc f'=>rw[hc] at hTi; obtain ⟨_,_,_,_,h4⟩:=hTi; rw[h4] at hYm; cases hYm
 · rcases hY with ⟨_,e⟩|⟨_,hT⟩
   · left; rw[e]
   · cases hc:cOper P oi with
     |heavy f=>rw[hc] at hT; obtain ⟨m1,_,_,_,h4,_⟩:=hT; exact .inr h4
     |bad n=>rw[hc] at hT; exact hT.elim
     |pure f'=>rw[hc] at hT; exact .inl hT.2.2.2
     |read a' f'=>rw[hc] at hT; exact .inl hT.2.2.2
     |alloc f'=>rw[hc] at hT; obtain ⟨_,_,_,_,h4⟩:=hT; exact .inl h4
end
end Go.AM
namespace Go.AM
variable [Tok]
variable {P:Program}
section
variable {al:List (Nat×Nat)} {base:Nat}
theorem putIf_eq (id:Nat) (x:Blk) (m:Mem):putIf id x m=if x.live=true then m.put id x else m:=by cases x<;>rfl
theorem putIf_next (id:Nat) (x:Blk) (m:Mem):(putIf id x m).next=m.next:=by rw[putIf_eq]; split<;>rfl
theorem putAll_next (p:Pend):∀ (l:List (Nat×Nat)) (m:Mem),(zBz base p l m).next=m.next
 | [],_=>rfl
 |(j,q)::l,m=>by
  show (zBz base p l _).next=_
  rw[putAll_next p l,putIf_next]
theorem alOk_head {na j q:Nat} {l:List (Nat×Nat)} (h:alOk na ((j,q)::l)=true):q<na∧(∀ e,e∈l→j≠e.1∧q≠e.2)∧alOk na l=true:=by
 simp only[alOk,Bool.and_eq_true,List.all_eq_true] at h
 obtain ⟨⟨h1,h2⟩,h3⟩:=h
 rw[Nat.blt_eq] at h1
 refine ⟨h1,fun e he=>?_,h3⟩
 have h4:=h2 e he
 constructor
 · intro e1
   rw[beq_true.2 e1] at h4; simp at h4
 · intro e1
   rw[beq_true.2 e1] at h4; simp at h4
theorem alOk_lt {na:Nat}:∀ {l:List (Nat×Nat)},alOk na l=true→∀ e,e∈l→e.2<na
 |(j,q)::l,h,e,he=>by
  obtain ⟨h1,h2,h3⟩:=alOk_head h
  cases he with
  |head=>exact h1
  |tail _ he=>exact alOk_lt h3 e he
theorem zBg (p:Pend):∀ {l:List (Nat×Nat)} {m:Mem} {id:Nat},id<65536→(∀ e,e∈l→base+e.2<65536)→(∀ e,e∈l→(p e.1).live=true→id≠base+e.2)→(zBz base p l m).get id=m.get id
 | [],m,id,_,_,_=>rfl
 |(j,q)::l,m,id,hid,hb,h=>by
  show (zBz base p l (putIf (base+q) (p j) m)).get id=_
  rw[zBg p hid (fun e he=>hb e (List.mem_cons_of_mem _ he)) (fun e he=>h e (List.mem_cons_of_mem _ he)),putIf_eq]
  split
  · rename_i hl
    rw[Mem.get_put _ _ _ _ (hb (j,q) (List.mem_cons_self ..)) hid,if_neg (h (j,q) (List.mem_cons_self ..) hl)]
  · rfl
theorem zCm (p:Pend) {na:Nat} {l:List (Nat×Nat)} {m:Mem} {e:Nat×Nat} (ha:alOk na l=true) (hb:∀ e,e∈l→base+e.2<65536) (he:e∈l) (hl:(p e.1).live=true) :
 (zBz base p l m).get (base+e.2)=p e.1:=by
 induction l generalizing m with
 |nil=>cases he
 |cons y l ih=>
  obtain ⟨j,q⟩:=y
  obtain ⟨h1,h2,h3⟩:=alOk_head ha
  have hbq:base+q<65536:=hb (j,q) (List.mem_cons_self ..)
  have hstep:zBz base p ((j,q)::l) m=zBz base p l (putIf (base+q) (p j) m):=rfl
  rw[hstep]
  rcases List.mem_cons.1 he with h4|h4
  · subst h4
    rw[zBg p hbq (fun e he=>hb e (List.mem_cons_of_mem _ he)) (fun e he _=>by have:=(h2 e he).2; omega),putIf_eq,if_pos hl,Mem.get_put _ _ _ _ hbq hbq,if_pos rfl]
  · exact ih h3 (fun e he=>hb e (List.mem_cons_of_mem _ he)) h4
theorem al_inj1 {na:Nat} {l:List (Nat×Nat)} {e e':Nat×Nat} (h:alOk na l=true) (h1:e∈l) (h2:e'∈l) (hj:e.1=e'.1):e=e':=by
 induction l with
 |nil=>cases h1
 |cons y l ih=>
  obtain ⟨j,q⟩:=y
  obtain ⟨g1,g2,g3⟩:=alOk_head h
  rcases List.mem_cons.1 h1 with h4|h4
  · rcases List.mem_cons.1 h2 with h5|h5
    · rw[h4,h5]
    · subst h4; exact absurd hj (g2 e' h5).1
  · rcases List.mem_cons.1 h2 with h5|h5
    · subst h5; exact absurd hj.symm (g2 e h4).1
    · exact ih g3 h4 h5
theorem al_inj2 {na:Nat} {l:List (Nat×Nat)} {e e':Nat×Nat} (h:alOk na l=true) (h1:e∈l) (h2:e'∈l) (hj:e.2=e'.2):e=e':=by
 induction l with
 |nil=>cases h1
 |cons y l ih=>
  obtain ⟨j,q⟩:=y
  obtain ⟨g1,g2,g3⟩:=alOk_head h
  rcases List.mem_cons.1 h1 with h4|h4
  · rcases List.mem_cons.1 h2 with h5|h5
    · rw[h4,h5]
    · subst h4; exact absurd hj (g2 e' h5).2
  · rcases List.mem_cons.1 h2 with h5|h5
    · subst h5; exact absurd hj.symm (g2 e h4).2
    · exact ih g3 h4 h5
def keepF (mask:Nat) (p:Pend):Pend:=fun j=>if tb mask j=true then p j else .none
theorem flush_eq (mask:Nat) (p:Pend):∀ (l:List (Nat×Nat)) (m:Mem),flushM base mask p l m=zBz base (keepF mask p) l m
 | [],_=>rfl
 |(j,q)::l,m=>by
  show zAc (flushM base mask p l (putIf (base+q) (p j) m)) (flushM base mask p l m) (tb mask j)=zBz base (keepF mask p) l (putIf (base+q) (keepF mask p j) m)
  unfold keepF
  cases hj:tb mask j with
  |false=>
   rw[if_neg (by simp)]
   exact flush_eq mask p l m
  |true=>
   rw[if_pos rfl]
   exact flush_eq mask p l _
end
structure Inv (P:Program) (nt:Nat) (al:List (Nat×Nat)) (φ0:Phi) (m0:Mem) (w0:World) (s:St) (L:List Nat) (φ:Phi) (a:Act) (w:World):Prop where
 step:Step P φ0 m0 w0 φ (zBz m0.next s.p al s.m) w
 regs:RRel φ nt s.r a
 room:m0.next+al.length≤s.m.next
 held:∀ e,e∈al→(s.p e.1).live=true→s.m.get (m0.next+e.2)=.none
 free:∀ e,e∈al→e.1∈L→φ (m0.next+e.2)=none∧s.m.get (m0.next+e.2)=.none∧s.p e.1=.none
 chk:∀ j,j∈L→s.c j=none
section
variable {K:KH} (hK:zBb P K) {nt:Nat} {ops:Array Oper} {A:List Nat} {al:List (Nat×Nat)} {φ0:Phi} {m0:Mem} {w0:World} (hal:alOk al.length al=true) (hg:ops.toList.all (ZBo P.globals.size)=true)
include hK hal hg
theorem exec_ok {i:Nat} {o:Oper} (ho:ops[i]? = some o) {s s1:St} {L L':List Nat} (hL:∀ j,j∈L'→j∈L∧j≠i) (hi:i∈L) {φ:Phi} {a:Act} {w:World} (I:Inv P nt al φ0 m0 w0 s L φ a w)
 (hE:Eff P K nt ops A al m0.next i s s1) {next:Act→World→Prop} {Q:Exit→Act→World→Prop} (hn:∀ φ' a' w',Inv P nt al φ0 m0 w0 s1 L' φ' a' w'→next a' w'):wpOp P ops Q i next a w:=by
 obtain ⟨o',ho',x,hC,rfl⟩:=hE
 rw[ho] at ho'; cases ho'
 have hgo:ZBo P.globals.size o=true:=List.all_eq_true.1 hg o (Array.mem_toList_iff.2 (Array.mem_of_getElem? ho))
 have R:=I.step.rel
 have hVn:(zBz m0.next s.p al s.m).next=s.m.next:=putAll_next s.p al s.m
 have hb:=R.bound
 rw[hVn] at hb
 have hid:∀ e,e∈al→m0.next+e.2<s.m.next:=fun e he=>by
  have h1:=I.room
  have h2:=alOk_lt hal e he
  omega
 have hid2:∀ e,e∈al→m0.next+e.2<65536:=fun e he=>Nat.lt_of_lt_of_le (hid e he) hb
 have getV:∀ p,p<65536→(zBz m0.next s.p al s.m).get p=s.m.get p∨s.m.get p=.none:=by
  intro p hp
  by_cases h:∀ e,e∈al→(s.p e.1).live=true→p≠m0.next+e.2
  · exact .inl (zBg s.p hp hid2 h)
  · simp only[Classical.not_forall,Decidable.not_not] at h
    obtain ⟨e,he,hl,rfl⟩:=h
    exact .inr (I.held e he hl)
 have Rm:Rel P φ s.m w:=R.weaken hVn.symm (fun p hp=>by rcases getV p hp with h|h; exact .inl h.symm; exact .inr h)
 have hops:=ops_rel R I.regs hgo
 have plain:∀ u c,VRel φ u c→(x=⟨u,none,none,none⟩∨∃ y,x=⟨u,none,some y,none⟩)→Inv P nt al φ0 m0 w0 (zCt nt A i o s x) L' φ (a.put o.dst c) w:=by
  intro u c hv hx
  have hr:(zCt nt A i o s x).r=(cDst nt o.dst).run u s.r:=by rcases hx with rfl|⟨y,rfl⟩<;>rfl
  have hm:(zCt nt A i o s x).m=s.m:=by rcases hx with rfl|⟨y,rfl⟩<;>rfl
  have hp:(zCt nt A i o s x).p=s.p:=by rcases hx with rfl|⟨y,rfl⟩<;>rfl
  have hc:∀ j,j≠i→(zCt nt A i o s x).c j=s.c j:=by
   intro j hj
   rcases hx with rfl|⟨y,rfl⟩
   · rfl
   · exact (ZCj i (some y) s.c j).trans (if_neg hj)
  refine ⟨by rw[hm,hp]; exact I.step,by rw[hr]; exact I.regs.put hv o.dst,by rw[hm]; exact I.room,by rw[hm,hp]; exact I.held,?_,?_⟩
  · intro e he hj
    rw[hm,hp]; exact I.free e he (hL _ hj).1
  · intro j hj
    rw[hc j (hL j hj).2]; exact I.chk j (hL j hj).1
 have wanted:∀ b,(∀ k',(cGuard ops o.guard).run s.r k'=k' b)→Region.wanted o (yielded ops a.tmps)=b:=by
  intro b hb
  have h1:=guard_ok (ops:=ops) (o:=o) (k:=fun t=>.ok (.bool t) Mem.zero) (hb _) I.regs
  cases h1; rfl
 unfold wpOp
 rw[ho]
 simp only
 rcases hC with ⟨g,rfl⟩|⟨g,hT⟩
 · rw[if_neg (by rw[wanted false g]; simp)]
   exact hn φ _ w (plain zBi undef (ZAy φ) (.inl rfl))
 · rw[if_pos (wanted true g)]
   left
   have hok:=cOper_ok (P:=P) o
   cases hc:cOper P o with
   |bad n=>rw[hc] at hT; exact hT.elim
   |pure f=>
    rw[hc] at hT hok
    obtain ⟨⟨m1,h1⟩,h2,h3,h4⟩:=hT
    obtain ⟨u,h5,h6⟩:=hok s.r _ _ _ h1
    cases h5
    obtain ⟨c,hv,hrun⟩:=h6 φ _ w a R hops
    refine zBh hrun (hn φ _ w (plain x.u c hv (.inl ?_)))
    cases x; simp only at h2 h3 h4; subst h2 h3 h4; rfl
   |read xa f=>
    rw[hc] at hT hok
    obtain ⟨⟨m1,h1⟩,h2,h3,h4⟩:=hT
    obtain ⟨ad,hop,rfl,hf⟩:=hok
    obtain ⟨u,h5,h6⟩:=hf _ _ _ _ _ h1
    cases h5
    obtain ⟨c,hv,hrun⟩:=h6 φ w a Rm (hops ad (by rw[hop]; simp))
    refine zBh hrun (hn φ _ w (plain x.u c hv (.inr ⟨((opd ad).get s.r,x.u),?_⟩)))
    cases x; simp only at h2 h3 h4; subst h2 h3 h4; rfl
   |alloc f=>
    rw[hc] at hT hok
    obtain ⟨e,he,⟨m1,h1,h2⟩,h3,h4⟩:=hT
    have hmem:=List.mem_of_find?_eq_some he
    have hei:e.1=i:=beq_true.1 (by have:=List.find?_some he; exact this)
    have hadd:Nat.add m0.next e.2=m0.next+e.2:=rfl
    rw[hadd] at h1 h2
    obtain ⟨u,b,h5,hbl,h6⟩:=hok s.r _ _ _ _ h1
    cases h5
    have hgb:(Mem.zero.put (m0.next+e.2) b).get (m0.next+e.2)=b:=by
     rw[Mem.get_put _ _ _ _ (hid2 e hmem) (hid2 e hmem),if_pos rfl]
    rw[hgb] at h2
    obtain ⟨c,ob,sz,hrun,hrel⟩:=h6 φ _ w a R hops
    obtain ⟨hf1,hf2,hf3⟩:=I.free e hmem (by rw[hei]; exact hi)
    have ext:Ext' φ (fun q=>if q=m0.next+e.2 then some (w.heap.size,0,sz) else φ q):=by
     intro q y hq
     show (if q=_ then _ else _)=_
     rw[if_neg (fun e'=>by rw[e',hf1] at hq; cases hq)]; exact hq
    obtain ⟨hv,hB⟩:=hrel _ ext (by simp)
    have hx:x=⟨x.u,some b,none,none⟩:=by cases x; simp only at h2 h3 h4; subst h2 h3 h4; rfl
    have hAp:(zCt nt A i o s x).p=setF i b s.p:=by rw[hx]; rfl
    have hAm:(zCt nt A i o s x).m=s.m:=by rw[hx]; rfl
    have hAr:(zCt nt A i o s x).r=(cDst nt o.dst).run x.u s.r:=rfl
    have hAc:(zCt nt A i o s x).c=s.c:=by rw[hx]; rfl
    have hst:=Step.allocAt (V':=zBz m0.next (setF i b s.p) al s.m) (w':=w.alloc ob) I.step (Nat.le_add_right _ _) (by rw[hVn]; exact hid e hmem) hf1 rfl rfl rfl rfl hB (by rw[putAll_next,putAll_next]) (by
     intro p hp
     by_cases hpe:p=m0.next+e.2
     · rw[if_pos hpe,hpe]
       have h7:setF i b s.p e.1=b:=by rw[ZCj,if_pos hei]
       rw[zCm _ hal hid2 hmem (by rw[h7]; exact hbl),h7]
     · rw[if_neg hpe]
       by_cases h:∃ e',e'∈al∧(s.p e'.1).live=true∧p=m0.next+e'.2
       · obtain ⟨e',he',hl',rfl⟩:=h
         have hne:e'.1≠i:=fun e1=>by
          have:=(I.free e' he' (by rw[e1]; exact hi)).2.2
          rw[this] at hl'; cases hl'
         have h7:setF i b s.p e'.1=s.p e'.1:=by rw[ZCj,if_neg hne]
         rw[zCm _ hal hid2 he' (by rw[h7]; exact hl'),zCm _ hal hid2 he' hl',h7]
       · rw[zBg _ hp hid2,zBg _ hp hid2]
         · intro e' he' hl' e1; exact h ⟨e',he',hl',e1⟩
         · intro e' he' hl' e1
           rw[ZCj] at hl'
           by_cases h8:e'.1=i
           ·
            have hq:e'=e:=by
             exact al_inj1 hal he' hmem (h8.trans hei.symm)
            rw[hq] at e1; exact hpe e1
           · rw[if_neg h8] at hl'; exact h ⟨e',he',hl',e1⟩)
    refine zBh hrun (hn _ _ _ ⟨by rw[hAm,hAp]; exact hst,by rw[hAr]; exact (I.regs.mono ext).put hv o.dst,by rw[hAm]; exact I.room,?_,?_,?_⟩)
    · intro e' he' hl'
      rw[hAp,ZCj] at hl'
      rw[hAm]
      by_cases h8:e'.1=i
      · exact (I.free e' he' (by rw[h8]; exact hi)).2.1
      · rw[if_neg h8] at hl'; exact I.held e' he' hl'
    · intro e' he' hj
      obtain ⟨hj1,hj2⟩:=hL _ hj
      obtain ⟨q1,q2,q3⟩:=I.free e' he' hj1
      rw[hAm,hAp,ZCj,if_neg hj2]
      refine ⟨?_,q2,q3⟩
      show (if _=_ then _ else _)=_
      rw[if_neg,q1]
      intro e1
      have hqq:e'.2=e.2:=by omega
      have:=al_inj2 hal he' hmem hqq
      rw[this] at hj2; exact hj2 hei
    · intro j hj
      rw[hAc]; exact I.chk j (hL j hj).1
   |heavy f=>
    rw[hc] at hT hok
    obtain ⟨m1,h1,⟨u2,m2,h2⟩,h3,h4,h5⟩:=hT
    rw[flush_eq] at h1
    obtain ⟨u,m',h6,h7⟩:=hok K hK s.r _ _ _ _ h1
    cases h6
    have hx:x=⟨x.u,none,none,some m1⟩:=by cases x; simp only at h3 h4 h5; subst h3 h4 h5; rfl
    have hAp:(zCt nt A i o s x).p=dropF (zBa A i) s.p:=by rw[hx]; rfl
    have hAm:(zCt nt A i o s x).m=m1:=by rw[hx]; rfl
    have hAr:(zCt nt A i o s x).r=(cDst nt o.dst).run x.u s.r:=rfl
    have hAc:(zCt nt A i o s x).c=s.c:=by rw[hx]; rfl
    have hFn:(zBz m0.next (keepF (zBa A i) s.p) al s.m).next=s.m.next:=putAll_next _ _ _
    have keepLive:∀ j,(keepF (zBa A i) s.p j).live=true→(s.p j).live=true∧tb (zBa A i) j=true:=by
     intro j hl
     unfold keepF at hl
     split at hl
     · exact ⟨hl,‹_›⟩
     · cases hl
    have getF:∀ p,p<65536→(zBz m0.next (keepF (zBa A i) s.p) al s.m).get p=(zBz m0.next s.p al s.m).get p∨(zBz m0.next (keepF (zBa A i) s.p) al s.m).get p=.none:=by
     intro p hp
     by_cases h:∃ e,e∈al∧(s.p e.1).live=true∧p=m0.next+e.2
     · obtain ⟨e,he,hl,rfl⟩:=h
       by_cases ht:tb (zBa A i) e.1=true
       · left
         have hk:keepF (zBa A i) s.p e.1=s.p e.1:=if_pos ht
         rw[zCm _ hal hid2 he (by rw[hk]; exact hl),zCm _ hal hid2 he hl,hk]
       · right
         rw[zBg _ hp hid2,I.held e he hl]
         intro e' he' hl' e1
         obtain ⟨g1,g2⟩:=keepLive _ hl'
         have hqq:e.2=e'.2:=by omega
         have:=al_inj2 hal he' he hqq.symm
         rw[this] at g2; exact ht g2
     · left
       rw[zBg _ hp hid2,zBg _ hp hid2]
       · intro e he hl e1; exact h ⟨e,he,hl,e1⟩
       · intro e he hl e1; exact h ⟨e,he,(keepLive _ hl).1,e1⟩
    have RF:Rel P φ (zBz m0.next (keepF (zBa A i) s.p) al s.m) w:=R.weaken (by rw[hFn,hVn]) getF
    refine h7 φ w a RF hops next Q fun φ' c w' hst hv=>?_
    have hMn:=hst.next
    rw[hFn] at hMn
    have hMb:=hst.rel.bound
    have unseen:∀ e,e∈al→(s.m.get (m0.next+e.2)=.none)→tb (zBa A i) e.1=false∨(s.p e.1).live=false→m1.get (m0.next+e.2)=.none∧(zBz m0.next (keepF (zBa A i) s.p) al s.m).get (m0.next+e.2)=.none:=by
     intro e he hnone ht
     have hF0:(zBz m0.next (keepF (zBa A i) s.p) al s.m).get (m0.next+e.2)=.none:=by
      rw[zBg _ (hid2 e he) hid2,hnone]
      intro e' he' hl' e1
      obtain ⟨g1,g2⟩:=keepLive _ hl'
      have hqq:e.2=e'.2:=by omega
      have:=al_inj2 hal he' he hqq.symm
      rw[this] at g1 g2
      rcases ht with ht|ht
      · rw[ht] at g2; cases g2
      · rw[ht] at g1; cases g1
     refine ⟨?_,hF0⟩
     cases hl:(m1.get (m0.next+e.2)).live with
     |false=>exact Blk.dead hl
     |true=>
      have:=hst.live _ (by rw[hFn]; exact hid e he) hl
      rw[hF0] at this; cases this
    have dropLive:∀ j,(dropF (zBa A i) s.p j).live=true→(s.p j).live=true∧tb (zBa A i) j=false:=by
     intro j hl
     rw[dropF_at] at hl
     by_cases ht:tb (zBa A i) j=true
     · rw[if_pos ht] at hl; cases hl
     · rw[if_neg ht] at hl
       exact ⟨hl,by simpa using ht⟩
    have hfr:Step P φ (zBz m0.next s.p al s.m) w φ' (zBz m0.next (dropF (zBa A i) s.p) al m1) w':=by
     refine Step.framed R (by rw[hFn,hVn]) getF hst (putAll_next _ _ _) fun p hp=>⟨?_,?_⟩
     · rintro ⟨g1,g2,g3⟩
       by_cases h:∃ e,e∈al∧(s.p e.1).live=true∧p=m0.next+e.2
       · obtain ⟨e,he,hl,rfl⟩:=h
         have ht:tb (zBa A i) e.1=false:=by
          cases ht:tb (zBa A i) e.1 with
          |false=>rfl
          |true=>
           have hk:keepF (zBa A i) s.p e.1=s.p e.1:=if_pos ht
           rw[zCm _ hal hid2 he (by rw[hk]; exact hl),hk] at g2
           rw[g2] at hl; cases hl
         have hd:dropF (zBa A i) s.p e.1=s.p e.1:=by rw[dropF_at,if_neg (by rw[ht]; simp)]
         rw[zCm _ hal hid2 he (by rw[hd]; exact hl),zCm _ hal hid2 he hl,hd]
       · have h8:(zBz m0.next s.p al s.m).get p=s.m.get p:=zBg _ hp hid2 fun e he hl e1=>h ⟨e,he,hl,e1⟩
         have h9:(zBz m0.next (keepF (zBa A i) s.p) al s.m).get p=s.m.get p:=zBg _ hp hid2 fun e he hl e1=>h ⟨e,he,(keepLive _ hl).1,e1⟩
         rw[h9] at g2
         rw[h8,g2] at g3; cases g3
     · intro hno
       refine zBg _ hp hid2 fun e he hl e1=>?_
       obtain ⟨g1,g2⟩:=dropLive _ hl
       subst e1
       obtain ⟨_,g3⟩:=unseen e he (I.held e he g1) (.inl g2)
       exact hno ⟨by rw[hVn]; exact hid e he,g3,by rw[zCm _ hal hid2 he g1]; exact g1⟩
    refine hn φ' _ w' ⟨by rw[hAm,hAp]; exact I.step.trans hfr,by rw[hAr]; exact (I.regs.mono hst.ext).put hv o.dst,by rw[hAm]; exact Nat.le_trans I.room hMn,?_,?_,?_⟩
    · intro e he hl
      rw[hAp] at hl
      obtain ⟨g1,g2⟩:=dropLive _ hl
      rw[hAm]; exact (unseen e he (I.held e he g1) (.inl g2)).1
    · intro e he hj
      obtain ⟨hj1,hj2⟩:=hL _ hj
      obtain ⟨q1,q2,q3⟩:=I.free e he hj1
      refine ⟨?_,?_,?_⟩
      · cases hq:φ' (m0.next+e.2) with
        |none=>rfl
        |some y=>
         rcases hst.fresh _ _ hq with h8|h8
         · rw[q1] at h8; cases h8
         · rw[hFn] at h8; have:=hid e he; omega
      · rw[hAm]; exact (unseen e he q2 (.inr (by rw[q3]; rfl))).1
      · rw[hAp,dropF_at,q3]; split<;>rfl
    · intro j hj
      rw[hAc]; exact I.chk j (hL j hj).1
end
end Go.AM
namespace Go.AM
variable [Tok]
variable {P:Program}
section
variable {K:KH} {nt:Nat} {ops:Array Oper} {A H:List Nat} {al:List (Nat×Nat)} {base:Nat}
theorem eff_chk {x:Nat} {s s':St} (h:Eff P K nt ops A al base x s s'):∀ y,y≠x→s'.c y=s.c y:=by
 obtain ⟨o,ho,X,hX,rfl⟩:=h
 intro y hy
 unfold zCt
 simp only
 cases X.cb with
 |none=>rfl
 |some b=>exact (ZCj x (some b) s.c y).trans (if_neg hy)
theorem ord_split:∀ {L1:List Nat} {i:Nat} {L2:List Nat},ordOk A H (L1++i::L2)=true→
 (∀ x,x∈L1→x≠i∧tb (zBa A x) i=false∧(x∈H→tb (zBa A i) x=true))∧(∀ x,x∈L2→i≠x∧tb (zBa A i) x=false)∧ordOk A H (L1++L2)=true:=by
 have pair:∀ {j:Nat} {l:List Nat},ordOk A H (j::l)=true→(∀ k,k∈l→j≠k∧tb (zBa A j) k=false∧(j∈H→tb (zBa A k) j=true))∧ordOk A H l=true:=by
  intro j l h
  simp only[ordOk,Bool.and_eq_true,List.all_eq_true] at h
  refine ⟨fun k hk=>?_,h.2⟩
  obtain ⟨⟨h1,h2⟩,h3⟩:=h.1 k hk
  refine ⟨fun e=>?_,by simpa using h2,fun hH=>?_⟩
  · rw[beq_true.2 e] at h1; simp at h1
  · have:H.contains j=true:=List.contains_iff_mem.2 hH
    rw[this] at h3; simpa using h3
 intro L1
 induction L1 with
 |nil=>
  intro i L2 h
  obtain ⟨h1,h2⟩:=pair h
  exact ⟨fun x hx=>(by cases hx),fun x hx=>⟨(h1 x hx).1,(h1 x hx).2.1⟩,h2⟩
 |cons y L1 ih=>
  intro i L2 h
  obtain ⟨h1,h2⟩:=pair h
  obtain ⟨h3,h4,h5⟩:=ih h2
  refine ⟨fun x hx=>?_,h4,?_⟩
  · rcases List.mem_cons.1 hx with rfl|hx
    · exact h1 i (by simp)
    · exact h3 x hx
  · have h6:∀ k,k∈L1++L2→k∈L1++i::L2:=fun k hk=>by
     rcases List.mem_append.1 hk with hk|hk
     · exact List.mem_append_left _ hk
     · exact List.mem_append_right _ (List.mem_cons_of_mem _ hk)
    have h7:ordOk A H (y::(L1++i::L2))=true:=h
    simp only[ordOk,Bool.and_eq_true,List.all_eq_true] at h7
    show ordOk A H (y::(L1++L2))=true
    simp only[ordOk,Bool.and_eq_true,List.all_eq_true]
    exact ⟨fun k hk=>h7.1 k (h6 k hk),h5⟩
theorem bubble (hnt:nt≤4096) {i:Nat} {oi:Oper} (hoi:ops[i]? = some oi) {L2:List Nat} {sf:St}:∀ {L1:List Nat} {s:St},Runs P K nt ops A al base (L1++i::L2) s sf→
 (∀ x,x∈L1→x≠i∧tb (zBa A i) x=false∧∃ ox,ops[x]? = some ox∧Apart ops ox oi∧isHeavy (cOper P ox)=false)→(∀ x,x∈L1→s.c x=none)→L1.Nodup→
 ∃ s1,Eff P K nt ops A al base i s s1∧Runs P K nt ops A al base (L1++L2) s1 sf
 | [],s,h,_,_,_=>h
 |x::L1,s,h,hx,hc,hnd=>by
  obtain ⟨s',h1,h2⟩:=h
  rw[List.nodup_cons] at hnd
  obtain ⟨s1,h3,h4⟩:=bubble hnt hoi h2 (fun y hy=>hx y (List.mem_cons_of_mem _ hy)) (fun y hy=>by
   rw[eff_chk h1 y (fun e=>hnd.1 (by rw[← e]; exact hy))]
   exact hc y (List.mem_cons_of_mem _ hy)) hnd.2
  obtain ⟨g1,g2,ox,g3,g4,g5⟩:=hx x (List.mem_cons_self ..)
  obtain ⟨s1',h5,h6⟩:=exchange hnt g3 hoi g1 g4 g5 g2 (hc x (List.mem_cons_self ..)) h1 h3
  exact ⟨s1',h5,s1,h6,h4⟩
theorem ord_nodup:∀ {L:List Nat},ordOk A H L=true→L.Nodup
 | [],_=>List.nodup_nil
 |j::l,h=>by
  obtain ⟨_,h1,h2⟩:=ord_split (L1:=[]) (i:=j) (L2:=l) h
  exact List.nodup_cons.2 ⟨fun hj=>(h1 j hj).1 rfl,ord_nodup h2⟩
theorem fold_anc:∀ (l:List Edge) (s y:Nat),tb (l.foldl (fun s e=>zAc (Nat.lor (Nat.lor s (bit e.on)) ((A[e.on]?).getD 0)) s (Region.binds .any e)) s) y=true ↔
 (tb s y=true∨∃ e,e∈l∧Region.binds .any e=true∧(y=e.on∨tb (zBa A e.on) y=true))
 | [],s,y=>by simp
 |e::l,s,y=>by
  rw[List.foldl_cons,fold_anc l]
  cases hb:Region.binds .any e with
  |false=>
   show tb s y=true∨_ ↔ _
   constructor
   · rintro (h|⟨e',h1,h2⟩)
     · exact .inl h
     · exact .inr ⟨e',List.mem_cons_of_mem _ h1,h2⟩
   · rintro (h|⟨e',h1,h2,h3⟩)
     · exact .inl h
     · rcases List.mem_cons.1 h1 with rfl|h1
       · rw[hb] at h2; cases h2
       · exact .inr ⟨e',h1,h2,h3⟩
  |true=>
   show tb (Nat.lor (Nat.lor s (bit e.on)) (zBa A e.on)) y=true∨_ ↔ _
   rw[tb_lor,tb_lor]
   simp only[Bool.or_eq_true,tb_bit]
   constructor
   · rintro (((h|h)|h)|⟨e',h1,h2⟩)
     · exact .inl h
     · exact .inr ⟨e,List.mem_cons_self ..,hb,.inl h.symm⟩
     · exact .inr ⟨e,List.mem_cons_self ..,hb,.inr h⟩
     · exact .inr ⟨e',List.mem_cons_of_mem _ h1,h2⟩
   · rintro (h|⟨e',h1,h2,h3⟩)
     · exact .inl (.inl (.inl h))
     · rcases List.mem_cons.1 h1 with rfl|h1
       · rcases h3 with h3|h3
         · exact .inl (.inl (.inr h3.symm))
         · exact .inl (.inr h3)
       · exact .inr ⟨e',h1,h2,h3⟩
theorem anc_iff (o:Oper) (y:Nat):tb (ancOf A o) y=true ↔ ∃ e,e∈o.after.toList∧Region.binds .any e=true∧(y=e.on∨tb (zBa A e.on) y=true):=by
 unfold ancOf
 rw[fold_anc]
 have h0:tb 0 y=false:=by rw[tb_eq]; simp
 rw[h0]; simp
structure Lin (ops:Array Oper) (A:List Nat):Prop where
 back:∀ i o,ops[i]? = some o→∀ e,e∈o.after.toList→Region.binds .any e=true→e.on<i
 anc:∀ i o,ops[i]? = some o→zBa A i=ancOf A o
 apart:∀ i j oi oj,ops[i]? = some oi→ops[j]? = some oj→j<i→Apart ops oj oi∨tb (zBa A i) j=true
theorem lin_ok (h:linOk ops A (ops.toList.map fun o=>(zBr ops o,ZBu o))=true):Lin ops A:=by
 unfold linOk at h
 rw[List.all_eq_true] at h
 have at_:∀ {i:Nat} {o:Oper},ops[i]? = some o→(o,i)∈ops.toList.zipIdx:=fun {i o} ho=>by
  rw[List.mem_zipIdx_iff_getElem?,Array.getElem?_toList]; exact ho
 refine ⟨fun i o ho e he hb=>?_,fun i o ho=>?_,fun i j oi oj hi hj hlt=>?_⟩
 · have h1:=h (o,i) (at_ ho)
   simp only[Bool.and_eq_true,List.all_eq_true] at h1
   have h2:=h1.1.1 e he
   rw[hb] at h2
   simp only[Bool.not_true,Bool.false_or] at h2
   rw[Nat.blt_eq] at h2; exact h2
 · have h1:=h (o,i) (at_ ho)
   simp only[Bool.and_eq_true] at h1
   exact beq_true.1 h1.1.2
 · have h1:=h (oi,i) (at_ hi)
   simp only[Bool.and_eq_true,List.all_eq_true] at h1
   have h2:=h1.2 ((zBr ops oj,ZBu oj),j) (by
    rw[List.mem_zipIdx_iff_getElem?,List.getElem?_map,Array.getElem?_toList,hj]; rfl)
   have h3:((ops.toList.map fun o=>(zBr ops o,ZBu o))[i]?).getD (0,0)=(zBr ops oi,ZBu oi):=by
    rw[List.getElem?_map,Array.getElem?_toList,hi]; rfl
   simp only[h3] at h2
   have h4:Nat.blt j i=true:=by rw[Nat.blt_eq]; exact hlt
   rw[h4] at h2
   simp only[Bool.not_true,Bool.false_or,Bool.or_eq_true,Bool.not_eq_true'] at h2
   rcases h2 with h2|h2
   · exact .inl (clash_apart h2)
   · exact .inr h2
structure Left (ops:Array Oper) (A:List Nat) (L:List Nat) (listed:Array Bool):Prop where
 out:∀ j,j∈L→listed[j]? = some false
 done:∀ j,j<ops.size→j ∉ L→listed[j]? = some true
 lt:∀ j,j∈L→j<ops.size
 down:∀ j,j<ops.size→j ∉ L→∀ y,tb (zBa A j) y=true→y ∉ L
theorem ZCu {listed:Array Bool} {i:Nat}:i∈Region.ready .any ops listed ↔ i<ops.size∧listed.getD i true=false∧∃ o,ops[i]? = some o∧∀ e,e∈o.after.toList→Region.binds .any e=true→listed.getD e.on false=true:=by
 unfold Region.ready
 rw[List.mem_filter,List.mem_range]
 constructor
 · rintro ⟨h1,h2⟩
   rw[Bool.and_eq_true] at h2
   refine ⟨h1,by simpa using h2.1,?_⟩
   cases ho:ops[i]? with
   |none=>rw[ho] at h2; simp at h2
   |some o=>
    refine ⟨o,rfl,fun e he hb=>?_⟩
    rw[ho] at h2
    have h3:=h2.2
    simp only[Option.map_some,Option.getD_some] at h3
    rw[← Array.all_toList,List.all_eq_true] at h3
    have:=h3 e he
    rw[hb] at this; simpa using this
 · rintro ⟨h1,h2,o,h3,h4⟩
   refine ⟨h1,?_⟩
   rw[Bool.and_eq_true]
   refine ⟨by rw[h2]; rfl,?_⟩
   rw[h3]
   simp only[Option.map_some,Option.getD_some]
   rw[← Array.all_toList,List.all_eq_true]
   intro e he
   cases hb:Region.binds .any e with
   |false=>rfl
   |true=>rw[h4 e he hb]; rfl
end
section
variable {K:KH} (hK:zBb P K) {nt:Nat} {ops:Array Oper} {A H:List Nat} {al:List (Nat×Nat)} {φ0:Phi} {m0:Mem} {w0:World} (hal:alOk al.length al=true) (hg:ops.toList.all (ZBo P.globals.size)=true)
 (hlin:Lin ops A) (hH:∀ j o,ops[j]? = some o→isHeavy (cOper P o)=true→j∈H) (hnt:nt≤4096)
include hK hal hg hlin hH hnt
theorem any_ok {Q:Exit→Act→World→Prop} {sf:St} (hfin:∀ φ' a' w',Step P φ0 m0 w0 φ' (zBz m0.next sf.p al sf.m) w'→RRel φ' nt sf.r a'→Q .normal a' w') :
 ∀ (n:Nat) {L:List Nat} {listed:Array Bool} {s:St} {φ:Phi} {a:Act} {w:World},L.length=n→ordOk A H L=true→Left ops A L listed→Inv P nt al φ0 m0 w0 s L φ a w→
  Runs P K nt ops A al m0.next L s sf→wpAny P .any ops Q n listed a w
 |0,L,listed,s,φ,a,w,hn,ho,hl,I,hR=>by
  have hL:L=[]:=List.length_eq_zero_iff.1 hn
  subst hL
  have hs:s=sf:=hR
  subst hs
  refine ⟨?_,hfin φ a w I.step I.regs⟩
  apply List.eq_nil_iff_forall_not_mem.2
  intro i hi
  obtain ⟨h1,h2,_⟩:=ZCu.1 hi
  have:=hl.done i h1 (by simp)
  rw[Array.getD_eq_getD_getElem?,this] at h2; cases h2
 |n+1,L,listed,s,φ,a,w,hn,ho,hl,I,hR=>by
  have hnd:=ord_nodup ho
  constructor
  · intro hnil
    cases L with
    |nil=>cases hn
    |cons h L'=>
     exfalso
     have hlt:=hl.lt h (List.mem_cons_self ..)
     have hoh:ops[h]? = some ops[h]:=Array.getElem?_eq_getElem hlt
     have:h∈Region.ready .any ops listed:=by
      refine ZCu.2 ⟨hlt,?_,ops[h],hoh,fun e he hb=>?_⟩
      · rw[Array.getD_eq_getD_getElem?,hl.out h (List.mem_cons_self ..)]; rfl
      · have h1:=hlin.back h _ hoh e he hb
        have h2:tb (zBa A h) e.on=true:=by
         rw[hlin.anc h _ hoh,anc_iff]; exact ⟨e,he,hb,.inl rfl⟩
        have h3:e.on ∉ h::L':=by
         intro hm
         rcases List.mem_cons.1 hm with e1|hm
         · omega
         · obtain ⟨_,h4,_⟩:=ord_split (L1:=[]) (i:=h) (L2:=L') ho
           rw[(h4 _ hm).2] at h2; cases h2
        rw[Array.getD_eq_getD_getElem?,hl.done e.on (by omega) h3]; rfl
     rw[hnil] at this; cases this
  · intro i hi
    obtain ⟨h1,h2,o,h3,h4⟩:=ZCu.1 hi
    have hiL:i∈L:=by
     apply Classical.byContradiction
     intro hno
     rw[Array.getD_eq_getD_getElem?,hl.done i h1 hno] at h2; cases h2
    have hanc:∀ y,tb (zBa A i) y=true→y ∉ L:=by
     intro y hy
     rw[hlin.anc i o h3,anc_iff] at hy
     obtain ⟨e,he,hb,hy⟩:=hy
     have h5:=h4 e he hb
     have h6:=hlin.back i o h3 e he hb
     have h7:e.on ∉ L:=by
      intro hm
      rw[Array.getD_eq_getD_getElem?,hl.out _ hm] at h5; cases h5
     rcases hy with rfl|hy
     · exact h7
     · exact hl.down e.on (by omega) h7 y hy
    obtain ⟨L1,L2,rfl⟩:=List.append_of_mem hiL
    obtain ⟨g1,g2,g3⟩:=ord_split ho
    have hnd1:L1.Nodup:=(List.nodup_append.1 hnd).1
    obtain ⟨s1,hE,hR'⟩:=bubble hnt h3 hR (fun x hx=>by
     obtain ⟨q1,q2,q3⟩:=g1 x hx
     have hxL:x∈L1++i::L2:=List.mem_append_left _ hx
     have hxlt:=hl.lt x hxL
     have hox:ops[x]? = some ops[x]:=Array.getElem?_eq_getElem hxlt
     have hna:tb (zBa A i) x=false:=by
      cases h:tb (zBa A i) x with
      |false=>rfl
      |true=>exact absurd hxL (hanc x h)
     refine ⟨q1,hna,ops[x],hox,?_,?_⟩
     · rcases Nat.lt_or_ge x i with h5|h5
       · rcases hlin.apart i x o _ h3 hox h5 with h6|h6
         · exact h6
         · rw[hna] at h6; cases h6
       · rcases hlin.apart x i _ o hox h3 (by omega) with h6|h6
         · exact h6.symm
         · rw[q2] at h6; cases h6
     · cases hh:isHeavy (cOper P ops[x]) with
       |false=>rfl
       |true=>
        have:=q3 (hH x _ hox hh)
        rw[hna] at this; cases this) (fun x hx=>I.chk x (List.mem_append_left _ hx)) hnd1
    have hmem:∀ j,j∈L1++L2→j∈L1++i::L2∧j≠i:=by
     intro j hj
     rcases List.mem_append.1 hj with hj|hj
     · exact ⟨List.mem_append_left _ hj,(g1 j hj).1⟩
     · exact ⟨List.mem_append_right _ (List.mem_cons_of_mem _ hj),fun e=>(g2 j hj).1 e.symm⟩
    have hmem2:∀ j,j∈L1++i::L2→j=i∨j∈L1++L2:=by
     intro j hj
     rcases List.mem_append.1 hj with hj|hj
     · exact .inr (List.mem_append_left _ hj)
     · rcases List.mem_cons.1 hj with hj|hj
       · exact .inl hj
       · exact .inr (List.mem_append_right _ hj)
    have hlsz:i<listed.size:=by
     have:=hl.out i hiL
     rcases Nat.lt_or_ge i listed.size with h|h
     · exact h
     · rw[Array.getElem?_eq_none h] at this; cases this
    have hl':Left ops A (L1++L2) (listed.setIfInBounds i true):=by
     refine ⟨fun j hj=>?_,fun j hj hno=>?_,fun j hj=>hl.lt j (hmem j hj).1,fun j hj hno y hy hm=>?_⟩
     · rw[Array.getElem?_setIfInBounds,if_neg (fun e=>(hmem j hj).2 e.symm)]
       exact hl.out j (hmem j hj).1
     · rw[Array.getElem?_setIfInBounds]
       by_cases e:i=j
       · rw[if_pos e,if_pos hlsz]
       · rw[if_neg e]
         exact hl.done j hj fun hm=>by
          rcases hmem2 j hm with h|h
          · exact e h.symm
          · exact hno h
     · by_cases e:j=i
       · subst e; exact hanc y hy (hmem y hm).1
       · refine hl.down j hj (fun hm2=>?_) y hy (hmem y hm).1
         rcases hmem2 j hm2 with h|h
         · exact e h
         · exact hno h
    exact exec_ok hK hal hg h3 hmem hiL I hE fun φ' a' w' I'=>any_ok hfin n (by simp at hn ⊢; omega) g3 hl' I' hR'
end
theorem heavies_ok {ops:Array Oper} {j:Nat} {o:Oper} (ho:ops[j]? = some o) (hh:isHeavy (cOper P o)=true):j∈((ops.toList.map (cOper P)).zipIdx.filter fun (c,_)=>isHeavy c).map (·.2):=by
 rw[List.mem_map]
 refine ⟨(cOper P o,j),List.mem_filter.2 ⟨?_,hh⟩,rfl⟩
 rw[List.mem_zipIdx_iff_getElem?,List.getElem?_map,Array.getElem?_toList,ho]; rfl
theorem draw_ok (hm:P.follows .mixedOrders=true) {K:KH} (hK:zBb P K):DrawOk P K:=by
 intro nt ops hg r m k v mf h id φ w a Q hr ha hn
 unfold cDraw at h
 simp only at h
 split at h
 · rename_i hd
   unfold drawOk at hd
   simp only[Bool.and_eq_true] at hd
   obtain ⟨⟨⟨⟨⟨h1,h2⟩,h3⟩,h4⟩,h5⟩,h6⟩:=hd
   obtain ⟨hroom,h7⟩:=zAm h
   rw[ZAs] at h7
   rw[zAd] at hroom
   rw[List.all_eq_true] at h5 h6
   obtain ⟨sf,hR,hk⟩:=runs_of_seq (P:=P) (s:=⟨r,⟨m.next+_,m.t⟩,fun _=>.none,fun _=>none⟩) h7
   have hsz:=beq_true.1 h4
   refine wp_region_any hm ?_
   have hst:=(Step.raise (n:=_) hr hroom).congr (w'':={ w with drawn:=w.drawn+1 }) rfl rfl rfl rfl
   refine any_ok (m0:=m) (φ0:=φ) (w0:=w) (φ:=φ) hK h3 hg (lin_ok h1) (fun j o ho hh=>heavies_ok ho hh) ha.le (sf:=sf) (fun φ' a' w' hs hr'=>hn φ' _ _ a' w' hs hr' hk) ops.size hsz h2 ?_ ?_ hR
   · refine ⟨fun j hj=>?_,fun j hj hno=>?_,fun j hj=>?_,fun j hj hno=>?_⟩
     · have:=h5 j hj
       rw[Nat.blt_eq] at this
       simp[this]
     · exact absurd (List.contains_iff_mem.1 (h6 j (List.mem_range.2 hj))) hno
     · have:=h5 j hj
       rw[Nat.blt_eq] at this; exact this
     · exact absurd (List.contains_iff_mem.1 (h6 j (List.mem_range.2 hj))) hno
   · have hput:∀ (l:List (Nat×Nat)) (m1:Mem),zBz m.next (fun _=>Blk.none) l m1=m1:=by
      intro l
      induction l with
      |nil=>intro m1; rfl
      |cons y l ih=>intro m1; obtain ⟨j,q⟩:=y; exact ih m1
     refine ⟨by rw[hput]; exact hst,ha,Nat.le_refl _,fun e he hl=>(by cases hl),fun e he _=>⟨?_,?_,rfl⟩,fun _ _=>rfl⟩
     · cases hq:φ (m.next+e.2) with
       |none=>rfl
       |some y=>have:=hr.dom _ _ hq; omega
     · exact hr.clean _ (Nat.le_add_right _ _) (by have:=alOk_lt h3 e he; have hroom':m.next+(allocsOf 0 0 (List.map (cOper P) ops.toList)).length≤65536:=hroom; omega)
 · cases h
end Go.AM
namespace Go.AM
variable [Tok]
variable {P:Program}
open Go.Extern
def Still {α:Type} (P:Program) (s:Sem α):Prop:=∀ w,match s.run P default with
 | .ok a w0=>w0=default∧s.run P w=.ok a w
 | .halt _ _=>True
theorem Still.pure {α:Type} (a:α):Still P (Pure.pure a:Sem α):=fun _=>⟨rfl,rfl⟩
theorem Still.halt {α:Type} (x:Halt):Still P (Sem.halt x:Sem α):=fun _=>trivial
theorem Still.bind {α β:Type} {s:Sem α} {f:α→Sem β} (hs:Still P s) (hf:∀ a,Still P (f a)):Still P (s >>= f):=by
 intro w
 have h1:=hs w
 cases h:s.run P default with
 |halt x w0=>
  have:(s >>= f).run P default=.halt x w0:=by rw[Sem.run_bind,h]; rfl
  rw[this]; trivial
 |ok a w0=>
  rw[h] at h1
  obtain ⟨rfl,h2⟩:=h1
  have e1:(s >>= f).run P default=(f a).run P default:=by rw[Sem.run_bind,h]; rfl
  have e2:(s >>= f).run P w=(f a).run P w:=by rw[Sem.run_bind,h2]; rfl
  rw[e1,e2]; exact hf a w
theorem Still.program:Still P program:=fun _=>⟨rfl,rfl⟩
theorem Still.typeInfo (t:TypeId):Still P (Go.typeInfo t):=by
 unfold Go.typeInfo
 refine Still.bind Still.program fun p=>?_
 split
 · exact .pure _
 · exact .halt _
theorem Still.noPack (s:String) (t:TypeId):Still P (Rtype.noPack s t):=by
 unfold Rtype.noPack
 refine Still.bind Still.program fun p=>?_
 split
 · exact .halt _
 · exact .pure _
theorem Still.noPackHeld (s:String) (t:TypeId):Still P (Rtype.noPackHeld s t):=by
 unfold Rtype.noPackHeld
 refine Still.bind Still.program fun p=>Still.bind Still.program fun q=>?_
 split
 · exact .halt _
 · exact .pure _
theorem Still.noPackMethods (s:String) (t:TypeId):Still P (Rtype.noPackMethods s t):=by
 unfold Rtype.noPackMethods
 refine Still.bind Still.program fun p=>Still.bind Still.program fun q=>?_
 split
 · exact .halt _
 · exact .pure _
theorem Still.under (t:TypeId):Still P (Rtype.under t):=by
 unfold Rtype.under
 refine Still.bind (Still.typeInfo t) fun i=>?_
 split
 · exact Still.bind (Still.typeInfo _) fun j=>.pure _
 · exact .pure _
theorem Still.kind (t:TypeId):Still P (Rtype.kind t):=by
 unfold Rtype.kind
 refine Still.bind (Still.under t) fun p=>?_
 obtain ⟨u,i⟩:=p
 simp only
 split<;>first|exact .pure _|exact .halt _
theorem Still.hasName (t:TypeId):Still P (Rtype.hasName t):=by
 unfold Rtype.hasName
 refine Still.bind (Still.typeInfo t) fun i=>?_
 split<;>exact .pure _
theorem Still.elem (t:TypeId):Still P (Rtype.elem? t):=by
 unfold Rtype.elem?
 refine Still.bind (Still.under t) fun p=>?_
 split<;>exact .pure _
theorem Still.implements (t u:TypeId):Still P (Rtype.implements t u):=by
 unfold Rtype.implements
 refine Still.bind (Still.noPackMethods _ _) fun _=>Still.bind (Still.noPackMethods _ _) fun _=>Still.bind (Still.under t) fun p=>Still.bind (Still.under u) fun q=>?_
 split
 · exact .pure _
 · exact Still.bind (Still.typeInfo _) fun i=>.pure _
 · exact .pure _
theorem Still.directlyAssignable (t u:TypeId):Still P (Rtype.directlyAssignable t u):=by
 unfold Rtype.directlyAssignable
 split
 · exact .pure _
 · refine Still.bind (Still.hasName t) fun a=>Still.bind (Still.hasName u) fun b=>?_
   split
   · exact .pure _
   · refine Still.bind (Still.under t) fun p=>Still.bind (Still.under u) fun q=>?_
     dsimp only
     split<;>exact Still.pure _
theorem Still.implements_ (u t:TypeId):Still P (ReflectliteType.implements_ u t):=by
 unfold ReflectliteType.implements_
 refine Still.bind (Still.kind u) fun k=>?_
 split
 · exact Still.bind (Still.bind Still.program fun p=>.halt _) fun _=>Still.bind (Still.noPackMethods _ _) fun _=>Still.bind (Still.noPack _ _) fun _=>Still.implements u t
 · exact Still.bind (Still.noPackMethods _ _) fun _=>Still.bind (Still.noPack _ _) fun _=>Still.implements u t
theorem Still.assignableTo (u t:TypeId):Still P (ReflectliteType.assignableTo u t):=by
 unfold ReflectliteType.assignableTo
 have fin:Still P ((do let a ← Rtype.directlyAssignable u t; let b ← Rtype.implements u t; Pure.pure (a||b)):Sem Bool):=
  Still.bind (Still.directlyAssignable u t) fun a=>Still.bind (Still.implements u t) fun b=>.pure _
 split
 · exact Still.bind (Still.noPackMethods _ _) fun _=>Still.bind (Still.noPackMethods _ _) fun _=>fin
 · exact fin
theorem ran_ok {α:Type} {s:Sem α} (hs:Still P s) {a:α} (h:ran P s=some a) (w:World):s.run P w=.ok a w:=by
 have h1:=hs w
 unfold ran at h
 cases hr:s.run P default with
 |halt x w0=>rw[hr] at h; cases h
 |ok b w0=>
  rw[hr] at h h1
  cases h
  exact h1.2
theorem zCn {α:Type} {x:Option α} {k:α→R} {v:AVal} {m:Mem} (h:onOpt x k=.ok v m):∃ a,x=some a∧k a=.ok v m:=by
 cases x with
 |none=>cases h
 |some a=>exact ⟨a,rfl,h⟩
theorem noPack_run {s:String} {t:TypeId} (h:P.packed t=false) (w:World):(Rtype.noPack s t).run P w=.ok () w:=by
 unfold Rtype.noPack
 simp[h]
section
variable {φ:Phi} {m:Mem} {w:World} (hr:Rel P φ m w)
include hr
theorem handle_rel (t:Nat):VRel φ (.ptr P.globals.size t) (typeHandle P t):=by
 have:=VRel.ptr (φ:=φ) P.globals.size t P.globals.size 0 0 hr.handle
 simpa[typeHandle] using this
theorem hT_ok {v:AVal} {k:Nat→R} {rv:AVal} {mf:Mem} (h:hT P v k=.ok rv mf):∃ t,k t=.ok rv mf∧∀ cv,VRel φ v cv→∀ w',(Rtype.ofHandle cv).run P w'=.ok t w':=by
 obtain ⟨b,t,rfl,h1⟩:=ZCi h
 obtain ⟨h2,h3⟩:=zAm h1
 rw[beq_true] at h2
 subst h2
 refine ⟨t,h3,fun cv hv w'=>?_⟩
 cases hv with
 |ptr _ _ cb co sz hφ=>
  rw[hr.handle] at hφ; cases hφ
  simp[Rtype.ofHandle,handleType]
theorem rtT_ok {v:AVal} {k:Nat→R} {rv:AVal} {mf:Mem} (h:rtT P v k=.ok rv mf):∃ t,k t=.ok rv mf∧∀ cv,VRel φ v cv→∀ w',(ReflectliteType.ofRtype cv).run P w'=.ok t w':=by
 obtain ⟨cs,rfl,h1⟩:=zDa h
 obtain ⟨x,l,rfl,h2⟩:=ZCy h1
 cases l with
 |cons y l=>cases h2
 |nil=>
  obtain ⟨t,h3,h4⟩:=hT_ok hr h2
  obtain ⟨h5,h6⟩:=cond_f h3
  refine ⟨t,h6,fun cv hv w'=>?_⟩
  cases hv with
  |agg _ cs hcs hc=>
   obtain ⟨cl⟩:=cs
   cases hcs with
   | @cons _ c0 _ _ hx ht=>
    cases ht
    have h7:=h4 _ hx w'
    have h8:(Rtype.noPack "a Type asked or handed on" t).run P w'=.ok () w':=noPack_run h5 w'
    show ((Rtype.ofHandle c0 >>= fun t=>Rtype.noPack "a Type asked or handed on" t >>= fun _=>Pure.pure t):Sem TypeId).run P w'=_
    rw[Sem.run_bind,h7,Result.andThen_ok,Sem.run_bind,h8,Result.andThen_ok,Sem.run_pure]
theorem toRt_ok {t:Nat} {k:AVal→R} {rv:AVal} {mf:Mem} (h:toRt P t k=.ok rv mf):∃ u,k u=.ok rv mf∧∃ c,VRel φ u c∧∀ w',(ReflectliteType.toType t).run P w'=.ok c w':=by
 obtain ⟨rt,h1,h2⟩:=zCn h
 refine ⟨_,h2,.iface rt (.agg #[typeHandle P t]),.iface rt _ _ (.agg _ _ (.cons (handle_rel hr t) .nil) (fun v hv=>by simp at hv; rw[hv]; rfl)),fun w'=>?_⟩
 unfold rtypeT at h1
 cases hf:P.cutTypes.find? (·.1 == "internal/reflectlite.rtype") with
 |none=>rw[hf] at h1; cases h1
 |some p=>
  rw[hf] at h1
  simp at h1
  obtain ⟨a,b⟩:=p
  simp only at h1
  subst h1
  simp[ReflectliteType.toType,cutType,hf,Rtype.handle]
theorem valParts_ok {v:AVal} {k:Nat→AVal→Nat→R} {rv:AVal} {mf:Mem} (h:valParts P v k=.ok rv mf) :
 ∃ t b o n,k t (.ptr b o) n=.ok rv mf∧P.packed t=false∧∀ cv,VRel φ v cv→∃ ad,VRel φ (.ptr b o) (.pointer (some ad))∧∀ w',(ReflectliteValue.partsAny cv).run P w'=.ok (some (t,ad,n)) w'∧
  (ReflectliteValue.parts cv).run P w'=.ok (some (t,ad,n)) w':=by
 obtain ⟨cs,rfl,h1⟩:=zDa h
 obtain ⟨x1,l1,rfl,h2⟩:=ZCy h1
 obtain ⟨x2,l2,rfl,h3⟩:=ZCy h2
 obtain ⟨x3,l3,rfl,h4⟩:=ZCy h3
 cases l3 with
 |cons y l=>cases h4
 |nil=>
  obtain ⟨t,h5,h6⟩:=hT_ok hr h4
  obtain ⟨b,o,rfl,h7⟩:=ZCi h5
  obtain ⟨j,z,rfl,h8⟩:=zCo h7
  cases z with
  |negSucc n=>cases h8
  |ofNat n=>
   obtain ⟨h9,h10⟩:=cond_f h8
   obtain ⟨h11,h12⟩:=cond_f h10
   rw[Bool.or_eq_false_iff] at h9
   obtain ⟨g1,g2⟩:=h9
   have hj:j=.u8∨True:=.inr trivial
   have hju:j=.u64:=zCz (by simpa using g2)
   subst hju
   have hn:n≠0:=fun e=>by rw[beq_true.2 e] at g1; cases g1
   refine ⟨t,b,o,n,h12,h11,fun cv hv=>?_⟩
   cases hv with
   |agg _ cs hcs hc=>
    obtain ⟨cl⟩:=cs
    cases hcs with
    |cons hx1 ht=>
     cases ht with
     |cons hx2 ht=>
      cases ht with
      |cons hx3 ht=>
       cases ht
       have hx2':=hx2
       cases hx2 with
       |ptr _ _ cb co sz hφ=>
        cases hx3
        refine ⟨_,hx2',fun w'=>?_⟩
        obtain ⟨n',rfl⟩:=Nat.exists_eq_succ_of_ne_zero hn
        have h13:=h6 _ hx1 w'
        have h14:(Rtype.noPack "a Value asked or handed on" t).run P w'=.ok () w':=noPack_run h11 w'
        have hp:∀ c:Value,(Rtype.ofHandle c).run P w'=.ok t w'→(ReflectliteValue.partsAny (.agg ⟨[c,.pointer (some ⟨cb,co+o,none⟩),.int .u64 (Int.ofNat (n'+1))]⟩)).run P w'=.ok (some (t,⟨cb,co+o,none⟩,n'+1)) w':=by
         intro c hc
         show ((Rtype.ofHandle c >>= fun t=>Pure.pure (some (t,(⟨cb,co+o,none⟩:Addr),n'+1))):Sem (Option (TypeId×Addr×Nat))).run P w'=_
         rw[Sem.run_bind,hc,Result.andThen_ok,Sem.run_pure]
        refine ⟨hp _ h13,?_⟩
        unfold ReflectliteValue.parts
        rw[Sem.run_bind]
        have h15:=hp _ h13
        rw[show ((ReflectliteValue.partsAny (.agg ⟨[_,_,_]⟩)).run P w')=_ from h15,Result.andThen_ok]
        show ((Rtype.noPack "a Value asked or handed on" t >>= fun _=>Pure.pure (some (t,(⟨cb,co+o,none⟩:Addr),n'+1))):Sem (Option (TypeId×Addr×Nat))).run P w'=_
        rw[Sem.run_bind,h14,Result.andThen_ok,Sem.run_pure]
theorem ldT_ok {t:TypeId} {b o:Nat} {k:AVal→R} {rv:AVal} {mf:Mem} (h:ldT P t (.ptr b o) m k=.ok rv mf):∃ u,k u=.ok rv mf∧∀ ad,VRel φ (.ptr b o) (.pointer (some ad))→
 ∃ c,VRel φ u c∧(loadVar t ad).run P w=.ok c w:=by
 obtain ⟨h1,h2⟩:=zAm h
 obtain ⟨u,h3,hdet⟩:=aLoad_det h2
 refine ⟨u,h3,fun ad hv=>?_⟩
 have h4:aLoad (aggB P t) (szOf P t) (.ptr b o) m (fun u=>.ok u m)=.ok u m:=hdet _
 obtain ⟨u',x,hu',hx,hrun⟩:=run_loadAt hr h1 hv h4
 cases hu'
 refine ⟨x,hx,?_⟩
 simpa[Instr.loadAt,Instr.sureAddr] using hrun
theorem stT_ok {t:TypeId} {b o:Nat} {v:AVal} {k:Mem→R} {rv:AVal} {mf:Mem} (h:stT P t (.ptr b o) v m k=.ok rv mf):∃ m',k m'=.ok rv mf∧∀ ad cv,VRel φ (.ptr b o) (.pointer (some ad))→VRel φ v cv→
 ∃ w',(storeVar t ad cv).run P w=.ok () w'∧Step P φ m w φ m' w':=by
 obtain ⟨h0,h1⟩:=zAm h
 rw[Bool.and_eq_true] at h0
 obtain ⟨ht,h0⟩:=h0
 obtain ⟨b',p,hb,hk⟩:=ZCi h1
 cases hb
 have hcells:∃ vs cs,m.get b=.cells false cs∧(vs.length≠0→o+vs.length≤cs.length)∧k (m.put b (.cells false (overL vs o cs)))=.ok rv mf∧vs.length=szOf P t∧
  ∀ φ c,VRel φ v c→zAa φ vs c.cells.toList∧(∀ v,v∈vs→v.isCell=true):=by
  rcases zBx hk with ⟨hag,hk⟩|⟨hag,hk⟩
  · obtain ⟨cs',rfl,hk⟩:=zDa hk
    obtain ⟨hl,hk⟩:=zAm hk
    obtain ⟨cs,h2,h3,h4⟩:=ZCl hk
    refine ⟨cs',cs,h2,h3,h4,by rw[beq_true,ZAm] at hl; exact hl,fun φ c hc=>?_⟩
    cases hc with
    |agg _ ca h5 h6=>exact ⟨h5,h6⟩
  · obtain ⟨hl,hk⟩:=zAm hk
    obtain ⟨cs,h2,h3,h4⟩:=ZCl hk
    rw[hag] at h0
    have h1':szOf P t=1:=by simpa using h0
    refine ⟨[v],cs,h2,h3,h4,h1'.symm,fun φ c hc=>⟨?_,fun v' hv=>by simp at hv; rw[hv]; exact hl⟩⟩
    rw[hc.cells_size hl]
    exact .cons hc .nil
 obtain ⟨vs,cs,h2,h3,h4,h5,h6⟩:=hcells
 refine ⟨_,h4,fun ad cv ha hv=>?_⟩
 cases ha with
 |ptr _ _ cb co sz hφ=>
  obtain ⟨h7,h8⟩:=h6 φ _ hv
  obtain ⟨w',hrun,hstep⟩:=ZCv hr hφ h2 h3 h7 h8
  refine ⟨w',?_,hstep⟩
  have hlen:cv.cells.size=szOf P t:=by rw[← Array.length_toList,h7.length,h5]
  simp only[storeVar,Sem.run_bind,zAw ht,Result.andThen_ok,hlen,ne_eq,not_true,if_false]
  exact hrun
end
end Go.AM
namespace Go.AM
variable [Tok]
variable {P:Program}
open Go.Extern
def exRow:EX→Array Value→Sem Value
 | .indexByte=>BytealgIndexByte.indexByte
 | .compare=>BytealgCompare.compare
 | .valueOf=>fun args=>ReflectliteValue.unpack (args.getD 0 (.tuple #[]))
 | .valType=>ReflectliteValue.methodAny (ReflectliteValue.valueError "reflectlite.Value.Type" 0) fun t _ _ _=>ReflectliteType.toType t
 | .kind=>ReflectliteType.abiMethod fun t=>do pure (.int .u8 (← Rtype.kind t))
 | .isNil=>ReflectliteValue.method (ReflectliteValue.valueError "reflectlite.Value.IsNil" 0) ReflectliteValue.isNil
 | .rtElem=>ReflectliteType.method ReflectliteType.elem
 | .implements=>ReflectliteType.relation "Implements" ReflectliteType.implements_
 | .assignable=>ReflectliteType.relation "AssignableTo" ReflectliteType.assignableTo
 | .typeOf=>ReflectliteType.typeOf
 | .valElem=>ReflectliteValue.method (ReflectliteValue.valueError "reflectlite.Value.Elem" 0) ReflectliteValue.elem
 | .valSet=>ReflectliteValue.set
 | .comparable=>ReflectliteType.method fun t=>do Rtype.noPackHeld "Comparable" t; pure (.bool (← typeInfo t).comparable)
def zCd (P:Program) (e:EX):Prop:=∀ args m v m',extF P e args m=.ok v m'→∀ φ w (cargs:Array Value),Rel P φ m w→zAa φ args cargs.toList→
 ∃ c w' φ',(exRow e cargs).run P w=.ok c w'∧Step P φ m w φ' m' w'∧VRel φ' v c
theorem arg1_ok {l:List AVal} {k:AVal→R} {v:AVal} {m:Mem} (h:arg1 l k=.ok v m):∃ x,l=[x]∧k x=.ok v m:=by
 obtain ⟨x,r,rfl,h1⟩:=ZCy h
 cases r with
 |nil=>exact ⟨x,rfl,h1⟩
 |cons y r=>cases h1
theorem arg2_ok {l:List AVal} {k:AVal→AVal→R} {v:AVal} {m:Mem} (h:arg2 l k=.ok v m):∃ x y,l=[x,y]∧k x y=.ok v m:=by
 obtain ⟨x,r,rfl,h1⟩:=ZCy h
 obtain ⟨y,rfl,h2⟩:=arg1_ok h1
 exact ⟨x,y,rfl,h2⟩
theorem vs1 {φ:Phi} {x:AVal} {cargs:Array Value} (h:zAa φ [x] cargs.toList):∃ c,cargs=#[c]∧VRel φ x c:=by
 obtain ⟨l⟩:=cargs
 cases h with
 | @cons _ c _ _ h t=>cases t; exact ⟨c,rfl,h⟩
theorem vs2 {φ:Phi} {x y:AVal} {cargs:Array Value} (h:zAa φ [x,y] cargs.toList):∃ c d,cargs=#[c,d]∧VRel φ x c∧VRel φ y d:=by
 obtain ⟨l⟩:=cargs
 cases h with
 | @cons _ c _ _ h t=>cases t with | @cons _ d _ _ h2 t2=>cases t2; exact ⟨c,d,rfl,h,h2⟩
theorem ext_kind:zCd P .kind:=by
 intro args m v m' h φ w cargs hr hv
 obtain ⟨x,rfl,h1⟩:=arg1_ok h
 obtain ⟨c,rfl,hc⟩:=vs1 hv
 obtain ⟨t,h2,h3⟩:=hT_ok hr h1
 obtain ⟨h4,h5⟩:=cond_f h2
 obtain ⟨kd,h6,h7⟩:=zCn h5
 cases h7
 refine ⟨.int .u8 kd,w,φ,?_,Step.refl hr,.int _ _⟩
 show ((Rtype.ofHandle c >>= fun t=>Rtype.noPack "a method of abi.Type" t >>= fun _=>(do pure (.int .u8 (← Rtype.kind t)):Sem Value)):Sem Value).run P w=_
 rw[Sem.run_bind,h3 c hc w,Result.andThen_ok,Sem.run_bind,noPack_run h4 w,Result.andThen_ok,Sem.run_bind,ran_ok (Still.kind t) h6 w,Result.andThen_ok,Sem.run_pure]
theorem ext_typeOf:zCd P .typeOf:=by
 intro args m v m' h φ w cargs hr hv
 obtain ⟨x,rfl,h1⟩:=arg1_ok h
 obtain ⟨c,rfl,hc⟩:=vs1 hv
 rcases zCp h1 with ⟨rfl,h2⟩|⟨t,y,rfl,h2⟩
 · cases h2
   cases hc
   exact ⟨.nilIface,w,φ,rfl,Step.refl hr,.niliface⟩
 · obtain ⟨u,h3,c',h4,h5⟩:=toRt_ok hr h2
   cases h3
   cases hc with
   |iface _ _ ci hci=>
    exact ⟨c',w,φ,h5 w,Step.refl hr,h4⟩
theorem ext_rtElem:zCd P .rtElem:=by
 intro args m v m' h φ w cargs hr hv
 obtain ⟨x,rfl,h1⟩:=arg1_ok h
 obtain ⟨c,rfl,hc⟩:=vs1 hv
 obtain ⟨t,h2,h3⟩:=rtT_ok hr h1
 obtain ⟨e1,h4,h5⟩:=zCn h2
 obtain ⟨e,rfl,h6⟩:=zCn h5
 obtain ⟨u,h7,c',h8,h9⟩:=toRt_ok hr h6
 cases h7
 refine ⟨c',w,φ,?_,Step.refl hr,h8⟩
 show ((ReflectliteType.ofRtype c >>= ReflectliteType.elem):Sem Value).run P w=_
 rw[Sem.run_bind,h3 c hc w,Result.andThen_ok]
 unfold ReflectliteType.elem
 rw[Sem.run_bind,ran_ok (Still.elem t) h4 w,Result.andThen_ok]
 exact h9 w
theorem ext_comparable:zCd P .comparable:=by
 intro args m v m' h φ w cargs hr hv
 obtain ⟨x,rfl,h1⟩:=arg1_ok h
 obtain ⟨c,rfl,hc⟩:=vs1 hv
 obtain ⟨t,h2,h3⟩:=rtT_ok hr h1
 obtain ⟨b,h4,h5⟩:=zCn h2
 cases h5
 refine ⟨.bool b,w,φ,?_,Step.refl hr,.bool b⟩
 show ((ReflectliteType.ofRtype c >>= fun t=>(do Rtype.noPackHeld "Comparable" t; pure (.bool (← typeInfo t).comparable):Sem Value)):Sem Value).run P w=_
 rw[Sem.run_bind,h3 c hc w,Result.andThen_ok]
 have h6:=ran_ok (Still.bind (Still.noPackHeld "Comparable" t) fun _=>Still.bind (Still.typeInfo t) fun i=>Still.pure i.comparable) h4 w
 rw[Sem.run_bind] at h6 ⊢
 generalize (Rtype.noPackHeld "Comparable" t).run P w=r at h6 ⊢
 cases r with
 |halt x w1=>cases h6
 |ok a w1=>
  rw[Result.andThen_ok] at h6 ⊢
  rw[Sem.run_bind] at h6 ⊢
  generalize (typeInfo t).run P w1=r at h6 ⊢
  cases r with
  |halt x w2=>cases h6
  |ok i w2=>
   rw[Result.andThen_ok,Sem.run_pure] at h6 ⊢
   cases h6; rfl
theorem ext_rel {e:EX} {what:String} {code:Nat} {f:TypeId→TypeId→Sem Bool} (hs:∀ u t,Still P (f u t)) (hrow:exRow e=ReflectliteType.relation what f)
 (hex:∀ args m,extF P e args m=arg2 args fun x y=>y.onIface (.fail code) fun _ u=>rtT P u fun u=>rtT P x fun t=>onOpt (ran P (f u t)) fun b=>.ok (.bool b) m):zCd P e:=by
 intro args m v m' h φ w cargs hr hv
 rw[hex] at h
 obtain ⟨x,y,rfl,h1⟩:=arg2_ok h
 obtain ⟨c,d,rfl,hc,hd⟩:=vs2 hv
 rcases zCp h1 with ⟨rfl,h2⟩|⟨t,y',rfl,h2⟩
 · cases h2
 · obtain ⟨u,h3,h4⟩:=rtT_ok hr h2
   obtain ⟨t',h5,h6⟩:=rtT_ok hr h3
   obtain ⟨b,h7,h8⟩:=zCn h5
   cases h8
   cases hd with
   |iface _ _ ci hci=>
    refine ⟨.bool b,w,φ,?_,Step.refl hr,.bool b⟩
    rw[hrow]
    show ((ReflectliteType.ofRtype ci >>= fun u=>ReflectliteType.ofRtype c >>= fun t=>(do pure (.bool (← f u t)):Sem Value)):Sem Value).run P w=_
    rw[Sem.run_bind,h4 ci hci w,Result.andThen_ok,Sem.run_bind,h6 c hc w,Result.andThen_ok,Sem.run_bind,ran_ok (hs u t') h7 w,Result.andThen_ok,Sem.run_pure]
theorem ext_implements:zCd P .implements:=ext_rel (fun u t=>Still.implements_ u t) rfl (fun _ _=>rfl)
theorem ext_assignable:zCd P .assignable:=ext_rel (fun u t=>Still.assignableTo u t) rfl (fun _ _=>rfl)
theorem ext_valueOf:zCd P .valueOf:=by
 intro args m v m' h φ w cargs hr hv
 obtain ⟨x,rfl,h1⟩:=arg1_ok h
 obtain ⟨c,rfl,hc⟩:=vs1 hv
 rcases zCp h1 with ⟨rfl,h2⟩|⟨t,y,rfl,h2⟩
 · cases h2
 · obtain ⟨kd,h3,h4⟩:=zCn h2
   obtain ⟨hfl,h5⟩:=zAm h4
   obtain ⟨hn,h6⟩:=zCi h5
   cases h6
   cases hc with
   |iface _ _ ci hci=>
    have hst:=Step.new (w':=w.alloc (.cells ci.cells t)) (o:=0) (s:=ci.cells.size) (x:=.cells false (cells y)) hr hn rfl rfl rfl rfl
     (brel_new (by simp) ((hci.cells hfl).mono (by
      intro q y' hq
      have:=hr.dom q y' hq
      show (if q=m.next then _ else _)=_
      rw[if_neg (by omega)]; exact hq)) (cells_cell hci hfl))
    refine ⟨.agg #[typeHandle P t,.pointer (some ⟨w.heap.size,0,none⟩),.int .u64 (Int.ofNat (kd+128+0))],_,_,?_,hst,?_⟩
    · show ((newVar t ci >>= fun a=>ReflectliteValue.mk t a 0):Sem Value).run P w=_
      have hk:=ran_ok (Still.kind t) h3 (w.alloc (.cells ci.cells t))
      have h1:(newVar t ci).run P w=.ok ⟨w.heap.size,0,none⟩ (w.alloc (.cells ci.cells t)):=by simp[newVar,newRow]
      rw[Sem.run_bind,h1,Result.andThen_ok]
      simp[ReflectliteValue.mk,Rtype.handle,hk,ReflectliteValue.flagIndir]
    · refine .agg _ _ (.cons ?_ (.cons (.ptr _ 0 w.heap.size 0 ci.cells.size (by simp)) (.cons (.int _ _) .nil))) (fun v hv=>?_)
      · exact handle_rel hst.rel t
      · simp at hv; rcases hv with rfl|rfl|rfl<;>rfl
end Go.AM
namespace Go.AM
variable [Tok]
variable {P:Program}
open Go.Extern
theorem ext_valType:zCd P .valType:=by
 intro args m v m' h φ w cargs hr hv
 obtain ⟨x,rfl,h1⟩:=arg1_ok h
 obtain ⟨c,rfl,hc⟩:=vs1 hv
 obtain ⟨t,b,o,n,h2,hp,h3⟩:=valParts_ok hr h1
 obtain ⟨u,h4,c',h5,h6⟩:=toRt_ok hr h2
 cases h4
 obtain ⟨ad,h7,h8⟩:=h3 c hc
 refine ⟨c',w,φ,?_,Step.refl hr,h5⟩
 show ((ReflectliteValue.partsAny c >>= _):Sem Value).run P w=_
 rw[Sem.run_bind,(h8 w).1,Result.andThen_ok]
 exact h6 w
theorem ext_isNil:zCd P .isNil:=by
 intro args m v m' h φ w cargs hr hv
 obtain ⟨x,rfl,h1⟩:=arg1_ok h
 obtain ⟨c,rfl,hc⟩:=vs1 hv
 obtain ⟨t,b,o,n,h2,hp,h3⟩:=valParts_ok hr h1
 obtain ⟨hk,h4⟩:=zAm h2
 obtain ⟨u,h5,h6⟩:=ldT_ok hr h4
 obtain ⟨bb,h7,h8⟩:=aIsNil_ok h5
 cases h7
 obtain ⟨ad,h9,h10⟩:=h3 c hc
 obtain ⟨cv,h11,h12⟩:=h6 ad h9
 refine ⟨.bool bb,w,φ,?_,Step.refl hr,.bool bb⟩
 show ((ReflectliteValue.parts c >>= _):Sem Value).run P w=_
 rw[Sem.run_bind,(h10 w).2,Result.andThen_ok]
 show (ReflectliteValue.isNil t ad n (n % 32)).run P w=_
 unfold ReflectliteValue.isNil
 simp only[hk,Bool.not_true,Bool.false_eq_true,if_false]
 rw[Sem.run_bind,h12,Result.andThen_ok]
 rcases h8 with ⟨rfl,h8⟩|⟨rfl,h8⟩
 · rcases h8 with rfl|rfl|rfl|rfl|rfl<;>cases h11<;>rfl
 · rcases h8 with ⟨p,o,rfl⟩|⟨p,rfl⟩|⟨p,o,l,cp,e,s,rfl⟩|⟨f,l,rfl⟩|⟨t,y,rfl⟩<;>cases h11<;>rfl
theorem ext_valElem:zCd P .valElem:=by
 intro args m v m' h φ w cargs hr hv
 obtain ⟨x,rfl,h1⟩:=arg1_ok h
 obtain ⟨c,rfl,hc⟩:=vs1 hv
 obtain ⟨t,b,o,n,h2,hp,h3⟩:=valParts_ok hr h1
 obtain ⟨hk,h4⟩:=zAm h2
 rw[beq_true] at hk
 have hk22:n % 32=22:=hk
 obtain ⟨e1,h5,h6⟩:=zCn h4
 obtain ⟨e,rfl,h7⟩:=zCn h6
 obtain ⟨kd,h8,h9⟩:=zCn h7
 obtain ⟨u,h10,h11⟩:=ldT_ok hr h9
 obtain ⟨b2,o2,rfl,h12⟩:=ZCi h10
 cases h12
 obtain ⟨ad,h13,h14⟩:=h3 c hc
 obtain ⟨cv,h15,h16⟩:=h11 ad h13
 have h15':=h15
 cases h15 with
 |ptr _ _ cb co sz hφ=>
  refine ⟨.agg #[typeHandle P e,.pointer (some ⟨cb,co+o2,none⟩),.int .u64 (Int.ofNat (kd+128+256))],w,φ,?_,Step.refl hr,?_⟩
  · show ((ReflectliteValue.parts c >>= _):Sem Value).run P w=_
    rw[Sem.run_bind,(h14 w).2,Result.andThen_ok]
    show (ReflectliteValue.elem t ad n (n % 32)).run P w=_
    rw[hk22]
    unfold ReflectliteValue.elem
    have hne:((22:Nat) != 20&&(22:Nat) != 22)=false:=rfl
    simp only[hne,Bool.false_eq_true,if_false]
    rw[Sem.run_bind,h16,Result.andThen_ok,Sem.run_bind,ran_ok (Still.elem t) h5 w,Result.andThen_ok]
    show (ReflectliteValue.mk e ⟨cb,co+o2,none⟩ ReflectliteValue.flagAddr).run P w=_
    have hkd:=ran_ok (Still.kind e) h8 w
    simp[ReflectliteValue.mk,Rtype.handle,hkd,ReflectliteValue.flagIndir,ReflectliteValue.flagAddr]
  · refine .agg _ _ (.cons (handle_rel hr e) (.cons h15' (.cons (.int _ _) .nil))) (fun v hv=>?_)
    simp at hv; rcases hv with rfl|rfl|rfl<;>rfl
theorem ext_valSet:zCd P .valSet:=by
 intro args m v m' h φ w cargs hr hv
 obtain ⟨x,y,rfl,h1⟩:=arg2_ok h
 obtain ⟨c,d,rfl,hc,hd⟩:=vs2 hv
 obtain ⟨dst,b,o,fl,h2,hp,h3⟩:=valParts_ok hr h1
 obtain ⟨src,b2,o2,n2,h4,hp2,h5⟩:=valParts_ok hr h2
 obtain ⟨hfl,h6⟩:=zAm h4
 rw[beq_true] at hfl
 obtain ⟨da,h7,h8⟩:=zCn h6
 obtain ⟨u,h9,h10⟩:=ldT_ok hr h8
 obtain ⟨ad,k1,k2⟩:=h3 c hc
 obtain ⟨ad2,k3,k4⟩:=h5 d hd
 obtain ⟨cv,k5,k6⟩:=h10 ad2 k3
 have hfl':(fl / ReflectliteValue.flagAddr % 2 == 0)=false:=by
  have:fl / 256 % 2=1:=hfl
  simp[ReflectliteValue.flagAddr,this]
 rcases zBx h9 with ⟨rfl,h11⟩|⟨rfl,h11⟩
 · obtain ⟨m1,h12,h13⟩:=stT_ok hr h11
   cases h12
   obtain ⟨w',g1,g2⟩:=h13 ad cv k1 k5
   refine ⟨.tuple #[],w',φ,?_,g2,ZAy _⟩
   show ((ReflectliteValue.parts c >>= _):Sem Value).run P w=_
   rw[Sem.run_bind,(k2 w).2,Result.andThen_ok]
   show ((ReflectliteValue.parts d >>= _):Sem Value).run P w=_
   rw[Sem.run_bind,(k4 w).2,Result.andThen_ok]
   show ((if (fl / ReflectliteValue.flagAddr % 2 == 0)=true then _ else (loadVar src ad2 >>= _)):Sem Value).run P w=_
   simp only[hfl',Bool.false_eq_true,if_false]
   rw[Sem.run_bind,k6,Result.andThen_ok,Sem.run_bind,ran_ok (Still.directlyAssignable dst src) h7 w,Result.andThen_ok]
   simp only[if_true]
   rw[Sem.run_bind,g1,Result.andThen_ok,Sem.run_pure]
 · obtain ⟨i,h12,h13⟩:=zCn h11
   obtain ⟨ks,h14,h15⟩:=zCn h13
   obtain ⟨h16,h17⟩:=zAm h15
   rw[Bool.and_eq_true] at h16
   obtain ⟨rfl,hks⟩:=h16
   have hks':(ks == 20)=false:=by
    cases hb:(ks == 20) with
    |false=>rfl
    | true => have : ks = 20 := by simpa using hb
              subst this; cases hks
   obtain ⟨m1,h18,h19⟩:=stT_ok hr h17
   cases h18
   obtain ⟨w',g1,g2⟩:=h19 ad (.iface src cv) k1 (.iface src u cv k5)
   refine ⟨.tuple #[],w',φ,?_,g2,ZAy _⟩
   show ((ReflectliteValue.parts c >>= _):Sem Value).run P w=_
   rw[Sem.run_bind,(k2 w).2,Result.andThen_ok]
   show ((ReflectliteValue.parts d >>= _):Sem Value).run P w=_
   rw[Sem.run_bind,(k4 w).2,Result.andThen_ok]
   show ((if (fl / ReflectliteValue.flagAddr % 2 == 0)=true then _ else (loadVar src ad2 >>= _)):Sem Value).run P w=_
   simp only[hfl',Bool.false_eq_true,if_false]
   rw[Sem.run_bind,k6,Result.andThen_ok,Sem.run_bind,ran_ok (Still.directlyAssignable dst src) h7 w,Result.andThen_ok]
   simp only[Bool.false_eq_true,if_false]
   rw[Sem.run_bind,ran_ok (Still.implements dst src) h12 w,Result.andThen_ok]
   simp only[if_true]
   rw[Sem.run_bind,ran_ok (Still.kind src) h14 w,Result.andThen_ok]
   simp only[hks',Bool.false_eq_true,if_false]
   rw[Sem.run_bind,g1,Result.andThen_ok,Sem.run_pure]
end Go.AM
namespace Go.AM
variable [Tok]
variable {P:Program}
open Go.Extern
def lexC:List UInt8→List UInt8→Int
 | [],[]=>0
 | [],_::_=>-1
 |_::_,[]=>1
 |a::x,b::y=>if a=b then lexC x y else if a<b then -1 else 1
def bmk (l:List UInt8):ByteArray:=⟨l.toArray⟩
theorem bmk_size (l:List UInt8):(bmk l).size=l.length:=by simp[bmk,ByteArray.size]
theorem bmk_zero (x:UInt8) (l:List UInt8):(bmk (x::l))[0]! = x:=by
 have h:0<(bmk (x::l)).size:=by rw[bmk_size]; simp
 rw[getElem!_pos (bmk (x::l)) 0 h]; rfl
theorem bmk_succ (x:UInt8) (l:List UInt8) (i:Nat):(bmk (x::l))[i+1]! = (bmk l)[i]!:=by
 by_cases h:i<(bmk l).size
 · have h':i+1<(bmk (x::l)).size:=by rw[bmk_size] at h ⊢; simp; omega
   rw[getElem!_pos (bmk l) i h,getElem!_pos (bmk (x::l)) (i+1) h']; rfl
 · have h':¬ i+1<(bmk (x::l)).size:=by rw[bmk_size] at h ⊢; simp; omega
   rw[getElem!_neg (bmk l) i h,getElem!_neg (bmk (x::l)) (i+1) h']
theorem cmp_lex:∀ (a b:List UInt8),BytealgCompare.cmp (bmk a) (bmk b)=lexC a b
 | [],[]=>by simp[BytealgCompare.cmp,bmk_size,lexC]
 | [],y::l=>by simp[BytealgCompare.cmp,bmk_size,lexC]
 |x::l,[]=>by simp[BytealgCompare.cmp,bmk_size,lexC]
 |x::a,y::b=>by
  have ih:=cmp_lex a b
  unfold BytealgCompare.cmp at ih ⊢
  have hmin:min (bmk (x::a)).size (bmk (y::b)).size=min (bmk a).size (bmk b).size+1:=by simp only[bmk_size,List.length_cons]; omega
  rw[hmin,List.range_succ_eq_map,List.find?_cons]
  by_cases hxy:x=y
  · subst hxy
    have h0:((bmk (x::a))[0]! != (bmk (x::b))[0]!)=false:=by rw[bmk_zero,bmk_zero]; simp
    rw[h0]
    simp only[Bool.false_eq_true]
    rw[List.find?_map]
    have hf:((fun i=>(bmk (x::a))[i]! != (bmk (x::b))[i]!) ∘ Nat.succ)=fun i=>(bmk a)[i]! != (bmk b)[i]!:=by
     funext i
     show ((bmk (x::a))[i+1]! != (bmk (x::b))[i+1]!)=_
     rw[bmk_succ,bmk_succ]
    rw[hf]
    show _=if x=x then lexC a b else _
    rw[if_pos rfl,← ih]
    cases hfd:(List.range (min (bmk a).size (bmk b).size)).find? (fun i=>(bmk a)[i]! != (bmk b)[i]!) with
    |none=>
     simp only[Option.map_none,bmk_size,List.length_cons]
     simp only[Nat.add_lt_add_iff_right,gt_iff_lt]
    |some i=>
     simp only[Option.map_some]
     show (if (bmk (x::a))[i+1]! < (bmk (x::b))[i+1]! then (-1:Int) else 1)=_
     rw[bmk_succ,bmk_succ]
  · have h0:((bmk (x::a))[0]! != (bmk (y::b))[0]!)=true:=by rw[bmk_zero,bmk_zero]; simpa using hxy
    rw[h0]
    simp only
    rw[bmk_zero,bmk_zero]
    show _=if x=y then _ else if x<y then (-1:Int) else 1
    rw[if_neg hxy]
theorem isByte_ok {φ:Phi} {x:AVal} {c:Value} (h:isByte x=true) (hc:VRel φ x c):∃ z,c=.int .u8 z∧0≤z∧z≤255:=by
 unfold isByte at h
 split at h
 · rename_i z
   rw[onI_nat] at h
   cases hc
   cases z with
   |negSucc n=>cases h
   |ofNat n=>exact ⟨_,rfl,by show (0:Int)≤((n:Nat):Int); omega,by have:=zAd.1 h; show ((n:Nat):Int)≤255; omega⟩
 · cases hc with|sym _ _ hi=>have:=ZCb hi; exact ⟨_,rfl,by omega,by omega⟩
 · cases hc with|nx _ _ hi hin=>have:=zDb hi hin; exact ⟨_,rfl,by omega,by omega⟩
 · cases h
def u8of (c:Value):UInt8:=match c with | .int _ z=>z.toNat.toUInt8|_=>0
theorem u8of_toNat {z:Int} (h0:0≤z) (h1:z≤255):((u8of (.int .u8 z)).toNat:Int)=z:=by
 show ((z.toNat.toUInt8).toNat:Int)=z
 simp; omega
theorem loadBytes_run {w:World} {b:Nat}:∀ (vs:List Value) (o:Nat) (acc:ByteArray),(∀ j v,vs[j]? = some v→w.cell? ⟨b,o+j,none⟩=some v)→(∀ v,v∈vs→∃ z,v=.int .u8 z)→
 (Bytes.loadBytes ⟨b,o,none⟩ vs.length acc).run P w=.ok ⟨acc.data++(vs.map u8of).toArray⟩ w
 | [],o,acc,_,_=>by
  show Sem.run P (pure acc) w=_
  rw[Sem.run_pure]
  have e:acc.data++(([]:List Value).map u8of).toArray=acc.data:=by simp
  rw[e]
 |v::vs,o,acc,h,hb=>by
  obtain ⟨z,rfl⟩:=hb _ (List.mem_cons_self ..)
  have h0:=h 0 _ rfl
  rw[Nat.add_zero] at h0
  show ((load ⟨b,o,none⟩ >>= _):Sem ByteArray).run P w=_
  have hl:(load ⟨b,o,none⟩).run P w=.ok (.int .u8 z) w:=by simp[load,Sem.run,h0]
  rw[Sem.run_bind,hl,Result.andThen_ok]
  show (Bytes.loadBytes ((⟨b,o,none⟩:Addr).add 1) vs.length (acc.push z.toNat.toUInt8)).run P w=_
  rw[addr_add,loadBytes_run vs (o+1) _ (fun j v hj=>by
   have:=h (j+1) v (by simpa using hj)
   rwa [show o+(j+1)=o+1+j by omega] at this) (fun v hv=>hb v (List.mem_cons_of_mem _ hv))]
  congr 2
  apply Array.ext'
  simp[ByteArray.push,u8of]
theorem byteVals_ok {φ:Phi} {m:Mem} {w:World} (hr:Rel P φ m w) {x:AVal} {k:List AVal→R} {v:AVal} {mf:Mem} (h:byteVals x m k=.ok v mf) {cx:Value} (hx:VRel φ x cx) :
 ∃ (cs:List AVal) (vs:List Value),k cs=.ok v mf∧zAa φ cs vs∧(∀ v,v∈vs→∃ z,v=.int .u8 z∧0≤z∧z≤255)∧(Bytes.bytesOf cx).run P w=.ok (bmk (vs.map u8of)) w:=by
 have bytes:∀ (cs:List AVal) (vs:List Value),zAa φ cs vs→allBytes cs=true→∀ v,v∈vs→∃ z,v=.int .u8 z∧0≤z∧z≤255:=by
  intro cs
  induction cs with
  |nil=>intro vs hv _ v hm; cases hv; cases hm
  |cons a l ih=>
   intro vs hv ha v hm
   cases hv with
   |cons h1 h2=>
    have ha':zAc (allBytes l) false (isByte a)=true:=ha
    cases hb:isByte a with
    |false=>rw[hb] at ha'; cases ha'
    |true=>
     rw[hb] at ha'
     rcases List.mem_cons.1 hm with rfl|hm
     · exact isByte_ok hb h1
     · exact ih _ h2 ha' v hm
 cases x<;>first|(cases h; done)|skip
 · cases hx
   refine ⟨[],[],h,.nil,fun v hv=>(by cases hv),?_⟩
   rfl
 · rename_i s
   cases hx with
   |str _ t ht=>
    have hrel:zAa φ (toU8 s) (t.data.toList.map fun b=>Value.int .u8 b.toNat):=by rw[← ht]; exact toU8_rel _
    refine ⟨toU8 s,_,h,hrel,fun v hv=>?_,?_⟩
    · simp only[List.mem_map] at hv
      obtain ⟨b,_,rfl⟩:=hv
      have:=b.toNat_lt
      exact ⟨_,rfl,by omega,by omega⟩
    · show (pure t:Sem ByteArray).run P w=_
      rw[Sem.run_pure]
      congr 1
      obtain ⟨⟨l⟩⟩:=t
      simp only[bmk,List.map_map]
      congr 2
      have:∀ l:List UInt8,l.map (u8of ∘ fun b=>Value.int .u8 b.toNat)=l:=by
       intro l
       induction l with
       |nil=>rfl
       |cons b l ih=>rw[List.map_cons,ih]; congr 1; simp[u8of]
      exact (this l).symm
 · rename_i b o n cp ex es
   obtain ⟨hes,h1⟩:=zAm h
   obtain ⟨ro,cs,hb,hn,h2⟩:=getCells_ok h1
   obtain ⟨hall,h3⟩:=zAm h2
   rw[beq_true] at hes
   subst hes
   cases hx with
   |slice _ _ _ _ _ _ cb co sz o'' cap' hφ g1 g2 g3 g4 g5=>
    have hB:=hr.blk b (hr.dom _ _ hφ)
    rw[hb] at hB
    obtain ⟨cb',co',c,el,fz,q1,q2,q3,q4,q5,q6⟩:=hB
    rw[hφ] at q1; cases q1
    have hvs:zAa φ ((cs.drop o).take n) ((c.toList.drop (co+o)).take n):=by
     have:=(q4.drop o).take n
     rw[List.drop_take,List.drop_drop,List.take_take] at this
     have e:min n (cs.length-o)=n:=by simp at hn; omega
     rw[e] at this
     rw[Nat.add_comm co o]
     simpa[Nat.add_comm] using this
    have hby:=bytes _ _ hvs hall
    refine ⟨_,_,h3,hvs,hby,?_⟩
    have hlen:((c.toList.drop (co+o)).take n).length=n:=by rw[hvs.length,hn]
    show (Bytes.loadBytes ⟨cb,o'',none⟩ n .empty).run P w=_
    by_cases h0:n=0
    · subst h0
      simp only[List.take_zero,List.map_nil]
      rfl
    · rw[g4 (by omega)]
      have:=loadBytes_run (P:=P) (w:=w) (b:=cb) ((c.toList.drop (co+o)).take n) (co+o) .empty (fun j v hj=>by
       rw[List.getElem?_take] at hj
       split at hj
       · rw[List.getElem?_drop] at hj
         simp only[World.cell?,q2,Option.isSome_none,Bool.false_eq_true,if_false]
         rw[← Array.getElem?_toList]; exact hj
       · cases hj) (fun v hv=>by obtain ⟨z,hz,_⟩:=hby v hv; exact ⟨z,hz⟩)
      rw[hlen] at this
      rw[this]
      rw[show ByteArray.empty.data=#[] from rfl,Array.empty_append]
      rfl
theorem cmp1_ok {φ:Phi} {x y:AVal} {o:Ord3} (h:cmp1 x y=some o) {a b:Int} (hx:VRel φ x (.int .u8 a)) (hy:VRel φ y (.int .u8 b)):o.holds a b:=by
 unfold cmp1 at h
 split at h
 · rename_i p q
   obtain ⟨_,h2⟩:=condSome h
   cases hx; cases hy
   cases h2
   exact natCmp_holds (fun n=>Int.ofNat n) p q fun i j _ _ h5=>by show (i:Int)<(j:Int); omega
 · obtain ⟨k,a',b',e1,e2,h3⟩:=tokCmp_ok h hx hy
   cases e1; cases e2
   exact h3
theorem u8of_inj {a b:Int} (ha:0≤a) (ha':a≤255) (hb:0≤b) (hb':b≤255):(u8of (.int .u8 a)=u8of (.int .u8 b) ↔ a=b)∧(u8of (.int .u8 a)<u8of (.int .u8 b) ↔ a<b):=by
 have h1:=u8of_toNat ha ha'
 have h2:=u8of_toNat hb hb'
 constructor
 · constructor
   · intro h; rw[h] at h1; omega
   · intro h; rw[h]
 · rw[UInt8.lt_iff_toNat_lt]; omega
theorem cmpA_ok {φ:Phi}:∀ {x y:List AVal} {k:Int→R} {v:AVal} {m:Mem},cmpA x y k=.ok v m→∀ {vs ws:List Value},zAa φ x vs→zAa φ y ws→
 (∀ v,v∈vs→∃ z,v=.int .u8 z∧0≤z∧z≤255)→(∀ v,v∈ws→∃ z,v=.int .u8 z∧0≤z∧z≤255)→k (lexC (vs.map u8of) (ws.map u8of))=.ok v m
 | [],[],k,v,m,h,vs,ws,hv,hw,_,_=>by cases hv; cases hw; exact h
 | [],_::_,k,v,m,h,vs,ws,hv,hw,_,_=>by cases hv; cases hw; exact h
 |_::_,[],k,v,m,h,vs,ws,hv,hw,_,_=>by cases hv; cases hw; exact h
 |a::x,b::y,k,v,m,h,vs,ws,hv,hw,b1,b2=>by
  cases hv with
  | @cons _ c _ cs h1 h2=>
   cases hw with
   | @cons _ d _ ds h3 h4=>
    obtain ⟨z1,rfl,z2,z3⟩:=b1 c (List.mem_cons_self ..)
    obtain ⟨y1,rfl,y2,y3⟩:=b2 d (List.mem_cons_self ..)
    obtain ⟨o,h5,h6⟩:=onO3_ok h
    have ho:=cmp1_ok h5 h1 h3
    obtain ⟨e1,e2⟩:=u8of_inj z2 z3 y2 y3
    show k (if u8of (.int .u8 z1)=u8of (.int .u8 y1) then lexC (cs.map u8of) (ds.map u8of) else if u8of (.int .u8 z1)<u8of (.int .u8 y1) then -1 else 1)=_
    cases o with
    |lt=>
     have ho':z1<y1:=ho
     rw[if_neg (fun e=>by have:=e1.1 e; omega),if_pos (e2.2 ho')]; exact h6
    |gt=>
     have ho':y1<z1:=ho
     rw[if_neg (fun e=>by have:=e1.1 e; omega),if_neg (fun e=>by have:=e2.1 e; omega)]; exact h6
    |eq=>
     have ho':z1=y1:=ho
     rw[if_pos (e1.2 ho')]
     exact cmpA_ok h6 h2 h4 (fun v hv=>b1 v (List.mem_cons_of_mem _ hv)) (fun v hv=>b2 v (List.mem_cons_of_mem _ hv))
    |ge=>cases h6
    |le=>cases h6
theorem ext_compare:zCd P .compare:=by
 intro args m v m' h φ w cargs hr hv
 obtain ⟨x,y,rfl,h1⟩:=arg2_ok h
 obtain ⟨c,d,rfl,hc,hd⟩:=vs2 hv
 obtain ⟨cs,vs,h2,h3,h4,h5⟩:=byteVals_ok hr h1 hc
 obtain ⟨ds,ws,h6,h7,h8,h9⟩:=byteVals_ok hr h2 hd
 have h10:=cmpA_ok h6 h3 h7 h4 h8
 rw[forceI_eq] at h10
 cases h10
 refine ⟨goInt (lexC (vs.map u8of) (ws.map u8of)),w,φ,?_,Step.refl hr,.int _ _⟩
 show ((Bytes.bytesOf c >>= fun a=>Bytes.bytesOf d >>= fun b=>pure (goInt (BytealgCompare.cmp a b))):Sem Value).run P w=_
 rw[Sem.run_bind,h5,Result.andThen_ok,Sem.run_bind,h9,Result.andThen_ok,Sem.run_pure,cmp_lex]
theorem ext_all (e:EX) (h:e≠.indexByte):zCd P e:=by
 cases e with
 |indexByte=>exact absurd rfl h
 |compare=>exact ext_compare
 |valueOf=>exact ext_valueOf
 |valType=>exact ext_valType
 |kind=>exact ext_kind
 |isNil=>exact ext_isNil
 |rtElem=>exact ext_rtElem
 |implements=>exact ext_implements
 |assignable=>exact ext_assignable
 |typeOf=>exact ext_typeOf
 |valElem=>exact ext_valElem
 |valSet=>exact ext_valSet
 |comparable=>exact ext_comparable
def ExtHere (P:Program) (f:FuncId) (e:EX):Prop:=e≠.indexByte∧∃ fn,P.funcs[f]? = some fn∧(fn.name == "runtime.NumGoroutine")=false∧fn.body.isNone=true∧Extern.findNext fn=none∧Extern.find fn=some (exRow e)
end Go.AM
namespace Go.AM
variable {P:Program}
section
structure Map where
 G:Nat
 ns:List Nat
 ts:List AVal
 nx:Nat→AVal
 op:Nat→AVal
def Map.nm (σ:Map) (p:Nat):Nat:=zAc p (onL 0 (fun x _=>x) (ZAe (Nat.sub p (Nat.succ σ.G)) σ.ns)) (Nat.ble p σ.G)
def Map.top (σ:Map):Nat:=Nat.add (Nat.succ σ.G) (lenL σ.ns)
def retag (k:IntKind):AVal→AVal
 | .sym _ i=>.sym k i
 | .nx _ e=>.nx k e
 | .int _ n=>.int k n
 |x=>x
def Map.tok (σ:Map) (j:Nat):AVal:=onL .bad (fun x _=>x) (ZAe j σ.ts)
def zipB {α β:Type} (f:α→β→Bool):List α→List β→Bool
 | [],_=>true
 |a::x,b::y=>zAc (zipB f x y) false (f a b)
 |_,_=>false
def absN (σ:Map):Nat→AVal→AVal→Bool
 |0,_,_=>false
 |d+1,t,s=>match t,s with
  | .any,s=>s.isCell
  | .sym k j,s=>and (Nat.ble (Nat.succ j) (lenL σ.ts)) (aeqN 2 s (retag k (σ.tok j)))
  | .nx k e,s=>aeqN 2 s (retag k (σ.nx e))
  | .opq i,s=>aeqN 2 s (σ.op i)
  | .int j a,.int k b=>and (ikEq j k) (ieq a b)
  | .str a,.str b=>listEq a b
  | .bool a,.bool b=>zAc b (not b) a
  | .ptr a o,.ptr b p=>and (Nat.ble (Nat.succ a) σ.top) (and (Nat.beq (σ.nm a) b) (Nat.beq o p))
  | .slice a o n c e z,.slice b p n' c' e' z'=>and (Nat.ble (Nat.succ a) σ.top) (and (and (Nat.beq (σ.nm a) b) (Nat.beq o p)) (and (and (Nat.beq n n') (Nat.beq z z')) (and (and (Nat.ble n c) (Nat.ble c c')) (zAc (and e' (Nat.beq c c')) true e))))
  | .nilptr,.nilptr | .nilslice,.nilslice | .nilmap,.nilmap | .nilfunc,.nilfunc | .niliface,.niliface=>true
  | .map a,.map b=>and (Nat.ble (Nat.succ a) σ.top) (Nat.beq (σ.nm a) b)
  | .func f [],.func g []=>Nat.beq f g
  | .iface t a,.iface u b=>and (Nat.beq t u) (absN σ d a b)
  | .agg a,.agg b=>and (Nat.beq (lenL a) (lenL b)) (and (a.all AVal.isCell) (zipB (absN σ d) a b))
  | .tuple a,.tuple b=>and (Nat.beq (lenL a) (lenL b)) (zipB (absN σ d) a b)
  |_,_=>false
def absB (σ:Map):Blk→Blk→Bool
 | .none,_=>true
 | .cells ro cs,.cells ro' cs'=>and (or ro (not ro')) (and (cs.all AVal.isCell) (zipB (absN σ 4) cs cs'))
 | .map es k,.map es' k'=>and (Nat.beq k k') (and (Nat.beq (lenL es) (lenL es')) (zipB (fun a b=>and (absN σ 4 a.key b.key) (and (absN σ 4 a.val b.val) (Nat.beq a.born b.born))) es es'))
 |_,_=>false
theorem zBd (σ:Map):σ.top=σ.G+1+σ.ns.length:=by
 show Nat.succ σ.G+lenL σ.ns=_
 rw[ZAm]
theorem tok_eq (σ:Map) (j:Nat):σ.tok j=(σ.ts[j]?).getD .bad:=by
 unfold Map.tok
 rw[ZBk]
 cases h:σ.ts.drop j with
 |nil=>
  have:σ.ts[j]? = none:=by
   rw[List.getElem?_eq_none_iff]
   have:=congrArg List.length h
   simp at this; omega
  rw[this]; rfl
 |cons x l=>
  have:σ.ts[j]? = some x:=by
   have:=congrArg (fun l=>l[0]?) h
   simpa using this
  rw[this]; rfl
theorem nm_low {σ:Map} {p:Nat} (h:p≤σ.G):σ.nm p=p:=by
 unfold Map.nm; rw[zAd.2 h]; rfl
theorem nm_high {σ:Map} {p:Nat} (h:σ.G<p):σ.nm p=(σ.ns[p-(σ.G+1)]?).getD 0:=by
 unfold Map.nm
 rw[zBj.2 h]
 show onL 0 _ (ZAe (p-(σ.G+1)) σ.ns)=_
 rw[ZBk]
 cases h:σ.ns.drop (p-(σ.G+1)) with
 |nil=>
  have:σ.ns[p-(σ.G+1)]? = none:=by
   rw[List.getElem?_eq_none_iff]
   have:=congrArg List.length h
   simp at this; omega
  rw[this]; rfl
 |cons x l=>
  have:σ.ns[p-(σ.G+1)]? = some x:=by
   have:=congrArg (fun l=>l[0]?) h
   simpa using this
  rw[this]; rfl
section
variable {T T':Tok} {φ φ':Phi} {σ:Map}
theorem zip_ok {f:AVal→AVal→Bool} (hf:∀ t s,f t s=true→∀ c,@VRel T φ s c→@VRel T' φ' t c):∀ {ts ss:List AVal} {cs:List Value},zipB f ts ss=true→@zAa T φ ss cs→@zAa T' φ' ts (cs.take ts.length)
 | [],_,_,_,_=>by rw[List.length_nil,List.take_zero]; exact @zAa.nil T' φ'
 |t::ts,[],_,h,_=>by cases h
 |t::ts,s::ss,cs,h,hv=>by
  cases hv with
  | @cons _ c _ cs h1 h2=>
   have h':zAc (zipB f ts ss) false (f t s)=true:=h
   cases hb:f t s with
   |false=>rw[hb] at h'; cases h'
   |true=>
    rw[hb] at h'
    exact @zAa.cons T' φ' _ _ _ _ (hf t s hb c h1) (zip_ok hf h' h2)
theorem zip_len {α β:Type} {f:α→β→Bool}:∀ {ts:List α} {ss:List β},zipB f ts ss=true→ts.length≤ss.length
 | [],_,_=>Nat.zero_le _
 |_::_,[],h=>by cases h
 |t::ts,s::ss,h=>by
  have h':zAc (zipB f ts ss) false (f t s)=true:=h
  cases hb:f t s with
  |false=>rw[hb] at h'; cases h'
  |true=>rw[hb] at h'; have:=zip_len h'; simp; omega
theorem aeq_bad {s:AVal} (h:aeqN 2 s .bad=true):False:=by cases s<;>cases h
theorem absN_ok (hφ:∀ p,p<σ.top→φ' p=φ (σ.nm p)) (hS:∀ k j c,j<σ.ts.length→@VRel T φ (retag k (σ.tok j)) c→@VRel T' φ' (.sym k j) c)
 (hN:∀ k d s c,aeqN 2 s (retag k (σ.nx d))=true→@VRel T φ s c→@VRel T' φ' (.nx k d) c) (hO:∀ i s c,aeqN 2 s (σ.op i)=true→@VRel T φ s c→@VRel T' φ' (.opq i) c):∀ (d:Nat) (t s:AVal),absN σ d t s=true→∀ c,@VRel T φ s c→@VRel T' φ' t c
 |0,_,_,h=>by cases h
 |d+1,t,s,h=>by
  have ih:=absN_ok hφ hS hN hO d
  have bools:∀ (a b:Bool),zAc b (not b) a=true→a=b:=by intro a b h; cases a<;>cases b<;>first|rfl|cases h
  unfold absN at h
  split at h
  · intro c hc; exact @VRel.any T' φ' c (@VRel.plain T φ _ _ hc h)
  · rename_i s k j
    rw[Bool.and_eq_true,zAd,ZAm] at h
    intro c hc
    have:=ZAf 2 _ _ h.2
    subst this
    exact hS k j c h.1 hc
  · rename_i s k e
    intro c hc
    exact hN k e _ c h hc
  · rename_i s i
    intro c hc
    exact hO i _ c h hc
  · rename_i j a k b
    rw[Bool.and_eq_true] at h
    intro c hc
    rw[zCz h.1]
    rw[ieq_eq] at h
    have:=eq_of_beq h.2
    subst this
    cases hc; exact @VRel.int T' φ' _ _
  · intro c hc
    have:=listEq_iff.1 h
    subst this
    cases hc with|str _ t ht=>exact @VRel.str T' φ' _ t ht
  · intro c hc
    have:=bools _ _ h
    subst this
    cases hc; exact @VRel.bool T' φ' _
  · rename_i a o b p
    rw[Bool.and_eq_true,Bool.and_eq_true,zAd,beq_true,beq_true] at h
    obtain ⟨h1,h2,rfl⟩:=h
    intro c hc
    cases hc with
    |ptr _ _ cb co sz hp=>exact @VRel.ptr T' φ' a o cb co sz (by rw[hφ a h1,h2]; exact hp)
  · rename_i a o n c e z b p n' c' e' z'
    simp only[Bool.and_eq_true,zAd,beq_true] at h
    obtain ⟨h1,⟨h2,rfl⟩,⟨rfl,rfl⟩,⟨h3,h4⟩,h5⟩:=h
    intro cv hc
    cases hc with
    |slice _ _ _ _ _ _ cb co sz o' cap' hp g1 g2 g3 g4 g5=>
     refine @VRel.slice T' φ' a o n c e z cb co sz o' cap' (by rw[hφ a h1,h2]; exact hp) h3 (by omega) (fun he=>?_) (fun h0=>g4 (by omega)) g5
     subst he
     have:zAc ((e'&&c.beq c')) true true=zAc (e'&&c.beq c') true true:=rfl
     cases hb:(e'&&Nat.beq c c') with
     |false=>rw[hb] at h5; cases h5
     |true=>
      rw[Bool.and_eq_true,beq_true] at hb
      rw[g3 hb.1,hb.2]
  · intro c hc; cases hc; exact @VRel.nilptr T' φ'
  · intro c hc; cases hc; exact @VRel.nilslice T' φ'
  · intro c hc; cases hc; exact @VRel.nilmap T' φ'
  · intro c hc; cases hc; exact @VRel.nilfunc T' φ'
  · intro c hc; cases hc; exact @VRel.niliface T' φ'
  · rename_i a b
    rw[Bool.and_eq_true,zAd,beq_true] at h
    intro c hc
    cases hc with
    |map _ cb co sz hp=>exact @VRel.map T' φ' a cb co sz (by rw[hφ a h.1,h.2]; exact hp)
  · intro c hc
    rw[beq_true] at h
    subst h
    cases hc with
    |func _ _ cs hcs hcell=>cases hcs':cs; subst hcs'; cases hcs; exact @VRel.func T' φ' _ [] #[] (@zAa.nil T' φ') (fun v hv=>by cases hv)
  · rename_i t a u b
    rw[Bool.and_eq_true,beq_true] at h
    obtain ⟨rfl,h2⟩:=h
    intro c hc
    cases hc with
    |iface _ _ ci hci=>exact @VRel.iface T' φ' _ _ _ (ih _ _ h2 ci hci)
  · rename_i a b
    simp only[Bool.and_eq_true,beq_true,ZAm] at h
    obtain ⟨h1,h2,h3⟩:=h
    intro c hc
    cases hc with
    |agg _ cs hcs hcell=>
     have h4:=zip_ok ih h3 hcs
     have hl:=@zAa.length T φ _ _ hcs
     rw[List.take_of_length_le (by omega)] at h4
     exact @VRel.agg T' φ' a cs h4 (fun v hv=>List.all_eq_true.1 h2 v hv)
  · rename_i a b
    simp only[Bool.and_eq_true,beq_true,ZAm] at h
    obtain ⟨h1,h3⟩:=h
    intro c hc
    cases hc with
    |tuple _ cs hcs=>
     have h4:=zip_ok ih h3 hcs
     have hl:=@zAa.length T φ _ _ hcs
     rw[List.take_of_length_le (by omega)] at h4
     exact @VRel.tuple T' φ' a cs h4
  · cases h
end
end
end Go.AM
namespace Go.AM
variable {P:Program}
section
def addL:List Blk→Mem→Mem
 | [],m=>m
 |b::l,m=>addL l ⟨Nat.succ m.next,putT m.next b m.t⟩
def zAe (G g0:Nat) (b0:Blk) (l:List Blk):Mem:=addL l ⟨Nat.succ G,putT g0 b0 Mem.t0⟩
def chkL (σ:Map) (m:Mem):List Blk→List Nat→Bool
 | [],[]=>true
 |b::l,n::ns=>zAc (chkL σ m l ns) false (and (and (Nat.ble (Nat.succ σ.G) n) (Nat.ble (Nat.succ n) m.next)) (absB σ b (m.get n)))
 |_,_=>false
def freshN (n:Nat):List Nat→Bool
 | []=>true
 |x::l=>zAc false (freshN n l) (Nat.beq n x)
def nodupN:List Nat→Bool
 | []=>true
 |x::l=>zAc (nodupN l) false (freshN x l)
def roB:Blk→Bool
 | .cells true _=>true
 | .none=>true
 |_=>false
def zAp (σ:Map) (g0:Nat) (b0:Blk) (l:List Blk) (m:Mem):Bool:=
 and (and (and (Nat.ble (Nat.succ g0) σ.G) (Nat.ble σ.top 65536)) (and (roB b0) (absB σ b0 (m.get g0)))) (and (nodupN σ.ns) (chkL σ m l σ.ns))
theorem ZAt:∀ (l:List Blk) (m:Mem),(addL l m).next=m.next+l.length
 | [],_=>rfl
 |b::l,m=>by
  show (addL l ⟨m.next+1,_⟩).next=_
  rw[ZAt l]; simp only[List.length_cons]; try omega
theorem addL_get:∀ (l:List Blk) (m:Mem) (p:Nat),m.next+l.length≤65536→p<65536→(addL l m).get p=if m.next≤p∧p<m.next+l.length then (l[p-m.next]?).getD .none else m.get p
 | [],m,p,_,_=>by
  show m.get p=_
  rw[if_neg (by simp only[List.length_nil]; omega)]
 |b::l,m,p,hl,hp=>by
  simp only[List.length_cons] at hl
  show (addL l ⟨m.next+1,putT m.next b m.t⟩).get p=_
  rw[addL_get l _ p (by simp only; omega) hp]
  have hg:(⟨m.next+1,putT m.next b m.t⟩:Mem).get p=if p=m.next then b else m.get p:=ZBw m.next p b m.t (by omega) hp
  simp only[List.length_cons]
  by_cases h1:m.next+1≤p∧p<m.next+1+l.length
  · rw[if_pos h1,if_pos (by omega)]
    have:p-m.next=(p-(m.next+1))+1:=by omega
    rw[this,List.getElem?_cons_succ]
  · rw[if_neg h1,hg]
    by_cases h2:p=m.next
    · rw[if_pos h2,if_pos (by omega),h2,Nat.sub_self]; rfl
    · rw[if_neg h2,if_neg (by omega)]
theorem t0_get (p:Nat):getT Mem.t0 p=.none:=by
 unfold getT Mem.t0
 generalize dig p=a; generalize dig (Nat.div p 16)=b; generalize dig (Nat.div p 256)=c; generalize dig (Nat.div p 4096)=d
 have h1:∀ x:M3,sel3 d (N16.all x)=x:=by intro x; cases d<;>rfl
 have h2:∀ x:M2,sel2 c (N16.all x)=x:=by intro x; cases c<;>rfl
 have h3:∀ x:M1,sel1 b (N16.all x)=x:=by intro x; cases b<;>rfl
 rw[h1,h2,h3]
 cases a<;>rfl
theorem zAu {G g0:Nat} {b0:Blk} {l:List Blk} (hg:g0<G) (hl:G+1+l.length≤65536) {p:Nat} (hp:p<65536) :
 (zAe G g0 b0 l).get p=if G+1≤p∧p<G+1+l.length then (l[p-(G+1)]?).getD .none else if p=g0 then b0 else .none:=by
 unfold zAe
 rw[addL_get l _ p (by simp only; omega) hp]
 have h1:(⟨Nat.succ G,putT g0 b0 Mem.t0⟩:Mem).get p=if p=g0 then b0 else .none:=by
  have:=ZBw g0 p b0 Mem.t0 (by omega) hp
  rw[t0_get] at this
  exact this
 rw[h1]
theorem freshN_ok {n:Nat}:∀ {l:List Nat},freshN n l=true→n ∉ l
 | [],_=>by simp
 |x::l,h=>by
  have h':zAc false (freshN n l) (Nat.beq n x)=true:=h
  cases hb:Nat.beq n x with
  |true=>rw[hb] at h'; cases h'
  |false=>
   rw[hb] at h'
   intro hm
   rcases List.mem_cons.1 hm with e|hm
   · rw[beq_true.2 e] at hb; cases hb
   · exact freshN_ok h' hm
theorem nodupN_ok:∀ {l:List Nat},nodupN l=true→l.Nodup
 | [],_=>List.nodup_nil
 |x::l,h=>by
  have h':zAc (nodupN l) false (freshN x l)=true:=h
  cases hb:freshN x l with
  |false=>rw[hb] at h'; cases h'
  |true=>rw[hb] at h'; exact List.nodup_cons.2 ⟨freshN_ok hb,nodupN_ok h'⟩
theorem chkL_ok {σ:Map} {m:Mem}:∀ {l:List Blk} {ns:List Nat},chkL σ m l ns=true→l.length=ns.length∧∀ (i:Nat) (b:Blk) (n:Nat),l[i]? = some b→ns[i]? = some n→σ.G<n∧n<m.next∧absB σ b (m.get n)=true
 | [],[],_=>⟨rfl,fun i b n h=>by simp at h⟩
 | [],_::_,h=>by cases h
 |_::_,[],h=>by cases h
 |b::l,n::ns,h=>by
  have h':zAc (chkL σ m l ns) false (and (and (Nat.ble (Nat.succ σ.G) n) (Nat.ble (Nat.succ n) m.next)) (absB σ b (m.get n)))=true:=h
  cases hb:and (and (Nat.ble (Nat.succ σ.G) n) (Nat.ble (Nat.succ n) m.next)) (absB σ b (m.get n)) with
  |false=>rw[hb] at h'; cases h'
  |true=>
   rw[hb] at h'
   obtain ⟨h1,h2⟩:=chkL_ok h'
   simp only[Bool.and_eq_true,zAd] at hb
   refine ⟨by simp[h1],fun i b' n' hi hn=>?_⟩
   cases i with
   |zero=>simp at hi hn; subst hi hn; exact ⟨hb.1.1,hb.1.2,hb.2⟩
   |succ i=>exact h2 i b' n' (by simpa using hi) (by simpa using hn)
theorem absB_wr {σ:Map} {t s:Blk} (h:absB σ t s=true):(t.wr=true→s.wr=true)∧(t.live=true→s.live=true):=by
 unfold absB at h
 split at h
 · exact ⟨fun h=>(by cases h),fun h=>(by cases h)⟩
 · rename_i ro cs ro' cs'
   rw[Bool.and_eq_true] at h
   refine ⟨fun hw=>?_,fun _=>rfl⟩
   have h1:(!ro)=true:=hw
   have h2:=h.1
   cases ro<;>cases ro'<;>first|rfl|(cases h2; done)|(cases h1; done)|(cases hw; done)
 · exact ⟨fun _=>rfl,fun _=>rfl⟩
 · cases h
section
variable {T T':Tok} {φ:Phi} {m:Mem} {w:World} {σ:Map}
def zAj (σ:Map) (φ:Phi):Phi:=fun p=>if p<σ.top then φ (σ.nm p) else none
theorem ents_ok {φ':Phi} (hf:∀ t s,absN σ 4 t s=true→∀ c,@VRel T φ s c→@VRel T' φ' t c):∀ {ts ss:List MEnt} {cs:List MapEntry},
 zipB (fun a b=>and (absN σ 4 a.key b.key) (and (absN σ 4 a.val b.val) (Nat.beq a.born b.born))) ts ss=true→ts.length=ss.length→@zCs T φ ss cs→@zCs T' φ' ts cs
 | [],[],[],_,_,_=>trivial
 | [],[],_::_,_,_,h=>h.elim
 | [],_::_,_,_,h,_=>by cases h
 |_::_,[],_,h,_,_=>by cases h
 |t::ts,s::ss,[],_,_,h=>h.elim
 |t::ts,s::ss,c::cs,h,hl,hv=>by
  obtain ⟨v1,v2,v3,v4⟩:=hv
  have h':zAc (zipB _ ts ss) false (and (absN σ 4 t.key s.key) (and (absN σ 4 t.val s.val) (Nat.beq t.born s.born)))=true:=h
  cases hb:and (absN σ 4 t.key s.key) (and (absN σ 4 t.val s.val) (Nat.beq t.born s.born)) with
  |false=>rw[hb] at h'; cases h'
  |true=>
   rw[hb] at h'
   simp only[Bool.and_eq_true,beq_true] at hb
   exact ⟨hf _ _ hb.1 _ v1,hf _ _ hb.2.1 _ v2,hb.2.2.trans v3,ents_ok hf h' (by simpa using hl) v4⟩
theorem absB_ok {φ':Phi} (hf:∀ t s,absN σ 4 t s=true→∀ c,@VRel T φ s c→@VRel T' φ' t c) (hSt:T'.strong=true→T.strong=true) {t s:Blk} (h:absB σ t s=true) {p q:Nat} (hp:φ' p=φ q) (hB:@BRel T φ w q s):@BRel T' φ' w p t:=by
 unfold absB at h
 split at h
 · trivial
 · rename_i ro cs ro' cs'
   simp only[Bool.and_eq_true] at h
   obtain ⟨h1,h2,h3⟩:=h
   obtain ⟨cb,co,c,el,fz,g1,g2,g3,g4,g5,g6⟩:=hB
   have hl:=zip_len h3
   have h4:=zip_ok hf h3 g4
   refine ⟨cb,co,c,el,fz,by rw[hp]; exact g1,g2,by omega,?_,fun v hv=>List.all_eq_true.1 h2 v hv,fun hro i h1 h2=>g6 ?_ i h1 (h2.imp id fun h=>⟨h.1,hSt h.2⟩)⟩
   · rw[List.take_take] at h4
     rwa [Nat.min_eq_left hl] at h4
   · subst hro; cases ro' with
     |false=>rfl
     |true=>cases h1
 · rename_i es k es' k'
   simp only[Bool.and_eq_true,beq_true,ZAm] at h
   obtain ⟨rfl,h2,h3⟩:=h
   obtain ⟨cb,co,sz,ces,g1,g2,g3⟩:=hB
   exact ⟨cb,co,sz,ces,by rw[hp]; exact g1,g2,ents_ok hf h3 h2 g3⟩
 · cases h
theorem absorb {g0:Nat} {b0:Blk} {l:List Blk} (hG:σ.G=P.globals.size) (h:@Rel T P φ m w) (hc:zAp σ g0 b0 l m=true)
 (hS:∀ k j c,j<σ.ts.length→@VRel T φ (retag k (σ.tok j)) c→@VRel T' (zAj σ φ) (.sym k j) c) (hN:∀ k d s c,aeqN 2 s (retag k (σ.nx d))=true→@VRel T φ s c→@VRel T' (zAj σ φ) (.nx k d) c) (hO:∀ i s c,aeqN 2 s (σ.op i)=true→@VRel T φ s c→@VRel T' (zAj σ φ) (.opq i) c) (hH:∀ b o,T'.hold b=some o→T.hold b=some o) (hM:T'.strong=true→T.strong=true∧b0.live=false) :
 @Rel T' P (zAj σ φ) (zAe σ.G g0 b0 l) w∧∀ t s,absN σ 4 t s=true→∀ c,@VRel T φ s c→@VRel T' (zAj σ φ) t c:=by
 unfold zAp at hc
 simp only[Bool.and_eq_true,zAd] at hc
 obtain ⟨⟨⟨c1,c2⟩,c3,c4⟩,c5,c6⟩:=hc
 obtain ⟨hlen,hblk⟩:=chkL_ok c6
 have hnd:=nodupN_ok c5
 rw[zBd] at c2
 have hphi:∀ p,p<σ.top→zAj σ φ p=φ (σ.nm p):=fun p hp=>if_pos hp
 have hf:=absN_ok (T:=T) (T':=T') (φ:=φ) (φ':=zAj σ φ) (σ:=σ) hphi hS hN hO 4
 have hGm:=@Rel.dom T P φ m w h _ _ (@Rel.handle T P φ m w h)
 have hmb:=@Rel.bound T P φ m w h
 have hnx:(zAe σ.G g0 b0 l).next=σ.top:=by
  unfold zAe
  rw[ZAt,zBd,hlen]
 have get:∀ p,p<65536→(zAe σ.G g0 b0 l).get p=if σ.G+1≤p∧p<σ.G+1+l.length then (l[p-(σ.G+1)]?).getD .none else if p=g0 then b0 else .none:=fun p hp=>zAu c1 (by omega) hp
 have high:∀ p,σ.G<p→p<σ.top→∃ b n,l[p-(σ.G+1)]? = some b∧σ.ns[p-(σ.G+1)]? = some n∧(zAe σ.G g0 b0 l).get p=b∧σ.nm p=n:=by
  intro p h1 h2
  rw[zBd] at h2
  have h3:p-(σ.G+1)<l.length:=by omega
  have h4:p-(σ.G+1)<σ.ns.length:=by omega
  refine ⟨l[p-(σ.G+1)],σ.ns[p-(σ.G+1)],List.getElem?_eq_getElem h3,List.getElem?_eq_getElem h4,?_,?_⟩
  · rw[get p (by omega),if_pos (by omega),List.getElem?_eq_getElem h3]; rfl
  · rw[nm_high h1,List.getElem?_eq_getElem h4]; rfl
 have low:∀ p,p≤σ.G→(zAe σ.G g0 b0 l).get p=if p=g0 then b0 else .none:=by
  intro p hp
  rw[get p (by omega),if_neg (by omega)]
 have nmlt:∀ p,p<σ.top→σ.nm p<m.next:=by
  intro p hp
  rcases Nat.lt_or_ge σ.G p with h1|h1
  · obtain ⟨b,n,h3,h4,_,h6⟩:=high p h1 hp
    rw[h6]; exact (hblk _ _ _ h3 h4).2.1
  · rw[nm_low h1]; omega
 have hab:∀ p,p<σ.top→absB σ ((zAe σ.G g0 b0 l).get p) (m.get (σ.nm p))=true:=by
  intro p hp
  rcases Nat.lt_or_ge σ.G p with h1|h1
  · obtain ⟨b,n,h3,h4,h5,h6⟩:=high p h1 hp
    rw[h5,h6]; exact (hblk _ _ _ h3 h4).2.2
  · rw[low p h1,nm_low h1]
    by_cases e:p=g0
    · rw[if_pos e,e]; exact c4
    · rw[if_neg e]; rfl
 have nminj:∀ p q,p<σ.top→q<σ.top→σ.G<p→p≠q→σ.nm p≠σ.nm q:=by
  intro p q hp hq hpG hne e
  obtain ⟨b,n,h3,h4,h5,h6⟩:=high p hpG hp
  rcases Nat.lt_or_ge σ.G q with h1|h1
  · obtain ⟨b',n',g3,g4,g5,g6⟩:=high q h1 hq
    rw[h6,g6] at e
    subst e
    have h7:p-(σ.G+1)<σ.ns.length:=by
     rcases Nat.lt_or_ge (p-(σ.G+1)) σ.ns.length with h|h
     · exact h
     · rw[List.getElem?_eq_none h] at h4; cases h4
    have:=(List.getElem?_inj h7 hnd).1 (h4.trans g4.symm)
    omega
  · rw[h6,nm_low h1] at e
    have:=(hblk _ _ _ h3 h4).1
    omega
 refine ⟨@Rel.mk T' P (zAj σ φ) (zAe σ.G g0 b0 l) w (by rw[hnx,zBd]; omega) ?_ ?_ ?_ ?_ ?_ ?_ ?_ ?_ (fun b o hb=>@Rel.held T P φ m w h b o (hH b o hb)) ?_ (fun hs=>by
  rw[low 0 (Nat.zero_le _)]
  split
  · exact (hM hs).2
  · rfl),hf⟩
 · intro p x hp
   rw[hnx]
   unfold zAj at hp
   split at hp
   · assumption
   · cases hp
 · intro p b o s hp hne
   unfold zAj at hp
   split at hp
   · rename_i hlt
     refine @Rel.heap T P φ m w h _ b o s hp ?_
     rcases Nat.lt_or_ge σ.G p with h1|h1
     · obtain ⟨b',n,h3,h4,h5,h6⟩:=high p h1 hlt
       rw[h6,← hG]
       have:=(hblk _ _ _ h3 h4).1
       omega
     · rw[nm_low h1]; exact hne
   · cases hp
 · have:P.globals.size<σ.top:=by rw[zBd]; omega
   rw[hphi _ this,nm_low (by omega)]
   exact @Rel.handle T P φ m w h
 · rw[low _ (by omega),if_neg (by omega)]
 · intro g hg
   have:g<σ.top:=by rw[zBd]; omega
   rw[hphi _ this,nm_low (by omega)]
   exact @Rel.glob T P φ m w h g hg
 · intro p hp
   rw[hnx] at hp
   exact absB_ok hf (fun h=>(hM h).1) (hab p hp) (hphi p hp) (@Rel.blk T P φ m w h _ (nmlt p hp))
 · intro p q b o s o' s' hp hq hne hw hl h1 h2
   rw[hnx] at hp hq
   rw[hphi p hp] at h1
   rw[hphi q hq] at h2
   have hpG:σ.G<p:=by
    rcases Nat.lt_or_ge σ.G p with h3|h3
    · exact h3
    · rw[low p h3] at hw
      split at hw
      · cases b0 with
        |cells ro cs=>cases ro with
         |true=>cases hw
         |false=>cases c3
        |none=>cases hw
        |map es k=>cases c3
        |iter s k=>cases c3
      · cases hw
   exact @Rel.inj T P φ m w h _ _ b o s o' s' (nmlt p hp) (nmlt q hq) (nminj p q hp hq hpG hne) ((absB_wr (hab p hp)).1 hw) ((absB_wr (hab q hq)).2 hl) h1 h2
 · intro p hp hlt
   rw[hnx,zBd] at hp
   rw[get p hlt,if_neg (by omega),if_neg (by omega)]
 · intro p b o s hp hw hφ
   rw[hnx] at hp
   rw[hphi p hp] at hφ
   have hpG:σ.G<p:=by
    rcases Nat.lt_or_ge σ.G p with h3|h3
    · exact h3
    · rw[low p h3] at hw
      split at hw
      · cases b0 with
        |cells ro cs=>cases ro with
         |true=>cases hw
         |false=>cases c3
        |none=>cases hw
        |map es k=>cases c3
        |iter s k=>cases c3
      · cases hw
   have:=@Rel.apart T P φ m w h _ b o s (nmlt p hp) ((absB_wr (hab p hp)).1 hw) hφ
   cases hh:T'.hold b with
   |none=>rfl
   |some x=>rw[hH b x hh] at this; cases this
end
end
end Go.AM
namespace Go.AM
variable {P:Program}
theorem Ends.mono {f:FuncId} {cargs:Array Value} {w:World} {R R':Value→World→Prop} (h:Ends P f cargs w R) (hr:∀ c w',R c w'→R' c w'):Ends P f cargs w R':=by
 rcases h with ⟨c,w',h1,h2⟩|⟨h1,h2⟩
 · exact .inl ⟨c,w',h1,hr c w' h2⟩
 · exact .inr ⟨h1,Calls.mono h2 fun e w' ⟨c,h3,h4⟩=>⟨c,h3,hr c w' h4⟩⟩
section
variable [Tok]
def ZCr (P:Program) (f:FuncId) (g:List AVal→Mem→R):Prop:=∀ args m v m',g args m=.ok v m'→∀ φ w cargs,Rel P φ m w→zAa φ args cargs.toList→
 Ends P f cargs w fun c w'=>∃ φ',Step P φ m w φ' m' w'∧VRel φ' v c
structure StandC where
 run:List AVal→Mem→R
abbrev Stand:=Nat→Option StandC
def orR (x y:R):R:=match x with | .ok v m=>.ok v m | .fail _=>y
def pickX (P:Program) (E:Ext) (X:Stand) (f:Nat):ExtC:=match X f with|some g=>⟨fun K args m=>orR (g.run args m) ((pickF P E f).run K args m)⟩|none=>pickF P E f
def callX (P:Program) (E:Ext) (X:Stand):Nat→KH:=iterN (α:=KH) (fun _ _ _=>.fail 92) (fun ih f args m=>(pickX P E X f).run ih args m)
theorem callX_ok (hm:P.follows .mixedOrders=true) (hG:gProg P=true) {E:Ext} (hE:∀ f e,E f=some e→ExtHere P f e) {X:Stand} (hX:∀ f g,X f=some g→ZCr P f g.run):∀ n,zBb P (callX P E X n)
 |0=>fun f args m v m' h=>by cases h
 |n+1=>by
  intro f args m v m' h φ w cargs hr hv
  have ih:=callX_ok hm hG hE hX n
  have h1:(pickX P E X f).run (callX P E X n) args m=.ok v m':=h
  have body:(pickF P E f).run (callX P E X n) args m=.ok v m'→Ends P f cargs w fun c w'=>∃ φ',Step P φ m w φ' m' w'∧VRel φ' v c:=by
   intro h2
   unfold pickF at h2
   cases he:E f with
   |some e=>
    rw[he] at h2
    obtain ⟨hne,fn,g1,g2,g3,g4,g5⟩:=hE f e he
    obtain ⟨c,w',φ',k1,k2,k3⟩:=ext_all (P:=P) e hne args m v m' h2 φ w cargs hr hv
    left
    refine ⟨c,w',?_,φ',k2,k3⟩
    rw[run_callFunc_extern g1 g2 g3 g4 g5,k1]; rfl
   |none=>
    rw[he] at h2
    exact cFunc_ok ih (draw_ok hm ih) hG h2 hr hv
  unfold pickX at h1
  cases hx:X f with
  |some g=>
   rw[hx] at h1
   have h2:orR (g.run args m) ((pickF P E f).run (callX P E X n) args m)=.ok v m':=h1
   cases hg:g.run args m with
   |ok v1 m1=>
    rw[hg] at h2
    exact hX f g hx args m v m' (hg.trans h2) φ w cargs hr hv
   |fail c=>
    rw[hg] at h2
    exact body h2
  |none=>
   rw[hx] at h1
   exact body h1
theorem Step.grow {φ:Phi} {m:Mem} {w w':World} (h:Rel P φ m w) (hh:∀ b,b<w.heap.size→w'.heap[b]? = w.heap[b]?) (hs:w.heap.size≤w'.heap.size) (ho:w'.os=w.os) (hu:w'.output=w.output) (ht:w'.tape=w.tape) :
 Step P φ m w φ m w':=by
 refine ⟨⟨h.bound,h.dom,fun p b o s hp hn=>Nat.lt_of_lt_of_le (h.heap p b o s hp hn) hs,h.handle,h.nohandle,h.glob,fun p hp=>?_,h.inj,h.clean,fun b o hb=>by rw[hh b (h.held_lt hb)]; exact h.held b o hb,h.apart,h.mode⟩,fun _ _ h=>h,Nat.le_refl _,fun _ _ h=>.inl h,fun _ _ h=>h,fun _ _ h=>h,
  fun p _ _ _ h1 h2 _ _ _=>absurd h1 (by omega),fun b hb _=>hh b hb,hs,ho,hu,ht⟩
 cases hl:(m.get p).live with
 |false=>rw[Blk.dead hl]; trivial
 |true=>
  exact (h.blk p hp).congr fun b o s hφ=>hh b (h.heap p b o s hφ (fun e=>by rw[e,h.nohandle] at hl; cases hl))
end
end Go.AM
namespace Go.AM
variable {P:Program}
section
def natL:Nat→Nat→List Nat
 |0,_=>[]
 |n+1,j=>j::natL n (Nat.succ j)
def colsB (κ:Bool):Blk:=.cells true (zAc [.int .i64 (.ofNat 0),.int .i64 (.ofNat 1)] [.int .i64 (.ofNat 1)] κ)
def valsB:Blk:=.cells true [.int .i64 (.ofNat 2),.int .i64 (.ofNat 1),.str [],.int .i64 (.ofNat 2),.int .i64 (.ofNat 2),.str []]
def rowsL (G:Nat):List Nat→List AVal
 | []=>[]
 |j::l=>.sym .u64 j::.slice (Nat.add (Nat.add G 3) j) 0 2 2 false 3::rowsL G l
def preL (G:Nat) (κ:Bool):Nat→List Blk
 |0=>[colsB κ]
 |n+1=>colsB κ::.cells true (rowsL G (natL (Nat.succ n) 0))::valsB::iterN [] (fun l=>valsB::l) n
def preA (G:Nat) (κ:Bool) (n:Nat):List AVal:=
 [.agg [.str (zAc [105] [106] κ),.slice (Nat.add G 1) 0 (zAc 2 1 κ) (zAc 2 1 κ) false 1,.bool false,.bool false],
  match n with|0=>.nilslice|k+1=>.slice (Nat.add G 2) 0 (Nat.succ k) (Nat.succ k) false 2]
def idxOut:AVal:=.tuple [.any,.niliface]
def evens:List AVal→List AVal
 |x::_::l=>x::evens l
 |_=>[]
def oddBs:List AVal→List Nat
 |_::.slice b _ _ _ _ _::l=>b::oddBs l
 |_=>[]
def incrB:List AVal→Bool
 | []=>true
 |x::l=>zAc (match l with
  | []=>true
  |y::_=>zAc (incrB l) false (onO3b (tokCmp x y))) false x.isTok
where onO3b:Option Ord3→Bool
 |some .lt=>true
 |_=>false
def idxMap (G:Nat) (cb:Nat) (n:Nat) (rows:AVal) (m:Mem) (k:Map→R):R:=
 match n,rows with
 |0,.nilslice=>k ⟨G,[cb],[],fun _=>.bad,fun _=>.bad⟩
 |_+1,.slice rb _ _ _ _ _=>(m.get rb).onCells fun _ cs=>k ⟨G,cb::rb::oddBs (zBl (Nat.mul 2 n) cs),evens (zBl (Nat.mul 2 n) cs),fun _=>.bad,fun _=>.bad⟩
 |_,_=>.fail 160
def rowsLen:AVal→Nat
 | .slice _ _ n _ _ _=>n
 |_=>0
def idxX (G g0:Nat) (b0:Blk) (args:List AVal) (m:Mem):R:=
 arg2 args fun k rows=>k.onAgg fun kc=>onL (.fail 161) (fun _ l=>onL (.fail 162) (fun cs _=>cs.onSlice fun cb _ cl _ _ _=>
  idxMap G cb (rowsLen rows) rows m fun σ=>
   zAc (.ok idxOut m) (.fail 163) (and (and (incrB σ.ts) (Nat.beq (lenL σ.ts) (rowsLen rows))) (and (Nat.ble (rowsLen rows) 60)
    (and (zAp σ g0 b0 (preL G (Nat.beq cl 2) (rowsLen rows)) m) (and (absN σ 4 (onL .bad (fun x _=>x) (preA G (Nat.beq cl 2) (rowsLen rows))) k) (absN σ 4 (onL .bad (fun _ l=>onL .bad (fun x _=>x) l) (preA G (Nat.beq cl 2) (rowsLen rows))) rows)))))) l) kc
theorem zCc {G g0:Nat} {b0:Blk} {l:List Blk} (hg:g0<G) (hl:G+1+l.length≤65536) (h0:b0.wr=false) (h:∀ b,b∈l→b.wr=false):∀ q,q<(zAe G g0 b0 l).next→((zAe G g0 b0 l).get q).wr=false:=by
 intro q hq
 have hn:(zAe G g0 b0 l).next=G+1+l.length:=ZAt l _
 rw[hn] at hq
 rw[zAu hg hl (by omega)]
 split
 · rename_i h1
   have h2:q-(G+1)<l.length:=by omega
   rw[List.getElem?_eq_getElem h2]
   exact h _ (List.getElem_mem h2)
 · split
   · exact h0
   · rfl
end
end Go.AM
namespace Go.AM
variable {P:Program}
section
def badRegs:Regs:=N16.all (N16.all (N16.all .bad))
def pickR:List (Nat×AVal)→Regs
 | []=>badRegs
 |p::l=>rput p.1 p.2 (pickR l)
def outT (ts:List Nat) (r:Regs):AVal:=.tuple (ts.map fun t=>(opd (.tmp t)).get r)
def zCe (ts:List Nat) (a:Act):List Value:=ts.map fun t=>a.tmps.getD t undef
theorem rget_badRegs (t:Nat):rgetV badRegs t=.bad:=by
 unfold rgetV badRegs
 generalize dig t=a; generalize dig (Nat.div t 16)=b; generalize dig (Nat.div t 256)=c
 have h1:selQ c (N16.all (N16.all (N16.all AVal.bad)))=N16.all (N16.all AVal.bad):=by cases c<;>rfl
 have h2:selR b (N16.all (N16.all AVal.bad))=N16.all AVal.bad:=by cases b<;>rfl
 rw[h1,h2]
 cases a<;>rfl
section
variable [Tok]
theorem pick_reg {φ:Phi} {a:Act}:∀ {l:List (Nat×AVal)},(∀ p,p∈l→p.1<4096∧VRel φ p.2 (a.tmps.getD p.1 undef))→∀ t,t<4096→VRel φ (rgetV (pickR l) t) (a.tmps.getD t undef)
 | [],_,t,_=>by
  show VRel φ (rgetV badRegs t) _
  rw[rget_badRegs]; exact .bad _
 |p::l,h,t,ht=>by
  show VRel φ (rgetV (rput p.1 p.2 (pickR l)) t) _
  obtain ⟨h1,h2⟩:=h p (List.mem_cons_self ..)
  rw[rget_rput _ _ _ _ h1 ht]
  split
  · rename_i e; rw[e]; exact h2
  · exact pick_reg (fun q hq=>h q (List.mem_cons_of_mem _ hq)) t ht
structure zBc (nt:Nat) (a:Act):Prop where
 size:a.tmps.size=nt
 defers:a.defers=[]
theorem pick_rel {φ:Phi} {nt:Nat} {a:Act} (ha:zBc nt a) (hnt:nt≤4096) {l:List (Nat×AVal)} (h:∀ p,p∈l→p.1<4096∧VRel φ p.2 (a.tmps.getD p.1 undef)):RRel φ nt (pickR l) a:=by
 refine ⟨ha.size,hnt,ha.defers,fun t=>?_⟩
 rw[opd_tmp]
 by_cases ht:t<4096
 · rw[if_pos ht]; exact pick_reg h t ht
 · rw[if_neg ht]
   have:a.tmps.getD t undef=undef:=by
    have hs:=ha.size
    have hs':@LE.le Nat _ a.tmps.size t:=by rw[hs]; exact Nat.le_trans hnt (Nat.le_of_not_lt ht)
    rw[Array.getD_eq_getD_getElem?,Array.getElem?_eq_none hs']; rfl
   rw[this]; exact ZAy φ
theorem out_rel {φ:Phi} {nt:Nat} {r:Regs} {a:Act} (h:RRel φ nt r a):∀ (ts:List Nat),zAa φ (ts.map fun t=>(opd (.tmp t)).get r) (zCe ts a)
 | []=>.nil
 |t::ts=>.cons (h.reg t) (out_rel h ts)
theorem RRel.is {φ:Phi} {nt:Nat} {r:Regs} {a:Act} (h:RRel φ nt r a):zBc nt a:=⟨h.size,h.defers⟩
theorem ZAv {φ:Phi} {a:Act}:∀ {ts:List Nat} {vs:List AVal},(ts.all fun t=>Nat.blt t 4096)=true→zAa φ vs (zCe ts a)→∀ p,p∈ts.zip vs→p.1<4096∧VRel φ p.2 (a.tmps.getD p.1 undef)
 | [],_,_,_,p,hp=>by simp at hp
 |t::ts,[],_,_,p,hp=>by simp at hp
 |t::ts,v::vs,h,hv,p,hp=>by
  rw[List.all_cons,Bool.and_eq_true,Nat.blt_eq] at h
  cases hv with
  |cons h1 h2=>
   rcases List.mem_cons.1 hp with rfl|hp
   · exact ⟨h.1,h1⟩
   · exact ZAv h.2 h2 p hp
omit [Tok] in
theorem put_get {nt:Nat} {a:Act} (ha:zBc nt a) {d:Nat} (hd:d<nt) (c:Value) (t:Nat):(a.put (some d) c).tmps.getD t undef=if t=d then c else a.tmps.getD t undef:=by
 have hs:=ha.size
 simp only[Act.put,Array.getD_eq_getD_getElem?,Array.getElem?_setIfInBounds]
 by_cases e:d=t
 · subst e; simp[hs,hd]
 · simp[e,Ne.symm e]
omit [Tok] in
theorem zCu {nt:Nat} {a:Act} (ha:zBc nt a) (d:Option Nat) (c:Value):zBc nt (a.put d c):=by
 cases d with
 |none=>exact ha
 |some d=>exact ⟨by simp[Act.put,ha.size],ha.defers⟩
theorem vals_same {φ:Phi} {a a':Act}:∀ {ts:List Nat} {vs:List AVal},(∀ t,t∈ts→a'.tmps.getD t undef=a.tmps.getD t undef)→zAa φ vs (zCe ts a)→zAa φ vs (zCe ts a')
 | [],_,_,h=>h
 |t::ts,vs,he,h=>by
  cases h with
  |cons h1 h2=>
   refine .cons ?_ (vals_same (fun t ht=>he t (List.mem_cons_of_mem _ ht)) h2)
   show VRel φ _ (a'.tmps.getD t undef)
   rw[he t (List.mem_cons_self ..)]; exact h1
theorem vals_put {φ:Phi} {nt:Nat} {a:Act} (ha:zBc nt a) {ts:List Nat} {vs:List AVal} (h:zAa φ vs (zCe ts a)) {d:Nat} (hd:d<nt) (hnd:ts.contains d=false) {v:AVal} {c:Value} (hv:VRel φ v c) :
 zAa φ (v::vs) (zCe (d::ts) (a.put (some d) c)):=by
 refine .cons ?_ (vals_same (fun t ht=>?_) h)
 · show VRel φ _ ((a.put (some d) c).tmps.getD d undef)
   rw[put_get ha hd,if_pos rfl]; exact hv
 · rw[put_get ha hd,if_neg]
   intro e
   subst e
   rw[List.contains_iff_mem.2 ht] at hnd; cases hnd
end
def seqsC:List Code→Code→Code
 | [],c=>c
 |x::l,c=>.seq x (seqsC l c)
section
variable {T:Tok} {K:KH} (hK:zBb P K) (hD:DrawOk P K) {nt:Nat}
include hK hD
theorem seqs_ok {v:AVal} {mf:Mem} {rest:Code}:∀ (cs:List Code),cs.all (ZBh P.globals.size)=true→∀ {e:Nat→Ct} {rt k:Ct} {r:Regs} {m:Mem},(cCode P nt (seqsC cs .skip)).run K e rt k r m=.ok v mf→
 ∀ {φ:Phi} {w:World} {a:Act} {Q:Exit→Act→World→Prop},Rel P φ m w→RRel φ nt r a→
 (∀ φ' r' m' a' w',Step P φ m w φ' m' w'→RRel φ' nt r' a'→k r' m'=.ok v mf→rest.wp P Q a' w')→
 (∀ i φ' r' m' a' w',Step P φ m w φ' m' w'→RRel φ' nt r' a'→e i r' m'=.ok v mf→Q (.exit i) a' w')→
 (∀ φ' r' m' a' w',Step P φ m w φ' m' w'→RRel φ' nt r' a'→rt r' m'=.ok v mf→Q .ret a' w')→(seqsC cs rest).wp P Q a w
 | [],_,e,rt,k,r,m,h,φ,w,a,Q,hr,ha,hn,_,_=>hn φ r m a w (Step.refl hr) ha h
 |c::cs,hg,e,rt,k,r,m,h,φ,w,a,Q,hr,ha,hn,he,hrt=>by
  rw[List.all_cons,Bool.and_eq_true] at hg
  refine wp_seq (zCr hK hD c hg.1 h hr ha ?_ he hrt)
  intro φ' r' m' a' w' hst ha' h2
  exact seqs_ok cs hg.2 h2 hst.rel ha' (fun φ'' r'' m'' a'' w'' hst' ha'' h3=>hn φ'' r'' m'' a'' w'' (hst.trans hst') ha'' h3)
   (fun i φ'' r'' m'' a'' w'' hst' ha'' h3=>he i φ'' r'' m'' a'' w'' (hst.trans hst') ha'' h3)
   (fun φ'' r'' m'' a'' w'' hst' ha'' h3=>hrt φ'' r'' m'' a'' w'' (hst.trans hst') ha'' h3)
structure Ways where
 nn:Bool
 ex:Nat→Bool
 rr:Bool
def zBv (P:Program) (nt:Nat) (K:KH) (cs:List Code) (W:Ways) (l:List (Nat×AVal)) (ts:List Nat) (m:Mem):R:=
 (cCode P nt (seqsC cs .skip)).run K (fun i r m=>zAc (.ok (outT ts r) m) (.fail 87) (W.ex i)) (fun r m=>zAc (.ok (outT ts r) m) (.fail 87) W.rr) (fun r m=>zAc (.ok (outT ts r) m) (.fail 87) W.nn) (pickR l) m
theorem ZCh {cs:List Code} (hg:cs.all (ZBh P.globals.size)=true) {W:Ways} {l:List (Nat×AVal)} {ts:List Nat} {vs:List AVal} {m mf:Mem} (h:zBv P nt K cs W l ts m=.ok (.tuple vs) mf)
 {φ:Phi} {w:World} {a:Act} {rest:Code} {Q:Exit→Act→World→Prop} (hr:Rel P φ m w) (ha:zBc nt a) (hnt:nt≤4096) (hl:∀ p,p∈l→p.1<4096∧VRel φ p.2 (a.tmps.getD p.1 undef))
 (hn:W.nn=true→∀ φ' a' w',Step P φ m w φ' mf w'→zBc nt a'→zAa φ' vs (zCe ts a')→rest.wp P Q a' w')
 (he:∀ i,W.ex i=true→∀ φ' a' w',Step P φ m w φ' mf w'→zBc nt a'→zAa φ' vs (zCe ts a')→Q (.exit i) a' w')
 (hrt:W.rr=true→∀ φ' a' w',Step P φ m w φ' mf w'→zBc nt a'→zAa φ' vs (zCe ts a')→Q .ret a' w'):(seqsC cs rest).wp P Q a w:=by
 have inj:∀ {b:Bool} {r':Regs} {m':Mem},zAc (R.ok (outT ts r') m') (.fail 87) b=.ok (.tuple vs) mf→b=true∧m'=mf∧(ts.map fun t=>(opd (.tmp t)).get r')=vs:=by
  intro b r' m' h1
  obtain ⟨h2,h3⟩:=zAm h1
  have h4:R.ok (.tuple (ts.map fun t=>(opd (.tmp t)).get r')) m'=.ok (.tuple vs) mf:=h3
  injection h4 with h5 h6
  injection h5 with h5
  exact ⟨h2,h6,h5⟩
 refine seqs_ok hK hD cs hg h hr (pick_rel ha hnt hl) ?_ ?_ ?_
 · intro φ' r' m' a' w' hst ha' h1
   obtain ⟨h2,rfl,rfl⟩:=inj h1
   exact hn h2 φ' a' w' hst ha'.is (out_rel ha' ts)
 · intro i φ' r' m' a' w' hst ha' h1
   obtain ⟨h2,rfl,rfl⟩:=inj h1
   exact he i h2 φ' a' w' hst ha'.is (out_rel ha' ts)
 · intro φ' r' m' a' w' hst ha' h1
   obtain ⟨h2,rfl,rfl⟩:=inj h1
   exact hrt h2 φ' a' w' hst ha'.is (out_rel ha' ts)
theorem piece_then {x y:Code} (hg:ZBh P.globals.size x=true∧ZBh P.globals.size y=true) {W:Ways} {l:List (Nat×AVal)} {ts:List Nat} {vs:List AVal} {m mf:Mem} (h:zBv P nt K [x,y] W l ts m=.ok (.tuple vs) mf)
 {φ:Phi} {w:World} {a:Act} {Q:Exit→Act→World→Prop} (hr:Rel P φ m w) (ha:zBc nt a) (hnt:nt≤4096) (hl:∀ p,p∈l→p.1<4096∧VRel φ p.2 (a.tmps.getD p.1 undef))
 (hn:W.nn=true→∀ φ' a' w',Step P φ m w φ' mf w'→zBc nt a'→zAa φ' vs (zCe ts a')→Q .normal a' w')
 (he:∀ i,W.ex i=true→∀ φ' a' w',Step P φ m w φ' mf w'→zBc nt a'→zAa φ' vs (zCe ts a')→Q (.exit i) a' w')
 (hrt:W.rr=true→∀ φ' a' w',Step P φ m w φ' mf w'→zBc nt a'→zAa φ' vs (zCe ts a')→Q .ret a' w'):x.wp P (Exit.then (y.wp P Q) Q) a w:=by
 have inj:∀ {b:Bool} {r':Regs} {m':Mem},zAc (R.ok (outT ts r') m') (.fail 87) b=.ok (.tuple vs) mf→b=true∧m'=mf∧(ts.map fun t=>(opd (.tmp t)).get r')=vs:=by
  intro b r' m' h1
  obtain ⟨h2,h3⟩:=zAm h1
  have h4:R.ok (.tuple (ts.map fun t=>(opd (.tmp t)).get r')) m'=.ok (.tuple vs) mf:=h3
  injection h4 with h5 h6
  injection h5 with h5
  exact ⟨h2,h6,h5⟩
 have he':∀ i φ' r' m' a' w',Step P φ m w φ' m' w'→RRel φ' nt r' a'→zAc (R.ok (outT ts r') m') (.fail 87) (W.ex i)=.ok (.tuple vs) mf→Q (.exit i) a' w':=by
  intro i φ' r' m' a' w' hst ha' h1
  obtain ⟨h2,rfl,rfl⟩:=inj h1
  exact he i h2 φ' a' w' hst ha'.is (out_rel ha' ts)
 have hrt':∀ φ' r' m' a' w',Step P φ m w φ' m' w'→RRel φ' nt r' a'→zAc (R.ok (outT ts r') m') (.fail 87) W.rr=.ok (.tuple vs) mf→Q .ret a' w':=by
  intro φ' r' m' a' w' hst ha' h1
  obtain ⟨h2,rfl,rfl⟩:=inj h1
  exact hrt h2 φ' a' w' hst ha'.is (out_rel ha' ts)
 refine zCr hK hD x hg.1 h hr (pick_rel ha hnt hl) ?_ he' hrt'
 intro φ' r' m' a' w' hst ha' h1
 refine zCr hK hD y hg.2 h1 hst.rel ha' ?_ (fun i φ'' r'' m'' a'' w'' hst' ha'' h3=>he' i φ'' r'' m'' a'' w'' (hst.trans hst') ha'' h3)
  (fun φ'' r'' m'' a'' w'' hst' ha'' h3=>hrt' φ'' r'' m'' a'' w'' (hst.trans hst') ha'' h3)
 intro φ'' r'' m'' a'' w'' hst' ha'' h3
 obtain ⟨h2,rfl,rfl⟩:=inj h3
 exact hn h2 φ'' a'' w'' (hst.trans hst') ha''.is (out_rel ha'' ts)
omit hD in
theorem cOps_some {ops:Array Oper} {Q:Exit→Act→World→Prop} {v:AVal} {mf:Mem} {k:Ct} {js:List Nat}:∀ (l:List Oper) (i:Nat),(ops.toList.drop i).take l.length=l→l.all (ZBo P.globals.size)=true→∀ {r:Regs} {m:Mem},
 (cOps P nt ops l).run K r m k=.ok v mf→∀ {φ:Phi} {w:World} {a:Act},Rel P φ m w→RRel φ nt r a→
 (∀ φ' r' m' a' w',Step P φ m w φ' m' w'→RRel φ' nt r' a'→k r' m'=.ok v mf→wpOps P ops Q js a' w')→wpOps P ops Q (List.range' i l.length++js) a w
 | [],i,_,_,r,m,h,φ,w,a,hr,ha,hn=>hn φ r m a w (Step.refl hr) ha h
 |o::l,i,hd,hg,r,m,h,φ,w,a,hr,ha,hn=>by
  rw[List.all_cons,Bool.and_eq_true] at hg
  rw[List.length_cons] at hd
  have hoi:ops[i]? = some o:=by
   rw[← Array.getElem?_toList]
   have:=congrArg (fun l=>l[0]?) hd
   simpa[List.getElem?_take] using this
  have hd2:(ops.toList.drop (i+1)).take l.length=l:=by
   rw[← List.drop_drop]
   have:=congrArg (List.drop 1) hd
   rw[List.drop_take] at this
   simpa using this
  rw[List.length_cons,List.range'_succ,List.cons_append]
  unfold wpOps
  rw[hoi]
  simp only
  refine cStep_ok hK hg.1 h hr ha fun φ' r' m' a' w' hst ha' h2=>?_
  exact cOps_some l (i+1) hd2 hg.2 h2 hst.rel ha' fun φ'' r'' m'' a'' w'' hst' ha'' h3=>hn φ'' r'' m'' a'' w'' (hst.trans hst') ha'' h3
def zCg (P:Program) (nt:Nat) (K:KH) (ops:Array Oper) (os:List Oper) (l:List (Nat×AVal)) (ts:List Nat) (m:Mem):R:=
 (cOps P nt ops os).run K (pickR l) m fun r m=>.ok (outT ts r) m
omit hD in
theorem ZCc {ops:Array Oper} {Q:Exit→Act→World→Prop} {i:Nat} {os:List Oper} {js:List Nat} (hd:(ops.toList.drop i).take os.length=os) (hg:os.all (ZBo P.globals.size)=true) {l:List (Nat×AVal)} {ts:List Nat} {vs:List AVal} {m mf:Mem}
 (h:zCg P nt K ops os l ts m=.ok (.tuple vs) mf) {φ:Phi} {w:World} {a:Act} (hr:Rel P φ m w) (ha:zBc nt a) (hnt:nt≤4096) (hl:∀ p,p∈l→p.1<4096∧VRel φ p.2 (a.tmps.getD p.1 undef))
 (hn:∀ φ' a' w',Step P φ m w φ' mf w'→zBc nt a'→zAa φ' vs (zCe ts a')→wpOps P ops Q js a' w'):wpOps P ops Q (List.range' i os.length++js) a w:=by
 refine cOps_some hK os i hd hg h hr (pick_rel ha hnt hl) ?_
 intro φ' r' m' a' w' hst ha' h1
 have h4:R.ok (.tuple (ts.map fun t=>(opd (.tmp t)).get r')) m'=.ok (.tuple vs) mf:=h1
 injection h4 with h5 h6
 injection h5 with h5
 subst h6 h5
 exact hn φ' a' w' hst ha'.is (out_rel ha' ts)
end
end
end Go.AM
namespace Go.AM
variable {P:Program}
section
variable [Tok]
variable {φ:Phi} {m:Mem} {w:World}
theorem Step.repl (h:Rel P φ m w) {w':World} {p b o s:Nat} (hp:p<m.next) (hwr:(m.get p).wr=true) (hφ:φ p=some (b,o,s)) {x':Blk} {nb no ns:Nat} (hn:m.next<65536)
 (hheap:∀ q,q<w.heap.size→q≠b→w'.heap[q]? = w.heap[q]?) (hsz:w.heap.size≤w'.heap.size) (hos:w'.os=w.os) (hou:w'.output=w.output) (htp:w'.tape=w.tape)
 (hnb:nb=b∨w.heap.size≤nb) (hnl:nb<w'.heap.size) (hx:BRel (fun q=>if q=m.next then some (nb,no,ns) else φ q) w' m.next x') :
 Step P φ m w (fun q=>if q=m.next then some (nb,no,ns) else φ q) ((⟨m.next+1,putT m.next x' m.t⟩:Mem).put p .none) w':=by
 have hb:=h.bound
 have hpG:p≠P.globals.size:=by
  intro e; subst e; rw[h.nohandle] at hwr; cases hwr
 have hblt:=h.heap p b o s hφ hpG
 have ext:Ext' φ (fun q=>if q=m.next then some (nb,no,ns) else φ q):=by
  intro q y hq
  have:=h.dom q y hq
  show (if q=m.next then _ else _)=_
  rw[if_neg (by omega)]; exact hq
 have get:∀ q,q<m.next+1→((⟨m.next+1,putT m.next x' m.t⟩:Mem).put p .none).get q=if q=p then .none else if q=m.next then x' else m.get q:=by
  intro q hq
  rw[Mem.get_put _ _ _ _ (by omega) (by omega)]
  split
  · rfl
  · exact ZBw m.next q x' m.t hn (by omega)
 have hh1:=h.dom _ _ h.handle
 have hold:∀ q,q<m.next→q≠p→((⟨m.next+1,putT m.next x' m.t⟩:Mem).put p .none).get q=m.get q:=fun q hq hne=>by
  rw[get q (by omega),if_neg hne,if_neg (by omega)]
 have hliv:∀ q,q<m.next→(((⟨m.next+1,putT m.next x' m.t⟩:Mem).put p .none).get q).live=true→q≠p∧(m.get q).live=true:=by
  intro q hq hl
  rw[get q (by omega)] at hl
  split at hl
  · cases hl
  · rw[if_neg (by omega)] at hl; exact ⟨‹_›,hl⟩
 have hwr':∀ q,q<m.next→(((⟨m.next+1,putT m.next x' m.t⟩:Mem).put p .none).get q).wr=true→(m.get q).wr=true:=by
  intro q hq hl
  have:=hliv q hq (Blk.live_of_wr hl)
  rwa [hold q hq this.1] at hl
 have hne:∀ q b' o' s',q<m.next→q≠p→(m.get q).live=true→φ q=some (b',o',s')→b'≠nb∧b'≠b∧b'<w.heap.size:=by
  intro q b' o' s' hq hqp hl hφq
  have h1:b'<w.heap.size:=h.heap q b' o' s' hφq (fun e=>by rw[e,h.nohandle] at hl; cases hl)
  have h2:b'≠b:=fun e=>by subst e; exact h.inj p q _ _ _ _ _ hp hq (Ne.symm hqp) hwr hl hφ hφq
  exact ⟨fun e=>by rcases hnb with h3|h3<;>omega,h2,h1⟩
 refine ⟨⟨hn,?_,?_,ext _ _ h.handle,?_,?_,?_,?_,fun q h1 h2=>by
  change m.next+1≤q at h1
  rw[Mem.get_put _ _ _ _ (by omega) h2,if_neg (by omega)]
  exact (ZBw m.next q x' m.t hn h2).trans (by rw[if_neg (by omega)]; exact h.clean q (by omega) h2),
  fun b' o' hb'=>by rw[hheap b' (h.held_lt hb') (h.held_ne hp hwr hφ hb')]; exact h.held b' o' hb',fun q b' o' s' hq hw hφ'=>by
   change q<m.next+1 at hq
   by_cases e:q=m.next
   · simp[e] at hφ'
     rw[← hφ'.1]
     rcases hnb with rfl|h6
     · exact h.apart p _ o s hp hwr hφ
     · exact h.free h6
   · have hq':φ q=some (b',o',s'):=by simpa[e] using hφ'
     exact h.apart q b' o' s' (by omega) (hwr' q (by omega) hw) hq',fun hs=>Blk.dead_of fun hl=>by have:=h.mode hs; rw[(hliv 0 h.pos hl).2] at this; cases this⟩,ext,Nat.le_succ _,?_,fun q hq hl=>(hliv q hq hl).2,hwr',?_,?_,hsz,hos,hou,htp⟩
 · intro q y hq
   show q<m.next+1
   by_cases e:q=m.next
   · omega
   · have hq':φ q=some y:=by simpa[e] using hq
     have:=h.dom q y hq'; omega
 · intro q b' o'' s' hq hne
   by_cases e:q=m.next
   · simp[e] at hq; omega
   · have hq':φ q=some (b',o'',s'):=by simpa[e] using hq
     exact Nat.lt_of_lt_of_le (h.heap q b' o'' s' hq' hne) hsz
 · rw[hold _ hh1 (Ne.symm hpG)]; exact h.nohandle
 · intro g hg
   obtain ⟨sz,hsz⟩:=h.glob g hg
   exact ⟨sz,ext _ _ hsz⟩
 · intro q hq
   change q<m.next+1 at hq
   by_cases ep:q=p
   · rw[get q hq,if_pos ep]; trivial
   · by_cases e:q=m.next
     · subst e; rw[get _ (by omega),if_neg ep,if_pos rfl]; exact hx
     · have hq':q<m.next:=by omega
       rw[hold q hq' ep]
       cases hl:(m.get q).live with
       |false=>rw[Blk.dead hl]; trivial
       |true=>
        refine ((h.blk q hq').mono ext).congr fun b' o'' s' hφ'=>?_
        have hφq:φ q=some (b',o'',s'):=by simpa[e] using hφ'
        obtain ⟨_,g2,g3⟩:=hne q b' o'' s' hq' ep hl hφq
        exact hheap b' g3 g2
 · intro q q' b' o1 s1 o2 s2 hq hq' hqne hw hl h1 h2
   change q<m.next+1 at hq
   change q'<m.next+1 at hq'
   by_cases e1:q=m.next
   · by_cases e2:q'=m.next
     · omega
     · simp[e1] at h1
       simp[e2] at h2
       obtain ⟨h3,h4⟩:=hliv q' (by omega) hl
       obtain ⟨g1,_,_⟩:=hne q' _ _ _ (by omega) h3 h4 h2
       omega
   · simp[e1] at h1
     by_cases e2:q'=m.next
     · simp[e2] at h2
       obtain ⟨h3,h4⟩:=hliv q (by omega) (Blk.live_of_wr hw)
       obtain ⟨g1,_,_⟩:=hne q _ _ _ (by omega) h3 h4 h1
       omega
     · simp[e2] at h2
       exact h.inj q q' b' o1 s1 o2 s2 (by omega) (by omega) hqne (hwr' q (by omega) hw) (hliv q' (by omega) hl).2 h1 h2
 · intro q y hq
   by_cases e:q=m.next
   · right; omega
   · left; simpa[e] using hq
 · intro q b' o1 s1 h1 h2 _ h4 h5
   change q<m.next+1 at h2
   have e:q=m.next:=by omega
   simp[e] at h4
   obtain ⟨rfl,rfl,rfl⟩:=h4
   rcases hnb with rfl|h6
   · exact ⟨p,o,_,hp,hwr,hφ⟩
   · omega
 · intro b' hb' hno
   refine hheap b' hb' ?_
   intro e; subst e
   exact hno p o s hp hwr hφ
end
theorem own {T T':Tok} {φ:Phi} {m:Mem} {w:World} {σ:Map} {g0:Nat} {b0:Blk} {l:List Blk} (hG:σ.G=P.globals.size) (h:@Rel T P φ m w) (c1:g0<σ.G) (c2:σ.top≤65536) (c3:b0.wr=false)
 (hb0:@BRel T' (zAj σ φ) w g0 b0) (hl0:b0.live=true→(m.get g0).live=true) (hnd:σ.ns.Nodup) (hlen:l.length=σ.ns.length)
 (hblk:∀ (i:Nat) (b:Blk) (n:Nat),l[i]? = some b→σ.ns[i]? = some n→σ.G<n∧n<m.next∧@BRel T' (zAj σ φ) w (σ.G+1+i) b∧(b.wr=true→(m.get n).wr=true)∧(b.live=true→(m.get n).live=true))
 (hH:∀ b o,T'.hold b=some o→w.heap[b]? = some o∧∀ p o' s',p<m.next→(m.get p).wr=true→φ p≠some (b,o',s')) (hM:T'.strong=true→b0.live=false):@Rel T' P (zAj σ φ) (zAe σ.G g0 b0 l) w:=by
 rw[zBd] at c2
 have hphi:∀ p,p<σ.top→zAj σ φ p=φ (σ.nm p):=fun p hp=>if_pos hp
 have hGm:=@Rel.dom T P φ m w h _ _ (@Rel.handle T P φ m w h)
 have hmb:=@Rel.bound T P φ m w h
 have hnx:(zAe σ.G g0 b0 l).next=σ.top:=by
  unfold zAe
  rw[ZAt,zBd,hlen]
 have get:∀ p,p<65536→(zAe σ.G g0 b0 l).get p=if σ.G+1≤p∧p<σ.G+1+l.length then (l[p-(σ.G+1)]?).getD .none else if p=g0 then b0 else .none:=fun p hp=>zAu c1 (by omega) hp
 have high:∀ p,σ.G<p→p<σ.top→∃ b n,l[p-(σ.G+1)]? = some b∧σ.ns[p-(σ.G+1)]? = some n∧(zAe σ.G g0 b0 l).get p=b∧σ.nm p=n:=by
  intro p h1 h2
  rw[zBd] at h2
  have h3:p-(σ.G+1)<l.length:=by omega
  have h4:p-(σ.G+1)<σ.ns.length:=by omega
  refine ⟨l[p-(σ.G+1)],σ.ns[p-(σ.G+1)],List.getElem?_eq_getElem h3,List.getElem?_eq_getElem h4,?_,?_⟩
  · rw[get p (by omega),if_pos (by omega),List.getElem?_eq_getElem h3]; rfl
  · rw[nm_high h1,List.getElem?_eq_getElem h4]; rfl
 have low:∀ p,p≤σ.G→(zAe σ.G g0 b0 l).get p=if p=g0 then b0 else .none:=by
  intro p hp
  rw[get p (by omega),if_neg (by omega)]
 have nmlt:∀ p,p<σ.top→σ.nm p<m.next:=by
  intro p hp
  rcases Nat.lt_or_ge σ.G p with h1|h1
  · obtain ⟨b,n,h3,h4,_,h6⟩:=high p h1 hp
    rw[h6]; exact (hblk _ _ _ h3 h4).2.1
  · rw[nm_low h1]; omega
 have nminj:∀ p q,p<σ.top→q<σ.top→σ.G<p→p≠q→σ.nm p≠σ.nm q:=by
  intro p q hp hq hpG hne e
  obtain ⟨b,n,h3,h4,h5,h6⟩:=high p hpG hp
  rcases Nat.lt_or_ge σ.G q with h1|h1
  · obtain ⟨b',n',g3,g4,g5,g6⟩:=high q h1 hq
    rw[h6,g6] at e
    subst e
    have h7:p-(σ.G+1)<σ.ns.length:=by
     rcases Nat.lt_or_ge (p-(σ.G+1)) σ.ns.length with h|h
     · exact h
     · rw[List.getElem?_eq_none h] at h4; cases h4
    have:=(List.getElem?_inj h7 hnd).1 (h4.trans g4.symm)
    omega
  · rw[h6,nm_low h1] at e
    have:=(hblk _ _ _ h3 h4).1
    omega
 refine @Rel.mk T' P (zAj σ φ) (zAe σ.G g0 b0 l) w (by rw[hnx,zBd]; omega) ?_ ?_ ?_ ?_ ?_ ?_ ?_ ?_ (fun b o hb=>(hH b o hb).1) ?_ (fun hs=>by
  rw[low 0 (Nat.zero_le _)]
  split
  · exact hM hs
  · rfl)
 · intro p x hp
   rw[hnx]
   unfold zAj at hp
   split at hp
   · assumption
   · cases hp
 · intro p b o s hp hne
   unfold zAj at hp
   split at hp
   · rename_i hlt
     refine @Rel.heap T P φ m w h _ b o s hp ?_
     rcases Nat.lt_or_ge σ.G p with h1|h1
     · obtain ⟨b',n,h3,h4,h5,h6⟩:=high p h1 hlt
       rw[h6,← hG]
       have:=(hblk _ _ _ h3 h4).1
       omega
     · rw[nm_low h1]; exact hne
   · cases hp
 · have:P.globals.size<σ.top:=by rw[zBd]; omega
   rw[hphi _ this,nm_low (by omega)]
   exact @Rel.handle T P φ m w h
 · rw[low _ (by omega),if_neg (by omega)]
 · intro g hg
   have:g<σ.top:=by rw[zBd]; omega
   rw[hphi _ this,nm_low (by omega)]
   exact @Rel.glob T P φ m w h g hg
 · intro p hp
   rw[hnx] at hp
   rcases Nat.lt_or_ge σ.G p with h1|h1
   · obtain ⟨b,n,h3,h4,h5,h6⟩:=high p h1 hp
     rw[h5]
     have:=(hblk _ _ _ h3 h4).2.2.1
     rwa [show σ.G+1+(p-(σ.G+1))=p by omega] at this
   · rw[low p h1]
     by_cases e:p=g0
     · rw[if_pos e,e]; exact hb0
     · rw[if_neg e]; trivial
 · intro p q b o s o' s' hp hq hne hw hl h1 h2
   rw[hnx] at hp hq
   rw[hphi p hp] at h1
   rw[hphi q hq] at h2
   have hpG:σ.G<p:=by
    rcases Nat.lt_or_ge σ.G p with h3|h3
    · exact h3
    · rw[low p h3] at hw
      split at hw
      · rw[c3] at hw; cases hw
      · cases hw
   obtain ⟨bp,np,h3,h4,h5,h6⟩:=high p hpG hp
   have hwp:(m.get (σ.nm p)).wr=true:=by
    rw[h6]; rw[h5] at hw; exact (hblk _ _ _ h3 h4).2.2.2.1 hw
   have hlq:(m.get (σ.nm q)).live=true:=by
    rcases Nat.lt_or_ge σ.G q with g1|g1
    · obtain ⟨bq,nq,g3,g4,g5,g6⟩:=high q g1 hq
      rw[g6]; rw[g5] at hl; exact (hblk _ _ _ g3 g4).2.2.2.2 hl
    · rw[low q g1] at hl
      rw[nm_low g1]
      split at hl
      · rename_i e; rw[e]; exact hl0 hl
      · cases hl
   exact @Rel.inj T P φ m w h _ _ b o s o' s' (nmlt p hp) (nmlt q hq) (nminj p q hp hq hpG hne) hwp hlq h1 h2
 · intro p hp hlt
   rw[hnx,zBd] at hp
   rw[get p hlt,if_neg (by omega),if_neg (by omega)]
 · intro p b o s hp hw hφ
   rw[hnx] at hp
   rw[hphi p hp] at hφ
   have hpG:σ.G<p:=by
    rcases Nat.lt_or_ge σ.G p with h3|h3
    · exact h3
    · rw[low p h3] at hw
      split at hw
      · rw[c3] at hw; cases hw
      · cases hw
   obtain ⟨bp,np,h3,h4,h5,h6⟩:=high p hpG hp
   have hwp:(m.get (σ.nm p)).wr=true:=by
    rw[h6]; rw[h5] at hw; exact (hblk _ _ _ h3 h4).2.2.2.1 hw
   cases hh:T'.hold b with
   |none=>rfl
   |some x=>exact absurd hφ ((hH b x hh).2 _ _ _ (nmlt p hp) hwp)
end Go.AM
namespace Go.AM
variable {P:Program}
theorem run_stringish (w:World) (a:Addr):∃ t,(stringish a).run P w=.ok t w:=by
 unfold stringish
 cases h:w.frozen? a with
 |true=>exact ⟨true,by simp[h]⟩
 |false=>
  cases h2:w.shape? a.block with
  |none=>exact ⟨false,by simp[h,h2]⟩
  |some x=>exact ⟨w.frozen? ⟨a.block,x.2,none⟩,by obtain ⟨x1,x2⟩:=x; simp[h,h2]⟩
theorem run_overlaps {tS tR e:TypeId} (ht:P.underlying tS=some (.slice e)) {size:Nat} (hz:∀ w,(Go.sizeOf e).run P w=.ok size w) {w:World} {ab ao ac bb bo bc:Nat} (hne:ab≠bb)
 {ca cb:Array Value} {ea eb:TypeId} {fa fb:Nat×Nat} (hA:w.heap[ab]? = some (.cells ca ea fa)) (hB:w.heap[bb]? = some (.cells cb eb fb)) (hf:¬ (fb.1≤bo∧bo<fb.2)) :
 ∃ t w',(Extern.SlicesOverlaps.overlaps #[tS,tS] #[tR] #[.slice (some ⟨ab,ao,none⟩) 1 ac,.slice (some ⟨bb,bo,none⟩) 1 bc]).run P w=.ok (.bool t) w'∧
  w'.heap=w.heap∧w'.os=w.os∧w'.output=w.output∧w'.tape=w.tape:=by
 have hnb:(ab != bb)=true:=by simpa using hne
 have hnb':(ab == bb)=false:=by simpa using hne
 have hfa:w.frozen? ⟨bb,bo,none⟩=false:=by
  simp only[World.frozen?,hB]
  cases h1:(decide (fb.1≤bo)&&decide (bo<fb.2)) with
  |false=>rfl
  |true=>simp at h1; exact absurd h1 hf
 have hsa:w.shape? ab=some (ea,ca.size):=by simp[World.shape?,hA]
 have hsb:w.shape? bb=some (eb,cb.size):=by simp[World.shape?,hB]
 change ∃ t w',Sem.run P (α:=Value) (do
  let some t:=(#[tS,tS]:Array TypeId)[0]? | stuck "slices.overlaps: no parameter types"
  let .slice elem ← underlying t|stuck "slices.overlaps: slice type expected"
  let size ← sizeOf elem
  match (some ⟨ab,ao,none⟩:Option Addr),(some ⟨bb,bo,none⟩:Option Addr) with
  |some a,some b=>
   if 1=0∨1=0∨size=0 then pure (Value.bool false)
   else if a.block != b.block&&(← frozen a)&&(← frozen b) then unsupported .addressObserved
   else do
    if a.block != b.block then do
     noView a; noView b
     if ← mayBeOne a b then return Value.bool ((← choose _) == 1)
    pure (Value.bool (a.block == b.block&&a.off<b.off+1*size&&b.off<a.off+1*size))
  |_,_=>pure (Value.bool false)) w=_∧_
 obtain ⟨sa,hsa'⟩:=run_stringish (P:=P) w ⟨ab,ao,none⟩
 obtain ⟨sb,hsb'⟩:=run_stringish (P:=P) w ⟨bb,bo,none⟩
 have hmb:∃ t,(mayBeOne ⟨ab,ao,none⟩ ⟨bb,bo,none⟩).run P w=.ok t w:=by simp[mayBeOne,hsa',hsb',hsa,hsb]
 obtain ⟨t,hmb⟩:=hmb
 cases size with
 |zero=>exact ⟨false,w,by simp[run_underlying ht,hz],rfl,rfl,rfl,rfl⟩
 |succ size=>
  cases t with
  |true=>
   refine ⟨?_,w.drew,?_,rfl,rfl,rfl,rfl⟩
   rotate_left
   · simp[run_underlying ht,hz,hnb,noView,viewAt,hsa,hsb,hfa,hmb,Question.forced]
     rfl
  |false=>exact ⟨false,w,by simp[run_underlying ht,hz,hnb,hnb',noView,viewAt,hsa,hsb,hfa,hmb],rfl,rfl,rfl,rfl⟩
@[reducible] def tok0:Tok where
 num _:=0
 cnt:=0
 pos _ hj:=absurd hj (Nat.not_lt_zero _)
 hi _ hj:=absurd hj (Nat.not_lt_zero _)
 mono _ _ _ hj:=absurd hj (Nat.not_lt_zero _)
 base:=0
 val _:=.nilIface
 cell _:=rfl
def extIs (P:Program) (f:FuncId):Bool:=match P.funcs[f]? with
 |some fn=>!(fn.name == "runtime.NumGoroutine")&&fn.body.isNone&&(Extern.findNext fn).isNone
 |none=>false
def elemT:Option TypeDesc→Option TypeId
 |some (.slice e)=>some e
 |_=>none
theorem call_overlaps {f:FuncId} {tS tR:TypeId} (h:extIs P f=true) (h2:(P.funcs[f]?).bind Extern.find=some (Extern.SlicesOverlaps.overlaps #[tS,tS] #[tR])) (ht:(elemT (P.underlying tS)).map (fun e=>hasT P e)=some true)
 {w:World} {ab ao ac bb bo bc:Nat} (hne:ab≠bb) {ca cb:Array Value} {ea eb:TypeId} {fa fb:Nat×Nat} (hA:w.heap[ab]? = some (.cells ca ea fa)) (hB:w.heap[bb]? = some (.cells cb eb fb)) (hf:¬ (fb.1≤bo∧bo<fb.2)) :
 Ends P f #[.slice (some ⟨ab,ao,none⟩) 1 ac,.slice (some ⟨bb,bo,none⟩) 1 bc] w fun c w'=>(∃ t,c=.bool t)∧w'.heap=w.heap∧w'.os=w.os∧w'.output=w.output∧w'.tape=w.tape:=by
 unfold extIs at h
 cases hfn:P.funcs[f]? with
 |none=>rw[hfn] at h; cases h
 |some fn=>
  rw[hfn] at h h2
  simp only[Bool.and_eq_true,Bool.not_eq_true'] at h
  cases hu:P.underlying tS with
  |none=>rw[hu] at ht; cases ht
  |some d=>
   rw[hu] at ht
   cases d<;>first|(cases ht; done)|skip
   rename_i e
   have hte:hasT P e=true:=by simpa[elemT] using ht
   obtain ⟨t,w',h3,h4⟩:=run_overlaps (tR:=tR) hu (fun w=>@zAw tok0 P _ _ hte) hne hA hB hf (ao:=ao) (ac:=ac) (bc:=bc)
   left
   refine ⟨.bool t,w',?_,⟨t,rfl⟩,h4⟩
   rw[run_callFunc_extern hfn h.1.1 h.1.2 (Option.isNone_iff_eq_none.1 h.2) h2,h3]; rfl
end Go.AM
namespace Go.AM
variable {P:Program}
section
def blkLen:Blk→Nat
 | .cells _ cs=>lenL cs
 |_=>0
def ovX (args:List AVal) (m:Mem):R:=
 arg2 args fun x y=>x.onSlice fun a _ n _ _ _=>y.onSlice fun b _ n' _ _ _=>
  zAc (.ok (.bool false) m) (.fail 190) (and (and (not (Nat.beq a b)) (and (Nat.ble 1 n) (Nat.ble 1 n'))) (and (and (Nat.ble 1 (blkLen (m.get a))) (Nat.ble 1 (blkLen (m.get b)))) (or (m.get a).wr (m.get b).wr)))
theorem run_stringish_no {w:World} {b o:Nat} {c:Array Value} {el:TypeId} {fz:Nat×Nat} (h:w.heap[b]? = some (.cells c el fz)) (h1:¬ (fz.1≤o∧o<fz.2)) (h2:¬ (fz.1≤c.size∧c.size<fz.2)):(stringish ⟨b,o,none⟩).run P w=.ok false w:=by
 have e:∀ p:Nat,¬ (fz.1≤p∧p<fz.2)→w.frozen? ⟨b,p,none⟩=false:=by
  intro p hp
  simp only[World.frozen?,h]
  cases h3:(decide (fz.1≤p)&&decide (p<fz.2)) with
  |false=>rfl
  |true=>simp at h3; exact absurd h3 hp
 unfold stringish
 have hs:w.shape? b=some (el,c.size):=by simp[World.shape?,h]
 simp[e o h1,hs,e _ h2]
theorem run_overlaps_no {tS tR e:TypeId} (ht:P.underlying tS=some (.slice e)) {size:Nat} (hz:∀ w,(Go.sizeOf e).run P w=.ok size w) {w:World} {ab ao an ac bb bo bn bc:Nat} (hne:ab≠bb)
 {ca cb:Array Value} {ea eb:TypeId} {fa fb:Nat×Nat} (hA:w.heap[ab]? = some (.cells ca ea fa)) (hB:w.heap[bb]? = some (.cells cb eb fb)) (ha0:ca.size≠0) (hb0:cb.size≠0)
 (hs:(stringish ⟨ab,ao,none⟩).run P w=.ok false w∨(stringish ⟨bb,bo,none⟩).run P w=.ok false w) (hf:w.frozen? ⟨ab,ao,none⟩=false∨w.frozen? ⟨bb,bo,none⟩=false) :
 (Extern.SlicesOverlaps.overlaps #[tS,tS] #[tR] #[.slice (some ⟨ab,ao,none⟩) an ac,.slice (some ⟨bb,bo,none⟩) bn bc]).run P w=.ok (.bool false) w:=by
 have hnb:(ab != bb)=true:=by simpa using hne
 have hnb':(ab == bb)=false:=by simpa using hne
 have hsa:w.shape? ab=some (ea,ca.size):=by simp[World.shape?,hA]
 have hsb:w.shape? bb=some (eb,cb.size):=by simp[World.shape?,hB]
 change Sem.run P (α:=Value) (do
  let some t:=(#[tS,tS]:Array TypeId)[0]? | stuck "slices.overlaps: no parameter types"
  let .slice elem ← underlying t|stuck "slices.overlaps: slice type expected"
  let size ← sizeOf elem
  match (some ⟨ab,ao,none⟩:Option Addr),(some ⟨bb,bo,none⟩:Option Addr) with
  |some a,some b=>
   if an=0∨bn=0∨size=0 then pure (Value.bool false)
   else if a.block != b.block&&(← frozen a)&&(← frozen b) then unsupported .addressObserved
   else do
    if a.block != b.block then do
     noView a; noView b
     if ← mayBeOne a b then return Value.bool ((← choose _) == 1)
    pure (Value.bool (a.block == b.block&&a.off<b.off+bn*size&&b.off<a.off+an*size))
  |_,_=>pure (Value.bool false)) w=_
 have hmb:(mayBeOne ⟨ab,ao,none⟩ ⟨bb,bo,none⟩).run P w=.ok false w:=by
  obtain ⟨sa,hsa'⟩:=run_stringish (P:=P) w ⟨ab,ao,none⟩
  obtain ⟨sb,hsb'⟩:=run_stringish (P:=P) w ⟨bb,bo,none⟩
  unfold mayBeOne
  have hss:sa=false∨sb=false:=by
   rcases hs with h|h
   · left; rw[hsa'] at h; injection h
   · right; rw[hsb'] at h; injection h
  rcases hss with rfl|rfl<;>simp[hsa',hsb',hsa,hsb]<;>(first|done|(split<;>simp_all))
 have hff:(w.frozen? ⟨ab,ao,none⟩&&w.frozen? ⟨bb,bo,none⟩)=false:=by rcases hf with h|h<;>simp[h]
 by_cases hz0:an=0∨bn=0∨size=0
 · simp[run_underlying ht,hz,hz0]
 · rcases hf with h|h
   · simp[run_underlying ht,hz,hz0,hnb,hnb',noView,viewAt,hsa,hsb,h,hmb]
   · cases hfa:w.frozen? ⟨ab,ao,none⟩<;>simp[run_underlying ht,hz,hz0,hnb,hnb',noView,viewAt,hsa,hsb,h,hfa,hmb]
theorem blk_cells {T:Tok} (hst:T.strong=true) {φ:Phi} {w:World} {p:Nat} {x:Blk} (hl:Nat.ble 1 (blkLen x)=true) (h:@BRel T φ w p x):∃ cb co c el fz,φ p=some (cb,co,c.size)∧w.heap[cb]? = some (.cells c el fz)∧c.size≠0∧
 (x.wr=true→∀ i,co≤i→i≤c.size→¬ (fz.1≤i∧i<fz.2)):=by
 cases x with
 |cells ro cs=>
  obtain ⟨cb,co,c,el,fz,h1,h2,h3,_,_,h6⟩:=h
  have:1≤cs.length:=by
   have:=zAd.1 hl
   rwa [show blkLen (.cells ro cs)=lenL cs from rfl,ZAm] at this
  refine ⟨cb,co,c,el,fz,h1,h2,by omega,fun hw i g1 g2=>(h6 ?_ i g1 ((Nat.lt_or_eq_of_le g2).imp id fun e=>⟨e,hst⟩)).1⟩
  cases ro with
  |false=>rfl
  |true=>cases hw
 |none=>cases hl
 |map es k=>cases hl
 |iter s k=>cases hl
theorem blk_live {x:Blk} (hl:Nat.ble 1 (blkLen x)=true):x.live=true:=by cases x<;>first|rfl|cases hl
theorem ovX_ok {T:Tok} (hst:T.strong=true) {f:FuncId} {tS tR:TypeId} (h:extIs P f=true) (h2:(P.funcs[f]?).bind Extern.find=some (Extern.SlicesOverlaps.overlaps #[tS,tS] #[tR])) (ht:(elemT (P.underlying tS)).map (fun e=>hasT P e)=some true):@ZCr T P f ovX:=by
 intro args m v m' hx φ w cargs hr hv
 obtain ⟨x,y,rfl,h3⟩:=arg2_ok hx
 obtain ⟨a,o,n,c,ex,es,rfl,h4⟩:=onSlice_ok h3
 obtain ⟨b,o',n',c',ex',es',rfl,h5⟩:=onSlice_ok h4
 obtain ⟨h6,h7⟩:=zAm h5
 cases h7
 simp only[Bool.and_eq_true,Bool.not_eq_true'] at h6
 obtain ⟨⟨g1,g2,g3⟩,⟨g4,g5⟩,g6⟩:=h6
 have hab:a≠b:=fun e=>by rw[beq_true.2 e] at g1; cases g1
 have hn:=zAd.1 g2
 have hn':=zAd.1 g3
 obtain ⟨cx,cy,hc,hcx,hcy⟩:=vs2 hv
 have hcargs:cargs=#[cx,cy]:=hc
 subst hcargs
 have hia:=@Rel.inj T P φ m w hr
 cases hcx with
 |slice _ _ _ _ _ _ cb co sz oc capc hφ q1 q2 q3 q4 q5=>
 cases hcy with
 |slice _ _ _ _ _ _ cb2 co2 sz2 oc2 capc2 hφ2 p1 p2 p3 p4 p5=>
 have ham:=@Rel.dom T P φ m w hr _ _ hφ
 have hbm:=@Rel.dom T P φ m w hr _ _ hφ2
 obtain ⟨b1,k1,ca,ea,fa,e1,e2,e3,e4⟩:=blk_cells hst g4 (@Rel.blk T P φ m w hr a ham)
 obtain ⟨b2,k2,cc,ec,fc,f1,f2,f3,f4⟩:=blk_cells hst g5 (@Rel.blk T P φ m w hr b hbm)
 rw[hφ] at e1
 cases e1
 rw[hφ2] at f1
 cases f1
 have ho:=q4 (by omega)
 have ho2:=p4 (by omega)
 have hne:cb≠cb2:=by
  intro e
  subst e
  rw[Bool.or_eq_true] at g6
  rcases g6 with g6|g6
  · exact hia a b _ _ _ _ _ ham hbm hab g6 (blk_live g5) hφ hφ2
  · exact hia b a _ _ _ _ _ hbm ham (Ne.symm hab) g6 (blk_live g4) hφ2 hφ
 have nofr:∀ {bb off:Nat} {cv:Array Value} {el:TypeId} {fz:Nat×Nat},w.heap[bb]? = some (.cells cv el fz)→¬ (fz.1≤off∧off<fz.2)→w.frozen? ⟨bb,off,none⟩=false:=by
  intro bb off cv el fz hh hp
  simp only[World.frozen?,hh]
  cases h3:(decide (fz.1≤off)&&decide (off<fz.2)) with
  |false=>rfl
  |true=>simp at h3; exact absurd h3 hp
 have hz1:co+0≤ca.size:=by omega
 have main:(stringish ⟨cb,oc,none⟩).run P w=.ok false w∧w.frozen? ⟨cb,oc,none⟩=false∨(stringish ⟨cb2,oc2,none⟩).run P w=.ok false w∧w.frozen? ⟨cb2,oc2,none⟩=false:=by
  rw[Bool.or_eq_true] at g6
  rcases g6 with g6|g6
  · left
    have z1:=e4 g6 oc (by omega) (by omega)
    exact ⟨run_stringish_no e2 z1 (e4 g6 ca.size (by omega) (Nat.le_refl _)),nofr e2 z1⟩
  · right
    have z1:=f4 g6 oc2 (by omega) (by omega)
    exact ⟨run_stringish_no f2 z1 (f4 g6 cc.size (by omega) (Nat.le_refl _)),nofr f2 z1⟩
 unfold extIs at h
 cases hfn:P.funcs[f]? with
 |none=>rw[hfn] at h; cases h
 |some fn=>
  rw[hfn] at h h2
  simp only[Bool.and_eq_true,Bool.not_eq_true'] at h
  cases hu:P.underlying tS with
  |none=>rw[hu] at ht; cases ht
  |some d=>
   rw[hu] at ht
   cases d<;>first|(cases ht; done)|skip
   rename_i e
   have hte:hasT P e=true:=by simpa[elemT] using ht
   have h3:=run_overlaps_no (tR:=tR) (an:=n) (bn:=n') (ac:=capc) (bc:=capc2) hu (fun w=>@zAw tok0 P _ _ hte) hne e2 f2 e3 f3 (main.imp And.left And.left) (main.imp And.right And.right)
   left
   refine ⟨.bool false,w,?_,φ,@Step.refl T P φ m w hr,@VRel.bool T φ false⟩
   rw[run_callFunc_extern hfn h.1.1 h.1.2 (Option.isNone_iff_eq_none.1 h.2) h2,h3]; rfl
end
end Go.AM
namespace Go.AM
variable {P:Program}
section
def insMem (G:Nat) (sp:List AVal):Mem:=zAe G 0 .none [.cells false (.opq 0::.opq 1::sp),.cells true [.opq 2,.opq 3]]
def insArgs (G:Nat) (c:Nat) (ex:Bool):List AVal:=[.slice (Nat.succ G) 0 1 c ex 2,.int .i64 (.ofNat 0),.slice (Nat.succ (Nat.succ G)) 0 1 1 false 2]
def isOpq (j:Nat):AVal→Bool
 | .opq i=>Nat.beq i j
 |_=>false
def on4 (l:List AVal) (f:AVal→AVal→AVal→AVal→Bool):Bool:=
 onL false (fun a l=>onL false (fun b l=>onL false (fun c l=>onL false (fun d _=>f a b c d) l) l) l) l
def insChk (G:Nat) (v:AVal) (m:Mem):Bool:=
 match v with
 | .slice b o n c _ es=>match m.get b with
  | .cells false cs=>and (and (and (Nat.beq o 0) (Nat.beq n 2)) (and (Nat.beq es 2) (Nat.ble 2 c))) (and (and (or (Nat.beq b (Nat.succ G)) (Nat.ble (Nat.add G 3) b)) (Nat.ble (Nat.succ b) m.next)) (on4 cs fun w x y z=>and (and (isOpq 2 w) (isOpq 3 x)) (and (isOpq 0 y) (isOpq 1 z))))
  |_=>false
 |_=>false
def InsRuns (P:Program) (f:FuncId) (G:Nat):Prop:=∀ (T:Tok) (φ:Phi) (w:World) (cargs:Array Value) (c:Nat) (ex:Bool) (sp:List AVal),(c=1∧ex=true∧sp=[]∨(∃ k,c=Nat.succ (Nat.succ k))∧ex=true∧sp=[.any,.any])→
 @Rel T P φ (insMem G sp) w→@zAa T φ (insArgs G c ex) cargs.toList→Ends P f cargs w fun cv w'=>∃ φ' v mf,@Step T P φ (insMem G sp) w φ' mf w'∧@VRel T φ' v cv∧insChk G v mf=true
def insX (G:Nat) (args:List AVal) (m:Mem):R:=
 onL (.fail 170) (fun s r=>arg2 r fun i v=>s.onSlice fun b o n c _ es=>v.onSlice fun vb vo vn _ _ ves=>
  (m.get b).onCells fun ro cs=>(m.get vb).onCells fun _ vcs=>
   zAc (.ok (.slice m.next 0 2 2 false 2) ((⟨Nat.succ m.next,putT m.next (.cells false (appL (zBl 2 cs) (zBl 2 vcs))) m.t⟩:Mem).put b .none)) (.fail 171)
    (and (and (and (and (Nat.beq o 0) (Nat.beq n 1)) (and (Nat.beq es 2) (Nat.ble 1 c))) (and (and (Nat.beq vo 0) (Nat.beq vn 1)) (and (Nat.beq ves 2) (not ro))))
     (and (and (and (aeqN 2 i (.int .i64 (.ofNat 0))) (not (Nat.beq b vb))) (and (Nat.beq (lenL (zBl 2 cs)) 2) (Nat.beq (lenL (zBl 2 vcs)) 2))) (and (Nat.ble (Nat.succ m.next) 65536) (and (Nat.ble (Nat.succ G) b) (Nat.ble (Nat.succ G) vb)))))) args
@[reducible] def tok4 (st:Bool) (v:Nat→Value) (h:∀ j,(v j).oneCell'=true):Tok where
 strong:=st
 num _:=0
 cnt:=0
 pos _ hj:=absurd hj (Nat.not_lt_zero _)
 hi _ hj:=absurd hj (Nat.not_lt_zero _)
 mono _ _ _ hj:=absurd hj (Nat.not_lt_zero _)
 base:=0
 val:=v
 cell:=h
theorem opq_inv {T:Tok} {φ:Phi} {x:AVal} {j:Nat} {c:Value} (h:isOpq j x=true) (hv:@VRel T φ x c):c=T.val j:=by
 cases x<;>first|(cases h; done)|skip
 have:=beq_true.1 h
 subst this
 cases hv; rfl
theorem on4_ok {l:List AVal} {f:AVal→AVal→AVal→AVal→Bool} (h:on4 l f=true):∃ a b c d r,l=a::b::c::d::r∧f a b c d=true:=by
 match l,h with
 |a::b::c::d::r,h=>exact ⟨a,b,c,d,r,rfl,h⟩
theorem aeq_int {x:AVal} (h:aeqN 2 x (.int .i64 (.ofNat 0))=true):x=.int .i64 0:=by
 cases x<;>first|(cases h; done)|skip
 rename_i k z
 have h':and (ikEq k .i64) (ieq z (.ofNat 0))=true:=h
 rw[Bool.and_eq_true] at h'
 cases k<;>first|(cases h'.1; done)|skip
 cases z with
 |negSucc n=>cases h'.2
 |ofNat n=>
  have:=beq_true.1 h'.2
  subst this; rfl
theorem insX_ok {T:Tok} {f:FuncId} {G:Nat} (hG:P.globals.size=G) (h0:0<G) (hruns:InsRuns P f G):@ZCr T P f (insX G):=by
 intro args m v m' h φ w cargs hr hv
 obtain ⟨s,r,rfl,h1⟩:=ZCy h
 obtain ⟨i,vv,rfl,h2⟩:=arg2_ok h1
 obtain ⟨b,o,n,c,ex,es,rfl,h3⟩:=onSlice_ok h2
 obtain ⟨vb,vo,vn,vc,vex,ves,rfl,h4⟩:=onSlice_ok h3
 obtain ⟨ro,cs,hb,h5⟩:=zBo h4
 obtain ⟨vro,vcs,hvb,h6⟩:=zBo h5
 obtain ⟨h7,h8⟩:=zAm h6
 simp only[Bool.and_eq_true,beq_true,zAd,ZAm,takeL_eq,Bool.not_eq_true'] at h7
 obtain ⟨⟨⟨⟨rfl,rfl⟩,rfl,hc1⟩,⟨rfl,rfl⟩,rfl,rfl⟩,⟨⟨hi,hne⟩,hl1,hl2⟩,hnx,hGb,hGv⟩:=h7
 have hi':=aeq_int hi
 subst hi'
 cases h8
 have hne':b≠vb:=fun e=>by rw[e,beq_true.2 rfl] at hne; cases hne
 generalize hcl:cargs.toList=L at hv
 cases hv with
 |cons hs hv=>
 rename_i cS cargs1
 cases hv with
 |cons hi hv=>
 rename_i cI cargs2
 cases hv with
 |cons hvv hv=>
 rename_i cV cargs3
 cases hv
 cases hi
 cases hs with
 |slice _ _ _ _ _ _ cb co sz o' cap' hφ q1 q2 q3 q4 q5=>
 cases hvv with
 |slice _ _ _ _ _ _ vcb vco vsz vo' vcap' vhφ v1 v2 v3 v4 v5=>
 have q4':=q4 (by omega)
 have v4':=v4 (by omega)
 have hbm:=@Rel.dom T P φ m w hr _ _ hφ
 have hvm:=@Rel.dom T P φ m w hr _ _ vhφ
 have hB:=@Rel.blk T P φ m w hr b hbm
 have hV:=@Rel.blk T P φ m w hr vb hvm
 rw[hb] at hB
 rw[hvb] at hV
 obtain ⟨cb2,co2,ca,el,fz,r1,r2,r3,r4,r5,r6⟩:=hB
 obtain ⟨vcb2,vco2,va,vel,vfz,s1,s2,s3,s4,s5,s6⟩:=hV
 rw[hφ] at r1
 rw[vhφ] at s1
 cases r1
 cases s1
 match cs,hl1,hb,r3,r4,r5 with
 |x0::x1::xr,_,hb,r3,r4,r5=>
 match vcs,hl2,hvb,s3,s4,s5 with
 |y0::y1::yr,_,hvb,s3,s4,s5=>
 simp only[List.length_cons] at r3 r4 s3 s4
 obtain ⟨c0,g0,hx0⟩:=@zAa.get T φ _ _ r4 0 x0 rfl
 obtain ⟨c1,g1,hx1⟩:=@zAa.get T φ _ _ r4 1 x1 rfl
 obtain ⟨d0,e0,hy0⟩:=@zAa.get T φ _ _ s4 0 y0 rfl
 obtain ⟨d1,e1,hy1⟩:=@zAa.get T φ _ _ s4 1 y1 rfl
 have pc0:=@VRel.plain T φ _ _ hx0 (r5 x0 (by simp))
 have pc1:=@VRel.plain T φ _ _ hx1 (r5 x1 (by simp))
 have pd0:=@VRel.plain T φ _ _ hy0 (s5 y0 (by simp))
 have pd1:=@VRel.plain T φ _ _ hy1 (s5 y1 (by simp))
 rw[List.getElem?_take,if_pos (by omega),List.getElem?_drop,Array.getElem?_toList] at g0 g1 e0 e1
 let vals:Nat→Value:=fun j=>match j with|0=>c0|1=>c1|2=>d0|3=>d1|_=>.nilIface
 have hvals:∀ j,(vals j).oneCell'=true:=fun j=>by
  match j with
  |0=>exact pc0
  |1=>exact pc1
  |2=>exact pd0
  |3=>exact pd1
  |n+4=>rfl
 let T':Tok:=tok4 T.strong vals hvals
 let σ:Map:=⟨G,[b,vb],[],fun _=>.bad,fun _=>.bad⟩
 have hφb:zAj σ φ (G+1)=some (cb,co,ca.size):=by
  unfold zAj
  rw[if_pos (by rw[zBd]; show G+1<G+1+2; omega),nm_high (by show G<G+1; omega)]
  show φ (([b,vb][G+1-(G+1)]?).getD 0)=_
  rw[Nat.sub_self]; exact hφ
 have hφv:zAj σ φ (G+2)=some (vcb,vco,va.size):=by
  unfold zAj
  rw[if_pos (by rw[zBd]; show G+2<G+1+2; omega),nm_high (by show G<G+2; omega)]
  show φ (([b,vb][G+2-(G+1)]?).getD 0)=_
  rw[show G+2-(G+1)=1 by omega]; exact vhφ
 have main:∀ (c':Nat) (sp:List AVal),(c'=1∧sp=[]∨(∃ k,c'=Nat.succ (Nat.succ k))∧sp=[.any,.any])→cap'=c'→
  Ends P f cargs w fun c w'=>∃ φ',@Step T P φ m w φ' ((⟨Nat.succ m.next,putT m.next (.cells false (appL (zBl 2 (x0::x1::xr)) (zBl 2 (y0::y1::yr)))) m.t⟩:Mem).put b .none) w'∧@VRel T φ' (.slice m.next 0 2 2 false 2) c:=by
  intro c' sp hsp hcap
  have hrel:@Rel T' P (zAj σ φ) (insMem G sp) w:=by
   refine own (T:=T) (T':=T') (σ:=σ) (φ:=φ) (m:=m) hG.symm hr h0 (by rw[zBd]; show G+1+2≤65536; omega) rfl trivial (fun h=>by cases h) (by simp[σ,hne']) rfl ?_ (fun b o hb=>by cases hb) (fun _=>rfl)
   intro i b' n' hi hn
   match i with
   |0=>
    simp only[List.getElem?_cons_zero,Option.some.injEq] at hi hn
    subst hi
    have hn':b=n':=by simpa[σ] using hn
    subst hn'
    refine ⟨hGb,hbm,?_,fun _=>by rw[hb]; rfl,fun _=>by rw[hb]; rfl⟩
    have h2l:sp.length=0∧sp=[]∨sp=[.any,.any]∧co+4≤ca.size:=by
     rcases hsp with ⟨_,rfl⟩|⟨⟨k,hk⟩,rfl⟩
     · exact .inl ⟨rfl,rfl⟩
     · right; refine ⟨rfl,?_⟩
       rw[hcap,hk] at q5; omega
    have cell:∀ i,co≤i→i<ca.size→∀ x,ca[i]? = some x→x.oneCell'=true:=fun i g1 g2=>(r6 rfl i g1 (.inl g2)).2
    refine ⟨cb,co,ca,el,fz,hφb,r2,?_,?_,?_,r6⟩
    · rcases h2l with ⟨_,rfl⟩|⟨rfl,h4⟩
      · show co+2≤_; omega
      · exact h4
    · rcases h2l with ⟨_,rfl⟩|⟨rfl,h4⟩
      · have:((ca.toList.drop co).take [AVal.opq 0,AVal.opq 1].length)=[c0,c1]:=by
         apply List.ext_getElem?
         intro j
         match j with
         |0=>rw[List.getElem?_take,if_pos (by decide),List.getElem?_drop,Array.getElem?_toList]; exact g0
         |1=>rw[List.getElem?_take,if_pos (by decide),List.getElem?_drop,Array.getElem?_toList]; exact g1
         |j+2=>rw[List.getElem?_take,if_neg (by show ¬ (j+2<2); omega)]; rfl
        rw[this]
        exact @zAa.cons T' _ _ _ _ _ (@VRel.opq T' _ 0) (@zAa.cons T' _ _ _ _ _ (@VRel.opq T' _ 1) (@zAa.nil T' _))
      · have h2:co+2<ca.size:=by omega
        have h3:co+3<ca.size:=by omega
        have:((ca.toList.drop co).take [AVal.opq 0,AVal.opq 1,AVal.any,AVal.any].length)=[c0,c1,ca[co+2],ca[co+3]]:=by
         apply List.ext_getElem?
         intro j
         match j with
         |0=>rw[List.getElem?_take,if_pos (by decide),List.getElem?_drop,Array.getElem?_toList]; exact g0
         |1=>rw[List.getElem?_take,if_pos (by decide),List.getElem?_drop,Array.getElem?_toList]; exact g1
         |2=>rw[List.getElem?_take,if_pos (by decide),List.getElem?_drop,Array.getElem?_toList,Array.getElem?_eq_getElem h2]; rfl
         |3=>rw[List.getElem?_take,if_pos (by decide),List.getElem?_drop,Array.getElem?_toList,Array.getElem?_eq_getElem h3]; rfl
         |j+4=>rw[List.getElem?_take,if_neg (by show ¬ (j+4<4); omega)]; rfl
        have p2:=cell (co+2) (by omega) h2 _ (Array.getElem?_eq_getElem h2)
        have p3:=cell (co+3) (by omega) h3 _ (Array.getElem?_eq_getElem h3)
        show @zAa T' _ [AVal.opq 0,AVal.opq 1,AVal.any,AVal.any] ((ca.toList.drop co).take [AVal.opq 0,AVal.opq 1,AVal.any,AVal.any].length)
        rw[this]
        exact @zAa.cons T' _ _ _ _ _ (@VRel.opq T' _ 0) (@zAa.cons T' _ _ _ _ _ (@VRel.opq T' _ 1) (@zAa.cons T' _ _ _ _ _ (@VRel.any T' _ _ p2) (@zAa.cons T' _ _ _ _ _ (@VRel.any T' _ _ p3) (@zAa.nil T' _))))
    · intro v hv
      rcases h2l with ⟨_,rfl⟩|⟨rfl,_⟩<;>simp at hv
      · rcases hv with rfl|rfl<;>rfl
      · rcases hv with rfl|rfl|rfl<;>rfl
   |1=>
    simp only[List.getElem?_cons_succ,List.getElem?_cons_zero,Option.some.injEq] at hi hn
    subst hi
    have hn':vb=n':=by simpa[σ] using hn
    subst hn'
    refine ⟨hGv,hvm,?_,fun h=>(by cases h),fun _=>by rw[hvb]; rfl⟩
    refine ⟨vcb,vco,va,vel,vfz,hφv,s2,?_,?_,?_,fun h=>(by cases h)⟩
    · show vco+2≤_; omega
    · have:((va.toList.drop vco).take [AVal.opq 2,AVal.opq 3].length)=[d0,d1]:=by
       apply List.ext_getElem?
       intro j
       match j with
       |0=>rw[List.getElem?_take,if_pos (by decide),List.getElem?_drop,Array.getElem?_toList]; exact e0
       |1=>rw[List.getElem?_take,if_pos (by decide),List.getElem?_drop,Array.getElem?_toList]; exact e1
       |j+2=>rw[List.getElem?_take,if_neg (by show ¬ (j+2<2); omega)]; rfl
      rw[this]
      exact @zAa.cons T' _ _ _ _ _ (@VRel.opq T' _ 2) (@zAa.cons T' _ _ _ _ _ (@VRel.opq T' _ 3) (@zAa.nil T' _))
    · intro v hv
      simp at hv
      rcases hv with rfl|rfl<;>rfl
   |i+2=>simp at hi
  have hargs:@zAa T' (zAj σ φ) (insArgs G c' true) cargs.toList:=by
   rw[hcl]
   refine @zAa.cons T' _ _ _ _ _ ?_ (@zAa.cons T' _ _ _ _ _ (@VRel.int T' _ _ _) (@zAa.cons T' _ _ _ _ _ ?_ (@zAa.nil T' _)))
   · exact @VRel.slice T' _ (G+1) 0 1 c' true 2 cb co ca.size o' cap' hφb (by rcases hsp with ⟨rfl,_⟩|⟨⟨k,rfl⟩,_⟩<;>omega) (by omega) (fun _=>hcap) (fun _=>q4') q5
   · exact @VRel.slice T' _ (G+2) 0 1 1 false 2 vcb vco va.size vo' vcap' hφv (Nat.le_refl _) (by omega) (fun h=>by cases h) (fun _=>v4') v5
  refine (hruns T' (zAj σ φ) w cargs c' true sp (hsp.elim (fun h=>.inl ⟨h.1,rfl,h.2⟩) (fun h=>.inr ⟨h.1,rfl,h.2⟩)) hrel hargs).mono fun cv w' ⟨φ'',u,mf,hst,hu,hchk⟩=>?_
  have hrf:=@Step.rel T' P _ _ _ _ _ _ hst
  unfold insChk at hchk
  split at hchk
  · rename_i N oN nN cN exN esN
    split at hchk
    · rename_i csN hN
      simp only[Bool.and_eq_true,Bool.or_eq_true,beq_true,zAd] at hchk
      obtain ⟨⟨⟨rfl,rfl⟩,rfl,hcN⟩,⟨hNn,hNm⟩,h4⟩:=hchk
      obtain ⟨t0,t1,t2,t3,tr,rfl,h5⟩:=on4_ok h4
      simp only[Bool.and_eq_true] at h5
      obtain ⟨⟨o2,o3⟩,o0,o1⟩:=h5
      have hBN:=@Rel.blk T' P _ _ _ hrf N hNm
      rw[hN] at hBN
      obtain ⟨nb,nco,na,nel,nfz,z1,z2,z3,z4,z5,z6⟩:=hBN
      simp only[List.length_cons] at z3 z4
      have gets:∀ (W:Nat) (p:Nat),W<65536→(insMem G sp).next=G+3∧True:=fun _ _ _=>⟨by unfold insMem zAe; rw[ZAt]; rfl,trivial⟩
      have hMn:(insMem G sp).next=G+3:=(gets 0 0 (by omega)).1
      have hwrM:∀ q,q<G+3→((insMem G sp).get q).wr=true→q=G+1:=by
       intro q hq hw
       unfold insMem at hw
       rw[zAu h0 (by show G+1+2≤65536; omega) (by omega)] at hw
       split at hw
       · rename_i h9
         have h9':q<G+1+2:=h9.2
         rcases (by omega:q=G+1∨q=G+2) with e|e
         · exact e
         · subst e
           rw[show G+2-(G+1)=1 by omega] at hw
           cases hw
       · split at hw<;>cases hw
      have hnbcb:nb=cb∨w.heap.size≤nb:=by
       rcases hNn with e|e
       · left
         subst e
         have:=@Step.ext T' P _ _ _ _ _ _ hst _ _ hφb
         exact (congrArg Prod.fst (Option.some.inj (this.symm.trans z1))).symm
       · have e:G+3≤N:=e
         rcases Nat.lt_or_ge nb w.heap.size with h9|h9
         · obtain ⟨q,oq,sq,w1,w2,w3⟩:=@Step.img T' P _ _ _ _ _ _ hst N nb nco na.size (by rw[hMn]; exact e) hNm (by rw[hN]; rfl) z1 h9
           rw[hMn] at w1
           have:=hwrM q w1 w2
           subst this
           rw[hφb] at w3; cases w3; exact .inl rfl
         · exact .inr h9
      have hNh:N≠P.globals.size:=by
       rw[hG]
       rcases hNn with e|e
       · omega
       · have e:G+3≤N:=e
         omega
      have hnl:=@Rel.heap T' P _ _ _ hrf N nb nco na.size z1 hNh
      have hext:Ext' φ (fun q=>if q=m.next then some (nb,nco,na.size) else φ q):=by
       intro q y hq
       have:=@Rel.dom T P φ m w hr q y hq
       show (if q=m.next then _ else _)=_
       rw[if_neg (by omega)]; exact hq
      refine ⟨_,@Step.repl P T φ m w hr w' b cb co ca.size hbm (by rw[hb]; rfl) hφ (.cells false (appL (zBl 2 (x0::x1::xr)) (zBl 2 (y0::y1::yr)))) nb nco na.size (by omega) ?_ (@Step.size T' P _ _ _ _ _ _ hst) (@Step.os T' P _ _ _ _ _ _ hst) (@Step.out T' P _ _ _ _ _ _ hst) (@Step.tape T' P _ _ _ _ _ _ hst) hnbcb hnl ?_,?_⟩
      · intro q hq hne2
        refine @Step.frame T' P _ _ _ _ _ _ hst q hq ?_
        intro p' o1' s1' hp' hw' he'
        rw[hMn] at hp'
        have:=hwrM p' hp' hw'
        subst this
        rw[hφb] at he'; cases he'; exact hne2 rfl
      · have hlist:appL (zBl 2 (x0::x1::xr)) (zBl 2 (y0::y1::yr))=[y0,y1,x0,x1]:=rfl
        rw[hlist]
        refine ⟨nb,nco,na,nel,nfz,by simp,z2,by show nco+4≤_; omega,?_,?_,z6⟩
        · obtain ⟨u0,a0,b0⟩:=@zAa.get T' _ _ _ z4 0 t0 rfl
          obtain ⟨u1,a1,b1⟩:=@zAa.get T' _ _ _ z4 1 t1 rfl
          obtain ⟨u2,a2,b2⟩:=@zAa.get T' _ _ _ z4 2 t2 rfl
          obtain ⟨u3,a3,b3⟩:=@zAa.get T' _ _ _ z4 3 t3 rfl
          have k0:u0=d0:=opq_inv o2 b0
          have k1:u1=d1:=opq_inv o3 b1
          have k2:u2=c0:=opq_inv o0 b2
          have k3:u3=c1:=opq_inv o1 b3
          subst k0 k1 k2 k3
          rw[List.getElem?_take,if_pos (by omega),List.getElem?_drop] at a0 a1 a2 a3
          have:((na.toList.drop nco).take [y0,y1,x0,x1].length)=[u0,u1,u2,u3]:=by
           apply List.ext_getElem?
           intro j
           match j with
           |0=>rw[List.getElem?_take,if_pos (by show 0<4; omega),List.getElem?_drop]; exact a0
           |1=>rw[List.getElem?_take,if_pos (by show 1<4; omega),List.getElem?_drop]; exact a1
           |2=>rw[List.getElem?_take,if_pos (by show 2<4; omega),List.getElem?_drop]; exact a2
           |3=>rw[List.getElem?_take,if_pos (by show 3<4; omega),List.getElem?_drop]; exact a3
           |j+4=>rw[List.getElem?_take,if_neg (by show ¬ (j+4<4); omega)]; rfl
          rw[this]
          exact @zAa.mono T φ _ hext _ _ (@zAa.cons T _ _ _ _ _ hy0 (@zAa.cons T _ _ _ _ _ hy1 (@zAa.cons T _ _ _ _ _ hx0 (@zAa.cons T _ _ _ _ _ hx1 (@zAa.nil T _)))))
        · intro v hv
          simp at hv
          rcases hv with rfl|rfl|rfl|rfl
          · exact s5 _ (by simp)
          · exact s5 _ (by simp)
          · exact r5 _ (by simp)
          · exact r5 _ (by simp)
      · generalize hcv:cv=cc at hu
        cases hu with
        |slice _ _ _ _ _ _ nb2 nco2 nsz2 no' ncap' w1 w2 w3 w4 w5 w6=>
         rw[z1] at w1; cases w1
         exact @VRel.slice T _ m.next 0 2 2 false 2 nb nco na.size no' ncap' (by simp) (Nat.le_refl _) (by omega) (fun h=>by cases h) (fun _=>w5 (by omega)) w6
    · cases hchk
  · cases hchk
 rcases Nat.lt_or_ge cap' 2 with h9|h9
 · exact main 1 [] (.inl ⟨rfl,rfl⟩) (by omega)
 · exact main cap' [.any,.any] (.inr ⟨⟨cap'-2,by omega⟩,rfl⟩) rfl
end
end Go.AM
namespace Go.AM
variable {P:Program}
section
def opqL:List Nat→List AVal
 | []=>[]
 |j::l=>.opq j::opqL l
def anyL:Nat→List AVal
 |0=>[]
 |n+1=>.any::anyL n
def edMem (G N M:Nat) (sp:List AVal):Mem:=zAe G 0 .none [.cells false (appL sp (opqL (natL N 0))),.cells true (opqL (natL M 100))]
def edArgs (G n z c:Nat) (ex:Bool) (ints:List AVal) (mv:Nat):List AVal:=.slice (Nat.succ G) 0 n c ex z::appL [.slice (Nat.succ (Nat.succ G)) 0 mv mv false z] ints
def edSel:List Nat→List AVal→Bool
 | [],_=>true
 |j::l,x::xs=>zAc (edSel l xs) false (isOpq j x)
 |_::_,[]=>false
def edChk (G q z:Nat) (sel:List Nat) (v:AVal) (m:Mem):Bool:=
 match v with
 | .slice b o n c _ es=>match m.get b with
  | .cells false cs=>and (and (and (Nat.beq o 0) (Nat.beq n q)) (and (Nat.beq es z) (Nat.ble q c))) (and (and (or (Nat.beq b (Nat.succ G)) (Nat.ble (Nat.add G 3) b)) (Nat.ble (Nat.succ b) m.next)) (edSel sel cs))
  |_=>false
 |_=>false
def EdRuns (P:Program) (f:FuncId) (G n z mv q:Nat) (ints:List AVal) (sel:List Nat):Prop:=∀ (T:Tok) (φ:Phi) (w:World) (cargs:Array Value) (c:Nat) (ex:Bool) (sp:List AVal),T.strong=true→(c=n∧ex=true∧sp=[]∨(∃ k,c=Nat.add k (Nat.succ n))∧ex=true∧sp=anyL z)→
 @Rel T P φ (edMem G (n*z) (mv*z) sp) w→@zAa T φ (edArgs G n z c ex ints mv) cargs.toList→Ends P f cargs w fun cv w'=>∃ φ' v mf,@Step T P φ (edMem G (n*z) (mv*z) sp) w φ' mf w'∧@VRel T φ' v cv∧edChk G q z sel v mf=true
def nthA (j:Nat) (l:List AVal):AVal:=onL .bad (fun x _=>x) (ZAe j l)
def selA:List Nat→List AVal→List AVal→List AVal
 | [],_,_=>[]
 |j::l,cs,vs=>zAc (nthA j cs) (nthA (Nat.sub j 100) vs) (Nat.ble (Nat.succ j) 100)::selA l cs vs
theorem nthA_eq (j:Nat) (l:List AVal):nthA j l=(l[j]?).getD .bad:=by
 unfold nthA
 rw[ZBk]
 cases h:l.drop j with
 |nil=>
  have:l[j]? = none:=by
   rw[List.getElem?_eq_none_iff]
   have:=congrArg List.length h
   simp at this; omega
  rw[this]; rfl
 |cons x r=>
  have:l[j]? = some x:=by
   have:=congrArg (fun l=>l[0]?) h
   simpa using this
  rw[this]; rfl
theorem opqL_len:∀ l:List Nat,(opqL l).length=l.length
 | []=>rfl
 |_::l=>by show (opqL l).length+1=l.length+1; rw[opqL_len l]
theorem zDc:∀ n a:Nat,(natL n a).length=n
 |0,_=>rfl
 |n+1,a=>by show (natL n (a+1)).length+1=n+1; rw[zDc]
theorem anyL_len:∀ n:Nat,(anyL n).length=n
 |0=>rfl
 |n+1=>by show (anyL n).length+1=n+1; rw[anyL_len]
theorem opqL_cell:∀ {l:List Nat} {v:AVal},v∈opqL l→v.isCell=true
 | [],_,h=>by cases h
 |j::l,v,h=>by
  rcases List.mem_cons.1 h with rfl|h
  · rfl
  · exact opqL_cell h
theorem anyL_cell:∀ {n:Nat} {v:AVal},v∈anyL n→v.isCell=true
 |0,_,h=>by cases h
 |n+1,v,h=>by
  rcases List.mem_cons.1 h with rfl|h
  · rfl
  · exact anyL_cell h
theorem opqL_rel {T:Tok} {φ:Phi}:∀ (n k:Nat) (l:List Value),l.length=n→(∀ j,j<n→l[j]? = some (T.val (k+j)))→@zAa T φ (opqL (natL n k)) l
 |0,_,[],_,_=>@zAa.nil T φ
 |0,_,_::_,h,_=>by cases h
 |n+1,k,[],h,_=>by cases h
 |n+1,k,x::l,h,hj=>by
  have h0:=hj 0 (Nat.succ_pos _)
  simp at h0
  subst h0
  refine @zAa.cons T φ _ _ _ _ (@VRel.opq T φ k) (opqL_rel n (k+1) l (by simpa using h) fun j hjn=>?_)
  have:=hj (j+1) (by omega)
  rw[List.getElem?_cons_succ] at this
  rw[this]; congr 2; omega
theorem anyL_rel {T:Tok} {φ:Phi}:∀ (l:List Value),(∀ v,v∈l→v.oneCell'=true)→@zAa T φ (anyL l.length) l
 | [],_=>@zAa.nil T φ
 |x::l,h=>@zAa.cons T φ _ _ _ _ (@VRel.any T φ x (h x (List.mem_cons_self ..))) (anyL_rel l fun v hv=>h v (List.mem_cons_of_mem _ hv))
theorem edSel_ok {T:Tok} {φ:Phi}:∀ {sel:List Nat} {cs:List AVal} {l:List Value},edSel sel cs=true→@zAa T φ cs l→l.take sel.length=sel.map T.val
 | [],_,l,_,_=>by simp
 |j::s,[],_,h,_=>by cases h
 |j::s,x::cs,l,h,hv=>by
  have h':zAc (edSel s cs) false (isOpq j x)=true:=h
  cases hb:isOpq j x with
  |false=>rw[hb] at h'; cases h'
  |true=>
   rw[hb] at h'
   cases hv with
   |cons h1 h2=>
    have e:=opq_inv hb h1
    have:=edSel_ok h' h2
    simp only[List.length_cons,List.take_succ_cons,List.map_cons,this,e]
theorem selA_len:∀ (sel:List Nat) (cs vs:List AVal),(selA sel cs vs).length=sel.length
 | [],_,_=>rfl
 |_::l,cs,vs=>by show (selA l cs vs).length+1=l.length+1; rw[selA_len l]
theorem selA_rel {T:Tok} {φ:Phi} {cs vs:List AVal} {V:Nat→Value}:∀ (sel:List Nat),(∀ j,j∈sel→(j<100→∃ x,cs[j]? = some x∧@VRel T φ x (V j))∧(¬ j<100→∃ x,vs[j-100]? = some x∧@VRel T φ x (V j)))→@zAa T φ (selA sel cs vs) (sel.map V)
 | [],_=>@zAa.nil T φ
 |j::l,h=>by
  refine @zAa.cons T φ _ _ _ _ ?_ (selA_rel l fun i hi=>h i (List.mem_cons_of_mem _ hi))
  obtain ⟨h1,h2⟩:=h j (List.mem_cons_self ..)
  by_cases hj:j<100
  · obtain ⟨x,hx,hv⟩:=h1 hj
    rw[zAd.2 hj]
    show @VRel T φ (nthA j cs) (V j)
    rw[nthA_eq,hx]; exact hv
  · obtain ⟨x,hx,hv⟩:=h2 hj
    rw[zBj.2 (by omega)]
    show @VRel T φ (nthA (j-100) vs) (V j)
    rw[nthA_eq,hx]; exact hv
theorem selA_cell {cs vs:List AVal}:∀ (sel:List Nat),(∀ j,j∈sel→(j<100→∃ x,cs[j]? = some x∧x.isCell=true)∧(¬ j<100→∃ x,vs[j-100]? = some x∧x.isCell=true))→∀ v,v∈selA sel cs vs→v.isCell=true
 | [],_,v,hv=>by cases hv
 |j::l,h,v,hv=>by
  rcases List.mem_cons.1 hv with rfl|hv
  · obtain ⟨h1,h2⟩:=h j (List.mem_cons_self ..)
    by_cases hj:j<100
    · obtain ⟨x,hx,hc⟩:=h1 hj
      rw[zAd.2 hj]
      show (nthA j cs).isCell=true
      rw[nthA_eq,hx]; exact hc
    · obtain ⟨x,hx,hc⟩:=h2 hj
      rw[zBj.2 (by omega)]
      show (nthA (j-100) vs).isCell=true
      rw[nthA_eq,hx]; exact hc
  · exact selA_cell l (fun i hi=>h i (List.mem_cons_of_mem _ hi)) v hv
end
end Go.AM
namespace Go.AM
variable {P:Program}
theorem zAa.snoc_inv {T:Tok} {φ:Phi} {x:AVal}:∀ {l:List AVal} {L:List Value},@zAa T φ (l++[x]) L→∃ li c,L=li++[c]∧@zAa T φ l li∧@VRel T φ x c
 | [],L,h=>by
  cases h with
  | @cons _ c _ cs h1 h2=>
   cases h2
   exact ⟨[],c,rfl,@zAa.nil T φ,h1⟩
 |y::l,L,h=>by
  cases h with
  | @cons _ c _ cs h1 h2=>
   obtain ⟨li,d,rfl,h3,h4⟩:=zAa.snoc_inv h2
   exact ⟨c::li,d,rfl,@zAa.cons T φ _ _ _ _ h1 h3,h4⟩
theorem ints_rel {T T':Tok} {φ φ':Phi}:∀ {l:List AVal} {L:List Value},(∀ v,v∈l→∃ k i,v=.int k i)→@zAa T φ l L→@zAa T' φ' l L
 | [],_,_,h=>by cases h; exact @zAa.nil T' φ'
 |x::l,_,hi,h=>by
  cases h with
  |cons h1 h2=>
   obtain ⟨k,i,rfl⟩:=hi x (List.mem_cons_self ..)
   cases h1
   exact @zAa.cons T' φ' _ _ _ _ (@VRel.int T' φ' k i) (ints_rel (fun v hv=>hi v (List.mem_cons_of_mem _ hv)) h2)
theorem ed_ok {T:Tok} (hst:T.strong=true) {f:FuncId} {G:Nat} (hG:P.globals.size=G) (h0:0<G) {n z mv q:Nat} {ints:List AVal} {sel:List Nat} (hz:0<z) (hn:0<n) (hmv:0<mv) (hN:n*z≤100)
 (hsel:∀ j,j∈sel→j<n*z∨100≤j∧j<100+mv*z) (hq:sel.length=q*z) (hq0:0<q) (hints:∀ v,v∈ints→∃ k i,v=.int k i) (hruns:EdRuns P f G n z mv q ints sel)
 {φ:Phi} {m:Mem} {w:World} {cargs:Array Value} {b vb c vc:Nat} {ex vex:Bool} {cs vcs:List AVal} {vro:Bool} (hr:@Rel T P φ m w) (hb:m.get b=.cells false cs) (hvb:m.get vb=.cells vro vcs) (hne:b≠vb) (hGb:G<b) (hGv:G<vb)
 (hl1:n*z≤cs.length) (hl2:mv*z≤vcs.length) (hnx:m.next+1≤65536) (hv:@zAa T φ (.slice b 0 n c ex z::(ints++[.slice vb 0 mv vc vex z])) cargs.toList) :
 Ends P f cargs w fun cv w'=>∃ φ',@Step T P φ m w φ' ((⟨m.next+1,putT m.next (.cells false (selA sel cs vcs)) m.t⟩:Mem).put b .none) w'∧@VRel T φ' (.slice m.next 0 q q false z) cv:=by
 generalize hcl:cargs.toList=L at hv
 cases hv with
 |cons hs hv'=>
 obtain ⟨li,cV,rfl,hli,hvv⟩:=zAa.snoc_inv hv'
 cases hs with
 |slice _ _ _ _ _ _ cb co sz o' cap' hφ q1 q2 q3 q4 q5=>
 cases hvv with
 |slice _ _ _ _ _ _ vcb vco vsz vo' vcap' vhφ v1 v2 v3 v4 v5=>
 have q4':=q4 (by omega)
 have v4':=v4 (by omega)
 have hbm:=@Rel.dom T P φ m w hr _ _ hφ
 have hvm:=@Rel.dom T P φ m w hr _ _ vhφ
 have hB:=@Rel.blk T P φ m w hr b hbm
 have hV:=@Rel.blk T P φ m w hr vb hvm
 rw[hb] at hB
 rw[hvb] at hV
 obtain ⟨cb2,co2,ca,el,fz,r1,r2,r3,r4,r5,r6⟩:=hB
 obtain ⟨vcb2,vco2,va,vel,vfz,s1,s2,s3,s4,s5,s6⟩:=hV
 rw[hφ] at r1
 rw[vhφ] at s1
 cases r1
 cases s1
 have hnz:n*z+z≤cap'*z∨cap'=n:=by
  rcases Nat.lt_or_ge n cap' with h|h
  · left
    have:=Nat.mul_le_mul_right z h
    rw[Nat.succ_mul] at this; exact this
  · right; omega
 generalize hCL:ca.toList.drop co=cl at r4
 generalize hVL:va.toList.drop vco=vl at s4
 have hcell:∀ j,j<n*z→∃ x cv,cs[j]? = some x∧cl[j]? = some cv∧@VRel T φ x cv∧x.isCell=true∧cv.oneCell'=true:=by
  intro j hj
  have hjc:j<cs.length:=by omega
  obtain ⟨cv,h1,h2⟩:=@zAa.get T φ _ _ r4 j cs[j] (List.getElem?_eq_getElem hjc)
  rw[List.getElem?_take,if_pos hjc] at h1
  have hc:=r5 _ (List.getElem_mem hjc)
  exact ⟨_,cv,List.getElem?_eq_getElem hjc,h1,h2,hc,@VRel.plain T φ _ _ h2 hc⟩
 have vcell:∀ j,j<mv*z→∃ x cv,vcs[j]? = some x∧vl[j]? = some cv∧@VRel T φ x cv∧x.isCell=true∧cv.oneCell'=true:=by
  intro j hj
  have hjc:j<vcs.length:=by omega
  obtain ⟨cv,h1,h2⟩:=@zAa.get T φ _ _ s4 j vcs[j] (List.getElem?_eq_getElem hjc)
  rw[List.getElem?_take,if_pos hjc] at h1
  have hc:=s5 _ (List.getElem_mem hjc)
  exact ⟨_,cv,List.getElem?_eq_getElem hjc,h1,h2,hc,@VRel.plain T φ _ _ h2 hc⟩
 let vals:Nat→Value:=fun j=>if j<n*z then (cl[j]?).getD .nilIface else if 100≤j∧j<100+mv*z then (vl[j-100]?).getD .nilIface else .nilIface
 have vlo:∀ j,j<n*z→vals j=(cl[j]?).getD .nilIface:=fun j hj=>if_pos hj
 have vhi:∀ j,100≤j→j<100+mv*z→vals j=(vl[j-100]?).getD .nilIface:=fun j h1 h2=>by
  show (if j<n*z then _ else _)=_
  rw[if_neg (by omega),if_pos ⟨h1,h2⟩]
 have hvals:∀ j,(vals j).oneCell'=true:=fun j=>by
  by_cases h1:j<n*z
  · obtain ⟨x,cv,_,h3,_,_,h4⟩:=hcell j h1
    rw[vlo j h1,h3]; exact h4
  · by_cases h2:100≤j∧j<100+mv*z
    · obtain ⟨x,cv,_,h3,_,_,h4⟩:=vcell (j-100) (by omega)
      rw[vhi j h2.1 h2.2,h3]; exact h4
    · show (if j<n*z then _ else _:Value).oneCell'=true
      rw[if_neg h1,if_neg h2]; rfl
 let T':Tok:=tok4 T.strong vals hvals
 let σ:Map:=⟨G,[b,vb],[],fun _=>.bad,fun _=>.bad⟩
 have hφb:zAj σ φ (G+1)=some (cb,co,ca.size):=by
  unfold zAj
  rw[if_pos (by rw[zBd]; show G+1<G+1+2; omega),nm_high (by show G<G+1; omega)]
  show φ (([b,vb][G+1-(G+1)]?).getD 0)=_
  rw[Nat.sub_self]; exact hφ
 have hφv:zAj σ φ (G+2)=some (vcb,vco,va.size):=by
  unfold zAj
  rw[if_pos (by rw[zBd]; show G+2<G+1+2; omega),nm_high (by show G<G+2; omega)]
  show φ (([b,vb][G+2-(G+1)]?).getD 0)=_
  rw[show G+2-(G+1)=1 by omega]; exact vhφ
 have hcll:cl.length=ca.size-co:=by rw[← hCL]; simp
 have hvll:vl.length=va.size-vco:=by rw[← hVL]; simp
 have main:∀ (c':Nat) (sp:List AVal),(c'=n∧sp=[]∨(∃ k,c'=Nat.add k (Nat.succ n))∧sp=anyL z)→cap'=c'→
  Ends P f cargs w fun c w'=>∃ φ',@Step T P φ m w φ' ((⟨m.next+1,putT m.next (.cells false (selA sel cs vcs)) m.t⟩:Mem).put b .none) w'∧@VRel T φ' (.slice m.next 0 q q false z) c:=by
  intro c' sp hsp hcap
  have hspl:n*z+sp.length≤cl.length∧∀ v,v∈sp→v.isCell=true:=by
   rcases hsp with ⟨_,rfl⟩|⟨⟨k,hk⟩,rfl⟩
   · refine ⟨?_,fun v hv=>by cases hv⟩
     rw[hcll]; simp; omega
   · rw[anyL_len]
     refine ⟨?_,fun v hv=>anyL_cell hv⟩
     rcases hnz with h|h
     · rw[hcll]; omega
     · have hk':c'=k+(n+1):=hk
       omega
  have hrel:@Rel T' P (zAj σ φ) (edMem G (n*z) (mv*z) sp) w:=by
   refine own (T:=T) (T':=T') (σ:=σ) (φ:=φ) (m:=m) hG.symm hr h0 (by rw[zBd]; show G+1+2≤65536; omega) rfl trivial (fun h=>by cases h) (by simp[σ,hne]) rfl ?_ (fun b o hb=>by cases hb) (fun _=>rfl)
   intro i b' n' hi hn
   match i with
   |0=>
    simp only[List.getElem?_cons_zero,Option.some.injEq] at hi hn
    subst hi
    have hn':b=n':=by simpa[σ] using hn
    subst hn'
    refine ⟨hGb,hbm,?_,fun _=>by rw[hb]; rfl,fun _=>by rw[hb]; rfl⟩
    rw[zCa]
    refine ⟨cb,co,ca,el,fz,hφb,r2,?_,?_,?_,r6⟩
    · rw[List.length_append,opqL_len,zDc]
      have:=hspl.1
      omega
    · rw[List.length_append,opqL_len,zDc,hCL,List.take_add]
      refine @zAa.append T' _ _ _ _ _ (opqL_rel (T:=T') (n*z) 0 _ (by rw[List.length_take]; omega) fun j hj=>?_) ?_
      · obtain ⟨x,cv,_,h3,_⟩:=hcell j hj
        rw[List.getElem?_take,if_pos hj,h3]
        show some cv=some (vals (0+j))
        rw[Nat.zero_add,vlo j hj,h3]; rfl
      · rcases hsp with ⟨_,rfl⟩|⟨_,rfl⟩
        · simp; exact @zAa.nil T' _
        · have hl:((cl.drop (n*z)).take (anyL z).length).length=z:=by
           have:=hspl.1
           rw[anyL_len] at this ⊢
           rw[List.length_take,List.length_drop]; omega
          have:=anyL_rel (T:=T') (φ:=zAj σ φ) ((cl.drop (n*z)).take (anyL z).length) (fun v hv=>by
           obtain ⟨i,hi,he⟩:=List.getElem_of_mem (List.mem_of_mem_take hv)
           have h5:=(List.getElem?_eq_getElem hi).trans (congrArg some he)
           rw[List.getElem?_drop,← hCL,List.getElem?_drop,Array.getElem?_toList] at h5
           have hlt:co+(n*z+i)<ca.size:=by
            rcases Nat.lt_or_ge (co+(n*z+i)) ca.size with h|h
            · exact h
            · rw[Array.getElem?_eq_none h] at h5; cases h5
           exact (r6 rfl _ (by omega) (.inl hlt)).2 v h5)
          rw[hl] at this; exact this
    · intro v hv
      rcases List.mem_append.1 hv with hv|hv
      · exact opqL_cell hv
      · exact hspl.2 v hv
   |1=>
    simp only[List.getElem?_cons_succ,List.getElem?_cons_zero,Option.some.injEq] at hi hn
    subst hi
    have hn':vb=n':=by simpa[σ] using hn
    subst hn'
    refine ⟨hGv,hvm,?_,fun h=>(by cases h),fun _=>by rw[hvb]; rfl⟩
    refine ⟨vcb,vco,va,vel,vfz,hφv,s2,?_,?_,fun v hv=>opqL_cell hv,fun h=>(by cases h)⟩
    · rw[opqL_len,zDc]; omega
    · rw[opqL_len,zDc,hVL]
      refine opqL_rel (T:=T') (mv*z) 100 _ (by rw[List.length_take]; omega) fun j hj=>?_
      obtain ⟨x,cv,_,h3,_⟩:=vcell j hj
      rw[List.getElem?_take,if_pos hj,h3]
      show some cv=some (vals (100+j))
      rw[vhi (100+j) (by omega) (by omega),show 100+j-100=j by omega,h3]; rfl
   |i+2=>simp at hi
  have hargs:@zAa T' (zAj σ φ) (edArgs G n z c' true ints mv) cargs.toList:=by
   rw[hcl]
   unfold edArgs
   rw[zCa]
   refine @zAa.cons T' _ _ _ _ _ ?_ (@zAa.append T' _ _ _ _ _ (ints_rel hints hli) (@zAa.cons T' _ _ _ _ _ ?_ (@zAa.nil T' _)))
   · exact @VRel.slice T' _ (G+1) 0 n c' true z cb co ca.size o' cap' hφb (by omega) (by omega) (fun _=>hcap) (fun _=>q4') q5
   · exact @VRel.slice T' _ (G+2) 0 mv mv false z vcb vco va.size vo' vcap' hφv (Nat.le_refl _) (by omega) (fun h=>by cases h) (fun _=>v4') v5
  refine (hruns T' (zAj σ φ) w cargs c' true sp hst (hsp.elim (fun h=>.inl ⟨h.1,rfl,h.2⟩) (fun h=>.inr ⟨h.1,rfl,h.2⟩)) hrel hargs).mono fun cv w' ⟨φ'',u,mf,hstp,hu,hchk⟩=>?_
  have hrf:=@Step.rel T' P _ _ _ _ _ _ hstp
  unfold edChk at hchk
  split at hchk
  · rename_i N oN nN cN exN esN
    split at hchk
    · rename_i csN hNb
      simp only[Bool.and_eq_true,Bool.or_eq_true,beq_true,zAd] at hchk
      obtain ⟨⟨⟨rfl,rfl⟩,rfl,hcN⟩,⟨hNn,hNm⟩,h4⟩:=hchk
      have hBN:=@Rel.blk T' P _ _ _ hrf N hNm
      rw[hNb] at hBN
      obtain ⟨nb,nco,na,nel,nfz,z1,z2,z3,z4,z5,z6⟩:=hBN
      have hMn:(edMem G (n*esN) (mv*esN) sp).next=G+3:=by unfold edMem zAe; rw[ZAt]; rfl
      have hwrM:∀ q,q<G+3→((edMem G (n*esN) (mv*esN) sp).get q).wr=true→q=G+1:=by
       intro q hq hw
       unfold edMem at hw
       rw[zAu h0 (by show G+1+2≤65536; omega) (by omega)] at hw
       split at hw
       · rename_i h9
         have h9':q<G+1+2:=h9.2
         rcases (by omega:q=G+1∨q=G+2) with e|e
         · exact e
         · subst e
           rw[show G+2-(G+1)=1 by omega] at hw
           cases hw
       · split at hw<;>cases hw
      have hnbcb:nb=cb∨w.heap.size≤nb:=by
       rcases hNn with e|e
       · left
         subst e
         have:=@Step.ext T' P _ _ _ _ _ _ hstp _ _ hφb
         exact (congrArg Prod.fst (Option.some.inj (this.symm.trans z1))).symm
       · have e:G+3≤N:=e
         rcases Nat.lt_or_ge nb w.heap.size with h9|h9
         · obtain ⟨q,oq,sq,w1,w2,w3⟩:=@Step.img T' P _ _ _ _ _ _ hstp N nb nco na.size (by rw[hMn]; exact e) hNm (by rw[hNb]; rfl) z1 h9
           rw[hMn] at w1
           have:=hwrM q w1 w2
           subst this
           rw[hφb] at w3; cases w3; exact .inl rfl
         · exact .inr h9
      have hNh:N≠P.globals.size:=by
       rw[hG]
       rcases hNn with e|e
       · omega
       · have e:G+3≤N:=e
         omega
      have hnl:=@Rel.heap T' P _ _ _ hrf N nb nco na.size z1 hNh
      have hext:Ext' φ (fun q=>if q=m.next then some (nb,nco,na.size) else φ q):=by
       intro q y hq
       have:=@Rel.dom T P φ m w hr q y hq
       show (if q=m.next then _ else _)=_
       rw[if_neg (by omega)]; exact hq
      have hpre:=edSel_ok h4 z4
      generalize hcv:cv=cc at hu
      cases hu with
      |slice _ _ _ _ _ _ nb2 nco2 nsz2 no' ncap' w1 w2 w3 w4 w5 w6=>
      rw[z1] at w1; cases w1
      have w5':=w5 (by omega)
      have hlen:(selA sel cs vcs).length=nN*esN:=by rw[selA_len,hq]
      have hnN:nco+nN*esN≤na.size:=by
       have:=Nat.mul_le_mul_right esN (Nat.le_trans w2 w3)
       omega
      refine ⟨_,@Step.repl P T φ m w hr w' b cb co ca.size hbm (by rw[hb]; rfl) hφ (.cells false (selA sel cs vcs)) nb nco na.size (by omega) ?_ (@Step.size T' P _ _ _ _ _ _ hstp) (@Step.os T' P _ _ _ _ _ _ hstp) (@Step.out T' P _ _ _ _ _ _ hstp) (@Step.tape T' P _ _ _ _ _ _ hstp) hnbcb hnl ?_,?_⟩
      · intro q hq hne2
        refine @Step.frame T' P _ _ _ _ _ _ hstp q hq ?_
        intro p' o1' s1' hp' hw' he'
        rw[hMn] at hp'
        have:=hwrM p' hp' hw'
        subst this
        rw[hφb] at he'; cases he'; exact hne2 rfl
      · refine ⟨nb,nco,na,nel,nfz,by simp,z2,by rw[hlen]; exact hnN,?_,?_,z6⟩
        · have e1:(na.toList.drop nco).take (selA sel cs vcs).length=sel.map vals:=by
           rw[selA_len]
           rw[List.take_take] at hpre
           have hcsN:sel.length≤csN.length:=by
            have h6:∀ (s:List Nat) (l:List AVal),edSel s l=true→s.length≤l.length:=by
             intro s
             induction s with
             |nil=>intro l _; simp
             |cons a s ih=>
              intro l h
              cases l with
              |nil=>cases h
              |cons x l=>
               have h':zAc (edSel s l) false (isOpq a x)=true:=h
               cases hb:isOpq a x with
               |false=>rw[hb] at h'; cases h'
               |true=>rw[hb] at h'; have:=ih l h'; simp; omega
            exact h6 _ _ h4
           rw[Nat.min_eq_left hcsN] at hpre
           exact hpre
          rw[e1]
          refine @zAa.mono T φ _ hext _ _ (selA_rel sel fun j hj=>⟨fun hj1=>?_,fun hj1=>?_⟩)
          · have hj2:j<n*esN:=by rcases hsel j hj with h|h<;>omega
            obtain ⟨x,cv,k1,k2,k3,_⟩:=hcell j hj2
            refine ⟨x,k1,?_⟩
            rw[vlo j hj2,k2]; exact k3
          · have hj2:100≤j∧j<100+mv*esN:=by rcases hsel j hj with h|h<;>omega
            obtain ⟨x,cv,k1,k2,k3,_⟩:=vcell (j-100) (by omega)
            refine ⟨x,k1,?_⟩
            rw[vhi j hj2.1 hj2.2,k2]; exact k3
        · refine selA_cell sel fun j hj=>⟨fun hj1=>?_,fun hj1=>?_⟩
          · have hj2:j<n*esN:=by rcases hsel j hj with h|h<;>omega
            obtain ⟨x,cv,k1,_,_,k4,_⟩:=hcell j hj2
            exact ⟨x,k1,k4⟩
          · have hj2:100≤j∧j<100+mv*esN:=by rcases hsel j hj with h|h<;>omega
            obtain ⟨x,cv,k1,_,_,k4,_⟩:=vcell (j-100) (by omega)
            exact ⟨x,k1,k4⟩
      · exact @VRel.slice T _ m.next 0 nN nN false esN nb nco na.size no' ncap' (by simp) (Nat.le_refl _) (by omega) (fun h=>by cases h) (fun _=>w5') w6
    · cases hchk
  · cases hchk
 rcases Nat.lt_or_ge n cap' with h9|h9
 · exact main cap' (anyL z) (.inr ⟨⟨cap'-(n+1),by show cap'=cap'-(n+1)+(n+1); omega⟩,rfl⟩) rfl
 · exact main n [] (.inl ⟨rfl,rfl⟩) (by omega)
end Go.AM
namespace Go.AM
variable {P:Program}
section
def appN:List Nat→List Nat→List Nat
 | [],y=>y
 |x::l,y=>x::appN l y
def selIns (n i:Nat):List Nat:=appN (natL (Nat.mul i 2) 0) (100::101::natL (Nat.mul (Nat.sub n i) 2) (Nat.mul i 2))
def selRep (n i mv:Nat):List Nat:=appN (natL i 0) (appN (natL mv 100) (natL (Nat.sub n (Nat.succ i)) (Nat.succ i)))
def edCore (G z mv:Nat) (sel:List Nat) (q:Nat) (s v:AVal) (m:Mem):R:=
 s.onSlice fun b o n _ _ es=>v.onSlice fun vb vo vn _ _ ves=>(m.get b).onCells fun ro cs=>(m.get vb).onCells fun _ vcs=>
  zAc (.ok (.slice m.next 0 q q false z) ((⟨Nat.succ m.next,putT m.next (.cells false (selA sel cs vcs)) m.t⟩:Mem).put b .none)) (.fail 171)
   (and (and (and (and (Nat.beq o 0) (Nat.beq es z)) (and (Nat.beq vo 0) (Nat.beq ves z))) (and (Nat.beq vn mv) (not ro)))
    (and (and (not (Nat.beq b vb)) (and (Nat.ble (Nat.mul n z) (lenL cs)) (Nat.ble (Nat.mul mv z) (lenL vcs)))) (and (Nat.ble (Nat.succ m.next) 65536) (and (Nat.ble (Nat.succ G) b) (Nat.ble (Nat.succ G) vb)))))
def lenOf:AVal→Nat
 | .slice _ _ n _ _ _=>n
 |_=>0
def insG (G:Nat) (args:List AVal) (m:Mem):R:=
 onL (.fail 170) (fun s r=>arg2 r fun iv v=>iv.onNat fun i=>zAc (zAc (edCore G 2 1 (selIns (lenOf s) i) (Nat.succ (lenOf s)) s v m) (.fail 172) (aeqN 2 iv (.int .i64 (.ofNat i)))) (.fail 173) (and (Nat.ble (lenOf s) 16) (Nat.ble (Nat.succ i) (lenOf s)))) args
def repG (G:Nat) (args:List AVal) (m:Mem):R:=
 onL (.fail 174) (fun s r=>onL (.fail 175) (fun iv r=>arg2 r fun jv v=>iv.onNat fun i=>zAc (zAc (edCore G 1 (lenOf v) (selRep (lenOf s) i (lenOf v)) (Nat.pred (Nat.add (lenOf s) (lenOf v))) s v m) (.fail 176) (and (aeqN 2 iv (.int .i64 (.ofNat i))) (aeqN 2 jv (.int .i64 (.ofNat (Nat.succ i)))))) (.fail 177)
  (and (and (Nat.ble (lenOf s) 6) (Nat.ble (Nat.succ i) (lenOf s))) (and (Nat.ble 1 (lenOf v)) (Nat.ble (lenOf v) 2)))) r) args
theorem edCore_ok {T:Tok} (hst:T.strong=true) {f:FuncId} {G:Nat} (hG:P.globals.size=G) (h0:0<G) {z mv q:Nat} {ints:List AVal} {sel:List Nat} {s vv:AVal} (hz:0<z) (hn:0<lenOf s) (hmv:0<mv) (hN:lenOf s*z≤100)
 (hsel:∀ j,j∈sel→j<lenOf s*z∨100≤j∧j<100+mv*z) (hq:sel.length=q*z) (hq0:0<q) (hints:∀ v,v∈ints→∃ k i,v=.int k i) (hruns:EdRuns P f G (lenOf s) z mv q ints sel)
 {φ:Phi} {m m':Mem} {w:World} {cargs:Array Value} {v:AVal} (h:edCore G z mv sel q s vv m=.ok v m') (hr:@Rel T P φ m w) (hv:@zAa T φ (s::(ints++[vv])) cargs.toList) :
 Ends P f cargs w fun cv w'=>∃ φ',@Step T P φ m w φ' m' w'∧@VRel T φ' v cv:=by
 obtain ⟨b,o,n,c,ex,es,rfl,h3⟩:=onSlice_ok h
 obtain ⟨vb,vo,vn,vc,vex,ves,rfl,h4⟩:=onSlice_ok h3
 obtain ⟨ro,cs,hb,h5⟩:=zBo h4
 obtain ⟨vro,vcs,hvb,h6⟩:=zBo h5
 obtain ⟨h7,h8⟩:=zAm h6
 simp only[Bool.and_eq_true,beq_true,zAd,ZAm,Bool.not_eq_true'] at h7
 obtain ⟨⟨⟨⟨rfl,rfl⟩,rfl,rfl⟩,rfl,rfl⟩,⟨hne,hl1,hl2⟩,hnx,hGb,hGv⟩:=h7
 cases h8
 exact ed_ok hst hG h0 hz hn hmv hN hsel hq hq0 hints hruns hr hb hvb (fun e=>by rw[beq_true.2 e] at hne; cases hne) hGb hGv hl1 hl2 hnx hv
theorem appN_len:∀ (x y:List Nat),(appN x y).length=x.length+y.length
 | [],y=>by show y.length=0+y.length; omega
 |a::x,y=>by show (appN x y).length+1=x.length+1+y.length; rw[appN_len x y]; omega
theorem appN_mem:∀ {x y:List Nat} {j:Nat},j∈appN x y→j∈x∨j∈y
 | [],y,j,h=>.inr h
 |a::x,y,j,h=>by
  rcases List.mem_cons.1 h with rfl|h
  · exact .inl (List.mem_cons_self ..)
  · rcases appN_mem h with h|h
    · exact .inl (List.mem_cons_of_mem _ h)
    · exact .inr h
theorem natL_rng:∀ {n a j:Nat},j∈natL n a→a≤j∧j<a+n
 |0,_,_,h=>by cases h
 |n+1,a,j,h=>by
  rcases List.mem_cons.1 h with rfl|h
  · omega
  · have:=natL_rng h; simp only[Nat.succ_eq_add_one] at this; omega
theorem aeq_num {x:AVal} {i:Nat} (h:aeqN 2 x (.int .i64 (.ofNat i))=true):x=.int .i64 (i:Int):=@ZAf tok0 2 _ _ h
theorem insG_ok {T:Tok} (hst:T.strong=true) {f:FuncId} {G:Nat} (hG:P.globals.size=G) (h0:0<G) (hruns:∀ n i,n≤16→i<n→EdRuns P f G n 2 1 (n+1) [.int .i64 (.ofNat i)] (selIns n i)):@ZCr T P f (insG G):=by
 intro args m v m' h φ w cargs hr hv
 obtain ⟨s,r,rfl,h1⟩:=ZCy h
 obtain ⟨iv,vv,rfl,h2⟩:=arg2_ok h1
 obtain ⟨j,i,hiv,h3⟩:=ZBr h2
 obtain ⟨h4,h5⟩:=zAm h3
 obtain ⟨h6,h7⟩:=zAm h5
 simp only[Bool.and_eq_true,zAd] at h4
 obtain ⟨g1,g2⟩:=h4
 have hi:=aeq_num h6
 refine edCore_ok hst hG h0 (ints:=[iv]) (by decide) (by omega) (by decide) (by omega) (fun j hj=>?_) ?_ (by omega) (fun v hv=>?_) (by rw[hi]; exact hruns _ _ g1 g2) h7 hr hv
 · unfold selIns at hj
   rcases appN_mem hj with hj|hj
   · have:=natL_rng hj
     left
     have e:Nat.mul i 2=i*2:=rfl
     omega
   · rcases List.mem_cons.1 hj with rfl|hj
     · right; omega
     · rcases List.mem_cons.1 hj with rfl|hj
       · right; omega
       · have:=natL_rng hj
         left
         have e:Nat.mul i 2=i*2:=rfl
         have e2:Nat.mul (Nat.sub (lenOf s) i) 2=(lenOf s-i)*2:=rfl
         omega
 · unfold selIns
   rw[appN_len,zDc]
   simp only[List.length_cons,zDc]
   have e:Nat.mul i 2=i*2:=rfl
   have e2:Nat.mul (Nat.sub (lenOf s) i) 2=(lenOf s-i)*2:=rfl
   omega
 · rw[List.mem_singleton] at hv; subst hv; exact ⟨_,_,hi⟩
theorem repG_ok {T:Tok} (hst:T.strong=true) {f:FuncId} {G:Nat} (hG:P.globals.size=G) (h0:0<G) (hruns:∀ n i mv,n≤6→i<n→1≤mv→mv≤2→EdRuns P f G n 1 mv (n+mv-1) [.int .i64 (.ofNat i),.int .i64 (.ofNat (i+1))] (selRep n i mv)):@ZCr T P f (repG G):=by
 intro args m v m' h φ w cargs hr hv
 obtain ⟨s,r,rfl,h1⟩:=ZCy h
 obtain ⟨iv,r',rfl,h1'⟩:=ZCy h1
 obtain ⟨jv,vv,rfl,h2⟩:=arg2_ok h1'
 obtain ⟨j,i,hiv,h3⟩:=ZBr h2
 obtain ⟨h4,h5⟩:=zAm h3
 obtain ⟨h6,h7⟩:=zAm h5
 simp only[Bool.and_eq_true,zAd] at h4 h6
 obtain ⟨⟨g1,g2⟩,g3,g4⟩:=h4
 have hi:=aeq_num h6.1
 have hj:=aeq_num h6.2
 refine edCore_ok hst hG h0 (ints:=[iv,jv]) (by decide) (by omega) (by omega) (by omega) (fun j hj=>?_) ?_ ?_ (fun v hv=>?_) (by rw[hi,hj]; exact hruns _ _ _ g1 g2 g3 g4) h7 hr hv
 · unfold selRep at hj
   rcases appN_mem hj with hj|hj
   · have:=natL_rng hj
     left; omega
   · rcases appN_mem hj with hj|hj
     · have:=natL_rng hj
       right; omega
     · have:=natL_rng hj
       left
       have e2:Nat.sub (lenOf s) (Nat.succ i)=lenOf s-(i+1):=rfl
       omega
 · unfold selRep
   rw[appN_len,zDc,appN_len,zDc,zDc]
   have e2:Nat.sub (lenOf s) (Nat.succ i)=lenOf s-(i+1):=rfl
   show _=(lenOf s+lenOf vv-1)*1
   omega
 · show 0<lenOf s+lenOf vv-1
   omega
 · simp only[List.mem_cons,List.not_mem_nil,or_false] at hv
   rcases hv with rfl|rfl
   · exact ⟨_,_,hi⟩
   · exact ⟨_,_,hj⟩
end
end Go.AM
