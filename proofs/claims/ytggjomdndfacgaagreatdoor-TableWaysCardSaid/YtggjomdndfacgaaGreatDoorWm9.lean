/- For TableWays: BtLE. -/
import Derived.Test.YtggjomdndfacgaaGreatDoorWm8
set_option linter.unusedSectionVars false
set_option linter.unusedVariables false
set_option linter.unusedSimpArgs false
noncomputable section
namespace Go.AM
open Go.Proofs
theorem enter_CP {f:FuncId} {fn:Func} {B:Code} {nt:Nat} (hf:TZ.funcs[f]? = some fn) (hb:fn.body=some B) (hnt:fn.ntmps=nt) {args:List Value} (hlen:args.length≤nt) {w:World} {R:Ending→World→Prop}
 (h:∀ (a:Act) (Q:Exit→Act→World→Prop),zAr nt (argL args 0) a→PanicF Q→(∀ a' w' c,zBc nt a'→(results fn a'.tmps).run TZ w'=.ok c w'→R (.returned c) w'→Q .ret a' w')→B.wp TZ Q a w):Calls TZ f args.toArray w R:=by
 refine calls_of_wp hf hb ?_
 refine h _ _ ⟨⟨by simp[hnt]; omega,rfl⟩,fun p hp=>?_⟩ bodyPost_panicF (fun a' w' c ha' hres hR=>⟨ha'.defers,c,hres,hR⟩)
 obtain ⟨i,h1,h2⟩:=argL_mem hp
 rw[Nat.zero_add] at h1
 have hi:=zAf h2
 rw[h1,Array.getD_eq_getD_getElem?,Array.getElem?_append_left (by simpa using hi)]
 simp[h2]
section
variable {w0:World} {al bl:Option Addr} {n c1 n2 c2 what:Nat} {lo hi:Int} {A B:Nat→Nat}
attribute [local irreducible] OL0 OL1 OL3 OL4 OL5 OL6 OL8 OL9 OL15 OL44 CL2 CL7 LB1 LB2 LB3 X32 WY OL23 OL24 in
theorem law5 (hG:G0 w0) (hA:∀ i,i<n→A i<256) (hB:∀ i,i<n2→B i<256) (hIa:InAt w0 al n fun i=>.int .i8 (numZ (A i))) (hIb:InAt w0 bl n2 fun i=>.int .u8 (B i:Int)) (hlo:-128≤lo∧lo<128) (hhi:-128≤hi∧hi<128) :
 Calls TZ 5 #[.slice al n c1,.slice bl n2 c2,.int .i8 lo,.int .i8 hi,.int .u8 (what:Int)] w0 fun e w'=>e=.returned (.bool true)∧ZAb w0 w':=by
 obtain ⟨s0,s1,s3,s4,s5,s6,s8,s9⟩:=sL0
 obtain ⟨s15,s16,s17,s18,s19,s20,s22⟩:=sL2
 obtain ⟨s33,s35,s36,s37,s38,s39,s40,s41,s43,s44⟩:=sL4
 refine enter_CP (args:=[.slice al n c1,.slice bl n2 c2,.int .i8 lo,.int .i8 hi,.int .u8 (what:Int)]) fn5_is fn5_body fn5_nt (by simp) fun a Q ha hQ hret=>?_
 rw[b5_is]
 refine wp_seq (vreg (nt:=233) zAh s0 [(0,.slice al n c1),(1,.slice bl n2 c2),(2,.int .i8 lo),(3,.int .i8 hi),(4,.int .u8 (what:Int))] (fun g=>by kernel_rfl) (fun g=>by kernel_rfl) ha fun a1 ha1=>?_)
 refine wp_seq (wp_seq (ZAg s1 ?_))
 show wpOps TZ OL1 _ [0,1] a1 w0
 refine vcall cL1_0 (fun c=>[(23,c),(0,.slice al n c1),(1,.slice bl n2 c2),(2,.int .i8 lo),(3,.int .i8 hi),(4,.int .u8 (what:Int))]) ha1 (by decide) (fun g=>by kernel_rfl) (args:=[]) (fun g=>by kernel_rfl) (known_ok hG) (fun c g=>by kernel_rfl) fun c2' a2 w2 hR2 ha2=>?_
 obtain ⟨rfl,hl2⟩:=hR2
 refine ZAj (nt:=233) zAh 1 1 [] [(24,.bool false),(0,.slice al n c1),(1,.slice bl n2 c2),(2,.int .i8 lo),(3,.int .i8 hi),(4,.int .u8 (what:Int))] (by kernel_rfl) (fun g=>by kernel_rfl) (fun g=>by kernel_rfl) ha2 fun a3 ha3=>?_
 unfold wpOps
 refine zCj (ha3.ev (v:=.bool false) fun f=>rfl) (fun h=>by cases h) (fun _=>Go.wp_skip ?_)
 show Code.wp TZ T5 Q a3 w2
 rw[t5_is]
 have long:∀ a4,zAr 233 [(32,.bool true)] a4→(Code.cond (.tmp 32) (.seq (.region 4 OL4 false) .ret) .skip).wp TZ (Exit.then (U5.wp TZ Q) Q) a4 w2:=fun a4 ha4=>by
  refine zCj (ha4.ev (v:=.bool true) fun f=>rfl) (fun _=>?_) (fun h=>by cases h)
  refine wp_seq (vreg (nt:=233) zAh s4 [(10,.bool true)] (fun g=>by kernel_rfl) (fun g=>by kernel_rfl) ha4 fun a5 ha5=>?_)
  refine wp_ret (hret a5 w2 _ ha5.is (res1 fn5_res _ w2) ⟨?_,hl2⟩)
  rw[ha5.get (t:=10) (v:=.bool true) (fun f=>rfl)]
 by_cases hn:n≤50
 rotate_left
 · have hd:decide ((n:Int) > 50)=true:=decide_eq_true (by omega)
   refine wp_seq (wp_seq (ZAg s3 (ZAj (nt:=233) zAh 0 4 [4,5,6,7] [(28,.bool (decide ((n:Int) > 50)))] (by kernel_rfl) (fun g=>by kernel_rfl) (fun g=>by kernel_rfl) ha3 fun a4 ha4=>?_)))
   rw[hd] at ha4
   refine ZAj (nt:=233) zAh 4 4 [] [(32,.bool true)] (by kernel_rfl) (fun g=>by kernel_rfl) (fun g=>by kernel_rfl) ha4 fun a5 ha5=>?_
   unfold wpOps
   exact long a5 ha5
 have hd1:decide ((n:Int) > 50)=false:=decide_eq_false (by omega)
 by_cases hn2:n2≤50
 rotate_left
 · have hd:decide ((n2:Int) > 50)=true:=decide_eq_true (by omega)
   refine wp_seq (wp_seq (ZAg s3 (ZAj (nt:=233) zAh 0 4 [4,5,6,7] [(28,.bool (decide ((n:Int) > 50))),(1,.slice bl n2 c2)] (by kernel_rfl) (fun g=>by kernel_rfl) (fun g=>by kernel_rfl) ha3 fun a4 ha4=>?_)))
   rw[hd1] at ha4
   refine ZAj (nt:=233) zAh 4 4 [] [(32,.bool (decide ((n2:Int) > 50)))] (by kernel_rfl) (fun g=>by kernel_rfl) (fun g=>by kernel_rfl) ha4 fun a5 ha5=>?_
   rw[hd] at ha5
   unfold wpOps
   exact long a5 ha5
 have hd2:decide ((n2:Int) > 50)=false:=decide_eq_false (by omega)
 have hI:LawIn w0 al n bl n2 A B:=⟨hA,hB,hIa,hIb,hn,hn2⟩
 refine wp_seq (wp_seq (ZAg s3 (ZAj (nt:=233) zAh 0 4 [4,5,6,7] [(28,.bool (decide ((n:Int) > 50))),(0,.slice al n c1),(1,.slice bl n2 c2),(2,.int .i8 lo),(3,.int .i8 hi),(4,.int .u8 (what:Int))] (by kernel_rfl) (fun g=>by kernel_rfl) (fun g=>by kernel_rfl) ha3 fun a4 ha4=>?_)))
 rw[hd1] at ha4
 refine ZAj (nt:=233) zAh 4 4 [] [(32,.bool (decide ((n2:Int) > 50))),(0,.slice al n c1),(1,.slice bl n2 c2),(2,.int .i8 lo),(3,.int .i8 hi),(4,.int .u8 (what:Int))] (by kernel_rfl) (fun g=>by kernel_rfl) (fun g=>by kernel_rfl) ha4 fun a5 ha5=>?_
 rw[hd2] at ha5
 unfold wpOps
 refine zCj (ha5.ev (v:=.bool false) fun f=>rfl) (fun h=>by cases h) (fun _=>Go.wp_skip ?_)
 show Code.wp TZ U5 Q a5 w2
 rw[u5_is]
 have hG2:G0 w2:=hG.left (hl2.1 0 (by have:=hG.1; omega)) hl2.2.1
 refine wp_seq (ZAg s5 ?_)
 show wpOps TZ OL5 _ [0,1] a5 w2
 refine vcall cL5_0 (fun c=>[(33,c),(0,.slice al n c1),(1,.slice bl n2 c2),(2,.int .i8 lo),(3,.int .i8 hi),(4,.int .u8 (what:Int))]) ha5 (by decide) (fun g=>by kernel_rfl) (args:=[]) (fun g=>by kernel_rfl) (made_ok hG2) (fun c g=>by kernel_rfl) fun sp a6 w6 hR6 ha6=>?_
 obtain ⟨hl6,own,hown,hS⟩:=hR6
 have hsp:∃ x3:Img,sp=ptrV x3:=by
  obtain ⟨φ,x3,g,_,e,_⟩:=hS
  exact ⟨x3,e⟩
 obtain ⟨x3,rfl⟩:=hsp
 have hW6:LawW w0 (ZAz A 0 (List.replicate 0 true)) (0+1) (ptrV x3) own w6:={
  st:=⟨stoNil,hS⟩
  g0:=hG
  old:=fun b hb=>⟨((hl2.trans hl6).1 b hb),hown b (Nat.lt_of_lt_of_le hb hl2.2.1)⟩
  size:=(hl2.trans hl6).2.1
  rest:=(hl2.trans hl6).2.2 }
 refine ZAj (nt:=233) zAh 1 1 [] [(11,ptrV x3),(0,.slice al n c1),(1,.slice bl n2 c2),(2,.int .i8 lo),(3,.int .i8 hi),(4,.int .u8 (what:Int))] (by kernel_rfl) (fun g=>by kernel_rfl) (fun g=>by kernel_rfl) ha6 fun a7 ha7=>?_
 unfold wpOps
 refine wp_seq (wp_seq (ZAg s6 (ZAj (nt:=233) zAh 0 1 [1] [(34,ptrV x3),(11,ptrV x3),(0,.slice al n c1),(1,.slice bl n2 c2),(2,.int .i8 lo),(3,.int .i8 hi),(4,.int .u8 (what:Int))] (by kernel_rfl) (fun g=>by kernel_rfl) (fun g=>by kernel_rfl) ha7 fun a8 ha8=>?_)))
 refine ZBc (nt:=233) l6_1 [(35,.bool false),(11,ptrV x3),(0,.slice al n c1),(1,.slice bl n2 c2),(2,.int .i8 lo),(3,.int .i8 hi),(4,.int .u8 (what:Int))] ha8 (by decide) (fun g=>by kernel_rfl) (fun o ho=>run_eqp ho (ha8.get (t:=34) fun f=>rfl)) (fun g=>by kernel_rfl) fun a9 ha9=>?_
 unfold wpOps
 refine zCj (ha9.ev (v:=.bool false) fun f=>rfl) (fun h=>by cases h) (fun _=>Go.wp_skip ?_)
 refine wp_seq (vreg (nt:=233) zAh s8 (LL al n c1 bl n2 c2 lo hi what (ptrV x3) nilS) (fun g=>by kernel_rfl) (fun g=>by kernel_rfl) ha9 fun a10 ha10=>?_)
 show Code.wp TZ V5 Q a10 w6
 rw[v5_is]
 refine wp_seq (wp_seq (vreg (nt:=233) zAh s9 ((13,.int .i64 ((0:Nat):Int))::LL al n c1 bl n2 c2 lo hi what (ptrV x3) nilS) (fun g=>by kernel_rfl) (fun g=>by kernel_rfl) ha10 fun a11 ha11=>?_))
 refine wp_block ?_
 refine wp_loop_ghost (fun m a w=>∃ k own sv,m=n-k∧k≤n∧LawW w0 (ZAz A 0 (List.replicate k true)) (k+1) (ptrV x3) own w∧ZBq own w sv (List.replicate k true)∧zAr 233 ((13,.int .i64 (k:Int))::LL al n c1 bl n2 c2 lo hi what (ptrV x3) sv) a) n ⟨0,own,nilS,rfl,Nat.zero_le _,hW6,.inl ⟨rfl,rfl⟩,ha11⟩ ?_
 rintro m a12 w12 ⟨k,own12,sv,rfl,hkn,hW12,hB12,ha12⟩
 refine round1 hI hkn hW12 hB12 ha12 (fun hkn' _ a13 ha13=>?_) (fun hkn' a13 w13 own13 sv13 ha13 hW13 hB13=>?_)
 rotate_left
 · exact ⟨n-(k+1),by omega,k+1,own13,sv13,rfl,by omega,hW13,hB13,ha13⟩
 subst hkn'
 refine then_exit ?_
 show Code.wp TZ W5 Q a13 w12
 rw[w5_is]
 refine wp_seq (wp_seq (vreg (nt:=233) zAh s15 ((14,.int .i64 ((0:Nat):Int))::LL al k c1 bl n2 c2 lo hi what (ptrV x3) sv) (fun g=>by kernel_rfl) (fun g=>by kernel_rfl) ha13 fun a14 ha14=>?_))
 refine wp_block ?_
 refine wp_loop_ghost (fun m a w=>∃ j own lv,m=n2-j∧lv.length=k∧LawW w0 (ZAz A 0 lv) (k+1) (ptrV x3) own w∧ZBq own w sv lv∧zAr 233 ((14,.int .i64 (j:Int))::LL al k c1 bl n2 c2 lo hi what (ptrV x3) sv) a) n2 ⟨0,own12,List.replicate k true,rfl,List.length_replicate,hW12,hB12,ha14⟩ ?_
 rintro m a15 w15 ⟨j,own15,lv,rfl,hlv,hW15,hB15,ha15⟩
 refine round2 hI hlv hW15 hB15 ha15 (zAq (panic_block (zAq hQ))) (fun a16 ha16=>?_) (fun hjn a16 w16 own16 lv16 hlv16 ha16 hW16 hB16=>?_)
 rotate_left
 · exact ⟨n2-(j+1),by omega,j+1,own16,lv16,rfl,hlv16,hW16,hB16,ha16⟩
 refine then_exit ?_
 show Code.wp TZ X5 Q a16 w15
 rw[x5_is]
 refine wayBox hlo hhi hW15 hB15 ha16 fun a17 w17 own17 xb eqv ha17 hW17 hB17 hx17 hxb17 he17 heo17=>?_
 refine rows32 hlo hW17 hB17 hx17 hxb17 he17 heo17 ha17 fun a18 w18 rv ha18 hC18=>?_
 have hm4:what % 4<4:=Nat.mod_lt _ (by decide)
 generalize hmd:what % 4=md at hC18 hm4
 refine wp_block ?_
 refine wp_loop_ghost (fun m a w=>∃ i,m=k-i∧i≤k∧EndW w0 ⟨md,lo,hi⟩ lv ((ZAz A 0 lv).filter fun r=>ZBn ⟨md,lo,hi⟩ (numZ r.a)) sv rv eqv xb w∧zAr 233 (LC al k c1 bl n2 c2 lo hi what (ptrV x3) sv xb rv (cntR A (fun r=>ZBn ⟨md,lo,hi⟩ (numZ r.a)) lv i) i) a) k ⟨0,rfl,Nat.zero_le _,hC18,ha18⟩ ?_
 rintro m a19 w19 ⟨i,rfl,hik,hC19,ha19⟩
 refine round3 hI hm4 hlv hik hC19 ha19 (zAq (panic_block (zAq hQ))) (fun hi20 a20 ha20=>?_) (fun hi20 a20 w20 hC20 ha20=>?_)
 rotate_left
 · exact ⟨k-(i+1),by omega,i+1,rfl,by omega,hC20,ha20⟩
 subst hi20
 refine then_exit ?_
 show Code.wp TZ (.seq (.region 44 OL44 false) .ret) Q a20 w19
 have hend:=cnt_end (A:=A) (tb:=fun r=>ZBn ⟨md,lo,hi⟩ (numZ r.a)) (lv:=lv) (i:=i) (by omega)
 rw[hend] at ha20
 generalize hR:(ZAz A 0 lv).filter (fun r=>ZBn ⟨md,lo,hi⟩ (numZ r.a))=R at ha20 hC19
 have hrv:∃ b cap,rv=.slice b R.length cap:=by
  rcases hC19.res with ⟨h1,h2⟩|⟨xo,cap,_,h2,_⟩
  · exact ⟨none,0,by rw[h2,h1]; rfl⟩
  · exact ⟨_,cap,h2⟩
 obtain ⟨b,cap,rfl⟩:=hrv
 refine wp_seq (vreg (nt:=233) zAh s44 [(10,.bool ((R.length:Int) == (R.length:Int)))] (fun g=>by kernel_rfl) (fun g=>by kernel_rfl) ha20 fun a21 ha21=>?_)
 refine wp_ret (hret a21 w19 _ ha21.is (res1 fn5_res _ w19) ⟨?_,hC19.old,hC19.size,hC19.rest.1,hC19.rest.2.1,hC19.rest.2.2⟩)
 rw[ha21.get (t:=10) (fun f=>rfl),beq_self_eq_true]
end
end Go.AM
