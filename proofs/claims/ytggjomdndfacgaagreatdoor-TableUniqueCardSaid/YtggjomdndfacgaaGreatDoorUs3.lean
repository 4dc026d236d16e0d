/- The law over the model. -/
import Derived.Test.YtggjomdndfacgaaGreatDoorRunF0
import Derived.Test.YtggjomdndfacgaaGreatDoorRunF1
import Derived.Test.YtggjomdndfacgaaGreatDoorRunF2
import Derived.Test.YtggjomdndfacgaaGreatDoorRunF3
import Derived.Test.YtggjomdndfacgaaGreatDoorRunF4
import Derived.Test.YtggjomdndfacgaaGreatDoorRunF5
import Derived.Test.YtggjomdndfacgaaGreatDoorRunF6
import Derived.Test.YtggjomdndfacgaaGreatDoorRunF7
import Derived.Test.YtggjomdndfacgaaGreatDoorUs2
import Derived.Test.YtggjomdndfacgaaGreatDoorRunK
set_option linter.unusedSectionVars false
set_option linter.unusedVariables false
set_option linter.unusedSimpArgs false
namespace Go.AM
theorem fRow_all : ∀ n, n < 41 → fRow n = true
  | 0, _ => fRow_0
  | 1, _ => fRow_1
  | 2, _ => fRow_2
  | 3, _ => fRow_3
  | 4, _ => fRow_4
  | 5, _ => fRow_5
  | 6, _ => fRow_6
  | 7, _ => fRow_7
  | 8, _ => fRow_8
  | 9, _ => fRow_9
  | 10, _ => fRow_10
  | 11, _ => fRow_11
  | 12, _ => fRow_12
  | 13, _ => fRow_13
  | 14, _ => fRow_14
  | 15, _ => fRow_15
  | 16, _ => fRow_16
  | 17, _ => fRow_17
  | 18, _ => fRow_18
  | 19, _ => fRow_19
  | 20, _ => fRow_20
  | 21, _ => fRow_21
  | 22, _ => fRow_22
  | 23, _ => fRow_23
  | 24, _ => fRow_24
  | 25, _ => fRow_25
  | 26, _ => fRow_26
  | 27, _ => fRow_27
  | 28, _ => fRow_28
  | 29, _ => fRow_29
  | 30, _ => fRow_30
  | 31, _ => fRow_31
  | 32, _ => fRow_32
  | 33, _ => fRow_33
  | 34, _ => fRow_34
  | 35, _ => fRow_35
  | 36, _ => fRow_36
  | 37, _ => fRow_37
  | 38, _ => fRow_38
  | 39, _ => fRow_39
  | 40, _ => fRow_40
  | n + 41, h => absurd h (by omega)
end Go.AM

namespace Go.AM
open Go.Proofs

/- ### the law's code by hand -/
noncomputable def O3u : Array Oper := opsOf (sl (sl (sr (sr B3))))
noncomputable def O4u : Array Oper := opsOf (sl (thenOf (sr (sl (sr (sr B3))))))
noncomputable def O8u : Array Oper := opsOf (sl (sr (sr (sr (sr (sr B3))))))
noncomputable def O9u : Array Oper := opsOf (sl (sr (sr (sr (sr (sr (sr B3)))))))
noncomputable def O10u : Array Oper := opsOf (sl (sl (sr (sr (sr (sr (sr (sr (sr B3)))))))))
noncomputable def O11u : Array Oper := opsOf (sl (sl L3))
noncomputable def O12u : Array Oper := opsOf (sr (sr L3))
theorem b3_is : B3 = seqsC KS (.seq (.seq (.region 3 O3u false) (.cond (.tmp 17) (.seq (.region 4 O4u false) .ret) .skip)) (seqsC MS (.seq (.region 8 O8u false) (.seq (.region 9 O9u false) (.seq (.seq (.region 10 O10u false) (.block 0 (.loop L3))) X28))))) := by kernel_rfl
theorem l3_is : L3 = .seq (.seq (.region 11 O11u false) (.cond (.tmp 33) .skip (.exit 0))) (.seq (.block 1 D3) (.region 12 O12u false)) := by kernel_rfl
theorem s3u : O3u.size = 3 := by kernel_rfl
theorem s4u : O4u.size = 1 := by kernel_rfl
theorem s8u : O8u.size = 1 := by kernel_rfl
theorem s9u : O9u.size = 1 := by kernel_rfl
theorem s10u : O10u.size = 1 := by kernel_rfl
theorem s11u : O11u.size = 4 := by kernel_rfl
theorem s12u : O12u.size = 3 := by kernel_rfl
theorem o3u_0 : OpAt O3u 0 15 (.move (.tmp 0)) := opAtB (by kernel_rfl) (by kernel_rfl) (by kernel_rfl) (by kernel_rfl)
theorem o3u_1 : OpAt O3u 1 16 (.call ⟨.builtin .len, #[.tmp 15], #[22]⟩) := opAtB (by kernel_rfl) (by kernel_rfl) (by kernel_rfl) (by kernel_rfl)
theorem o3u_2 : OpAt O3u 2 17 (.binOp .gtr 3 (.tmp 16) (.const (.int .i64 40)) 3) := opAtB (by kernel_rfl) (by kernel_rfl) (by kernel_rfl) (by kernel_rfl)
theorem o4u_0 : OpAt O4u 0 2 (.assign (.const (.bool true))) := opAtB (by kernel_rfl) (by kernel_rfl) (by kernel_rfl) (by kernel_rfl)
theorem o8u_0 : OpAt O8u 0 5 (.alloc 48) := opAtB (by kernel_rfl) (by kernel_rfl) (by kernel_rfl) (by kernel_rfl)
theorem o9u_0 : OpAt O9u 0 6 (.assign (.const (.bool false))) := opAtB (by kernel_rfl) (by kernel_rfl) (by kernel_rfl) (by kernel_rfl)
theorem o10u_0 : OpAt O10u 0 7 (.assign (.const (.int .i64 0))) := opAtB (by kernel_rfl) (by kernel_rfl) (by kernel_rfl) (by kernel_rfl)
theorem o11u_0 : OpAt O11u 0 30 (.move (.tmp 7)) := opAtB (by kernel_rfl) (by kernel_rfl) (by kernel_rfl) (by kernel_rfl)
theorem o11u_1 : OpAt O11u 1 31 (.move (.tmp 0)) := opAtB (by kernel_rfl) (by kernel_rfl) (by kernel_rfl) (by kernel_rfl)
theorem o11u_2 : OpAt O11u 2 32 (.call ⟨.builtin .len, #[.tmp 31], #[22]⟩) := opAtB (by kernel_rfl) (by kernel_rfl) (by kernel_rfl) (by kernel_rfl)
theorem o11u_3 : OpAt O11u 3 33 (.binOp .lss 3 (.tmp 30) (.tmp 32) 3) := opAtB (by kernel_rfl) (by kernel_rfl) (by kernel_rfl) (by kernel_rfl)
theorem o12u_0 : OpAt O12u 0 34 (.move (.tmp 7)) := opAtB (by kernel_rfl) (by kernel_rfl) (by kernel_rfl) (by kernel_rfl)
theorem o12u_1 : OpAt O12u 1 35 (.binOp .add 3 (.tmp 34) (.const (.int .i64 1)) 3) := opAtB (by kernel_rfl) (by kernel_rfl) (by kernel_rfl) (by kernel_rfl)
theorem o12u_2 : OpAt O12u 2 7 (.assign (.tmp 35)) := opAtB (by kernel_rfl) (by kernel_rfl) (by kernel_rfl) (by kernel_rfl)
theorem gKS : KS.all (gCode TZ.globals.size) = true := by kernel_rfl
theorem gMS : MS.all (gCode TZ.globals.size) = true := by kernel_rfl
theorem gX28 : gCode TZ.globals.size X28 = true := by kernel_rfl
noncomputable def fn3 : Func := (TZ.funcs[3]?).getD default
theorem fn3_is : TZ.funcs[3]? = some fn3 := by kernel_rfl
theorem fn3_body : fn3.body = some B3 := by kernel_rfl
theorem fn3_nt : fn3.ntmps = 129 := by kernel_rfl
theorem fn3_res : fn3.results.toList = [.tmp 2] := by kernel_rfl
/- the end -/
theorem end_vals {f : Nat → Value} {hf : ∀ j, (f j).oneCell' = true} {rows : List RowD} (j : Nat) (s : RowD) (hj : rows[j]? = some s) : ∃ cs, (preU true rows.length rows.length [])[2 + j]? = some (.cells true cs) ∧ ∀ φ vs, @VsRel (tokS f hf rows) φ cs vs → vs = cellsV s.a ++ cellsV s.b := by
  have hjl := getElem?_lt hj
  rw [preU_vals (by omega)]
  refine ⟨_, by rw [List.getElem?_append_left (by rw [valsUL_len]; exact hjl)]; exact valsUL_get rows.length 0 j hjl, fun φ vs hv => ?_⟩
  rw [Nat.zero_add] at hv
  exact old_un hj hv
theorem law_fin {spT spU : Value} {ph : Nat} {w0 : World} {i : Nat} {tw : Bool} {own : Nat → Nat} {rt ru : List RowD} {f : Nat → Bool} {w : World} (h : LawSt spT spU ph w0 i tw own rt ru f w) (hi : i ≤ 40) {a : Act} (ha : ActIs 129 a) (g4 : a.tmps.getD 4 undef = spU) (g6 : a.tmps.getD 6 undef = .bool tw)
    {Q : Exit → Act → World → Prop} (hn : ∀ a' w', a'.defers = [] → a'.tmps.getD 2 undef = .bool true → Left' w0 w' → Q .ret a' w') : X28.wp TZ Q a w := by
  obtain ⟨φ, x3, q1, q2, q3, q4⟩ := h.U
  let F : Nat → Value := fun _ => nilS
  have hF : ∀ j, (F j).oneCell' = true := fun _ => rfl
  let T : Tok := tokS F hF ru
  have hlen := h.okU.len
  have hK : @KSound T TZ (KU true tw ru.length ru.length []) := xu_ok (T := T) rfl (by omega) rfl h.okU.oks h.okU.ids (fun j s hj => end_vals j s hj) (fun e => h.tws.1 e) (fun e hnd => by rw [h.tws.2 hnd] at e; cases e)
  have hrow := fRow_all ru.length (by omega)
  unfold fRow at hrow
  rw [Bool.and_eq_true] at hrow
  have hrun : fRun TZ (KU true tw ru.length ru.length []) X28 tw ru.length = true := by
    cases tw with
    | false => exact hrow.1
    | true => exact hrow.2
  unfold fRun at hrun
  split at hrun
  rotate_left
  · cases hrun
  rename_i x m hq
  have hx := @aeqN_eq tok0 2 _ _ hrun
  subst hx
  refine @one_ok TZ T _ hK (@draw_ok T TZ tz_mixed _ hK) 129 X28 gX28 _ _ _ _ _ _ hq φ w a Q (q1 F hF) ha (by decide) (fun q hq => ?_) (fun h => by cases h) (fun i h => by cases h) (fun _ φ' a' w' hst ha' hv => ?_)
  · simp only [List.mem_cons, List.not_mem_nil, or_false] at hq
    rcases hq with rfl | rfl
    · refine ⟨(by decide : 4 < 4096), ?_⟩
      show @VRel T φ (.ptr 3 0) (a.tmps.getD 4 undef)
      rw [g4, q3]; exact @VRel.ptr T φ 3 0 x3.1 x3.2.1 x3.2.2 q2
    · refine ⟨(by decide : 6 < 4096), ?_⟩
      show @VRel T φ (.bool tw) (a.tmps.getD 6 undef)
      rw [g6]; exact @VRel.bool T φ tw
  · obtain ⟨_, hl⟩ := own_step hst q4
    refine hn a' w' ha'.defers ?_ ⟨fun b hb => ?_, Nat.le_trans h.env.size hl.2.1, hl.2.2.1.trans h.env.os, hl.2.2.2.1.trans h.env.out, hl.2.2.2.2.trans h.env.tape⟩
    · have := vals_get hv (i := 0) (t := 2) rfl rfl
      generalize a'.tmps.getD 2 undef = c at this
      cases this; rfl
    · have h0 := (h.env.old b hb).1
      rw [hl.1 b (Nat.lt_of_lt_of_le hb h.env.size) (by rw [h0]; decide)]
      exact (h.env.old b hb).2
/- the loop -/
structure LoopAt (spT spU : Value) (ph : Nat) (w0 : World) (sl : Value) (i : Nat) (a : Act) (w : World) : Prop where
  act : ActIs 129 a
  t0 : a.tmps.getD 0 undef = sl
  t3 : a.tmps.getD 3 undef = spT
  t4 : a.tmps.getD 4 undef = spU
  t5 : a.tmps.getD 5 undef = .pointer (some ⟨ph, 0, none⟩)
  t7 : a.tmps.getD 7 undef = .int .i64 (i : Int)
  st : ∃ tw own rt ru f, a.tmps.getD 6 undef = .bool tw ∧ LawSt spT spU ph w0 i tw own rt ru f w
section
attribute [local irreducible] O11u O12u D3 L3 X28
variable {spT spU : Value} {ph : Nat} {w0 : World} {b : Option Addr} {n cap : Nat}
theorem loop_round (hn40 : n ≤ 40) (hel : ∀ i, i < n → ∃ (ad : Addr) (z : Nat), b = some ad ∧ (ad.add i).block < w0.heap.size ∧ w0.cell? (ad.add i) = some (.int .u8 (z : Int)) ∧ z < 256) {i : Nat} {a : Act} {w : World} (hi : i ≤ n) (h : LoopAt spT spU ph w0 (.slice b n cap) i a w) {Q : Exit → Act → World → Prop} (hQ : ∀ c a a' w, a.defers = a'.defers → Q (.panic c) a w → Q (.panic c) a' w)
    (hgo : i < n → ∀ a' w', LoopAt spT spU ph w0 (.slice b n cap) (i + 1) a' w' → Q .normal a' w')
    (hend : i = n → ∀ a', ActIs 129 a' → a'.tmps.getD 4 undef = spU → a'.tmps.getD 6 undef = a.tmps.getD 6 undef → Q (.exit 0) a' w) : L3.wp TZ Q a w := by
  obtain ⟨tw, own, rt, ru, f, g6, hst⟩ := h.st
  rw [l3_is]
  refine wp_seq (wp_seq (wp_region ?_))
  rw [s11u]
  show wpOps TZ O11u _ [0, 1, 2, 3] a w
  refine wpOps_val o11u_0 (fun o ho => run_mv ho) ?_
  rw [h.t7]
  have h1 := put_is h.act (some 30) (.int .i64 (i : Int))
  have e30 := get_same h.act (by decide : 30 < 129) (.int .i64 (i : Int))
  have b1 : ∀ t, t < 30 → (a.put (some 30) (.int .i64 (i : Int))).tmps.getD t undef = a.tmps.getD t undef := fun t ht => get_other h.act (by decide : 30 < 129) _ (by omega)
  generalize a.put (some 30) (.int .i64 (i : Int)) = a1 at h1 e30 b1 ⊢
  refine wpOps_val o11u_1 (fun o ho => run_mv ho) ?_
  rw [b1 0 (by decide), h.t0]
  have h2 := put_is h1 (some 31) (.slice b n cap)
  have e31 := get_same h1 (by decide : 31 < 129) (.slice b n cap)
  have e30 := (get_other h1 (by decide : 31 < 129) (.slice b n cap) (t := 30) (by decide)).trans e30
  have b2 : ∀ t, t < 30 → (a1.put (some 31) (.slice b n cap)).tmps.getD t undef = a.tmps.getD t undef := fun t ht => (get_other h1 (by decide : 31 < 129) _ (by omega)).trans (b1 t ht)
  generalize a1.put (some 31) (.slice b n cap) = a2 at h2 e30 e31 b2 ⊢
  refine wpOps_val o11u_2 (fun o ho => run_ln tz_u22 ho e31) ?_
  have h3 := put_is h2 (some 32) (.int .i64 (n : Int))
  have e32 := get_same h2 (by decide : 32 < 129) (.int .i64 (n : Int))
  have e30 := (get_other h2 (by decide : 32 < 129) (.int .i64 (n : Int)) (t := 30) (by decide)).trans e30
  have b3 : ∀ t, t < 30 → (a2.put (some 32) (.int .i64 (n : Int))).tmps.getD t undef = a.tmps.getD t undef := fun t ht => (get_other h2 (by decide : 32 < 129) _ (by omega)).trans (b2 t ht)
  generalize a2.put (some 32) (.int .i64 (n : Int)) = a3 at h3 e30 e32 b3 ⊢
  refine wpOps_val o11u_3 (fun o ho => run_lt ho e30 e32) ?_
  have h4 := put_is h3 (some 33) (.bool (decide ((i : Int) < (n : Int))))
  have e33 := get_same h3 (by decide : 33 < 129) (.bool (decide ((i : Int) < (n : Int))))
  have b4 : ∀ t, t < 30 → (a3.put (some 33) (.bool (decide ((i : Int) < (n : Int))))).tmps.getD t undef = a.tmps.getD t undef := fun t ht => (get_other h3 (by decide : 33 < 129) _ (by omega)).trans (b3 t ht)
  generalize a3.put (some 33) (.bool (decide ((i : Int) < (n : Int)))) = a4 at h4 e33 b4 ⊢
  show Code.wp TZ (.cond (.tmp 33) .skip (.exit 0)) _ a4 w
  by_cases hlt : i < n
  rotate_left
  · have hd : decide ((i : Int) < (n : Int)) = false := decide_eq_false (by omega)
    rw [hd] at e33
    refine wp_cond_false (by rw [evTmp]; exact e33) (Go.wp_exit ?_)
    exact hend (by omega) a4 h4 (by rw [b4 4 (by decide)]; exact h.t4) (b4 6 (by decide))
  have hd : decide ((i : Int) < (n : Int)) = true := decide_eq_true (by omega)
  rw [hd] at e33
  refine wp_cond_true (by rw [evTmp]; exact e33) (Go.wp_skip ?_)
  show Code.wp TZ (.seq (.block 1 D3) (.region 12 O12u false)) Q a4 w
  obtain ⟨ad, z, hb, hbl, hcell, hz⟩ := hel i hlt
  have r12 : ∀ a' w' tw' own' rt' ru' f', ActIs 129 a' → SameRegs [0, 3, 4, 5, 7] a4 a' → a'.tmps.getD 6 undef = .bool tw' → LawSt spT spU ph w0 (i + 1) tw' own' rt' ru' f' w' → Code.wp TZ (.region 12 O12u false) Q a' w' := by
    intro a' w' tw' own' rt' ru' f' ha' hs' g6' hst'
    have k0 : a'.tmps.getD 0 undef = .slice b n cap := by rw [hs' 0 (by decide), b4 0 (by decide)]; exact h.t0
    have k3 : a'.tmps.getD 3 undef = spT := by rw [hs' 3 (by decide), b4 3 (by decide)]; exact h.t3
    have k4 : a'.tmps.getD 4 undef = spU := by rw [hs' 4 (by decide), b4 4 (by decide)]; exact h.t4
    have k5 : a'.tmps.getD 5 undef = .pointer (some ⟨ph, 0, none⟩) := by rw [hs' 5 (by decide), b4 5 (by decide)]; exact h.t5
    have k7 : a'.tmps.getD 7 undef = .int .i64 (i : Int) := by rw [hs' 7 (by decide), b4 7 (by decide)]; exact h.t7
    refine wp_region ?_
    rw [s12u]
    show wpOps TZ O12u _ [0, 1, 2] a' w'
    refine wpOps_val o12u_0 (fun o ho => run_mv ho) ?_
    rw [k7]
    have i1 := put_is ha' (some 34) (.int .i64 (i : Int))
    have f34 := get_same ha' (by decide : 34 < 129) (.int .i64 (i : Int))
    have c1 : ∀ t, t < 30 → (a'.put (some 34) (.int .i64 (i : Int))).tmps.getD t undef = a'.tmps.getD t undef := fun t ht => get_other ha' (by decide : 34 < 129) _ (by omega)
    generalize a'.put (some 34) (.int .i64 (i : Int)) = d1 at i1 f34 c1 ⊢
    refine wpOps_val o12u_1 (fun o ho => run_inc (i := i) ho (by omega) f34) ?_
    have i2 := put_is i1 (some 35) (.int .i64 ((i + 1 : Nat) : Int))
    have f35 := get_same i1 (by decide : 35 < 129) (.int .i64 ((i + 1 : Nat) : Int))
    have c2 : ∀ t, t < 30 → (d1.put (some 35) (.int .i64 ((i + 1 : Nat) : Int))).tmps.getD t undef = a'.tmps.getD t undef := fun t ht => (get_other i1 (by decide : 35 < 129) _ (by omega)).trans (c1 t ht)
    generalize d1.put (some 35) (.int .i64 ((i + 1 : Nat) : Int)) = d2 at i2 f35 c2 ⊢
    refine wpOps_val o12u_2 (fun o ho => run_as ho) ?_
    rw [f35]
    have i3 := put_is i2 (some 7) (.int .i64 ((i + 1 : Nat) : Int))
    have f7 := get_same i2 (by decide : 7 < 129) (.int .i64 ((i + 1 : Nat) : Int))
    have c3 : ∀ t, t < 30 → t ≠ 7 → (d2.put (some 7) (.int .i64 ((i + 1 : Nat) : Int))).tmps.getD t undef = a'.tmps.getD t undef := fun t ht h7 => (get_other i2 (by decide : 7 < 129) _ h7).trans (c2 t ht)
    generalize d2.put (some 7) (.int .i64 ((i + 1 : Nat) : Int)) = d3 at i3 f7 c3 ⊢
    show Q .normal d3 w'
    exact hgo hlt d3 w' ⟨i3, by rw [c3 0 (by decide) (by decide)]; exact k0, by rw [c3 3 (by decide) (by decide)]; exact k3, by rw [c3 4 (by decide) (by decide)]; exact k4, by rw [c3 5 (by decide) (by decide)]; exact k5, f7, tw', own', rt', ru', f', by rw [c3 6 (by decide) (by decide)]; exact g6', hst'⟩
  refine wp_seq (wp_block ?_)
  refine law_round2 hst hlt hn40 hz hbl hcell h4 (by rw [b4 0 (by decide), h.t0, hb]) (by rw [b4 3 (by decide)]; exact h.t3) (by rw [b4 4 (by decide)]; exact h.t4) (by rw [b4 5 (by decide)]; exact h.t5) (by rw [b4 6 (by decide)]; exact g6) (by rw [b4 7 (by decide)]; exact h.t7) (fun c a a' w e h => hQ c a a' w e h) fun a' w' tw' own' rt' ru' f' ha' hs' g6' hst' => ?_
  have fin := r12 a' w' tw' own' rt' ru' f' ha' hs' g6' hst'
  exact ⟨fin, inBlock_here fin⟩
theorem uloop (hn40 : n ≤ 40) (hel : ∀ i, i < n → ∃ (ad : Addr) (z : Nat), b = some ad ∧ (ad.add i).block < w0.heap.size ∧ w0.cell? (ad.add i) = some (.int .u8 (z : Int)) ∧ z < 256) {a : Act} {w : World} (h : LoopAt spT spU ph w0 (.slice b n cap) 0 a w) {Q : Exit → Act → World → Prop} (hQ : ∀ c a a' w, a.defers = a'.defers → Q (.panic c) a w → Q (.panic c) a' w)
    (hend : ∀ a' w' tw own rt ru f, ActIs 129 a' → a'.tmps.getD 4 undef = spU → a'.tmps.getD 6 undef = .bool tw → LawSt spT spU ph w0 n tw own rt ru f w' → Q .normal a' w') : (Code.block 0 (.loop L3)).wp TZ Q a w := by
  refine wp_block ?_
  refine wp_loop_ghost (fun k a w => k ≤ n ∧ LoopAt spT spU ph w0 (.slice b n cap) (n - k) a w) n ⟨Nat.le_refl _, by rw [Nat.sub_self]; exact h⟩ ?_
  rintro k a1 w1 ⟨hk, h1⟩
  refine loop_round hn40 hel (by omega) h1 (fun c a a' w e h => hQ c a a' w e h) (fun hlt a' w' h2 => ?_) (fun he a' ha' g4 g6 => ?_)
  · refine ⟨k - 1, by omega, by omega, ?_⟩
    have : n - (k - 1) = n - k + 1 := by omega
    rw [this]; exact h2
  · obtain ⟨tw, own, rt, ru, f, q6, hst⟩ := h1.st
    rw [he] at hst
    refine then_exit ?_
    exact hend a' w1 tw own rt ru f ha' g4 (by rw [g6]; exact q6) hst
end
end Go.AM

namespace Go.AM
open Go.Proofs

/- ### the two stores, made -/
theorem cond_b {x y : Bool} (h : cond' x false y = true) : y = true ∧ x = true := by
  rw [cond_if] at h
  split at h
  · rename_i hy; exact ⟨hy, h⟩
  · cases h
theorem allWr_ok {m : Mem} : ∀ {l : List Nat}, allWr m l = true → ∀ q, q ∈ l → (m.get q).wr = true
  | x :: l, h, q, hq => by
    obtain ⟨h1, h2⟩ := cond_b (show cond' (allWr m l) false (match m.get x with | .cells ro _ => not ro | .none => false | _ => true) = true from h)
    rcases List.mem_cons.1 hq with rfl | hq
    · cases hg : m.get q with
      | none => rw [hg] at h1; cases h1
      | cells ro cs => rw [hg] at h1; exact h1
      | map es k => rfl
      | iter s k => rfl
    · exact allWr_ok h2 q hq
theorem freshN_no {n : Nat} : ∀ {l : List Nat}, freshN n l = true → n ∉ l
  | [], _, hm => by cases hm
  | x :: l, h, hm => by
    have h' : cond' false (freshN n l) (Nat.beq n x) = true := h
    rw [cond_if] at h'
    split at h'
    · cases h'
    · rename_i hne
      rw [beq_true] at hne
      rcases List.mem_cons.1 hm with e | hm
      · exact hne e
      · exact freshN_no h' hm
theorem disjN_ok {l : List Nat} : ∀ {l' : List Nat}, disjN l l' = true → ∀ q, q ∈ l' → q ∉ l
  | x :: l', h, q, hq => by
    obtain ⟨h1, h2⟩ := cond_b (show cond' (disjN l l') false (freshN x l) = true from h)
    rcases List.mem_cons.1 hq with rfl | hq
    · exact freshN_no h1
    · exact disjN_ok h2 q hq
theorem own_abs2 {T : Tok} {φ : Phi} {m : Mem} {w : World} {own : Nat → Nat} {tag : Nat} (hr : @Rel T TZ φ m w) {σ : Map} (hG : σ.G = 2) (h : ∀ q, q ∈ σ.ns → ∀ b o s, q < m.next → 3 ≤ q → (m.get q).live = true → φ q = some (b, o, s) → own b = tag) (h0 : own 0 = 0) {l : List Blk} (habs : absMem σ 0 b00 l m = true) : OwnAt (absPhi σ φ) (mkMem 2 0 b00 l) own tag := by
  have hc := habs
  unfold absMem at hc
  simp only [Bool.and_eq_true, ble_true] at hc
  obtain ⟨⟨⟨c1, c2⟩, c3, c4⟩, c5, c6⟩ := hc
  obtain ⟨hlen, hblk⟩ := chkL_ok c6
  rw [top_eq] at c2
  have hn : (mkMem 2 0 b00 l).next = 2 + 1 + l.length := addL_next l _
  have high : ∀ p b o s, 2 + 1 ≤ p → p < 2 + 1 + l.length → ((mkMem 2 0 b00 l).get p).live = true → absPhi σ φ p = some (b, o, s) → own b = tag := by
    intro p b o s h1 hp hl hφ
    rw [mkMem_get (by decide) (by rw [hlen, ← hG]; omega) (by rw [← hG, hlen] at hp; omega), if_pos ⟨h1, hp⟩] at hl
    unfold absPhi at hφ
    split at hφ
    rotate_left
    · cases hφ
    have h3 : p - (2 + 1) < l.length := by omega
    have h4 : p - (2 + 1) < σ.ns.length := by omega
    have e3 := List.getElem?_eq_getElem h3
    have e4 := List.getElem?_eq_getElem h4
    rw [e3] at hl
    have hnm : σ.nm p = σ.ns[p - (2 + 1)] := by
      rw [nm_high (by rw [hG]; omega)]
      have : p - (σ.G + 1) = p - (2 + 1) := by rw [hG]
      rw [this, e4]; rfl
    obtain ⟨g1, g2, g3⟩ := hblk _ _ _ e3 e4
    rw [hnm] at hφ
    refine h _ (List.getElem_mem h4) b o s g2 (by rw [hG] at g1; omega) ?_ hφ
    generalize m.get (σ.ns[p - (2 + 1)]) = bl at g3
    generalize l[p - (2 + 1)] = t at g3 hl
    cases t <;> cases bl <;> first | rfl | (cases g3; done) | (cases hl; done)
  refine ⟨fun p b o s hp hl hφ => ?_, fun p b o s hp hl hφ => ?_⟩
  · rw [hn] at hp
    rcases Nat.lt_or_ge p (2 + 1) with hlt | hge
    · rw [mkMem_get (by decide) (by rw [hlen, ← hG]; omega) (by omega), if_neg (by omega)] at hl
      split at hl
      · rename_i hp0
        subst hp0
        unfold absPhi at hφ
        split at hφ
        · have hnm : σ.nm 0 = 0 := rfl
          rw [hnm] at hφ
          obtain ⟨sz, hg⟩ := @Rel.glob T TZ _ _ _ hr 0 (by rw [tz_glob]; decide)
          rw [hg] at hφ
          cases hφ
          exact .inl h0
        · cases hφ
      · cases hl
    · exact .inr (high p b o s hge hp hl hφ)
  · rw [hn] at hp
    rcases Nat.lt_or_ge p (2 + 1) with hlt | hge
    · rw [mkMem_get (by decide) (by rw [hlen, ← hG]; omega) (by omega), if_neg (by omega)] at hl
      split at hl
      · cases hl
      · cases hl
    · exact high p b o s hge hp (@Blk.live_of_wr tok0 _ hl) hφ
theorem m00_ro2 : ∀ q, q < (m00 2 0 b00).next → ((m00 2 0 b00).get q).wr = false := m00_ro (by decide) (by decide) rfl
theorem sto_made {T : Tok} (hst0 : T.strong = false) {κ : Bool} {φ : Phi} {m : Mem} {w : World} (hr : @Rel T TZ φ m w) {ns l : List Nat} {a : Nat} (hns : ns = a :: l) (habs : absMem ⟨2, ns, [], fun _ => .bad, fun _ => .bad⟩ 0 b00 (utL κ 0 []) m = true) {own : Nat → Nat} {tag : Nat}
    (hown : OwnAt (absPhi ⟨2, ns, [], fun _ => .bad, fun _ => .bad⟩ φ) (mkMem 2 0 b00 (utL κ 0 [])) own tag) : ∃ x3, φ a = some x3 ∧ StoAt κ [] (ptrV x3) tag own w := by
  have hrel : ∀ f hf, @Rel (tokS f hf []) TZ (absPhi ⟨2, ns, [], fun _ => .bad, fun _ => .bad⟩ φ) (mkMem 2 0 b00 (utL κ 0 [])) w := fun f hf =>
    (absorb (T := T) (T' := tokS f hf []) (σ := ⟨2, ns, [], fun _ => .bad, fun _ => .bad⟩) tz_glob.symm hr habs (fun _ j c hj _ => absurd hj (Nat.not_lt_zero _)) (fun kk d s c hs _ => (aeq_bad hs).elim) (fun i s c hs hc => (aeq_bad hs).elim) (fun b o h => by cases h) (fun h => by cases h)).1
  have hl0 : 2 + 1 + (utL κ 0 []).length ≤ 65536 := by
    have h1 := utL_next κ 0
    have h2 : (mkMem 2 0 b00 (utL κ 0 [])).next = 2 + 1 + (utL κ 0 []).length := addL_next _ _
    have h3 := vAt_le κ (n := 0) (by omega)
    omega
  obtain ⟨b1, b2⟩ := mkMem_at0 (b0 := b00) hl0 (i := 0) (b := .cells false [.slice 4 0 1 1 false 3, .slice 5 0 1 1 false 4]) rfl
  obtain ⟨x3, vs, g1, _⟩ := of_brel (P := TZ) (T := tokS (fun _ => nilS) (fun _ => rfl) []) tellsAll (hrel (fun _ => nilS) (fun _ => rfl)) b1 b2
  have g1' : absPhi ⟨2, ns, [], fun _ => .bad, fun _ => .bad⟩ φ 3 = some x3 := g1
  have ga : φ a = some x3 := by
    have := g1'
    unfold absPhi at this
    split at this
    · rw [hns] at this; exact this
    · cases this
  exact ⟨x3, ga, _, x3, hrel, g1', rfl, hown⟩
theorem made_stores {T : Tok} (hst0 : T.strong = false) {φ φ' : Phi} {mm : Mem} {w w' : World} (hw2 : 2 ≤ w.heap.size) (hst : @Step T TZ φ (m00 2 0 b00) w φ' mm w') {nt nu lt lu : List Nat} {a b : Nat} (hnt : nt = a :: lt) (hnu : nu = b :: lu) (hend : madeEnd mm nt nu = true) :
    ∃ own xa xb, φ' a = some xa ∧ φ' b = some xb ∧ (∀ b, b < w.heap.size → own b = 0) ∧ StoAt true [] (ptrV xa) 1 own w' ∧ StoAt false [] (ptrV xb) 2 own w' := by
  unfold madeEnd at hend
  simp only [Bool.and_eq_true] at hend
  obtain ⟨⟨h1, h2⟩, h3, h4⟩ := hend
  have hr := @Step.rel T TZ _ _ _ _ _ _ hst
  have fresh : ∀ q b o s, q < mm.next → 3 ≤ q → (mm.get q).live = true → φ' q = some (b, o, s) → w.heap.size ≤ b := fun q b o s hq hq3 hl hφ => by
    rcases Nat.lt_or_ge b w.heap.size with hlt | hge
    · obtain ⟨q', o', s', g1, g2, _⟩ := @Step.img T TZ _ _ _ _ _ _ hst q b o s (show (m00 2 0 b00).next ≤ q from hq3) hq hl hφ hlt
      rw [m00_ro2 q' g1] at g2; cases g2
    · exact hge
  classical
  let own : Nat → Nat := fun b => if b < w.heap.size then 0 else if ∃ q, q ∈ nt ∧ q < mm.next ∧ ∃ o s, φ' q = some (b, o, s) then 1 else 2
  have own0 : ∀ b, b < w.heap.size → own b = 0 := fun b hb => if_pos hb
  have oT : OwnAt (absPhi ⟨2, nt, [], fun _ => .bad, fun _ => .bad⟩ φ') (mkMem 2 0 b00 (utL true 0 [])) own 1 := own_abs2 hr rfl (fun q hq b o s hqn hq3 hl hφ => by
    show (if b < w.heap.size then 0 else if ∃ q, q ∈ nt ∧ q < mm.next ∧ ∃ o s, φ' q = some (b, o, s) then 1 else 2) = 1
    rw [if_neg (by have := fresh q b o s hqn hq3 hl hφ; omega), if_pos ⟨q, hq, hqn, o, s, hφ⟩]) (own0 0 (by omega)) h1
  have oU : OwnAt (absPhi ⟨2, nu, [], fun _ => .bad, fun _ => .bad⟩ φ') (mkMem 2 0 b00 (utL false 0 [])) own 2 := own_abs2 hr rfl (fun q hq b o s hqn hq3 hl hφ => by
    show (if b < w.heap.size then 0 else if ∃ q, q ∈ nt ∧ q < mm.next ∧ ∃ o s, φ' q = some (b, o, s) then 1 else 2) = 2
    rw [if_neg (by have := fresh q b o s hqn hq3 hl hφ; omega), if_neg]
    rintro ⟨q', hq', hqn', o', s', hφ'⟩
    refine @Rel.inj T TZ _ _ _ hr q' q b o' s' o s hqn' hqn (fun e => disjN_ok h4 q hq (e ▸ hq')) (allWr_ok h3 q' hq') hl hφ' hφ) (own0 0 (by omega)) h2
  obtain ⟨xa, ga, sa⟩ := sto_made hst0 hr hnt h1 oT
  obtain ⟨xb, gb, sb⟩ := sto_made hst0 hr hnu h2 oU
  exact ⟨own, xa, xb, ga, gb, own0, sa, sb⟩
theorem tz_z48 : (TZ.info? 48).bind (·.zero) = some (.agg (Array.replicate 16 (.bool false))) := by kernel_rfl
theorem run_all {a : Act} {w : World} {o : Oper} (h : o.op = .alloc 48) : (execOp a.eval o).run TZ w = .ok (.value (.pointer (some ⟨w.heap.size, 0, none⟩))) (w.alloc (.cells (Array.replicate 16 (.bool false)) 48)) := by
  letI := tok0
  simp only [execOp, h]
  exact run_value (by simp [Instr.alloc, run_zeroV tz_z48, newVar, newRow, Value.cells])
theorem has_zero {w : World} : HasAt (w.alloc (.cells (Array.replicate 16 (.bool false)) 48)) w.heap.size (fun _ => false) := by
  refine ⟨Array.replicate 16 (.bool false), 48, (0, 0), ?_, by simp; rfl, fun v hv => ?_, fun i _ h => absurd h.2 (Nat.not_lt_zero i)⟩
  · show (w.heap.push _)[w.heap.size]? = _
    simp
  · rw [List.mem_map] at hv
    obtain ⟨_, _, rfl⟩ := hv
    rfl
end Go.AM

namespace Go.AM
open Go.Proofs

/- ### THE LAW -/
theorem hasOk_none : HasOk (fun _ => false) [] := fun k _ => ⟨fun h => (by cases h), fun ⟨s, hs, _⟩ => (by cases hs)⟩
theorem rowsIs_none : RowsIs [] (fun _ => false) 0 := ⟨Nat.le_refl _, fun s hs => (by cases hs), fun i s hs => (by simp at hs), hasOk_none⟩
def UPost (w : World) (e : Ending) (w' : World) : Prop := e = .returned (.bool true) ∧ Left' w w'
theorem ret_true {a : Act} {w w0 : World} (hd : a.defers = []) (h2 : a.tmps.getD 2 undef = .bool true) (hl : Left' w0 w) : bodyPost TZ fn3 (UPost w0) .ret a w :=
  ⟨hd, _, results_one fn3_res _ w, by rw [h2]; exact ⟨rfl, hl⟩⟩
attribute [local irreducible] O3u O4u O8u O9u O10u L3 X28 KS MS in
theorem tz_law_u {L cp : Nat} {b : Option Addr} {w : World} {c : Array Value} {el : TypeId} {fz : Nat × Nat} (h0 : w.heap[0]? = some (.cells c el fz)) (hc : c[0]? = some (.iface 219 (.agg #[.pointer (some ⟨2, 27, none⟩)]))) (h2 : 2 ≤ w.heap.size)
    (hel : ∀ i, i < L → ∃ (ad : Addr) (z : Nat), b = some ad ∧ (ad.add i).block < w.heap.size ∧ w.cell? (ad.add i) = some (.int .u8 (z : Int)) ∧ z < 256) :
    Calls TZ 3 #[.slice b L cp] w (UPost w) := by
  refine calls_of_wp fn3_is fn3_body ?_
  generalize hcl : Value.slice b L cp = cl
  have hcl1 : cl.oneCell' = true := by rw [← hcl]; rfl
  have ha0 : ActIs 129 { tmps := #[cl] ++ Array.replicate (fn3.ntmps - #[cl].size) undef, defers := [] } := ⟨by simp [fn3_nt], rfl⟩
  have hz0 : ({ tmps := #[cl] ++ Array.replicate (fn3.ntmps - #[cl].size) undef, defers := [] } : Act).tmps.getD 0 undef = cl := by
    show (#[cl] ++ Array.replicate (fn3.ntmps - #[cl].size) undef).getD 0 undef = cl
    rw [Array.getD_eq_getD_getElem?, Array.getElem?_append_left (by simp)]
    rfl
  generalize ({ tmps := #[cl] ++ Array.replicate (fn3.ntmps - #[cl].size) undef, defers := [] } : Act) = a0 at ha0 hz0
  let T0 : Tok := tok1 (lawVals cl 0) (lawVals_cell hcl1 0)
  have hS0 : T0.strong = false := rfl
  have hval0 : T0.val 0 = cl := rfl
  have hr0 : @Rel T0 TZ (phi0 c.size) (m00 2 0 b00) w := rel0 rfl rfl tz_glob h0 hc h2
  rw [b3_is]
  obtain ⟨x, mk, hk1, hk2, hk3⟩ := knownChk_ok known_u
  refine @piece_ok TZ T0 K1 (k1_ok T0) (k1_draw T0) 129 KS gKS _ _ _ _ _ _ hk1 (phi0 c.size) w a0 _ _ hr0 ha0 (by decide) (fun p hp => ?_) ?_ (fun i h => by cases h) (fun h => by cases h)
  · rw [List.mem_singleton] at hp
    subst hp
    refine ⟨(by decide : 0 < 4096), ?_⟩
    show @VRel T0 _ (.opq 0) (a0.tmps.getD 0 undef)
    rw [hz0, ← hval0]; exact @VRel.opq T0 _ 0
  intro _ φ1 a1 w1 hst1 ha1 hv1
  have hl1 := Left'.of hst1 m00_ro2
  have g10 : a1.tmps.getD 0 undef = cl := by
    cases hv1 with
    | cons v0 _ => rw [← hval0]; exact opq_inv hk2 v0
  obtain ⟨φ1', hr1⟩ := known_back (T := T0) hS0 tz_glob (@Step.rel T0 TZ _ _ _ _ _ _ hst1) hk3
  refine wp_seq (wp_seq (wp_region ?_))
  rw [s3u]
  show wpOps TZ O3u _ [0, 1, 2] a1 w1
  refine wpOps_val o3u_0 (fun o ho => run_mv ho) ?_
  rw [g10]
  have i1 := put_is ha1 (some 15) cl
  have f15 := get_same ha1 (by decide : 15 < 129) cl
  have c1 := get_other ha1 (by decide : 15 < 129) cl (t := 0) (by decide)
  rw [g10] at c1
  generalize a1.put (some 15) cl = d1 at i1 f15 c1 ⊢
  refine wpOps_val o3u_1 (fun o ho => run_ln tz_u22 ho (by rw [f15, ← hcl])) ?_
  have i2 := put_is i1 (some 16) (.int .i64 (L : Int))
  have f16 := get_same i1 (by decide : 16 < 129) (.int .i64 (L : Int))
  have c2 := (get_other i1 (by decide : 16 < 129) (.int .i64 (L : Int)) (t := 0) (by decide)).trans c1
  generalize d1.put (some 16) (.int .i64 (L : Int)) = d2 at i2 f16 c2 ⊢
  refine wpOps_val o3u_2 (fun o ho => run_gt ho f16) ?_
  have i3 := put_is i2 (some 17) (.bool (decide ((40 : Int) < (L : Int))))
  have f17 := get_same i2 (by decide : 17 < 129) (.bool (decide ((40 : Int) < (L : Int))))
  have c3 := (get_other i2 (by decide : 17 < 129) (.bool (decide ((40 : Int) < (L : Int)))) (t := 0) (by decide)).trans c2
  generalize d2.put (some 17) (.bool (decide ((40 : Int) < (L : Int)))) = d3 at i3 f17 c3 ⊢
  show (Code.cond (.tmp 17) (.seq (.region 4 O4u false) .ret) .skip).wp TZ _ d3 w1
  by_cases hlt : (40 : Int) < (L : Int)
  · rw [decide_eq_true hlt] at f17
    refine wp_cond_true (by rw [evTmp]; exact f17) (wp_seq (wp_region ?_))
    rw [s4u]
    show wpOps TZ O4u _ [0] d3 w1
    refine wpOps_val o4u_0 (fun o ho => run_asc ho) ?_
    show Code.ret.wp TZ _ _ w1
    refine wp_ret ?_
    exact (ret_true (put_is i3 (some 2) (.bool true)).defers (get_same i3 (by decide) _) hl1 : bodyPost TZ fn3 (UPost w) .ret _ w1)
  rw [decide_eq_false hlt] at f17
  refine wp_cond_false (by rw [evTmp]; exact f17) (Go.wp_skip ?_)
  show (seqsC MS (.seq (.region 8 O8u false) (.seq (.region 9 O9u false) (.seq (.seq (.region 10 O10u false) (.block 0 (.loop L3))) X28)))).wp TZ (bodyPost TZ fn3 (UPost w)) d3 w1
  have hm := made_u
  unfold madeU at hm
  split at hm
  rotate_left
  · cases hm
  rename_i x0 na oa nb ob mm hq
  simp only [Bool.and_eq_true, beq_true] at hm
  obtain ⟨⟨e0, rfl, rfl⟩, hend⟩ := hm
  have e0' := @aeqN_eq tok0 2 _ _ e0
  subst e0'
  refine @piece_ok TZ T0 K1 (k1_ok T0) (k1_draw T0) 129 MS gMS _ _ _ _ _ _ hq φ1' w1 d3 _ _ hr1 i3 (by decide) (fun p hp => ?_) ?_ (fun i h => by cases h) (fun h => by cases h)
  · rw [List.mem_singleton] at hp
    subst hp
    refine ⟨(by decide : 0 < 4096), ?_⟩
    show @VRel T0 φ1' (.opq 0) (d3.tmps.getD 0 undef)
    rw [c3, ← hval0]; exact @VRel.opq T0 φ1' 0
  intro _ φ3 a3 w3 hst3 ha3 hv3
  have hl3 := Left'.of hst3 m00_ro2
  have hl13 := hl1.trans hl3
  have hw1 : 2 ≤ w1.heap.size := Nat.le_trans h2 hl1.2.1
  obtain ⟨own, xa, xb, ga, gb, own0, sT, sU⟩ := made_stores (T := T0) hS0 hw1 hst3 (nt := utNs true mm na 0 []) (nu := utNs false mm nb 0 []) rfl rfl hend
  have g30 : a3.tmps.getD 0 undef = cl := opq_is (vals_get hv3 (i := 0) (t := 0) rfl rfl)
  have g33 : a3.tmps.getD 3 undef = ptrV xa := ptr_is (vals_get hv3 (i := 1) (t := 3) rfl rfl) ga
  have g34 : a3.tmps.getD 4 undef = ptrV xb := ptr_is (vals_get hv3 (i := 2) (t := 4) rfl rfl) gb
  refine wp_seq (wp_region ?_)
  rw [s8u]
  show wpOps TZ O8u _ [0] a3 w3
  refine wpOps_eff o8u_0 (fun o ho => run_all ho) ?_
  have ha4 := put_is ha3 (some 5) (.pointer (some ⟨w3.heap.size, 0, none⟩))
  have g45 := get_same ha3 (by decide : 5 < 129) (.pointer (some ⟨w3.heap.size, 0, none⟩))
  have b4 : ∀ t, t ≠ 5 → (a3.put (some 5) (.pointer (some ⟨w3.heap.size, 0, none⟩))).tmps.getD t undef = a3.tmps.getD t undef := fun t ht => get_other ha3 (by decide : 5 < 129) _ ht
  generalize a3.put (some 5) (.pointer (some ⟨w3.heap.size, 0, none⟩)) = a4 at ha4 g45 b4 ⊢
  have hhas := has_zero (w := w3)
  have hgrow : ∀ b, b < w3.heap.size → (w3.alloc (.cells (Array.replicate 16 (.bool false)) 48)).heap[b]? = w3.heap[b]? := fun b hb => by
    show (w3.heap.push _)[b]? = _
    rw [Array.getElem?_push, if_neg (by omega)]
  have hsz : (w3.alloc (.cells (Array.replicate 16 (.bool false)) 48)).heap.size = w3.heap.size + 1 := by
    show (w3.heap.push _).size = _
    simp
  have hos : (w3.alloc (.cells (Array.replicate 16 (.bool false)) 48)).os = w3.os := rfl
  have hou : (w3.alloc (.cells (Array.replicate 16 (.bool false)) 48)).output = w3.output := rfl
  have htp : (w3.alloc (.cells (Array.replicate 16 (.bool false)) 48)).tape = w3.tape := rfl
  generalize w3.alloc (.cells (Array.replicate 16 (.bool false)) 48) = w4 at hhas hgrow hsz hos hou htp ⊢
  let own4 : Nat → Nat := fun b => if b = w3.heap.size then 3 else own b
  have own4lt : ∀ b, b < w3.heap.size → own4 b = own b := fun b hb => if_neg (by omega)
  have henv : Env w own4 w3.heap.size w4 :=
    ⟨h2, fun b hb => by
      have hb3 := Nat.lt_of_lt_of_le hb hl13.2.1
      rw [own4lt b hb3, hgrow b hb3]
      exact ⟨own0 b (Nat.lt_of_lt_of_le hb hl1.2.1), hl13.1 b hb⟩, by have := hl13.2.1; omega, hos.trans hl13.2.2.1, hou.trans hl13.2.2.2.1, htp.trans hl13.2.2.2.2, if_pos rfl, by omega⟩
  have sT4 : StoAt true [] (ptrV xa) 1 own4 w4 := sT.move (by omega) own4lt fun b hb _ => hgrow b hb
  have sU4 : StoAt false [] (ptrV xb) 2 own4 w4 := sU.move (by omega) own4lt fun b hb _ => hgrow b hb
  have hst : LawSt (ptrV xa) (ptrV xb) w3.heap.size w 0 false own4 [] [] (fun _ => false) w4 := ⟨henv, sT4, sU4, hhas, rowsIs_none, rowsIs_none, List.Pairwise.nil, ⟨fun _ => List.Pairwise.nil, fun _ => rfl⟩⟩
  show Code.wp TZ (.seq (.region 9 O9u false) (.seq (.seq (.region 10 O10u false) (.block 0 (.loop L3))) X28)) _ a4 w4
  refine wp_seq (wp_region ?_)
  rw [s9u]
  show wpOps TZ O9u _ [0] a4 w4
  refine wpOps_val o9u_0 (fun o ho => run_asc ho) ?_
  have ha5 := put_is ha4 (some 6) (.bool false)
  have g56 := get_same ha4 (by decide : 6 < 129) (.bool false)
  have b5 : ∀ t, t ≠ 6 → (a4.put (some 6) (.bool false)).tmps.getD t undef = a4.tmps.getD t undef := fun t ht => get_other ha4 (by decide : 6 < 129) _ ht
  generalize a4.put (some 6) (.bool false) = a5 at ha5 g56 b5 ⊢
  show Code.wp TZ (.seq (.seq (.region 10 O10u false) (.block 0 (.loop L3))) X28) _ a5 w4
  refine wp_seq (wp_seq (wp_region ?_))
  rw [s10u]
  show wpOps TZ O10u _ [0] a5 w4
  refine wpOps_val o10u_0 (fun o ho => run_asc ho) ?_
  have ha6 := put_is ha5 (some 7) (.int .i64 0)
  have g67 := get_same ha5 (by decide : 7 < 129) (.int .i64 0)
  have b6 : ∀ t, t ≠ 7 → (a5.put (some 7) (.int .i64 0)).tmps.getD t undef = a5.tmps.getD t undef := fun t ht => get_other ha5 (by decide : 7 < 129) _ ht
  generalize a5.put (some 7) (.int .i64 0) = a6 at ha6 g67 b6 ⊢
  have hloop : LoopAt (ptrV xa) (ptrV xb) w3.heap.size w (.slice b L cp) 0 a6 w4 :=
    ⟨ha6, by rw [b6 0 (by decide), b5 0 (by decide), b4 0 (by decide), g30, hcl], by rw [b6 3 (by decide), b5 3 (by decide), b4 3 (by decide)]; exact g33, by rw [b6 4 (by decide), b5 4 (by decide), b4 4 (by decide)]; exact g34,
      by rw [b6 5 (by decide), b5 5 (by decide)]; exact g45, g67, false, own4, [], [], fun _ => false, by rw [b6 6 (by decide)]; exact g56, hst⟩
  show Code.wp TZ (.block 0 (.loop L3)) _ a6 w4
  refine uloop (by omega) hel hloop (fun ch a a' wx e h => ?_) fun a' w' tw own' rt ru f ha' g4 g6 hst' => ?_
  · have h' : bodyPost TZ fn3 (UPost w) (.panic ch) a wx := h
    show bodyPost TZ fn3 (UPost w) (.panic ch) a' wx
    exact ⟨e ▸ h'.1, h'.2⟩
  show Code.wp TZ X28 (bodyPost TZ fn3 (UPost _)) a' w'
  exact law_fin hst' (by omega) ha' g4 g6 fun a'' w'' hd h2' hl => ret_true hd h2' hl
end Go.AM
