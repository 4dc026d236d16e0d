/- A round of the law. -/
import Derived.Test.YtggjomdndfacgaaGreatDoorRunT0
import Derived.Test.YtggjomdndfacgaaGreatDoorRunU0
import Derived.Test.YtggjomdndfacgaaGreatDoorRunT1
import Derived.Test.YtggjomdndfacgaaGreatDoorRunU1
import Derived.Test.YtggjomdndfacgaaGreatDoorRunT2
import Derived.Test.YtggjomdndfacgaaGreatDoorRunU2
import Derived.Test.YtggjomdndfacgaaGreatDoorRunT3
import Derived.Test.YtggjomdndfacgaaGreatDoorRunU3
import Derived.Test.YtggjomdndfacgaaGreatDoorUs1
set_option linter.unusedSectionVars false
set_option linter.unusedVariables false
set_option linter.unusedSimpArgs false
namespace Go.AM
theorem tRow_all : ∀ n, n < 40 → tRow n = true
  | 0, _ => tRow_0
  | 1, _ => tRow_1
  | 2, _ => tRow_2
  | 3, _ => tRow_3
  | 4, _ => tRow_4
  | 5, _ => tRow_5
  | 6, _ => tRow_6
  | 7, _ => tRow_7
  | 8, _ => tRow_8
  | 9, _ => tRow_9
  | 10, _ => tRow_10
  | 11, _ => tRow_11
  | 12, _ => tRow_12
  | 13, _ => tRow_13
  | 14, _ => tRow_14
  | 15, _ => tRow_15
  | 16, _ => tRow_16
  | 17, _ => tRow_17
  | 18, _ => tRow_18
  | 19, _ => tRow_19
  | 20, _ => tRow_20
  | 21, _ => tRow_21
  | 22, _ => tRow_22
  | 23, _ => tRow_23
  | 24, _ => tRow_24
  | 25, _ => tRow_25
  | 26, _ => tRow_26
  | 27, _ => tRow_27
  | 28, _ => tRow_28
  | 29, _ => tRow_29
  | 30, _ => tRow_30
  | 31, _ => tRow_31
  | 32, _ => tRow_32
  | 33, _ => tRow_33
  | 34, _ => tRow_34
  | 35, _ => tRow_35
  | 36, _ => tRow_36
  | 37, _ => tRow_37
  | 38, _ => tRow_38
  | 39, _ => tRow_39
  | n + 40, h => absurd h (by omega)
theorem uRow_all : ∀ n, n < 40 → uRow n = true
  | 0, _ => uRow_0
  | 1, _ => uRow_1
  | 2, _ => uRow_2
  | 3, _ => uRow_3
  | 4, _ => uRow_4
  | 5, _ => uRow_5
  | 6, _ => uRow_6
  | 7, _ => uRow_7
  | 8, _ => uRow_8
  | 9, _ => uRow_9
  | 10, _ => uRow_10
  | 11, _ => uRow_11
  | 12, _ => uRow_12
  | 13, _ => uRow_13
  | 14, _ => uRow_14
  | 15, _ => uRow_15
  | 16, _ => uRow_16
  | 17, _ => uRow_17
  | 18, _ => uRow_18
  | 19, _ => uRow_19
  | 20, _ => uRow_20
  | 21, _ => uRow_21
  | 22, _ => uRow_22
  | 23, _ => uRow_23
  | 24, _ => uRow_24
  | 25, _ => uRow_25
  | 26, _ => uRow_26
  | 27, _ => uRow_27
  | 28, _ => uRow_28
  | 29, _ => uRow_29
  | 30, _ => uRow_30
  | 31, _ => uRow_31
  | 32, _ => uRow_32
  | 33, _ => uRow_33
  | 34, _ => uRow_34
  | 35, _ => uRow_35
  | 36, _ => uRow_36
  | 37, _ => uRow_37
  | 38, _ => uRow_38
  | 39, _ => uRow_39
  | n + 40, h => absurd h (by omega)
end Go.AM

namespace Go.AM
open Go.Proofs

/- ### what a write ends in -/
theorem nthU_eq : ∀ (k : Nat) (l : List AVal), nthU k l = (l[k]?).getD .bad
  | k, [] => by cases k <;> rfl
  | 0, x :: l => rfl
  | k + 1, x :: l => by
    rw [List.getElem?_cons_succ, ← nthU_eq k l]; rfl
theorem newU_shape {x y : Bool} {v : AVal} (h : v ∈ newU x y) : (∃ k n, v = .int k n) ∨ (∃ i, v = .opq i) ∨ v = .str [] := by
  have h1 : ∀ i x, v ∈ valU i x → (∃ k n, v = .int k n) ∨ (∃ i, v = .opq i) ∨ v = .str [] := fun i x h => by
    unfold valU at h
    rw [cond_if] at h
    split at h <;> (simp only [List.mem_cons, List.not_mem_nil, or_false] at h; rcases h with rfl | rfl | rfl)
    · exact .inl ⟨_, _, rfl⟩
    · exact .inl ⟨_, _, rfl⟩
    · exact .inr (.inr rfl)
    · exact .inl ⟨_, _, rfl⟩
    · exact .inr (.inl ⟨_, rfl⟩)
    · exact .inr (.inr rfl)
  unfold newU at h
  rw [appV_eq] at h
  rcases List.mem_append.1 h with h | h
  · exact h1 _ _ h
  · exact h1 _ _ h
theorem newU_un {T : Tok} {φ φ' : Phi} {x y : Bool} {v : AVal} (h : v ∈ newU x y) {c c' : Value} (h1 : @VRel T φ v c) (h2 : @VRel T φ' v c') : c = c' := by
  rcases newU_shape h with ⟨k, n, rfl⟩ | ⟨i, rfl⟩ | rfl
  · cases h1; cases h2; rfl
  · cases h1; cases h2; rfl
  · rw [str_un h1, str_un h2]
theorem new_rel {T : Tok} {φ : Phi} {r : RowD} (h5 : T.val 500 = .int .i64 (r.a : Int)) (h6 : T.val 501 = .int .i64 (r.b : Int)) : @VsRel T φ (newU (Nat.beq r.a 4) (Nat.beq r.b 4)) (cells2 r) := by
  have hv : ∀ (i a : Nat), T.val i = .int .i64 (a : Int) → @VsRel T φ (valU i (Nat.beq a 4)) (cellsV a) := fun i a hT => by
    have hs : @VRel T φ (.str []) (.string ByteArray.empty) := @VRel.str T φ [] ByteArray.empty rfl
    unfold valU cellsV
    rw [cond_if]
    by_cases e : a = 4
    · rw [if_pos (beq_true.2 e), if_pos e]
      exact @VsRel.cons T φ _ _ _ _ (@VRel.int T φ .i64 0) (@VsRel.cons T φ _ _ _ _ (@VRel.int T φ .i64 0) (@VsRel.cons T φ _ _ _ _ hs (@VsRel.nil T φ)))
    · rw [if_neg (fun hb => e (beq_true.1 hb)), if_neg e]
      refine @VsRel.cons T φ _ _ _ _ (@VRel.int T φ .i64 2) (@VsRel.cons T φ _ _ _ _ ?_ (@VsRel.cons T φ _ _ _ _ hs (@VsRel.nil T φ)))
      rw [← hT]; exact @VRel.opq T φ i
  unfold newU
  rw [appV_eq]
  exact vsrel_app (hv 500 r.a h5) (hv 501 r.b h6)
theorem utNs_3 (κ : Bool) (m : Mem) (n : Nat) (l : List Nat) : ∃ l', utNs κ m 3 n l = 3 :: l' := ⟨_, rfl⟩
theorem end_gen {κ : Bool} {rows rows' : List RowD} {L : List AVal} {f : Nat → Value} {hf : ∀ j, (f j).oneCell' = true} {φ : Phi} {m : Mem} {w : World} {own : Nat → Nat} {tag : Nat} {sp : Value} {x3 : Img} (hr : @Rel (tokS f hf rows) TZ φ m w) (ho : OwnAt φ m own tag) (h0 : own 0 = 0) (h3 : φ 3 = some x3) (hsp : sp = ptrV x3)
    (hpre : ∀ k, k < 6 * rows.length → (valsOf rows')[k]? = (valsOf rows)[k]?) (hL : ∀ k x, L[k]? = some x → ∀ φ c, @VRel (tokS f hf rows) φ x c → (valsOf rows')[6 * rows.length + k]? = some c)
    (habs : absMem ⟨2, utNs κ m 3 rows'.length [], [], fun _ => .bad, opU rows.length L⟩ 0 b00 (utL κ rows'.length []) m = true) : StoAt κ rows' sp tag own w := by
  refine ⟨_, x3, fun f' hf' => (absorb (T := tokS f hf rows) (T' := tokS f' hf' rows') (σ := ⟨2, utNs κ m 3 rows'.length [], [], fun _ => .bad, opU rows.length L⟩) tz_glob.symm hr habs (fun _ j c hj _ => absurd hj (Nat.not_lt_zero _)) (fun kk d s c hs _ => (aeq_bad hs).elim) (fun i s c hs hc => ?_) (fun b o h => by cases h) (fun h => by cases h)).1, ?_, hsp, own_abs hr ho h0 rfl habs⟩
  · have hs' : aeqN 2 s (opU rows.length L i) = true := hs
    unfold opU at hs'
    rw [cond_if] at hs'
    split at hs'
    · exact (aeq_bad hs').elim
    rename_i hge
    rw [ble_true] at hge
    have hi : 1000 ≤ i := by omega
    have val : ∀ c, (valsOf rows')[i - 1000]? = some c → @VRel (tokS f' hf' rows') (absPhi ⟨2, utNs κ m 3 rows'.length [], [], fun _ => .bad, opU rows.length L⟩ φ) (.opq i) c := fun c hc => by
      have e : c = (tokS f' hf' rows').val i := by
        show c = if i < 1000 then _ else _
        rw [if_neg (by omega), hc]; rfl
      rw [e]; exact @VRel.opq (tokS f' hf' rows') _ i
    rw [cond_if] at hs'
    split at hs'
    · rename_i hlt
      rw [ble_true] at hlt
      have hlt' : i + 1 ≤ 1000 + 6 * rows.length := hlt
      have e := @aeqN_eq tok0 2 _ _ hs'
      subst e
      have e2 := opq_is hc
      refine val c ?_
      rw [hpre _ (by omega), e2]
      show _ = some (if i < 1000 then _ else _)
      rw [if_neg (by omega), List.getElem?_eq_getElem (by rw [valsOf_len]; omega)]
      rfl
    · rename_i hlt
      rw [ble_true] at hlt
      have hlt' : ¬ i + 1 ≤ 1000 + 6 * rows.length := hlt
      have e := @aeqN_eq tok0 2 _ _ hs'
      subst e
      rw [nthU_eq] at hc hs'
      have hk : Nat.sub i (Nat.add 1000 (Nat.mul 6 rows.length)) = i - 1000 - 6 * rows.length := by
        show i - (1000 + 6 * rows.length) = _
        omega
      rw [hk] at hc hs'
      cases hq : L[i - 1000 - 6 * rows.length]? with
      | none =>
        rw [hq] at hs'
        exact (aeq_bad hs').elim
      | some x =>
        rw [hq] at hc
        refine val c ?_
        have := hL _ x hq φ c hc
        rwa [show 6 * rows.length + (i - 1000 - 6 * rows.length) = i - 1000 by omega] at this
  · obtain ⟨l', hl'⟩ := utNs_3 κ m rows'.length []
    rw [hl']
    unfold absPhi
    rw [if_pos (by rw [top_eq]; show 3 < 2 + 1 + (3 :: l').length; rw [List.length_cons]; omega)]
    exact h3
/-- an error of Write -/
def ErrW (own : Nat → Nat) (tag : Nat) (w : World) (e : Value) : Prop :=
  ∃ (x1 x2 : Img) (v1 : Value) (vs : List Value), e = .iface 118 (ptrV x1) ∧ CellsAt (heapOf w) x1 [v1, .iface 118 (ptrV x2)] ∧ CellsAt (heapOf w) x2 vs ∧ (∀ T φ, @VRel T φ (.str [116]) v1) ∧ (∀ T φ, @VsRel T φ errA vs) ∧ (own x1.1 = 0 ∨ own x1.1 = tag) ∧ (own x2.1 = 0 ∨ own x2.1 = tag)
theorem err_end {T : Tok} (hst : T.strong = false) {φ : Phi} {m : Mem} {w : World} {own : Nat → Nat} {tag : Nat} (hr : @Rel T TZ φ m w) (ho : OwnAt φ m own tag) (h0 : own 0 = 0) {q q2 : Nat} {e : Value} (he : @VRel T φ (.iface 118 (.ptr q 0)) e)
    (habs : absMem ⟨2, [q, q2], [], fun _ => .bad, fun _ => .bad⟩ 0 b00 (errU 3) m = true) : ErrW own tag w e := by
  obtain ⟨r1, r2⟩ := absorb (T := T) (T' := T) (σ := ⟨2, [q, q2], [], fun _ => .bad, fun _ => .bad⟩) tz_glob.symm hr habs (fun _ j c hj _ => absurd hj (Nat.not_lt_zero _)) (fun kk d s c hs _ => (aeq_bad hs).elim) (fun i s c hs hc => (aeq_bad hs).elim) (fun _ _ h => h) (fun h => by rw [hst] at h; cases h)
  have hown := own_abs hr ho h0 (σ := ⟨2, [q, q2], [], fun _ => .bad, fun _ => .bad⟩) rfl habs
  obtain ⟨b1, b2⟩ := mkMem_at0 (b0 := b00) (l := errU 3) (by show 2 + 1 + 2 ≤ 65536; decide) (i := 0) rfl
  obtain ⟨c1, c2⟩ := mkMem_at0 (b0 := b00) (l := errU 3) (by show 2 + 1 + 2 ≤ 65536; decide) (i := 1) rfl
  obtain ⟨x1, vs1, g1, g2, g3⟩ := of_brel (P := TZ) tellsAll r1 b1 b2
  obtain ⟨x2, vs2, k1, k2, k3⟩ := of_brel (P := TZ) tellsAll r1 c1 c2
  have g1' : φ q = some x1 := g1
  cases he with
  | iface _ _ c hc =>
    have hc' := ptr_is hc g1'
    subst hc'
    cases g3 with
    | cons s1 g3 =>
    cases g3 with
    | cons s2 g3 =>
    cases g3
    cases s2 with
    | iface _ _ c2v hc2 =>
      have hc2' := ptr_is hc2 k1
      subst hc2'
      cases s1 with
      | str _ t ht =>
        exact ⟨x1, x2, _, vs2, rfl, g2, k2, fun T' φ' => @VRel.str T' φ' [116] t ht, fun T' φ' => errA_any k3, hown.live 3 _ _ _ b1 (by rw [b2]; rfl) g1, hown.live 4 _ _ _ c1 (by rw [c2]; rfl) k1⟩
theorem sameL_eq {l l' : List AVal} (h : sameL l l' = true) : l' = l := by
  unfold sameL at h
  simp only [Bool.and_eq_true, beq_true, lenL_eq] at h
  have := zip_pre h.2 (by omega)
  rw [List.take_of_length_le (by omega)] at this
  exact this
theorem slice_is {T : Tok} {φ : Phi} {b n z : Nat} {c : Value} {x : Img} (hn : 0 < n) (h : @VRel T φ (.slice b 0 n n true z) c) (hφ : φ b = some x) : c = .slice (some ⟨x.1, x.2.1, none⟩) n n := by
  cases h with
  | slice _ _ _ _ _ _ cb co sz o' cap' q1 q2 q3 q4 q5 q6 =>
    rw [hφ] at q1
    cases q1
    have ho := q5 (by omega)
    have hc := q4 rfl
    subst hc
    rw [ho]; rfl
end Go.AM

namespace Go.AM
open Go.Proofs

/- ### t.Write and u.Write of a row in the law -/
/-- the law's registers as tokens -/
def lawF (cs : List Value) (a b : Nat) (j : Nat) : Value := if j = 500 then .int .i64 (a : Int) else if j = 501 then .int .i64 (b : Int) else (cs[j]?).getD nilS
theorem lawF_cell {cs : List Value} (h : ∀ c, c ∈ cs → c.oneCell' = true) (a b j : Nat) : (lawF cs a b j).oneCell' = true := by
  unfold lawF
  split
  · rfl
  · split
    · rfl
    · cases hj : cs[j]? with
      | none => rfl
      | some c => exact h c (List.mem_of_getElem? hj)
theorem r17_g : [R17].all (gCode TZ.globals.size) = true := by kernel_rfl
theorem s18_g : [S18].all (gCode TZ.globals.size) = true := by kernel_rfl
/-- what both writes ask of the rows and the new row -/
structure NewRow (rows : List RowD) (r : RowD) : Prop where
  len : rows.length ≤ 39
  oks : ∀ s, s ∈ rows → RowOk s
  row : RowOk r
  ids : ∀ i s, rows[i]? = some s → s.id = i + 1
  id : r.id = rows.length + 1
/-- the row's values as a slice shows them -/
def VAt (H : Heap) (v : Value) (xv : Img) (r : RowD) : Prop := v = .slice (some ⟨xv.1, xv.2.1, none⟩) 2 2 ∧ xv.2.1 + 6 ≤ xv.2.2 ∧ CellsAt H xv (cells2 r)
theorem dup_full {rows : List RowD} {r : RowD} (h : NoDup rows) (hd : ¬ NoDup (rows ++ [r])) : ∃ s, s ∈ rows ∧ Same s r := by
  apply Classical.byContradiction
  intro hno
  refine hd (List.pairwise_append.2 ⟨h, List.pairwise_singleton _ _, fun s hs t ht hS => ?_⟩)
  rw [List.mem_singleton] at ht
  subst ht
  exact hno ⟨s, hs, hS⟩
theorem beq4 {a : Nat} (h : a < 4) : Nat.beq a 4 = false := by
  cases hb : Nat.beq a 4 with
  | false => rfl
  | true => rw [beq_true] at hb; omega
theorem notnull {r : RowD} (h : RowOk r) : (Nat.beq r.a 4 = false ∧ Nat.beq r.b 4 = false) ∨ (Nat.beq r.a 4 = true ∧ Nat.beq r.b 4 = false) ∨ (Nat.beq r.a 4 = false ∧ Nat.beq r.b 4 = true) := by
  have := h.nn
  cases h1 : Nat.beq r.a 4 <;> cases h2 : Nat.beq r.b 4
  · exact .inl ⟨rfl, rfl⟩
  · exact .inr (.inr ⟨rfl, rfl⟩)
  · exact .inr (.inl ⟨rfl, rfl⟩)
  · rw [beq_true] at h1 h2
    exact absurd ⟨h1, h2⟩ this
theorem vals_get {T : Tok} {φ : Phi} {a : Act} {ts : List Nat} {vs : List AVal} (h : @VsRel T φ vs (valsT ts a)) {i t : Nat} {v : AVal} (h1 : vs[i]? = some v) (h2 : ts[i]? = some t) : @VRel T φ v (a.tmps.getD t undef) := by
  obtain ⟨c, g1, g2⟩ := @VsRel.get T φ _ _ h i v h1
  unfold valsT at g1
  rw [List.getElem?_map, h2] at g1
  cases g1
  exact g2
def SameRegs (ts : List Nat) (a a' : Act) : Prop := ∀ t, t ∈ ts → a'.tmps.getD t undef = a.tmps.getD t undef
section
variable {rows : List RowD} {r : RowD} {sp : Value} {own : Nat → Nat} {w : World} {xv : Img} {v : Value} {a : Act}
theorem tWrite (hN : NewRow rows r) (hnd : NoDup rows) (hS : StoAt true rows sp 1 own w) (h00 : own 0 = 0) (hV : VAt (heapOf w) v xv r) (hvo : own xv.1 = 0) (ha : ActIs 129 a) (g3 : a.tmps.getD 3 undef = sp) (g8 : a.tmps.getD 8 undef = v)
    (hc : ∀ t, t ∈ [0, 4, 5, 6, 7, 9] → (a.tmps.getD t undef).oneCell' = true) (h0w : 0 < w.heap.size) {rest : Code} {Q : Exit → Act → World → Prop}
    (hok : NoDup (rows ++ [r]) → ∀ a' w', ActIs 129 a' → SameRegs [0, 3, 4, 5, 6, 7, 8, 9] a a' → a'.tmps.getD 10 undef = .nilIface → LeftO own 1 w w' → StoAt true (rows ++ [r]) sp 1 (extO own w 1) w' → rest.wp TZ Q a' w')
    (hbad : ¬ NoDup (rows ++ [r]) → ∀ a' w', ActIs 129 a' → SameRegs [0, 3, 4, 5, 6, 7, 8, 9] a a' → ErrW (extO own w 1) 1 w' (a'.tmps.getD 10 undef) → LeftO own 1 w w' → StoAt true rows sp 1 (extO own w 1) w' → rest.wp TZ Q a' w') : (Code.seq R17 rest).wp TZ Q a w := by
  obtain ⟨hv1, hv2, hv3⟩ := hV
  obtain ⟨bad, hbd⟩ : ∃ bad : Bool, (bad = false ↔ NoDup (rows ++ [r])) := by
    by_cases h : NoDup (rows ++ [r])
    · exact ⟨false, ⟨fun _ => h, fun _ => rfl⟩⟩
    · exact ⟨true, ⟨fun e => (by cases e), fun e => absurd e h⟩⟩
  have hrow := tRow_all rows.length (by have := hN.len; omega)
  unfold tRow at hrow
  simp only [Bool.and_eq_true] at hrow
  have hrun : runT bad rows.length (Nat.beq r.a 4) (Nat.beq r.b 4) = true := by
    cases bad with
    | false =>
      rcases notnull hN.row with ⟨e1, e2⟩ | ⟨e1, e2⟩ | ⟨e1, e2⟩ <;> rw [e1, e2]
      · exact hrow.1.1
      · exact hrow.2.1
      · exact hrow.2.2
    | true =>
      have hd : ¬ NoDup (rows ++ [r]) := fun h => by cases hbd.2 h
      obtain ⟨s, _, s1, s2, s3, s4⟩ := dup_full hnd hd
      rw [beq4 (by omega), beq4 (by omega)]
      exact hrow.1.2
  let cs : List Value := [a.tmps.getD 0 undef, a.tmps.getD 4 undef, a.tmps.getD 5 undef, a.tmps.getD 6 undef, a.tmps.getD 7 undef, a.tmps.getD 9 undef]
  have hcs : ∀ c, c ∈ cs → c.oneCell' = true := fun c hcm => by
    simp only [cs, List.mem_cons, List.not_mem_nil, or_false] at hcm
    rcases hcm with rfl | rfl | rfl | rfl | rfl | rfl
    · exact hc 0 (by decide)
    · exact hc 4 (by decide)
    · exact hc 5 (by decide)
    · exact hc 6 (by decide)
    · exact hc 7 (by decide)
    · exact hc 9 (by decide)
  have hf := lawF_cell hcs r.a r.b
  unfold runT tRun at hrun
  split at hrun
  rotate_left
  · cases hrun
  rename_i e l mf hq
  rw [Bool.and_eq_true] at hrun
  obtain ⟨hs, hend⟩ := hrun
  have hs' := sameL_eq hs
  subst hs'
  refine write_core (f := lawF cs r.a r.b) (hf := hf) hN.len (by decide) hS hv3 hvo rfl rfl (ku_ok hN.len hN.oks hN.row hN.ids hN.id (fun e => hbd.1 e) (fun e h => by rw [hbd.2 h] at e; cases e) rfl rfl) r17_g hq ha (fun φ x3 q1 q2 q3 p hp => ?_) (rest := rest) fun φ x3 a' w' ha' q1 q2 q3 hvs hleft hrel hown => ?_
  · have tk : ∀ j c, cs[j]? = some c → @VRel (tokS (lawF cs r.a r.b) hf rows) φ (.opq j) c := fun j c hj => by
      have hjl := getElem?_lt hj
      have hjl' : j < 6 := hjl
      have e : c = (tokS (lawF cs r.a r.b) hf rows).val j := by
        show c = if j < 1000 then lawF cs r.a r.b j else _
        rw [if_pos (by omega)]
        unfold lawF
        rw [if_neg (by omega), if_neg (by omega), hj]; rfl
      rw [e]; exact @VRel.opq (tokS (lawF cs r.a r.b) hf rows) φ j
    simp only [tRegs, List.mem_cons, List.not_mem_nil, or_false] at hp
    rcases hp with rfl | rfl | rfl | rfl | rfl | rfl | rfl | rfl
    · exact ⟨(by decide : 0 < 4096), tk 0 _ rfl⟩
    · refine ⟨(by decide : 3 < 4096), ?_⟩
      show @VRel (tokS (lawF cs r.a r.b) hf rows) φ (.ptr 3 0) (a.tmps.getD 3 undef)
      rw [g3, q2]; exact @VRel.ptr (tokS (lawF cs r.a r.b) hf rows) φ 3 0 x3.1 x3.2.1 x3.2.2 q1
    · exact ⟨(by decide : 4 < 4096), tk 1 _ rfl⟩
    · exact ⟨(by decide : 5 < 4096), tk 2 _ rfl⟩
    · exact ⟨(by decide : 6 < 4096), tk 3 _ rfl⟩
    · exact ⟨(by decide : 7 < 4096), tk 4 _ rfl⟩
    · refine ⟨(by decide : 8 < 4096), ?_⟩
      show @VRel (tokS (lawF cs r.a r.b) hf rows) φ (.slice (vAt true rows.length) 0 2 2 true 3) (a.tmps.getD 8 undef)
      rw [g8, hv1]
      exact @VRel.slice (tokS (lawF cs r.a r.b) hf rows) φ (vAt true rows.length) 0 2 2 true 3 xv.1 xv.2.1 xv.2.2 xv.2.1 2 q3 (Nat.le_refl _) (Nat.le_refl _) (fun _ => rfl) (fun _ => rfl) (by omega)
    · exact ⟨(by decide : 9 < 4096), tk 5 _ rfl⟩
  · have tk : ∀ j c, cs[j]? = some c → (tokS (lawF cs r.a r.b) hf rows).val j = c := fun j c hj => by
      have hjl := getElem?_lt hj
      have hjl' : j < 6 := hjl
      show (if j < 1000 then lawF cs r.a r.b j else _) = c
      rw [if_pos (by omega)]
      unfold lawF
      rw [if_neg (by omega), if_neg (by omega), hj]; rfl
    have hsame : SameRegs [0, 3, 4, 5, 6, 7, 8, 9] a a' := fun t ht => by
      simp only [List.mem_cons, List.not_mem_nil, or_false] at ht
      rcases ht with rfl | rfl | rfl | rfl | rfl | rfl | rfl | rfl
      · rw [opq_is (vals_get hvs (i := 1) (t := 0) rfl rfl)]; exact tk 0 _ rfl
      · rw [ptr_is (vals_get hvs (i := 2) (t := 3) rfl rfl) q2, g3, q1]
      · rw [opq_is (vals_get hvs (i := 3) (t := 4) rfl rfl)]; exact tk 1 _ rfl
      · rw [opq_is (vals_get hvs (i := 4) (t := 5) rfl rfl)]; exact tk 2 _ rfl
      · rw [opq_is (vals_get hvs (i := 5) (t := 6) rfl rfl)]; exact tk 3 _ rfl
      · rw [opq_is (vals_get hvs (i := 6) (t := 7) rfl rfl)]; exact tk 4 _ rfl
      · rw [slice_is (by decide) (vals_get hvs (i := 7) (t := 8) rfl rfl) q3, g8, hv1]
      · rw [opq_is (vals_get hvs (i := 8) (t := 9) rfl rfl)]; exact tk 5 _ rfl
    have h10 := vals_get hvs (i := 0) (t := 10) rfl rfl
    have h00' : extO own w 1 0 = 0 := by rw [extO_lt h0w]; exact h00
    cases bad with
    | false =>
      have hend' : wOk true rows.length (Nat.beq r.a 4) (Nat.beq r.b 4) e mf = true := hend
      unfold wOk at hend'
      rw [Bool.and_eq_true] at hend'
      obtain ⟨he, habs⟩ := hend'
      have he' := @aeqN_eq tok0 2 _ _ he
      subst he'
      have hlen : (rows ++ [r]).length = Nat.succ rows.length := by simp
      refine hok (hbd.1 rfl) a' w' ha' hsame ?_ hleft (end_gen hrel hown h00' q2 q1 (L := newU (Nat.beq r.a 4) (Nat.beq r.b 4)) (fun k hk => ?_) (fun k x hk φ' c hx => ?_) (by rw [hlen]; exact habs))
      · generalize a'.tmps.getD 10 undef = c at h10
        cases h10; rfl
      · rw [valsOf_app, List.getElem?_append_left (by rw [valsOf_len]; exact hk)]
      · rw [valsOf_app, List.getElem?_append_right (by rw [valsOf_len]; omega), valsOf_len, show 6 * rows.length + k - 6 * rows.length = k by omega]
        obtain ⟨c', k1, k2⟩ := @VsRel.get (tokS (lawF cs r.a r.b) hf rows) φ' _ _ (new_rel (T := tokS (lawF cs r.a r.b) hf rows) (φ := φ') rfl rfl) k x hk
        rw [k1, newU_un (List.mem_of_getElem? hk) k2 hx]
    | true =>
      have hend' : wBad true rows.length e mf = true := hend
      unfold wBad at hend'
      split at hend'
      rotate_left
      · cases hend'
      rw [Bool.and_eq_true] at hend'
      obtain ⟨ha1, ha2⟩ := hend'
      refine hbad (fun h => by cases hbd.2 h) a' w' ha' hsame (err_end (T := tokS (lawF cs r.a r.b) hf rows) rfl hrel hown h00' h10 ha2) hleft (end_gen hrel hown h00' q2 q1 (L := []) (fun k hk => rfl) (fun k x hk => by simp at hk) ha1)
theorem uWrite (hN : NewRow rows r) (hS : StoAt false rows sp 2 own w) (h00 : own 0 = 0) (hV : VAt (heapOf w) v xv r) (hvo : own xv.1 = 0) (ha : ActIs 129 a) (g4 : a.tmps.getD 4 undef = sp) (g8 : a.tmps.getD 8 undef = v)
    (hc : ∀ t, t ∈ [0, 3, 5, 6, 7, 9, 10] → (a.tmps.getD t undef).oneCell' = true) (h0w : 0 < w.heap.size) {rest : Code} {Q : Exit → Act → World → Prop}
    (hok : ∀ a' w', ActIs 129 a' → SameRegs [0, 3, 4, 5, 6, 7, 9, 10] a a' → LeftO own 2 w w' → StoAt false (rows ++ [r]) sp 2 (extO own w 2) w' → rest.wp TZ Q a' w') : (Code.seq S18 rest).wp TZ Q a w := by
  obtain ⟨hv1, hv2, hv3⟩ := hV
  have hrow := uRow_all rows.length (by have := hN.len; omega)
  unfold uRow at hrow
  simp only [Bool.and_eq_true] at hrow
  have hrun : runU rows.length (Nat.beq r.a 4) (Nat.beq r.b 4) = true := by
    rcases notnull hN.row with ⟨e1, e2⟩ | ⟨e1, e2⟩ | ⟨e1, e2⟩ <;> rw [e1, e2]
    · exact hrow.1
    · exact hrow.2.1
    · exact hrow.2.2
  let cs : List Value := [a.tmps.getD 0 undef, a.tmps.getD 3 undef, a.tmps.getD 5 undef, a.tmps.getD 6 undef, a.tmps.getD 7 undef, a.tmps.getD 9 undef, a.tmps.getD 10 undef]
  have hcs : ∀ c, c ∈ cs → c.oneCell' = true := fun c hcm => by
    simp only [cs, List.mem_cons, List.not_mem_nil, or_false] at hcm
    rcases hcm with rfl | rfl | rfl | rfl | rfl | rfl | rfl
    · exact hc 0 (by decide)
    · exact hc 3 (by decide)
    · exact hc 5 (by decide)
    · exact hc 6 (by decide)
    · exact hc 7 (by decide)
    · exact hc 9 (by decide)
    · exact hc 10 (by decide)
  have hf := lawF_cell hcs r.a r.b
  unfold runU uRun at hrun
  split at hrun
  rotate_left
  · cases hrun
  rename_i l mf hq
  rw [Bool.and_eq_true] at hrun
  obtain ⟨hs, hend⟩ := hrun
  have hs' := sameL_eq hs
  subst hs'
  refine write_core (f := lawF cs r.a r.b) (hf := hf) hN.len (by decide) hS hv3 hvo rfl rfl k0_ok s18_g hq ha (fun φ x3 q1 q2 q3 p hp => ?_) (rest := rest) fun φ x3 a' w' ha' q1 q2 q3 hvs hleft hrel hown => ?_
  · have tk : ∀ j c, cs[j]? = some c → @VRel (tokS (lawF cs r.a r.b) hf rows) φ (.opq j) c := fun j c hj => by
      have hjl := getElem?_lt hj
      have hjl' : j < 7 := hjl
      have e : c = (tokS (lawF cs r.a r.b) hf rows).val j := by
        show c = if j < 1000 then lawF cs r.a r.b j else _
        rw [if_pos (by omega)]
        unfold lawF
        rw [if_neg (by omega), if_neg (by omega), hj]; rfl
      rw [e]; exact @VRel.opq (tokS (lawF cs r.a r.b) hf rows) φ j
    simp only [uRegs, List.mem_cons, List.not_mem_nil, or_false] at hp
    rcases hp with rfl | rfl | rfl | rfl | rfl | rfl | rfl | rfl | rfl
    · exact ⟨(by decide : 0 < 4096), tk 0 _ rfl⟩
    · exact ⟨(by decide : 3 < 4096), tk 1 _ rfl⟩
    · refine ⟨(by decide : 4 < 4096), ?_⟩
      show @VRel (tokS (lawF cs r.a r.b) hf rows) φ (.ptr 3 0) (a.tmps.getD 4 undef)
      rw [g4, q2]; exact @VRel.ptr (tokS (lawF cs r.a r.b) hf rows) φ 3 0 x3.1 x3.2.1 x3.2.2 q1
    · exact ⟨(by decide : 5 < 4096), tk 2 _ rfl⟩
    · exact ⟨(by decide : 6 < 4096), tk 3 _ rfl⟩
    · exact ⟨(by decide : 7 < 4096), tk 4 _ rfl⟩
    · refine ⟨(by decide : 8 < 4096), ?_⟩
      show @VRel (tokS (lawF cs r.a r.b) hf rows) φ (.slice (vAt false rows.length) 0 2 2 true 3) (a.tmps.getD 8 undef)
      rw [g8, hv1]
      exact @VRel.slice (tokS (lawF cs r.a r.b) hf rows) φ (vAt false rows.length) 0 2 2 true 3 xv.1 xv.2.1 xv.2.2 xv.2.1 2 q3 (Nat.le_refl _) (Nat.le_refl _) (fun _ => rfl) (fun _ => rfl) (by omega)
    · exact ⟨(by decide : 9 < 4096), tk 5 _ rfl⟩
    · exact ⟨(by decide : 10 < 4096), tk 6 _ rfl⟩
  · have tk : ∀ j c, cs[j]? = some c → (tokS (lawF cs r.a r.b) hf rows).val j = c := fun j c hj => by
      have hjl := getElem?_lt hj
      have hjl' : j < 7 := hjl
      show (if j < 1000 then lawF cs r.a r.b j else _) = c
      rw [if_pos (by omega)]
      unfold lawF
      rw [if_neg (by omega), if_neg (by omega), hj]; rfl
    have hsame : SameRegs [0, 3, 4, 5, 6, 7, 9, 10] a a' := fun t ht => by
      simp only [List.mem_cons, List.not_mem_nil, or_false] at ht
      rcases ht with rfl | rfl | rfl | rfl | rfl | rfl | rfl | rfl
      · rw [opq_is (vals_get hvs (i := 0) (t := 0) rfl rfl)]; exact tk 0 _ rfl
      · rw [opq_is (vals_get hvs (i := 1) (t := 3) rfl rfl)]; exact tk 1 _ rfl
      · rw [ptr_is (vals_get hvs (i := 2) (t := 4) rfl rfl) q2, g4, q1]
      · rw [opq_is (vals_get hvs (i := 3) (t := 5) rfl rfl)]; exact tk 2 _ rfl
      · rw [opq_is (vals_get hvs (i := 4) (t := 6) rfl rfl)]; exact tk 3 _ rfl
      · rw [opq_is (vals_get hvs (i := 5) (t := 7) rfl rfl)]; exact tk 4 _ rfl
      · rw [opq_is (vals_get hvs (i := 6) (t := 9) rfl rfl)]; exact tk 5 _ rfl
      · rw [opq_is (vals_get hvs (i := 7) (t := 10) rfl rfl)]; exact tk 6 _ rfl
    have h00' : extO own w 2 0 = 0 := by rw [extO_lt h0w]; exact h00
    unfold wOk at hend
    rw [Bool.and_eq_true] at hend
    obtain ⟨_, habs⟩ := hend
    have hlen : (rows ++ [r]).length = Nat.succ rows.length := by simp
    refine hok a' w' ha' hsame hleft (end_gen hrel hown h00' q2 q1 (L := newU (Nat.beq r.a 4) (Nat.beq r.b 4)) (fun k hk => ?_) (fun k x hk φ' c hx => ?_) (by rw [hlen]; exact habs))
    · rw [valsOf_app, List.getElem?_append_left (by rw [valsOf_len]; exact hk)]
    · rw [valsOf_app, List.getElem?_append_right (by rw [valsOf_len]; omega), valsOf_len, show 6 * rows.length + k - 6 * rows.length = k by omega]
      obtain ⟨c', k1, k2⟩ := @VsRel.get (tokS (lawF cs r.a r.b) hf rows) φ' _ _ (new_rel (T := tokS (lawF cs r.a r.b) hf rows) (φ := φ') rfl rfl) k x hk
      rw [k1, newU_un (List.mem_of_getElem? hk) k2 hx]
end
end Go.AM

namespace Go.AM
open Go.Proofs

/- ### the front of a round -/
def rowZ (z id : Nat) : RowD := ⟨id, if 200 ≤ z ∧ z % 2 = 0 then 4 else z % 4, if 200 ≤ z ∧ z % 2 = 1 then 4 else z / 4 % 4⟩
theorem tz_s5 (w : World) : (sizeOf 5).run TZ w = .ok 1 w := by have := @run_sizeOf' tok0 TZ w 5 tz_has5; rwa [tz_sz5] at this
theorem tz_a5 (w : World) : (isAgg 5).run TZ w = .ok false w := by have := @run_isAgg' tok0 TZ w 5 tz_has5; rwa [show aggB TZ 5 = false by kernel_rfl] at this
theorem put_defers (a : Act) (d : Option Nat) (v : Value) : (a.put d v).defers = a.defers := by cases d <;> rfl
theorem anyH_take {ops : Array Oper} {Q : Exit → Act → World → Prop} {S : World → Prop} {i d : Nat} {op : Op} {fuel : Nat} {L : Array Bool} {a : Act} {w : World} (h : OpAt ops i d op) (hs : Region.noSelect ops = true) (hf : (Region.free .any ops L i && (Region.ready .any ops L).contains i) = true)
    (hQ : ∀ c a a' w, a.defers = a'.defers → Q (.panic c) a w → Q (.panic c) a' w) {v : Value} (hx : ∀ (o : Oper) (w : World), S w → o.op = op → (execOp a.eval o).run TZ w = .ok (.value v) w) (hS : S w)
    (hn : wpAnyH TZ .any ops Q S fuel (L.setIfInBounds i true) (a.put (some d) v) w) : wpAnyH TZ .any ops Q S (fuel + 1) L a w := by
  obtain ⟨o, h1, h2, h3, h4⟩ := h.is
  rw [Bool.and_eq_true] at hf
  refine wpAnyH_take h1 hs hf.1 hf.2 (fun c a w h => hQ c _ _ w (put_defers a o.dst _) h) (.inl ⟨?_, fun w hw => hx o w hw h4⟩) hS (by rw [h3]; exact hn)
  unfold Region.wanted; rw [h2]
theorem anyH_one {ops : Array Oper} {Q : Exit → Act → World → Prop} {S : World → Prop} {i d : Nat} {op : Op} {fuel : Nat} {L : Array Bool} {a : Act} {w w' : World} (h : OpAt ops i d op) (hr : Region.ready .any ops L = [i]) {v : Value} (hx : ∀ o : Oper, o.op = op → (execOp a.eval o).run TZ w = .ok (.value v) w') (hS : S w')
    (hn : wpAnyH TZ .any ops Q S fuel (L.setIfInBounds i true) (a.put (some d) v) w') : wpAnyH TZ .any ops Q S (fuel + 1) L a w := by
  obtain ⟨o, h1, h2, h3, h4⟩ := h.is
  refine wpAnyH_all hr (by simp) fun j hj => ?_
  rw [List.mem_singleton] at hj
  subst hj
  unfold wpOp
  rw [h1]
  simp only
  have hwant : Region.wanted o (yielded ops a.tmps) = true := by unfold Region.wanted; rw [h2]
  rw [if_pos hwant]
  left
  unfold Oper.wp
  rw [hx o h4, Oper.upon_value, h3]
  exact ⟨hS, hn⟩
section
variable {a : Act} {w : World} {o : Oper}
theorem run_rem4 {x t t2 k : Nat} (h : o.op = .binOp .rem t (.tmp x) (.const (.int .u8 (k : Int))) t2) (hk : 0 < k) {z : Nat} (hx : a.tmps.getD x undef = .int .u8 (z : Int)) : (execOp a.eval o).run TZ w = .ok (.value (.int .u8 ((z % k : Nat) : Int))) w := by
  have e : Int.tmod (z : Int) (k : Int) = (z : Int) % (k : Int) := Int.tmod_eq_emod_of_nonneg (Int.natCast_nonneg z)
  have hk' : ¬ (k : Int) = 0 := by omega
  have hk2 : ¬ k = 0 := by omega
  simp [execOp, h, Act.eval, hx, eqGuard, binOp, Op.intDiv, e, hk2]
theorem run_quo4 {x t t2 k : Nat} (h : o.op = .binOp .quo t (.tmp x) (.const (.int .u8 (k : Int))) t2) (hk : 0 < k) {z : Nat} (hz : z < 256) (hx : a.tmps.getD x undef = .int .u8 (z : Int)) : (execOp a.eval o).run TZ w = .ok (.value (.int .u8 ((z / k : Nat) : Int))) w := by
  have e : Int.tdiv (z : Int) (k : Int) = (z : Int) / (k : Int) := Int.tdiv_eq_ediv_of_nonneg (Int.natCast_nonneg z)
  have hk' : ¬ (k : Int) = 0 := by omega
  have hk2 : ¬ k = 0 := by omega
  have hle : z / k ≤ z := Nat.div_le_self z k
  have e2 : IntKind.wrap .u8 ((z : Int) / (k : Int)) = (z : Int) / (k : Int) := by
    have e3 : (z : Int) / (k : Int) = ((z / k : Nat) : Int) := rfl
    rw [e3]
    generalize z / k = q at hle ⊢
    simp [IntKind.wrap, IntKind.signed, IntKind.bits]
    omega
  simp [execOp, h, Act.eval, hx, eqGuard, binOp, Op.intDiv, e, e2, hk2]
theorem run_ge8 {x t t2 k : Nat} (h : o.op = .binOp .geq t (.tmp x) (.const (.int .u8 (k : Int))) t2) {z : Nat} (hx : a.tmps.getD x undef = .int .u8 (z : Int)) : (execOp a.eval o).run TZ w = .ok (.value (.bool (decide (k ≤ z)))) w := by
  simp [execOp, h, Act.eval, hx, eqGuard, binOp, Op.intCmp]
theorem tz_k5 : TZ.underlying 5 = some (.int .u8) := by kernel_rfl
theorem tz_k2 : TZ.underlying 2 = some (.int .i64) := by kernel_rfl
theorem run_cv {x : Nat} (h : o.op = .convert 5 2 (.tmp x)) {z : Nat} (hz : z < 256) (hx : a.tmps.getD x undef = .int .u8 (z : Int)) : (execOp a.eval o).run TZ w = .ok (.value (.int .i64 (z : Int))) w := by
  have e2 : IntKind.wrap .i64 (z : Int) = (z : Int) := by
    simp [IntKind.wrap, IntKind.signed, IntKind.bits]
    omega
  have hs := tz_k5
  have hd := tz_k2
  letI := tok0
  simp only [execOp, h]
  exact run_value (by simp [Act.eval, hx, convert, run_underlying hs, run_underlying hd, Conv.intToInt, e2])
def aggZ (a : Nat) : Value := .agg #[.int .i64 2, .int .i64 (a : Int), .string ByteArray.empty]
theorem built_38 (x : Int) : TZ.built 38 [(0, .int .i64 2), (1, .int .i64 x)] = some #[.int .i64 2, .int .i64 x, .string ByteArray.empty] := by kernel_rfl
theorem run_bld {x : Nat} (h : o.op = .build 38 #[(0, .const (.int .i64 2)), (1, .tmp x)]) {z : Nat} (hx : a.tmps.getD x undef = .int .i64 (z : Int)) : (execOp a.eval o).run TZ w = .ok (.value (aggZ z)) w := by
  letI := tok0
  simp only [execOp, h]
  refine run_value (run_build w 38 _ _ ?_)
  simp only [Act.eval, hx, List.map_toArray, List.map_cons, List.map_nil]
  exact built_38 z
theorem tz_u49 : TZ.underlying 49 = some (.slice 38) := by kernel_rfl
theorem tz_has38 : hasT TZ 38 = true := by kernel_rfl
theorem tz_z38 : (TZ.info? 38).bind (·.zero) = some (.agg #[.int .i64 0, .int .i64 0, .string ByteArray.empty]) := by kernel_rfl
theorem tz_le38 : 2 * szOf TZ 38 ≤ 2 ^ 24 := by rw [show szOf TZ 38 = 3 by kernel_rfl]; decide
theorem fill38 (x y : Int) : Instr.fill (fun i => some (i * szOf TZ 38, szOf TZ 38)) (madeCells (Value.agg #[.int .i64 0, .int .i64 0, .string ByteArray.empty]).cells (2 * szOf TZ 38)) [(0, .agg #[.int .i64 2, .int .i64 x, .string ByteArray.empty]), (1, .agg #[.int .i64 2, .int .i64 y, .string ByteArray.empty])] =
    some #[.int .i64 2, .int .i64 x, .string ByteArray.empty, .int .i64 2, .int .i64 y, .string ByteArray.empty] := by kernel_rfl
theorem run_bsl {x y : Nat} (h : o.op = .buildSlice 49 2 #[(0, .tmp x), (1, .tmp y)]) {z z' : Nat} (hx : a.tmps.getD x undef = aggZ z) (hy : a.tmps.getD y undef = aggZ z') : (execOp a.eval o).run TZ w = .ok (.value (.slice (some ⟨w.heap.size, 0, none⟩) 2 2)) (w.alloc (.cells #[.int .i64 2, .int .i64 (z : Int), .string ByteArray.empty, .int .i64 2, .int .i64 (z' : Int), .string ByteArray.empty] 38)) := by
  letI := tok0
  simp only [execOp, h]
  refine run_value (@run_buildSlice tok0 TZ 49 38 _ 2 _ _ w tz_u49 tz_has38 tz_z38 tz_le38 ?_)
  simp only [Act.eval, hx, hy, List.map_toArray, List.map_cons, List.map_nil]
  exact fill38 z z'
end
attribute [local irreducible] O13 O14 O15 O16 D17 in
theorem front_13 {a : Act} {w : World} (ha : ActIs 129 a) {ad : Addr} {n cap i z : Nat} (hi : i < n) (hz : z < 256) (g0 : a.tmps.getD 0 undef = .slice (some ad) n cap) (g7 : a.tmps.getD 7 undef = .int .i64 (i : Int)) (hcell : w.cell? (ad.add i) = some (.int .u8 (z : Int))) (hadl : (ad.add i).block < w.heap.size)
    {Q : Exit → Act → World → Prop} (hQ : ∀ c a a' w, a.defers = a'.defers → Q (.panic c) a w → Q (.panic c) a' w)
    (hn : ∀ a' w', ActIs 129 a' → (∀ t, t < 36 → t ≠ 8 → a'.tmps.getD t undef = a.tmps.getD t undef) → w'.heap = w.heap.push (.cells #[.int .i64 2, .int .i64 ((z % 4 : Nat) : Int), .string ByteArray.empty, .int .i64 2, .int .i64 ((z / 4 % 4 : Nat) : Int), .string ByteArray.empty] 38) → w'.os = w.os → w'.output = w.output → w'.tape = w.tape →
      a'.tmps.getD 8 undef = .slice (some ⟨w.heap.size, 0, none⟩) 2 2 → Q .normal a' w') : (Code.region 13 O13 true).wp TZ Q a w := by
  have fr : ∀ k, k < 15 → (Region.free .any O13 (LH k) k && (Region.ready .any O13 (LH k)).contains k) = true := fun k hk => List.all_eq_true.1 fr13 k (List.mem_range.2 hk)
  refine wp_region_held (S := fun w' => w'.cell? (ad.add i) = some (.int .u8 (z : Int))) tz_mixed ?_
  show wpAnyH TZ .any O13 Q _ O13.size (LH 0) a { w with drawn := w.drawn + 1 }
  rw [s13]
  have hS : ({ w with drawn := w.drawn + 1 } : World).cell? (ad.add i) = some (.int .u8 (z : Int)) := hcell
  have b0 : ∀ t, t < 36 → a.tmps.getD t undef = a.tmps.getD t undef := fun _ _ => rfl
  have h0 := ha
  have q : a.tmps.getD 0 undef = (.slice (some ad) n cap) := by rw [b0 0 (by decide)]; exact g0
  refine anyH_take (fuel := 16) o13_0 ns13 (fr 0 (by decide)) hQ (v := (.slice (some ad) n cap)) (fun o w hw ho => by rw [← q]; exact run_mv ho) hS ?_
  show wpAnyH TZ .any O13 Q _ 16 (LH 1) _ _
  clear q
  have h1 := put_is h0 (some 36) (.slice (some ad) n cap)
  have e36_1 := get_same h0 (by decide : 36 < 129) (.slice (some ad) n cap)
  have b1 : ∀ t, t < 36 → (a.put (some 36) (.slice (some ad) n cap)).tmps.getD t undef = a.tmps.getD t undef := fun t ht => (get_other h0 (by decide : 36 < 129) (.slice (some ad) n cap) (by omega)).trans (b0 t ht)
  generalize a.put (some 36) (.slice (some ad) n cap) = a1 at h1 b1 e36_1 ⊢
  have q : a1.tmps.getD 7 undef = (.int .i64 (i : Int)) := by rw [b1 7 (by decide)]; exact g7
  refine anyH_take (fuel := 15) o13_1 ns13 (fr 1 (by decide)) hQ (v := (.int .i64 (i : Int))) (fun o w hw ho => by rw [← q]; exact run_mv ho) hS ?_
  show wpAnyH TZ .any O13 Q _ 15 (LH 2) _ _
  clear q
  have h2 := put_is h1 (some 37) (.int .i64 (i : Int))
  have e37_2 := get_same h1 (by decide : 37 < 129) (.int .i64 (i : Int))
  have e36_2 := (get_other h1 (by decide : 37 < 129) (.int .i64 (i : Int)) (t := 36) (by decide)).trans e36_1
  have b2 : ∀ t, t < 36 → (a1.put (some 37) (.int .i64 (i : Int))).tmps.getD t undef = a.tmps.getD t undef := fun t ht => (get_other h1 (by decide : 37 < 129) (.int .i64 (i : Int)) (by omega)).trans (b1 t ht)
  generalize a1.put (some 37) (.int .i64 (i : Int)) = a2 at h2 b2 e36_2 e37_2 ⊢
  refine anyH_take (fuel := 14) o13_2 ns13 (fr 2 (by decide)) hQ (v := (.pointer (some (ad.add i)))) (fun o w hw ho => run_ix tz_u22 tz_s5 ho hi e36_2 e37_2) hS ?_
  show wpAnyH TZ .any O13 Q _ 14 (LH 3) _ _
  have h3 := put_is h2 (some 38) (.pointer (some (ad.add i)))
  have e38_3 := get_same h2 (by decide : 38 < 129) (.pointer (some (ad.add i)))
  have b3 : ∀ t, t < 36 → (a2.put (some 38) (.pointer (some (ad.add i)))).tmps.getD t undef = a.tmps.getD t undef := fun t ht => (get_other h2 (by decide : 38 < 129) (.pointer (some (ad.add i))) (by omega)).trans (b2 t ht)
  generalize a2.put (some 38) (.pointer (some (ad.add i))) = a3 at h3 b3 e38_3 ⊢
  refine anyH_take (fuel := 13) o13_3 ns13 (fr 3 (by decide)) hQ (v := (.int .u8 (z : Int))) (fun o w hw ho => run_ld tz_a5 ho e38_3 hw) hS ?_
  show wpAnyH TZ .any O13 Q _ 13 (LH 4) _ _
  have h4 := put_is h3 (some 39) (.int .u8 (z : Int))
  have e39_4 := get_same h3 (by decide : 39 < 129) (.int .u8 (z : Int))
  have b4 : ∀ t, t < 36 → (a3.put (some 39) (.int .u8 (z : Int))).tmps.getD t undef = a.tmps.getD t undef := fun t ht => (get_other h3 (by decide : 39 < 129) (.int .u8 (z : Int)) (by omega)).trans (b3 t ht)
  generalize a3.put (some 39) (.int .u8 (z : Int)) = a4 at h4 b4 e39_4 ⊢
  refine anyH_take (fuel := 12) o13_4 ns13 (fr 4 (by decide)) hQ (v := (.int .u8 ((z % 4 : Nat) : Int))) (fun o w hw ho => run_rem4 (k := 4) ho (by decide) e39_4) hS ?_
  show wpAnyH TZ .any O13 Q _ 12 (LH 5) _ _
  have h5 := put_is h4 (some 40) (.int .u8 ((z % 4 : Nat) : Int))
  have e40_5 := get_same h4 (by decide : 40 < 129) (.int .u8 ((z % 4 : Nat) : Int))
  have b5 : ∀ t, t < 36 → (a4.put (some 40) (.int .u8 ((z % 4 : Nat) : Int))).tmps.getD t undef = a.tmps.getD t undef := fun t ht => (get_other h4 (by decide : 40 < 129) (.int .u8 ((z % 4 : Nat) : Int)) (by omega)).trans (b4 t ht)
  generalize a4.put (some 40) (.int .u8 ((z % 4 : Nat) : Int)) = a5 at h5 b5 e40_5 ⊢
  refine anyH_take (fuel := 11) o13_5 ns13 (fr 5 (by decide)) hQ (v := (.int .i64 ((z % 4 : Nat) : Int))) (fun o w hw ho => run_cv ho (by omega) e40_5) hS ?_
  show wpAnyH TZ .any O13 Q _ 11 (LH 6) _ _
  have h6 := put_is h5 (some 41) (.int .i64 ((z % 4 : Nat) : Int))
  have e41_6 := get_same h5 (by decide : 41 < 129) (.int .i64 ((z % 4 : Nat) : Int))
  have b6 : ∀ t, t < 36 → (a5.put (some 41) (.int .i64 ((z % 4 : Nat) : Int))).tmps.getD t undef = a.tmps.getD t undef := fun t ht => (get_other h5 (by decide : 41 < 129) (.int .i64 ((z % 4 : Nat) : Int)) (by omega)).trans (b5 t ht)
  generalize a5.put (some 41) (.int .i64 ((z % 4 : Nat) : Int)) = a6 at h6 b6 e41_6 ⊢
  refine anyH_take (fuel := 10) o13_6 ns13 (fr 6 (by decide)) hQ (v := (aggZ (z % 4))) (fun o w hw ho => run_bld ho e41_6) hS ?_
  show wpAnyH TZ .any O13 Q _ 10 (LH 7) _ _
  have h7 := put_is h6 (some 42) (aggZ (z % 4))
  have e42_7 := get_same h6 (by decide : 42 < 129) (aggZ (z % 4))
  have b7 : ∀ t, t < 36 → (a6.put (some 42) (aggZ (z % 4))).tmps.getD t undef = a.tmps.getD t undef := fun t ht => (get_other h6 (by decide : 42 < 129) (aggZ (z % 4)) (by omega)).trans (b6 t ht)
  generalize a6.put (some 42) (aggZ (z % 4)) = a7 at h7 b7 e42_7 ⊢
  have q : a7.tmps.getD 0 undef = (.slice (some ad) n cap) := by rw [b7 0 (by decide)]; exact g0
  refine anyH_take (fuel := 9) o13_7 ns13 (fr 7 (by decide)) hQ (v := (.slice (some ad) n cap)) (fun o w hw ho => by rw [← q]; exact run_mv ho) hS ?_
  show wpAnyH TZ .any O13 Q _ 9 (LH 8) _ _
  clear q
  have h8 := put_is h7 (some 43) (.slice (some ad) n cap)
  have e43_8 := get_same h7 (by decide : 43 < 129) (.slice (some ad) n cap)
  have e42_8 := (get_other h7 (by decide : 43 < 129) (.slice (some ad) n cap) (t := 42) (by decide)).trans e42_7
  have b8 : ∀ t, t < 36 → (a7.put (some 43) (.slice (some ad) n cap)).tmps.getD t undef = a.tmps.getD t undef := fun t ht => (get_other h7 (by decide : 43 < 129) (.slice (some ad) n cap) (by omega)).trans (b7 t ht)
  generalize a7.put (some 43) (.slice (some ad) n cap) = a8 at h8 b8 e42_8 e43_8 ⊢
  have q : a8.tmps.getD 7 undef = (.int .i64 (i : Int)) := by rw [b8 7 (by decide)]; exact g7
  refine anyH_take (fuel := 8) o13_8 ns13 (fr 8 (by decide)) hQ (v := (.int .i64 (i : Int))) (fun o w hw ho => by rw [← q]; exact run_mv ho) hS ?_
  show wpAnyH TZ .any O13 Q _ 8 (LH 9) _ _
  clear q
  have h9 := put_is h8 (some 44) (.int .i64 (i : Int))
  have e44_9 := get_same h8 (by decide : 44 < 129) (.int .i64 (i : Int))
  have e42_9 := (get_other h8 (by decide : 44 < 129) (.int .i64 (i : Int)) (t := 42) (by decide)).trans e42_8
  have e43_9 := (get_other h8 (by decide : 44 < 129) (.int .i64 (i : Int)) (t := 43) (by decide)).trans e43_8
  have b9 : ∀ t, t < 36 → (a8.put (some 44) (.int .i64 (i : Int))).tmps.getD t undef = a.tmps.getD t undef := fun t ht => (get_other h8 (by decide : 44 < 129) (.int .i64 (i : Int)) (by omega)).trans (b8 t ht)
  generalize a8.put (some 44) (.int .i64 (i : Int)) = a9 at h9 b9 e42_9 e43_9 e44_9 ⊢
  refine anyH_take (fuel := 7) o13_9 ns13 (fr 9 (by decide)) hQ (v := (.pointer (some (ad.add i)))) (fun o w hw ho => run_ix tz_u22 tz_s5 ho hi e43_9 e44_9) hS ?_
  show wpAnyH TZ .any O13 Q _ 7 (LH 10) _ _
  have h10 := put_is h9 (some 45) (.pointer (some (ad.add i)))
  have e45_10 := get_same h9 (by decide : 45 < 129) (.pointer (some (ad.add i)))
  have e42_10 := (get_other h9 (by decide : 45 < 129) (.pointer (some (ad.add i))) (t := 42) (by decide)).trans e42_9
  have b10 : ∀ t, t < 36 → (a9.put (some 45) (.pointer (some (ad.add i)))).tmps.getD t undef = a.tmps.getD t undef := fun t ht => (get_other h9 (by decide : 45 < 129) (.pointer (some (ad.add i))) (by omega)).trans (b9 t ht)
  generalize a9.put (some 45) (.pointer (some (ad.add i))) = a10 at h10 b10 e42_10 e45_10 ⊢
  refine anyH_take (fuel := 6) o13_10 ns13 (fr 10 (by decide)) hQ (v := (.int .u8 (z : Int))) (fun o w hw ho => run_ld tz_a5 ho e45_10 hw) hS ?_
  show wpAnyH TZ .any O13 Q _ 6 (LH 11) _ _
  have h11 := put_is h10 (some 46) (.int .u8 (z : Int))
  have e46_11 := get_same h10 (by decide : 46 < 129) (.int .u8 (z : Int))
  have e42_11 := (get_other h10 (by decide : 46 < 129) (.int .u8 (z : Int)) (t := 42) (by decide)).trans e42_10
  have b11 : ∀ t, t < 36 → (a10.put (some 46) (.int .u8 (z : Int))).tmps.getD t undef = a.tmps.getD t undef := fun t ht => (get_other h10 (by decide : 46 < 129) (.int .u8 (z : Int)) (by omega)).trans (b10 t ht)
  generalize a10.put (some 46) (.int .u8 (z : Int)) = a11 at h11 b11 e42_11 e46_11 ⊢
  refine anyH_take (fuel := 5) o13_11 ns13 (fr 11 (by decide)) hQ (v := (.int .u8 ((z / 4 : Nat) : Int))) (fun o w hw ho => run_quo4 (k := 4) ho (by decide) hz e46_11) hS ?_
  show wpAnyH TZ .any O13 Q _ 5 (LH 12) _ _
  have h12 := put_is h11 (some 47) (.int .u8 ((z / 4 : Nat) : Int))
  have e47_12 := get_same h11 (by decide : 47 < 129) (.int .u8 ((z / 4 : Nat) : Int))
  have e42_12 := (get_other h11 (by decide : 47 < 129) (.int .u8 ((z / 4 : Nat) : Int)) (t := 42) (by decide)).trans e42_11
  have b12 : ∀ t, t < 36 → (a11.put (some 47) (.int .u8 ((z / 4 : Nat) : Int))).tmps.getD t undef = a.tmps.getD t undef := fun t ht => (get_other h11 (by decide : 47 < 129) (.int .u8 ((z / 4 : Nat) : Int)) (by omega)).trans (b11 t ht)
  generalize a11.put (some 47) (.int .u8 ((z / 4 : Nat) : Int)) = a12 at h12 b12 e42_12 e47_12 ⊢
  refine anyH_take (fuel := 4) o13_12 ns13 (fr 12 (by decide)) hQ (v := (.int .u8 ((z / 4 % 4 : Nat) : Int))) (fun o w hw ho => run_rem4 (k := 4) ho (by decide) e47_12) hS ?_
  show wpAnyH TZ .any O13 Q _ 4 (LH 13) _ _
  have h13 := put_is h12 (some 48) (.int .u8 ((z / 4 % 4 : Nat) : Int))
  have e48_13 := get_same h12 (by decide : 48 < 129) (.int .u8 ((z / 4 % 4 : Nat) : Int))
  have e42_13 := (get_other h12 (by decide : 48 < 129) (.int .u8 ((z / 4 % 4 : Nat) : Int)) (t := 42) (by decide)).trans e42_12
  have b13 : ∀ t, t < 36 → (a12.put (some 48) (.int .u8 ((z / 4 % 4 : Nat) : Int))).tmps.getD t undef = a.tmps.getD t undef := fun t ht => (get_other h12 (by decide : 48 < 129) (.int .u8 ((z / 4 % 4 : Nat) : Int)) (by omega)).trans (b12 t ht)
  generalize a12.put (some 48) (.int .u8 ((z / 4 % 4 : Nat) : Int)) = a13 at h13 b13 e42_13 e48_13 ⊢
  refine anyH_take (fuel := 3) o13_13 ns13 (fr 13 (by decide)) hQ (v := (.int .i64 ((z / 4 % 4 : Nat) : Int))) (fun o w hw ho => run_cv ho (by omega) e48_13) hS ?_
  show wpAnyH TZ .any O13 Q _ 3 (LH 14) _ _
  have h14 := put_is h13 (some 49) (.int .i64 ((z / 4 % 4 : Nat) : Int))
  have e49_14 := get_same h13 (by decide : 49 < 129) (.int .i64 ((z / 4 % 4 : Nat) : Int))
  have e42_14 := (get_other h13 (by decide : 49 < 129) (.int .i64 ((z / 4 % 4 : Nat) : Int)) (t := 42) (by decide)).trans e42_13
  have b14 : ∀ t, t < 36 → (a13.put (some 49) (.int .i64 ((z / 4 % 4 : Nat) : Int))).tmps.getD t undef = a.tmps.getD t undef := fun t ht => (get_other h13 (by decide : 49 < 129) (.int .i64 ((z / 4 % 4 : Nat) : Int)) (by omega)).trans (b13 t ht)
  generalize a13.put (some 49) (.int .i64 ((z / 4 % 4 : Nat) : Int)) = a14 at h14 b14 e42_14 e49_14 ⊢
  refine anyH_take (fuel := 2) o13_14 ns13 (fr 14 (by decide)) hQ (v := (aggZ (z / 4 % 4))) (fun o w hw ho => run_bld ho e49_14) hS ?_
  show wpAnyH TZ .any O13 Q _ 2 (LH 15) _ _
  have h15 := put_is h14 (some 50) (aggZ (z / 4 % 4))
  have e50_15 := get_same h14 (by decide : 50 < 129) (aggZ (z / 4 % 4))
  have e42_15 := (get_other h14 (by decide : 50 < 129) (aggZ (z / 4 % 4)) (t := 42) (by decide)).trans e42_14
  have b15 : ∀ t, t < 36 → (a14.put (some 50) (aggZ (z / 4 % 4))).tmps.getD t undef = a.tmps.getD t undef := fun t ht => (get_other h14 (by decide : 50 < 129) (aggZ (z / 4 % 4)) (by omega)).trans (b14 t ht)
  generalize a14.put (some 50) (aggZ (z / 4 % 4)) = a15 at h15 b15 e42_15 e50_15 ⊢
  refine anyH_one (fuel := 1) o13_15 rd15 (fun o ho => run_bsl ho e42_15 e50_15) ?_ ?_
  · show World.cell? (World.alloc _ _) _ = _
    rw [← hcell]
    refine cell_congr ?_
    show (Array.push _ _)[_]? = _
    rw [Array.getElem?_push, if_neg (by show ¬ (ad.add i).block = w.heap.size; omega)]
  show wpAnyH TZ .any O13 Q _ 1 (LH 16) _ _
  have h16 := put_is h15 (some 51) (.slice (some ⟨w.heap.size, 0, none⟩) 2 2)
  have e51 := get_same h15 (by decide : 51 < 129) (.slice (some ⟨w.heap.size, 0, none⟩) 2 2)
  have b16 : ∀ t, t < 36 → (a15.put (some 51) (.slice (some ⟨w.heap.size, 0, none⟩) 2 2)).tmps.getD t undef = a.tmps.getD t undef := fun t ht => by rw [get_other h15 (by decide : 51 < 129) _ (by omega)]; exact b15 t ht
  have hput : (a15.put (some 51) (.slice (some ⟨({ w with drawn := w.drawn + 1 } : World).heap.size, 0, none⟩) 2 2)) = (a15.put (some 51) (.slice (some ⟨w.heap.size, 0, none⟩) 2 2)) := rfl
  rw [hput]
  generalize a15.put (some 51) (.slice (some ⟨w.heap.size, 0, none⟩) 2 2) = a16 at h16 e51 b16 ⊢
  refine anyH_one (fuel := 0) o13_16 rd16 (fun o ho => run_as ho) ?_ ?_
  · show World.cell? (World.alloc _ _) _ = _
    rw [← hcell]
    refine cell_congr ?_
    show (Array.push _ _)[_]? = _
    rw [Array.getElem?_push, if_neg (by show ¬ (ad.add i).block = w.heap.size; omega)]
  rw [e51]
  have h17 := put_is h16 (some 8) (.slice (some ⟨w.heap.size, 0, none⟩) 2 2)
  refine wpAnyH_done (listed := _) rd17 ?_ 0
  refine hn _ _ h17 (fun t ht h8 => ?_) rfl rfl rfl rfl (get_same h16 (by decide) _)
  rw [get_other h16 (by decide : 8 < 129) _ h8]
  exact b16 t ht
end Go.AM

namespace Go.AM
open Go.Proofs

/- ### the front of a round, its end -/
def f16Regs (j : Nat) : List (Nat × AVal) := [(58, .slice 3 0 2 2 true 3), (63, .int .u8 (.ofNat j)), (0, .opq 0), (3, .opq 1), (4, .opq 2), (5, .opq 3), (6, .opq 4), (7, .opq 5), (8, .slice 3 0 2 2 true 3), (9, .opq 6)]
def f16Out : List AVal := [.opq 0, .opq 1, .opq 2, .opq 3, .opq 4, .opq 5, .slice 3 0 2 2 true 3, .opq 6]
def f16In : List Blk := [.cells false [.int .i64 2, .opq 7, .str [], .int .i64 2, .opq 8, .str []]]
noncomputable def f16End (j : Nat) : List AVal := cond' [.int .i64 0, .int .i64 0, .str [], .int .i64 2, .opq 8, .str []] [.int .i64 2, .opq 7, .str [], .int .i64 0, .int .i64 0, .str []] (Nat.beq j 0)
noncomputable def f16Run (j : Nat) : Bool :=
  match opsRun TZ 129 KO O16 (O16.toList.drop 6) (f16Regs j) [0, 3, 4, 5, 6, 7, 8, 9] (mkMem 2 0 .none f16In) with
  | .ok (.tuple l) m => and (sameL f16Out l) (absMem (idMap 2 [3]) 0 .none [.cells false (f16End j)] m)
  | _ => false
theorem f16_0 : f16Run 0 = true := by kernel_rfl
theorem f16_1 : f16Run 1 = true := by kernel_rfl
theorem l16 : (O16.toList.drop 6).length = 3 := by kernel_rfl
theorem g16 : (O16.toList.drop 6).all (gOper TZ.globals.size) = true := by kernel_rfl
theorem str0 {T : Tok} {φ : Phi} : @VRel T φ (.str []) (.string ByteArray.empty) := @VRel.str T φ [] ByteArray.empty rfl
theorem cells2_z {z id : Nat} (h : ¬ 200 ≤ z) : cells2 (rowZ z id) = [.int .i64 2, .int .i64 ((z % 4 : Nat) : Int), .string ByteArray.empty, .int .i64 2, .int .i64 ((z / 4 % 4 : Nat) : Int), .string ByteArray.empty] := by
  unfold cells2 rowZ cellsV
  simp only [h, false_and, if_false]
  rw [if_neg (by omega), if_neg (by omega)]
  rfl
theorem cells2_0 {z id : Nat} (h : 200 ≤ z) (hz : z % 2 = 0) : cells2 (rowZ z id) = [.int .i64 0, .int .i64 0, .string ByteArray.empty, .int .i64 2, .int .i64 ((z / 4 % 4 : Nat) : Int), .string ByteArray.empty] := by
  unfold cells2 rowZ cellsV
  have h1 : ¬ z % 2 = 1 := by omega
  simp only [h, hz, true_and, if_true]
  rw [if_neg (show ¬ (0 : Nat) = 1 by decide), if_neg (by omega)]
  rfl
theorem cells2_1 {z id : Nat} (h : 200 ≤ z) (hz : z % 2 = 1) : cells2 (rowZ z id) = [.int .i64 2, .int .i64 ((z % 4 : Nat) : Int), .string ByteArray.empty, .int .i64 0, .int .i64 0, .string ByteArray.empty] := by
  unfold cells2 rowZ cellsV
  simp only [h, hz, true_and, if_true]
  rw [if_neg (show ¬ (1 : Nat) = 0 by decide), if_neg (by omega)]
  rfl
def frontVals (cs : List Value) (x y : Nat) (j : Nat) : Value := if j = 7 then .int .i64 (x : Int) else if j = 8 then .int .i64 (y : Int) else (cs[j]?).getD nilS
theorem frontVals_cell {cs : List Value} (h : ∀ c, c ∈ cs → c.oneCell' = true) (x y j : Nat) : (frontVals cs x y j).oneCell' = true := by
  unfold frontVals
  split
  · rfl
  · split
    · rfl
    · cases hj : cs[j]? with
      | none => rfl
      | some c => exact h c (List.mem_of_getElem? hj)
theorem vs6 {T : Tok} {φ : Phi} {x1 x2 x3 x4 x5 x6 : AVal} {vs : List Value} (h : @VsRel T φ [x1, x2, x3, x4, x5, x6] vs) : ∃ c1 c2 c3 c4 c5 c6, vs = [c1, c2, c3, c4, c5, c6] ∧ @VRel T φ x1 c1 ∧ @VRel T φ x2 c2 ∧ @VRel T φ x3 c3 ∧ @VRel T φ x4 c4 ∧ @VRel T φ x5 c5 ∧ @VRel T φ x6 c6 := by
  cases h with
  | cons h1 h =>
  cases h with
  | cons h2 h =>
  cases h with
  | cons h3 h =>
  cases h with
  | cons h4 h =>
  cases h with
  | cons h5 h =>
  cases h with
  | cons h6 h =>
  cases h
  exact ⟨_, _, _, _, _, _, rfl, h1, h2, h3, h4, h5, h6⟩
theorem int_is {T : Tok} {φ : Phi} {k : IntKind} {n : Int} {c : Value} (h : @VRel T φ (.int k n) c) : c = .int k n := by cases h; rfl
attribute [local irreducible] O16 O13 O14 O15 D17 in
/-- NULL is stored into one of the two values -/
theorem front_16 {j : Nat} (hj : j < 2) {a : Act} {w : World} (hgs : 2 ≤ w.heap.size) (ha : ActIs 129 a) {p x y : Nat} (hS : StructAt w p [.int .i64 2, .int .i64 (x : Int), .string ByteArray.empty, .int .i64 2, .int .i64 (y : Int), .string ByteArray.empty]) (g8 : a.tmps.getD 8 undef = .slice (some ⟨p, 0, none⟩) 2 2)
    (g58 : a.tmps.getD 58 undef = .slice (some ⟨p, 0, none⟩) 2 2) (g63 : a.tmps.getD 63 undef = .int .u8 (j : Int)) (hc : ∀ t, t ∈ [0, 3, 4, 5, 6, 7, 9] → (a.tmps.getD t undef).oneCell' = true) {Q : Exit → Act → World → Prop}
    (hn : ∀ a' w', ActIs 129 a' → SameRegs [0, 3, 4, 5, 6, 7, 8, 9] a a' → LeftX p w w' → StructAt w' p (if j = 0 then [.int .i64 0, .int .i64 0, .string ByteArray.empty, .int .i64 2, .int .i64 (y : Int), .string ByteArray.empty] else [.int .i64 2, .int .i64 (x : Int), .string ByteArray.empty, .int .i64 0, .int .i64 0, .string ByteArray.empty]) → Q .normal a' w') :
    wpOps TZ O16 Q [6, 7, 8] a w := by
  let cs : List Value := [a.tmps.getD 0 undef, a.tmps.getD 3 undef, a.tmps.getD 4 undef, a.tmps.getD 5 undef, a.tmps.getD 6 undef, a.tmps.getD 7 undef, a.tmps.getD 9 undef]
  have hcs : ∀ c, c ∈ cs → c.oneCell' = true := fun c hcm => by
    simp only [cs, List.mem_cons, List.not_mem_nil, or_false] at hcm
    rcases hcm with rfl | rfl | rfl | rfl | rfl | rfl | rfl
    · exact hc 0 (by decide)
    · exact hc 3 (by decide)
    · exact hc 4 (by decide)
    · exact hc 5 (by decide)
    · exact hc 6 (by decide)
    · exact hc 7 (by decide)
    · exact hc 9 (by decide)
  let T : Tok := tokB noH (frontVals cs x y) (frontVals_cell hcs x y)
  have tk : ∀ i c, cs[i]? = some c → T.val i = c := fun i c hi => by
    have hil := getElem?_lt hi
    have hil' : i < 7 := hil
    show frontVals cs x y i = c
    unfold frontVals
    rw [if_neg (by omega), if_neg (by omega), hi]; rfl
  have tr : ∀ φ i c, cs[i]? = some c → @VRel T φ (.opq i) c := fun φ i c hi => by rw [← tk i c hi]; exact @VRel.opq T φ i
  have t7 : T.val 7 = .int .i64 (x : Int) := rfl
  have t8 : T.val 8 = .int .i64 (y : Int) := rfl
  have f3 : phiOf 2 [(p, 0, 6)] 3 = some (p, 0, 6) := rfl
  have hr : @Rel T TZ (phiOf 2 [(p, 0, 6)]) (mkMem 2 0 .none f16In) w := by
    refine mkRelW tz_glob (by decide) hgs rfl (by show 2 + 1 + 1 ≤ 65536; decide) (fun i b y hb hw hy => ⟨rfl, fun k z hz hne => ?_⟩) (fun z hz => ?_) (fun i b hb => ?_) (fun b o h => by cases h)
    · have h1 := getElem?_lt hz
      have h2 := getElem?_lt hy
      simp at h1 h2
      omega
    · rw [List.mem_singleton] at hz
      subst hz
      exact hS.lt
    · match i, hb with
      | 0, hb =>
        simp only [f16In, List.getElem?_cons_zero, Option.some.injEq] at hb
        subst hb
        refine hS.brel f3 (@VsRel.cons T _ _ _ _ _ (@VRel.int T _ .i64 2) (@VsRel.cons T _ _ _ _ _ (by rw [← t7]; exact @VRel.opq T _ 7) (@VsRel.cons T _ _ _ _ _ str0 (@VsRel.cons T _ _ _ _ _ (@VRel.int T _ .i64 2) (@VsRel.cons T _ _ _ _ _ (by rw [← t8]; exact @VRel.opq T _ 8) (@VsRel.cons T _ _ _ _ _ str0 (@VsRel.nil T _))))))) (fun v hv => ?_)
        simp only [List.mem_cons, List.not_mem_nil, or_false] at hv
        rcases hv with rfl | rfl | rfl | rfl | rfl | rfl <;> rfl
      | i + 1, hb => simp [f16In] at hb
  have hrun : f16Run j = true := by
    match j, hj with
    | 0, _ => exact f16_0
    | 1, _ => exact f16_1
  unfold f16Run at hrun
  split at hrun
  rotate_left
  · cases hrun
  rename_i l m hq
  rw [Bool.and_eq_true] at hrun
  obtain ⟨hs, habs⟩ := hrun
  have hs' := sameL_eq hs
  subst hs'
  have hrange : [6, 7, 8] = List.range' 6 (O16.toList.drop 6).length ++ [] := by rw [l16]; rfl
  rw [hrange]
  have sl3 : ∀ φ, φ 3 = some (p, 0, 6) → @VRel T φ (.slice 3 0 2 2 true 3) (.slice (some ⟨p, 0, none⟩) 2 2) := fun φ h => @VRel.slice T φ 3 0 2 2 true 3 p 0 6 0 2 h (Nat.le_refl _) (Nat.le_refl _) (fun _ => rfl) (fun _ => rfl) (by decide)
  refine @ops_piece TZ T KO (ko_ok T rfl) 129 O16 _ 6 (O16.toList.drop 6) [] List.take_length g16 _ _ _ _ _ hq _ w a hr ha (by decide) (fun q hq => ?_) (fun φ' a' w' hst ha' hv => ?_)
  · simp only [f16Regs, List.mem_cons, List.not_mem_nil, or_false] at hq
    rcases hq with rfl | rfl | rfl | rfl | rfl | rfl | rfl | rfl | rfl | rfl
    · refine ⟨(by decide : 58 < 4096), ?_⟩
      show @VRel T _ _ (a.tmps.getD 58 undef)
      rw [g58]; exact sl3 _ f3
    · refine ⟨(by decide : 63 < 4096), ?_⟩
      show @VRel T _ (.int .u8 (.ofNat j)) (a.tmps.getD 63 undef)
      rw [g63]; exact @VRel.int T _ .u8 (j : Int)
    · exact ⟨(by decide : 0 < 4096), tr _ 0 _ rfl⟩
    · exact ⟨(by decide : 3 < 4096), tr _ 1 _ rfl⟩
    · exact ⟨(by decide : 4 < 4096), tr _ 2 _ rfl⟩
    · exact ⟨(by decide : 5 < 4096), tr _ 3 _ rfl⟩
    · exact ⟨(by decide : 6 < 4096), tr _ 4 _ rfl⟩
    · exact ⟨(by decide : 7 < 4096), tr _ 5 _ rfl⟩
    · refine ⟨(by decide : 8 < 4096), ?_⟩
      show @VRel T _ _ (a.tmps.getD 8 undef)
      rw [g8]; exact sl3 _ f3
    · exact ⟨(by decide : 9 < 4096), tr _ 6 _ rfl⟩
  have hext : ∀ q x, phiOf 2 [(p, 0, 6)] q = some x → φ' q = some x := @Step.ext T TZ _ _ _ _ _ _ hst
  obtain ⟨r1, _⟩ := idRel (T := T) rfl tz_glob (@Step.rel T TZ _ _ _ _ _ _ hst) habs
  obtain ⟨b1, b2⟩ := mkMem_at (G := 2) (by decide) (l := [.cells false (f16End j)]) (by show 2 + 1 + 1 ≤ 65536; decide) (i := 0) rfl
  have hlen : (f16End j).length = 6 := by
    match j, hj with
    | 0, _ => rfl
    | 1, _ => rfl
  obtain ⟨vs, hS1, hvs⟩ := StructAt.of (T := T) rfl (p := p) (n := 6) r1 b1 b2 (hext 3 _ f3) hlen
  have hwr : ∀ q b o s, q < (mkMem 2 0 .none f16In).next → ((mkMem 2 0 .none f16In).get q).wr = true → phiOf 2 [(p, 0, 6)] q = some (b, o, s) → b = p := fun q b o s hq hw hφ => by
    have hn : (mkMem 2 0 .none f16In).next = 4 := addL_next f16In _
    rw [hn] at hq
    rw [mkMem_get (by decide) (by show 2 + 1 + 1 ≤ 65536; decide) (by omega)] at hw
    match q, hq with
    | 0, _ => cases hw
    | 1, _ => cases hw
    | 2, _ => cases hw
    | 3, _ => rw [f3] at hφ; cases hφ; rfl
  show Q .normal a' w'
  refine hn a' w' ha' (fun t ht => ?_) (leftX_of hst hwr) ?_
  · simp only [List.mem_cons, List.not_mem_nil, or_false] at ht
    rcases ht with rfl | rfl | rfl | rfl | rfl | rfl | rfl | rfl
    · rw [opq_is (vals_get hv (i := 0) (t := 0) rfl rfl)]; exact tk 0 _ rfl
    · rw [opq_is (vals_get hv (i := 1) (t := 3) rfl rfl)]; exact tk 1 _ rfl
    · rw [opq_is (vals_get hv (i := 2) (t := 4) rfl rfl)]; exact tk 2 _ rfl
    · rw [opq_is (vals_get hv (i := 3) (t := 5) rfl rfl)]; exact tk 3 _ rfl
    · rw [opq_is (vals_get hv (i := 4) (t := 6) rfl rfl)]; exact tk 4 _ rfl
    · rw [opq_is (vals_get hv (i := 5) (t := 7) rfl rfl)]; exact tk 5 _ rfl
    · rw [slice_is (by decide) (vals_get hv (i := 6) (t := 8) rfl rfl) (hext 3 _ f3), g8]
    · rw [opq_is (vals_get hv (i := 7) (t := 9) rfl rfl)]; exact tk 6 _ rfl
  · match j, hj with
    | 0, _ =>
      have hvs' : @VsRel T (absPhi (idMap 2 [3]) φ') [.int .i64 0, .int .i64 0, .str [], .int .i64 2, .opq 8, .str []] vs := hvs
      obtain ⟨c1, c2, c3, c4, c5, c6, rfl, k1, k2, k3, k4, k5, k6⟩ := vs6 hvs'
      rw [int_is k1, int_is k2, str_un k3, int_is k4, opq_is k5, str_un k6, t8] at hS1
      rw [if_pos rfl]
      exact hS1
    | 1, _ =>
      have hvs' : @VsRel T (absPhi (idMap 2 [3]) φ') [.int .i64 2, .opq 7, .str [], .int .i64 0, .int .i64 0, .str []] vs := hvs
      obtain ⟨c1, c2, c3, c4, c5, c6, rfl, k1, k2, k3, k4, k5, k6⟩ := vs6 hvs'
      rw [int_is k1, opq_is k2, str_un k3, int_is k4, int_is k5, str_un k6, t7] at hS1
      rw [if_neg (by decide)]
      exact hS1
end Go.AM

namespace Go.AM
open Go.Proofs

attribute [local irreducible] O16 O13 O14 O15 D17 in
/-- THE FRONT OF A ROUND -/
theorem law_front {a : Act} {w : World} (ha : ActIs 129 a) (hgs : 2 ≤ w.heap.size) {ad : Addr} {n cap i z id : Nat} (hi : i < n) (hz : z < 256) (g0 : a.tmps.getD 0 undef = .slice (some ad) n cap) (g7 : a.tmps.getD 7 undef = .int .i64 (i : Int)) (hcell : w.cell? (ad.add i) = some (.int .u8 (z : Int))) (hadl : (ad.add i).block < w.heap.size)
    (hc : ∀ t, t ∈ [0, 3, 4, 5, 6, 7] → (a.tmps.getD t undef).oneCell' = true) {Q : Exit → Act → World → Prop} (hQ : ∀ c a a' w, a.defers = a'.defers → Q (.panic c) a w → Q (.panic c) a' w)
    (hn : ∀ a' w' xv, ActIs 129 a' → SameRegs [0, 3, 4, 5, 6, 7] a a' → Left' w w' → w.heap.size ≤ xv.1 → VAt (heapOf w') (a'.tmps.getD 8 undef) xv (rowZ z id) → a'.tmps.getD 9 undef = .bool (decide (200 ≤ z)) → D17.wp TZ Q a' w') : D3.wp TZ Q a w := by
  rw [d3_is]
  refine wp_seq (front_13 ha hi hz g0 g7 hcell hadl (fun c a a' w e h => hQ c a a' w e h) fun a1 w1 ha1 hs1 hh1 ho1 hu1 ht1 g8 => ?_)
  have hl1 : Left' w w1 := ⟨fun b hb => by rw [hh1, Array.getElem?_push, if_neg (by omega)], by rw [hh1]; simp, ho1, hu1, ht1⟩
  have hcell1 : w1.cell? (ad.add i) = some (.int .u8 (z : Int)) := by rw [← hcell]; exact cell_congr (hl1.1 _ hadl)
  have hS1 : StructAt w1 w.heap.size [.int .i64 2, .int .i64 ((z % 4 : Nat) : Int), .string ByteArray.empty, .int .i64 2, .int .i64 ((z / 4 % 4 : Nat) : Int), .string ByteArray.empty] := by
    refine ⟨_, 38, (0, 0), by rw [hh1]; simp, rfl, fun v hv => ?_, fun k _ hk => absurd hk.2 (Nat.not_lt_zero k)⟩
    simp only [List.mem_cons, List.not_mem_nil, or_false] at hv
    rcases hv with rfl | rfl | rfl | rfl | rfl | rfl <;> rfl
  have q0 : a1.tmps.getD 0 undef = .slice (some ad) n cap := by rw [hs1 0 (by decide) (by decide)]; exact g0
  have q7 : a1.tmps.getD 7 undef = .int .i64 (i : Int) := by rw [hs1 7 (by decide) (by decide)]; exact g7
  show Code.wp TZ (.seq (.region 14 O14 false) (.seq (.seq (.region 15 O15 false) (.cond (.tmp 57) (.region 16 O16 false) .skip)) D17)) Q a1 w1
  refine wp_seq (wp_region ?_)
  rw [s14]
  show wpOps TZ O14 _ [0, 1, 2, 3, 4, 5] a1 w1
  refine wpOps_val o14_0 (fun o ho => run_mv ho) ?_
  rw [q0]
  have h2 := put_is ha1 (some 52) (.slice (some ad) n cap)
  have e52 := get_same ha1 (by decide : 52 < 129) (.slice (some ad) n cap)
  have b2 : ∀ t, t < 52 → (a1.put (some 52) (.slice (some ad) n cap)).tmps.getD t undef = a1.tmps.getD t undef := fun t ht => get_other ha1 (by decide : 52 < 129) _ (by omega)
  generalize a1.put (some 52) (.slice (some ad) n cap) = a2 at h2 e52 b2 ⊢
  refine wpOps_val o14_1 (fun o ho => run_mv ho) ?_
  rw [b2 7 (by decide), q7]
  have h3 := put_is h2 (some 53) (.int .i64 (i : Int))
  have e53 := get_same h2 (by decide : 53 < 129) (.int .i64 (i : Int))
  have e52' := (get_other h2 (by decide : 53 < 129) (.int .i64 (i : Int)) (t := 52) (by decide)).trans e52
  have b3 : ∀ t, t < 52 → (a2.put (some 53) (.int .i64 (i : Int))).tmps.getD t undef = a1.tmps.getD t undef := fun t ht => (get_other h2 (by decide : 53 < 129) _ (by omega)).trans (b2 t ht)
  generalize a2.put (some 53) (.int .i64 (i : Int)) = a3 at h3 e53 e52' b3 ⊢
  refine wpOps_val o14_2 (fun o ho => run_ix tz_u22 tz_s5 ho hi e52' e53) ?_
  have h4 := put_is h3 (some 54) (.pointer (some (ad.add i)))
  have e54 := get_same h3 (by decide : 54 < 129) (.pointer (some (ad.add i)))
  have b4 : ∀ t, t < 52 → (a3.put (some 54) (.pointer (some (ad.add i)))).tmps.getD t undef = a1.tmps.getD t undef := fun t ht => (get_other h3 (by decide : 54 < 129) _ (by omega)).trans (b3 t ht)
  generalize a3.put (some 54) (.pointer (some (ad.add i))) = a4 at h4 e54 b4 ⊢
  refine wpOps_val o14_3 (fun o ho => run_ld tz_a5 ho e54 hcell1) ?_
  have h5 := put_is h4 (some 55) (.int .u8 (z : Int))
  have e55 := get_same h4 (by decide : 55 < 129) (.int .u8 (z : Int))
  have b5 : ∀ t, t < 52 → (a4.put (some 55) (.int .u8 (z : Int))).tmps.getD t undef = a1.tmps.getD t undef := fun t ht => (get_other h4 (by decide : 55 < 129) _ (by omega)).trans (b4 t ht)
  generalize a4.put (some 55) (.int .u8 (z : Int)) = a5 at h5 e55 b5 ⊢
  refine wpOps_val o14_4 (fun o ho => run_ge8 (k := 200) ho e55) ?_
  have h6 := put_is h5 (some 56) (.bool (decide (200 ≤ z)))
  have e56 := get_same h5 (by decide : 56 < 129) (.bool (decide (200 ≤ z)))
  have b6 : ∀ t, t < 52 → (a5.put (some 56) (.bool (decide (200 ≤ z)))).tmps.getD t undef = a1.tmps.getD t undef := fun t ht => (get_other h5 (by decide : 56 < 129) _ (by omega)).trans (b5 t ht)
  generalize a5.put (some 56) (.bool (decide (200 ≤ z))) = a6 at h6 e56 b6 ⊢
  refine wpOps_val o14_5 (fun o ho => run_as ho) ?_
  rw [e56]
  have h7 := put_is h6 (some 9) (.bool (decide (200 ≤ z)))
  have e9 := get_same h6 (by decide : 9 < 129) (.bool (decide (200 ≤ z)))
  have b7 : ∀ t, t < 52 → t ≠ 9 → (a6.put (some 9) (.bool (decide (200 ≤ z)))).tmps.getD t undef = a1.tmps.getD t undef := fun t ht h9 => (get_other h6 (by decide : 9 < 129) _ h9).trans (b6 t ht)
  generalize a6.put (some 9) (.bool (decide (200 ≤ z))) = a7 at h7 e9 b7 ⊢
  show Code.wp TZ (.seq (.seq (.region 15 O15 false) (.cond (.tmp 57) (.region 16 O16 false) .skip)) D17) Q a7 w1
  refine wp_seq (wp_seq (wp_region ?_))
  rw [s15]
  show wpOps TZ O15 _ [0] a7 w1
  refine wpOps_val o15_0 (fun o ho => run_mv ho) ?_
  rw [e9]
  have h8 := put_is h7 (some 57) (.bool (decide (200 ≤ z)))
  have e57 := get_same h7 (by decide : 57 < 129) (.bool (decide (200 ≤ z)))
  have e9' := (get_other h7 (by decide : 57 < 129) (.bool (decide (200 ≤ z))) (t := 9) (by decide)).trans e9
  have b8 : ∀ t, t < 52 → t ≠ 9 → (a7.put (some 57) (.bool (decide (200 ≤ z)))).tmps.getD t undef = a1.tmps.getD t undef := fun t ht h9 => (get_other h7 (by decide : 57 < 129) _ (by omega)).trans (b7 t ht h9)
  generalize a7.put (some 57) (.bool (decide (200 ≤ z))) = a8 at h8 e57 e9' b8 ⊢
  have hsame8 : ∀ t, t < 36 → t ≠ 8 → t ≠ 9 → a8.tmps.getD t undef = a.tmps.getD t undef := fun t ht h1 h2 => (b8 t (by omega) h2).trans (hs1 t ht h1)
  have q8 : a8.tmps.getD 8 undef = .slice (some ⟨w.heap.size, 0, none⟩) 2 2 := by rw [b8 8 (by decide) (by decide)]; exact g8
  show Code.wp TZ (.cond (.tmp 57) (.region 16 O16 false) .skip) _ a8 w1
  by_cases hzn : 200 ≤ z
  rotate_left
  · rw [decide_eq_false hzn] at e57 e9'
    refine wp_cond_false (by rw [evTmp]; exact e57) (Go.wp_skip ?_)
    show D17.wp TZ Q a8 w1
    refine hn a8 w1 (w.heap.size, 0, 6) h8 (fun t ht => ?_) hl1 (Nat.le_refl _) ⟨q8, Nat.le_refl 6, ?_⟩ (by rw [decide_eq_false hzn]; exact e9')
    · simp only [List.mem_cons, List.not_mem_nil, or_false] at ht
      exact hsame8 t (by omega) (by omega) (by omega)
    · rw [cells2_z hzn]
      obtain ⟨c, el, fz, k1, k2, _⟩ := hS1
      have hcs : c.size = 6 := by rw [← Array.length_toList, k2]; rfl
      exact ⟨c, el, fz, k1, hcs.symm, by show 0 + 6 ≤ c.size; omega, by show (c.toList.drop 0).take 6 = _; rw [k2]; rfl⟩
  · rw [decide_eq_true hzn] at e57 e9'
    refine wp_cond_true (by rw [evTmp]; exact e57) (wp_region ?_)
    rw [s16]
    show wpOps TZ O16 _ [0, 1, 2, 3, 4, 5, 6, 7, 8] a8 w1
    have p0 : a8.tmps.getD 0 undef = .slice (some ad) n cap := by rw [hsame8 0 (by decide) (by decide) (by decide)]; exact g0
    have p7 : a8.tmps.getD 7 undef = .int .i64 (i : Int) := by rw [hsame8 7 (by decide) (by decide) (by decide)]; exact g7
    refine wpOps_val o16_0 (fun o ho => run_mv ho) ?_
    rw [q8]
    have i1 := put_is h8 (some 58) (.slice (some ⟨w.heap.size, 0, none⟩) 2 2)
    have f58 := get_same h8 (by decide : 58 < 129) (.slice (some ⟨w.heap.size, 0, none⟩) 2 2)
    have c1 : ∀ t, t < 58 → (a8.put (some 58) (.slice (some ⟨w.heap.size, 0, none⟩) 2 2)).tmps.getD t undef = a8.tmps.getD t undef := fun t ht => get_other h8 (by decide : 58 < 129) _ (by omega)
    generalize a8.put (some 58) (.slice (some ⟨w.heap.size, 0, none⟩) 2 2) = d1 at i1 f58 c1 ⊢
    refine wpOps_val o16_1 (fun o ho => run_mv ho) ?_
    rw [c1 0 (by decide), p0]
    have i2 := put_is i1 (some 59) (.slice (some ad) n cap)
    have f59 := get_same i1 (by decide : 59 < 129) (.slice (some ad) n cap)
    have f58 := (get_other i1 (by decide : 59 < 129) (.slice (some ad) n cap) (t := 58) (by decide)).trans f58
    have c2 : ∀ t, t < 58 → (d1.put (some 59) (.slice (some ad) n cap)).tmps.getD t undef = a8.tmps.getD t undef := fun t ht => (get_other i1 (by decide : 59 < 129) _ (by omega)).trans (c1 t ht)
    generalize d1.put (some 59) (.slice (some ad) n cap) = d2 at i2 f58 f59 c2 ⊢
    refine wpOps_val o16_2 (fun o ho => run_mv ho) ?_
    rw [c2 7 (by decide), p7]
    have i3 := put_is i2 (some 60) (.int .i64 (i : Int))
    have f60 := get_same i2 (by decide : 60 < 129) (.int .i64 (i : Int))
    have f58 := (get_other i2 (by decide : 60 < 129) (.int .i64 (i : Int)) (t := 58) (by decide)).trans f58
    have f59 := (get_other i2 (by decide : 60 < 129) (.int .i64 (i : Int)) (t := 59) (by decide)).trans f59
    have c3 : ∀ t, t < 58 → (d2.put (some 60) (.int .i64 (i : Int))).tmps.getD t undef = a8.tmps.getD t undef := fun t ht => (get_other i2 (by decide : 60 < 129) _ (by omega)).trans (c2 t ht)
    generalize d2.put (some 60) (.int .i64 (i : Int)) = d3 at i3 f58 f59 f60 c3 ⊢
    refine wpOps_val o16_3 (fun o ho => run_ix tz_u22 tz_s5 ho hi f59 f60) ?_
    have i4 := put_is i3 (some 61) (.pointer (some (ad.add i)))
    have f61 := get_same i3 (by decide : 61 < 129) (.pointer (some (ad.add i)))
    have f58 := (get_other i3 (by decide : 61 < 129) (.pointer (some (ad.add i))) (t := 58) (by decide)).trans f58
    have c4 : ∀ t, t < 58 → (d3.put (some 61) (.pointer (some (ad.add i)))).tmps.getD t undef = a8.tmps.getD t undef := fun t ht => (get_other i3 (by decide : 61 < 129) _ (by omega)).trans (c3 t ht)
    generalize d3.put (some 61) (.pointer (some (ad.add i))) = d4 at i4 f58 f61 c4 ⊢
    refine wpOps_val o16_4 (fun o ho => run_ld tz_a5 ho f61 hcell1) ?_
    have i5 := put_is i4 (some 62) (.int .u8 (z : Int))
    have f62 := get_same i4 (by decide : 62 < 129) (.int .u8 (z : Int))
    have f58 := (get_other i4 (by decide : 62 < 129) (.int .u8 (z : Int)) (t := 58) (by decide)).trans f58
    have c5 : ∀ t, t < 58 → (d4.put (some 62) (.int .u8 (z : Int))).tmps.getD t undef = a8.tmps.getD t undef := fun t ht => (get_other i4 (by decide : 62 < 129) _ (by omega)).trans (c4 t ht)
    generalize d4.put (some 62) (.int .u8 (z : Int)) = d5 at i5 f58 f62 c5 ⊢
    refine wpOps_val o16_5 (fun o ho => run_rem4 (k := 2) ho (by decide) f62) ?_
    have i6 := put_is i5 (some 63) (.int .u8 ((z % 2 : Nat) : Int))
    have f63 := get_same i5 (by decide : 63 < 129) (.int .u8 ((z % 2 : Nat) : Int))
    have f58 := (get_other i5 (by decide : 63 < 129) (.int .u8 ((z % 2 : Nat) : Int)) (t := 58) (by decide)).trans f58
    have c6 : ∀ t, t < 58 → (d5.put (some 63) (.int .u8 ((z % 2 : Nat) : Int))).tmps.getD t undef = a8.tmps.getD t undef := fun t ht => (get_other i5 (by decide : 63 < 129) _ (by omega)).trans (c5 t ht)
    generalize d5.put (some 63) (.int .u8 ((z % 2 : Nat) : Int)) = d6 at i6 f58 f63 c6 ⊢
    refine front_16 (by omega) (Nat.le_trans hgs hl1.2.1) i6 hS1 (by rw [c6 8 (by decide)]; exact q8) f58 f63 (fun t ht => ?_) fun a' w' ha' hs' hx hS' => ?_
    · simp only [List.mem_cons, List.not_mem_nil, or_false] at ht
      rw [c6 t (by omega)]
      by_cases h9 : t = 9
      · subst h9; rw [e9']; rfl
      · rw [hsame8 t (by omega) (by omega) h9]
        refine hc t ?_
        simp only [List.mem_cons, List.not_mem_nil, or_false]
        omega
    · show D17.wp TZ Q a' w'
      refine hn a' w' (w.heap.size, 0, 6) ha' (fun t ht => ?_) ⟨fun b hb => ?_, Nat.le_trans hl1.2.1 hx.2.1, hx.2.2.1.trans hl1.2.2.1, hx.2.2.2.1.trans hl1.2.2.2.1, hx.2.2.2.2.trans hl1.2.2.2.2⟩ (Nat.le_refl _) ⟨?_, Nat.le_refl 6, ?_⟩ ?_
      · simp only [List.mem_cons, List.not_mem_nil, or_false] at ht
        rw [hs' t (by simp only [List.mem_cons, List.not_mem_nil, or_false]; omega), c6 t (by omega)]
        exact hsame8 t (by omega) (by omega) (by omega)
      · rw [hx.1 b (Nat.lt_of_lt_of_le hb hl1.2.1) (by omega)]; exact hl1.1 b hb
      · rw [hs' 8 (by decide), c6 8 (by decide)]; exact q8
      · have hcl : cells2 (rowZ z id) = if z % 2 = 0 then [.int .i64 0, .int .i64 0, .string ByteArray.empty, .int .i64 2, .int .i64 ((z / 4 % 4 : Nat) : Int), .string ByteArray.empty] else [.int .i64 2, .int .i64 ((z % 4 : Nat) : Int), .string ByteArray.empty, .int .i64 0, .int .i64 0, .string ByteArray.empty] := by
          by_cases h2 : z % 2 = 0
          · rw [if_pos h2]; exact cells2_0 hzn h2
          · rw [if_neg h2]; exact cells2_1 hzn (by omega)
        rw [hcl]
        obtain ⟨c, el, fz, k1, k2, _⟩ := hS'
        have hcs : c.size = 6 := by rw [← Array.length_toList, k2]; split <;> rfl
        refine ⟨c, el, fz, k1, hcs.symm, ?_, ?_⟩
        · show 0 + _ ≤ c.size
          split <;> (show 0 + 6 ≤ c.size; omega)
        · rw [k2]
          split <;> rfl
      · rw [hs' 9 (by decide), c6 9 (by decide), e9', decide_eq_true hzn]
end Go.AM

namespace Go.AM
open Go.Proofs

/- ### the end of a round: what was said of the row's kinds before -/
noncomputable def D20 : Code := sr (sr D17)
noncomputable def O20 : Array Oper := opsOf (sl D20)
noncomputable def X21 : Code := sr D20
noncomputable def hasL (k : Nat) (b : Bool) : List Nat → List AVal
  | [] => []
  | j :: l => cond' (.bool b) (.opq j) (Nat.beq j k) :: hasL k b l
noncomputable def hasB (k : Nat) (b : Bool) : Blk := .cells false (hasL k b (natL 16 0))
def hRegs (null : Bool) (k : Nat) (e : AVal) : List (Nat × AVal) := [(0, .opq 100), (3, .opq 101), (4, .opq 102), (5, .ptr 3 0), (6, .opq 103), (7, .opq 104), (9, .bool null), (10, e), (11, .int .u8 (.ofNat k))]
/-- the kinds were there: an error is wanted -/
noncomputable def hDup (P : Program) (K : KH) (X : Code) (k : Nat) : Bool :=
  match oneRun P 129 K X ⟨false, fun i => Nat.beq i 1, false⟩ (hRegs false k (.iface 118 (.ptr 5 0))) [0, 3, 4, 5, 6, 7] (mkMem 2 0 b00 [.cells true (hasL k true (natL 16 0)), .cells true errA, .cells true [.str [116], .iface 118 (.ptr 4 0)]]) with
  | .ok (.tuple l) m => sameL [.opq 100, .opq 101, .opq 102, .ptr 3 0, .bool true, .opq 104] l
  | _ => false
noncomputable def hOk (P : Program) (K : KH) (X : Code) (null b : Bool) (k : Nat) : Bool :=
  match oneRun P 129 K X ⟨true, fun _ => false, false⟩ (hRegs null k .niliface) [0, 3, 4, 5, 6, 7] (mkMem 2 0 .none [hasB k b]) with
  | .ok (.tuple l) m => and (sameL [.opq 100, .opq 101, .opq 102, .ptr 3 0, .opq 103, .opq 104] l) (absMem (idMap 2 [3]) 0 .none [hasB k (or b (not null))] m)
  | _ => false
noncomputable def hRow (k : Nat) : Bool := and (hDup TZ K0 X21 k) (and (hOk TZ K0 X21 false false k) (and (hOk TZ K0 X21 true false k) (hOk TZ K0 X21 true true k)))
theorem h_all : (List.range 16).all hRow = true := by kernel_rfl
theorem d20_is : D20 = .seq (.region 20 O20 false) X21 := by kernel_rfl
theorem d17_is : D17 = .seq R17 (.seq S18 D20) := by kernel_rfl
theorem s20 : O20.size = 6 := by kernel_rfl
theorem gx21 : gCode TZ.globals.size X21 = true := by kernel_rfl
theorem o20_0 : OpAt O20 0 75 (.move (.tmp 0)) := opAtB (by kernel_rfl) (by kernel_rfl) (by kernel_rfl) (by kernel_rfl)
theorem o20_1 : OpAt O20 1 76 (.move (.tmp 7)) := opAtB (by kernel_rfl) (by kernel_rfl) (by kernel_rfl) (by kernel_rfl)
theorem o20_2 : OpAt O20 2 77 (.indexAddr 22 (.tmp 75) (.tmp 76)) := opAtB (by kernel_rfl) (by kernel_rfl) (by kernel_rfl) (by kernel_rfl)
theorem o20_3 : OpAt O20 3 78 (.load 5 (.tmp 77)) := opAtB (by kernel_rfl) (by kernel_rfl) (by kernel_rfl) (by kernel_rfl)
theorem o20_4 : OpAt O20 4 79 (.binOp .rem 5 (.tmp 78) (.const (.int .u8 16)) 5) := opAtB (by kernel_rfl) (by kernel_rfl) (by kernel_rfl) (by kernel_rfl)
theorem o20_5 : OpAt O20 5 11 (.assign (.tmp 79)) := opAtB (by kernel_rfl) (by kernel_rfl) (by kernel_rfl) (by kernel_rfl)
end Go.AM

namespace Go.AM
open Go.Proofs

/- ### a store's memory without the store -/
theorem none_of {T T' : Tok} (hst : T'.strong = false) (hh : ∀ b, T'.hold b = none) {φ : Phi} {l : List Blk} (hl : 2 + 1 + l.length ≤ 65536) {w : World} (hr : @Rel T TZ φ (mkMem 2 0 b00 l) w) : ∃ φ', @Rel T' TZ φ' (mkMem 2 0 b00 []) w ∧ ∀ p, p ≤ 2 → φ' p = φ p := by
  have hg : (mkMem 2 0 b00 l).get 0 = b00 := by rw [mkMem_get (by decide) hl (by decide), if_neg (by omega), if_pos rfl]
  have hn : (mkMem 2 0 b00 l).next = 2 + 1 + l.length := addL_next l _
  have habs : absMem ⟨2, [], [], fun _ => .bad, fun _ => .bad⟩ 0 b00 [] (mkMem 2 0 b00 l) = true := by
    unfold absMem
    rw [hg]
    kernel_rfl
  have hab := absorb (T := T) (T' := T') (σ := ⟨2, [], [], fun _ => .bad, fun _ => .bad⟩) tz_glob.symm hr habs (fun _ j c hj _ => absurd hj (Nat.not_lt_zero _)) (fun kk d s c hs _ => (aeq_bad hs).elim) (fun i s c hs hc => (aeq_bad hs).elim) (fun b o h => by rw [hh b] at h; cases h) (fun h => by rw [hst] at h; cases h)
  refine ⟨_, hab.1, fun p hp => ?_⟩
  unfold absPhi
  rw [if_pos (by rw [top_eq]; show p < 2 + 1 + 0; omega)]
  match p, hp with
  | 0, _ => rfl
  | 1, _ => rfl
  | 2, _ => rfl
end Go.AM

namespace Go.AM
open Go.Proofs

/- ### the end of a round -/
def HasAt (w : World) (ph : Nat) (f : Nat → Bool) : Prop := StructAt w ph ((List.range 16).map fun j => .bool (f j))
theorem ro_also {T : Tok} (hh : ∀ b, T.hold b = none) {φ : Phi} {l : List Blk} {cs : List AVal} {w : World} (hl : 2 + 1 + l.length < 65536) (hro : ∀ b, b ∈ l → b.wr = false) {x : Img} {vs : List Value} (hr : @Rel T TZ φ (mkMem 2 0 b00 l) w) (hc : CellsAt (heapOf w) x vs) (hv : @VsRel T φ cs vs) (hcell : ∀ v, v ∈ cs → v.isCell = true) :
    ∃ φ', @Rel T TZ φ' (mkMem 2 0 b00 (l ++ [.cells true cs])) w ∧ φ' (3 + l.length) = some x ∧ ∀ q y, φ q = some y → φ' q = some y := by
  have hn : (mkMem 2 0 b00 l).next = 2 + 1 + l.length := addL_next l _
  have ext : ∀ q y, φ q = some y → (if q = (mkMem 2 0 b00 l).next then some (x.1, x.2.1, x.2.2) else φ q) = some y := fun q y hq => by
    have := @Rel.dom T TZ _ _ _ hr q y hq
    rw [if_neg (by omega)]; exact hq
  refine ⟨fun q => if q = (mkMem 2 0 b00 l).next then some (x.1, x.2.1, x.2.2) else φ q, ?_, ?_, ext⟩
  · rw [mkMem_snoc]
    exact @Rel.also T TZ _ _ _ hr hh _ _ _ _ (by omega) rfl (hc.lt fun b o h => h) (fun q b o s hq hw hφ => by
      rw [mkMem_ro (by decide) (by omega) b00_ro hro q hq] at hw; cases hw) (brel_of (fun b o h => h) hc (if_pos rfl) (@VsRel.mono T _ _ ext _ _ hv) hcell)
  · show (if 3 + l.length = (mkMem 2 0 b00 l).next then _ else _) = _
    rw [if_pos (by omega)]
theorem hasL_rel {T : Tok} {φ : Phi} {k : Nat} {b : Bool} {f : Nat → Bool} (hf : f k = b) : ∀ {l : List Nat}, (∀ j, j ∈ l → T.val j = .bool (f j)) → @VsRel T φ (hasL k b l) (l.map fun j => .bool (f j))
  | [], _ => @VsRel.nil T φ
  | j :: l, h => by
    have ih := hasL_rel (T := T) (φ := φ) (k := k) hf (l := l) fun i hi => h i (List.mem_cons_of_mem _ hi)
    show @VsRel T φ (cond' (.bool b) (.opq j) (Nat.beq j k) :: hasL k b l) (.bool (f j) :: l.map fun j => .bool (f j))
    refine @VsRel.cons T φ _ _ _ _ ?_ ih
    rw [cond_if]
    split
    · rename_i e
      rw [beq_true] at e
      subst e
      rw [hf]; exact @VRel.bool T φ b
    · rw [← h j (List.mem_cons_self ..)]; exact @VRel.opq T φ j
theorem hasL_un {T : Tok} {φ : Phi} {k : Nat} {b : Bool} {f : Nat → Bool} : ∀ {l : List Nat}, (∀ j, j ∈ l → T.val j = .bool (f j)) → ∀ {vs : List Value}, @VsRel T φ (hasL k b l) vs → vs = l.map fun j => .bool (if j = k then b else f j)
  | [], _, vs, h => by cases h; rfl
  | j :: l, hT, vs, h => by
    have h' : @VsRel T φ (cond' (.bool b) (.opq j) (Nat.beq j k) :: hasL k b l) vs := h
    cases h' with
    | cons h1 h2 =>
      rw [hasL_un (fun i hi => hT i (List.mem_cons_of_mem _ hi)) h2]
      rw [cond_if] at h1
      rw [List.map_cons]
      congr 1
      split at h1
      · rename_i e
        rw [beq_true] at e
        rw [if_pos e]; cases h1; rfl
      · rename_i e
        rw [beq_true] at e
        rw [if_neg e, opq_is h1, hT j (List.mem_cons_self ..)]
theorem hasL_cell {k : Nat} {b : Bool} : ∀ {l : List Nat} {v : AVal}, v ∈ hasL k b l → v.isCell = true
  | j :: l, v, h => by
    rcases List.mem_cons.1 h with rfl | h
    · rw [cond_if]; split <;> rfl
    · exact hasL_cell h
theorem natL16 : natL 16 0 = List.range 16 := by decide
theorem has_cells {w : World} {ph : Nat} {f : Nat → Bool} (h : HasAt w ph f) : CellsAt (heapOf w) (ph, 0, 16) ((List.range 16).map fun j => .bool (f j)) := by
  obtain ⟨c, el, fz, k1, k2, _⟩ := h
  have hl : ((List.range 16).map fun j => Value.bool (f j)).length = 16 := by simp
  have hs : c.size = 16 := by rw [← Array.length_toList, k2, hl]
  refine ⟨c, el, fz, k1, hs.symm, by rw [hl]; show 0 + 16 ≤ c.size; omega, ?_⟩
  rw [hl, k2]
  show (List.drop 0 _).take 16 = _
  rw [List.drop_zero, List.take_of_length_le (by rw [hl]; exact Nat.le_refl _)]
def hasF (cs : List Value) (f : Nat → Bool) (j : Nat) : Value := if j < 16 then .bool (f j) else (cs[j - 100]?).getD nilS
theorem hasF_cell {cs : List Value} (h : ∀ c, c ∈ cs → c.oneCell' = true) (f : Nat → Bool) (j : Nat) : (hasF cs f j).oneCell' = true := by
  unfold hasF
  split
  · rfl
  · cases hj : cs[j - 100]? with
    | none => rfl
    | some c => exact h c (List.mem_of_getElem? hj)
theorem hasF_at {cs : List Value} {f : Nat → Bool} {i : Nat} {c : Value} (h : cs[i]? = some c) : hasF cs f (100 + i) = c := by
  unfold hasF
  rw [if_neg (by omega), show 100 + i - 100 = i by omega, h]; rfl
section
variable {k : Nat} {a : Act} {w : World} {ph : Nat} {f : Nat → Bool}
theorem hregs {T : Tok} {φ : Phi} {null : Bool} {e : AVal} (ht0 : T.val 100 = a.tmps.getD 0 undef) (ht1 : T.val 101 = a.tmps.getD 3 undef) (ht2 : T.val 102 = a.tmps.getD 4 undef) (ht3 : T.val 103 = a.tmps.getD 6 undef) (ht4 : T.val 104 = a.tmps.getD 7 undef)
    (g5 : a.tmps.getD 5 undef = .pointer (some ⟨ph, 0, none⟩)) (h3 : φ 3 = some (ph, 0, 16)) (g9 : a.tmps.getD 9 undef = .bool null) (g10 : @VRel T φ e (a.tmps.getD 10 undef)) (g11 : a.tmps.getD 11 undef = .int .u8 (k : Int)) : ∀ q, q ∈ hRegs null k e → q.1 < 4096 ∧ @VRel T φ q.2 (a.tmps.getD q.1 undef) := fun q hq => by
  simp only [hRegs, List.mem_cons, List.not_mem_nil, or_false] at hq
  rcases hq with rfl | rfl | rfl | rfl | rfl | rfl | rfl | rfl | rfl
  · exact ⟨(by decide : 0 < 4096), by show @VRel T φ (.opq 100) (a.tmps.getD 0 undef); rw [← ht0]; exact @VRel.opq T φ 100⟩
  · exact ⟨(by decide : 3 < 4096), by show @VRel T φ (.opq 101) (a.tmps.getD 3 undef); rw [← ht1]; exact @VRel.opq T φ 101⟩
  · exact ⟨(by decide : 4 < 4096), by show @VRel T φ (.opq 102) (a.tmps.getD 4 undef); rw [← ht2]; exact @VRel.opq T φ 102⟩
  · exact ⟨(by decide : 5 < 4096), by show @VRel T φ (.ptr 3 0) (a.tmps.getD 5 undef); rw [g5]; exact @VRel.ptr T φ 3 0 ph 0 16 h3⟩
  · exact ⟨(by decide : 6 < 4096), by show @VRel T φ (.opq 103) (a.tmps.getD 6 undef); rw [← ht3]; exact @VRel.opq T φ 103⟩
  · exact ⟨(by decide : 7 < 4096), by show @VRel T φ (.opq 104) (a.tmps.getD 7 undef); rw [← ht4]; exact @VRel.opq T φ 104⟩
  · exact ⟨(by decide : 9 < 4096), by show @VRel T φ (.bool null) (a.tmps.getD 9 undef); rw [g9]; exact @VRel.bool T φ null⟩
  · exact ⟨(by decide : 10 < 4096), g10⟩
  · exact ⟨(by decide : 11 < 4096), by show @VRel T φ (.int .u8 (.ofNat k)) (a.tmps.getD 11 undef); rw [g11]; exact @VRel.int T φ .u8 (k : Int)⟩
theorem regs_cells (hc : ∀ t, t ∈ [0, 3, 4, 6, 7] → (a.tmps.getD t undef).oneCell' = true) : ∀ c, c ∈ [a.tmps.getD 0 undef, a.tmps.getD 3 undef, a.tmps.getD 4 undef, a.tmps.getD 6 undef, a.tmps.getD 7 undef] → c.oneCell' = true := fun c hcm => by
  simp only [List.mem_cons, List.not_mem_nil, or_false] at hcm
  rcases hcm with rfl | rfl | rfl | rfl | rfl
  · exact hc 0 (by decide)
  · exact hc 3 (by decide)
  · exact hc 4 (by decide)
  · exact hc 6 (by decide)
  · exact hc 7 (by decide)
theorem law_dup (hk : k < 16) (ha : ActIs 129 a) {κ : Bool} {rows : List RowD} {sp : Value} {tag : Nat} {own : Nat → Nat} (hrl : rows.length ≤ 40) (hS : StoAt κ rows sp tag own w) (hH : HasAt w ph f) (hf : f k = true) (g5 : a.tmps.getD 5 undef = .pointer (some ⟨ph, 0, none⟩)) (g9 : a.tmps.getD 9 undef = .bool false)
    {own' : Nat → Nat} {tag' : Nat} (g10 : ErrW own' tag' w (a.tmps.getD 10 undef)) (g11 : a.tmps.getD 11 undef = .int .u8 (k : Int)) (hc : ∀ t, t ∈ [0, 3, 4, 6, 7] → (a.tmps.getD t undef).oneCell' = true) {Q : Exit → Act → World → Prop}
    (hn : ∀ a' w', ActIs 129 a' → SameRegs [0, 3, 4, 5, 7] a a' → a'.tmps.getD 6 undef = .bool true → Left' w w' → Q (.exit 1) a' w') : X21.wp TZ Q a w := by
  have hcs := regs_cells hc
  let cs : List Value := [a.tmps.getD 0 undef, a.tmps.getD 3 undef, a.tmps.getD 4 undef, a.tmps.getD 6 undef, a.tmps.getD 7 undef]
  let T : Tok := tokS (hasF cs f) (hasF_cell hcs f) []
  have tv : ∀ j, j < 1000 → T.val j = hasF cs f j := fun j hj => if_pos hj
  have t16 : ∀ j, j ∈ List.range 16 → T.val j = .bool (f j) := fun j hj => by
    rw [List.mem_range] at hj
    rw [tv j (by omega)]; exact if_pos hj
  have tc : ∀ i c, cs[i]? = some c → T.val (100 + i) = c := fun i c hi => by
    have := getElem?_lt hi
    have hi' : i < 5 := this
    rw [tv _ (by omega)]; exact hasF_at hi
  obtain ⟨φ0, x3, q1, _⟩ := hS
  have hl0 : 2 + 1 + (utL κ rows.length []).length ≤ 65536 := by
    have h1 := utL_next κ rows.length
    have h2 : (mkMem 2 0 b00 (utL κ rows.length [])).next = 2 + 1 + (utL κ rows.length []).length := addL_next _ _
    have h3 := vAt_le κ (n := rows.length) (by omega)
    omega
  obtain ⟨φ1, r1, _⟩ := none_of (T := tokS (fun _ => nilS) (fun _ => rfl) rows) (T' := T) rfl (fun _ => rfl) hl0 (q1 _ _)
  obtain ⟨φ2, r2, p2, e2⟩ := ro_also (T := T) (fun _ => rfl) (l := []) (by decide) (fun b hb => by cases hb) r1 (has_cells hH) (by rw [natL16]; exact hasL_rel (k := k) hf t16 : @VsRel T φ1 (hasL k true (natL 16 0)) _) (fun v hv => hasL_cell hv)
  obtain ⟨x1, x2, v1, vs, he, hc1, hc2, hv1, hvs, _, _⟩ := g10
  obtain ⟨φ3, r3, p3, e3⟩ := ro_also (T := T) (fun _ => rfl) (l := [.cells true (hasL k true (natL 16 0))]) (by show 2 + 1 + 1 < 65536; decide) (fun b hb => by rw [List.mem_singleton] at hb; subst hb; rfl) r2 hc2 (hvs T φ2) (fun v hv => by
    simp only [errA, List.mem_cons, List.not_mem_nil, or_false] at hv
    rcases hv with rfl | rfl <;> rfl)
  have p3' : φ3 4 = some x2 := p3
  have hptr : @VRel T φ3 (.ptr 4 0) (ptrV x2) := @VRel.ptr T φ3 4 0 x2.1 x2.2.1 x2.2.2 p3'
  obtain ⟨φ4, r4, p4, e4⟩ := ro_also (T := T) (fun _ => rfl) (l := [.cells true (hasL k true (natL 16 0)), .cells true errA]) (by show 2 + 1 + 2 < 65536; decide) (fun b hb => by
    simp only [List.mem_cons, List.not_mem_nil, or_false] at hb
    rcases hb with rfl | rfl <;> rfl) r3 hc1 (cs := [.str [116], .iface 118 (.ptr 4 0)]) (@VsRel.cons T φ3 _ _ _ _ (hv1 T φ3) (@VsRel.cons T φ3 _ _ _ _ (@VRel.iface T φ3 118 _ _ hptr) (@VsRel.nil T φ3))) (fun v hv => by
    simp only [List.mem_cons, List.not_mem_nil, or_false] at hv
    rcases hv with rfl | rfl <;> rfl)
  have p4' : φ4 5 = some x1 := p4
  have h3 : φ4 3 = some (ph, 0, 16) := e4 _ _ (e3 _ _ p2)
  have hrow := List.all_eq_true.1 h_all k (List.mem_range.2 hk)
  unfold hRow at hrow
  rw [Bool.and_eq_true] at hrow
  have hrun := hrow.1
  unfold hDup at hrun
  split at hrun
  rotate_left
  · cases hrun
  rename_i l m hq
  have hs' := sameL_eq hrun
  subst hs'
  have hro : ∀ q, q < (mkMem 2 0 b00 [.cells true (hasL k true (natL 16 0)), .cells true errA, .cells true [.str [116], .iface 118 (.ptr 4 0)]]).next → ((mkMem 2 0 b00 [.cells true (hasL k true (natL 16 0)), .cells true errA, .cells true [.str [116], .iface 118 (.ptr 4 0)]]).get q).wr = false :=
    mkMem_ro (by decide) (by show 2 + 1 + 3 ≤ 65536; decide) b00_ro fun b hb => by
      simp only [List.mem_cons, List.not_mem_nil, or_false] at hb
      rcases hb with rfl | rfl | rfl <;> rfl
  refine @one_ok TZ T K0 k0_ok k0_draw 129 X21 gx21 _ _ _ _ _ _ hq φ4 w a Q r4 ha (by decide) (hregs (tc 0 _ rfl) (tc 1 _ rfl) (tc 2 _ rfl) (tc 3 _ rfl) (tc 4 _ rfl) g5 h3 g9 (by
    rw [he]; exact @VRel.iface T φ4 118 _ _ (@VRel.ptr T φ4 5 0 x1.1 x1.2.1 x1.2.2 p4')) g11) (fun h => by cases h) (fun i hi φ' a' w' hst ha' hv => ?_) (fun h => by cases h)
  have hi1 : i = 1 := beq_true.1 hi
  subst hi1
  have hext : ∀ q x, φ4 q = some x → φ' q = some x := @Step.ext T TZ _ _ _ _ _ _ hst
  refine hn a' w' ha' (fun t ht => ?_) ?_ (Left'.of hst hro)
  · simp only [List.mem_cons, List.not_mem_nil, or_false] at ht
    rcases ht with rfl | rfl | rfl | rfl | rfl
    · rw [opq_is (vals_get hv (i := 0) (t := 0) rfl rfl)]; exact tc 0 _ rfl
    · rw [opq_is (vals_get hv (i := 1) (t := 3) rfl rfl)]; exact tc 1 _ rfl
    · rw [opq_is (vals_get hv (i := 2) (t := 4) rfl rfl)]; exact tc 2 _ rfl
    · rw [ptr_is (vals_get hv (i := 3) (t := 5) rfl rfl) (hext _ _ h3), g5]; rfl
    · rw [opq_is (vals_get hv (i := 5) (t := 7) rfl rfl)]; exact tc 4 _ rfl
  · have := vals_get hv (i := 4) (t := 6) rfl rfl
    generalize a'.tmps.getD 6 undef = c at this
    cases this; rfl
theorem law_ok (hk : k < 16) (hgs : 2 ≤ w.heap.size) (ha : ActIs 129 a) (hH : HasAt w ph f) {null b : Bool} (hf : f k = b) (hnb : null = true ∨ b = false) (g5 : a.tmps.getD 5 undef = .pointer (some ⟨ph, 0, none⟩)) (g9 : a.tmps.getD 9 undef = .bool null) (g10 : a.tmps.getD 10 undef = .nilIface)
    (g11 : a.tmps.getD 11 undef = .int .u8 (k : Int)) (hc : ∀ t, t ∈ [0, 3, 4, 6, 7] → (a.tmps.getD t undef).oneCell' = true) {Q : Exit → Act → World → Prop}
    (hn : ∀ a' w', ActIs 129 a' → SameRegs [0, 3, 4, 5, 6, 7] a a' → LeftX ph w w' → HasAt w' ph (fun j => if j = k then (b || !null) else f j) → Q .normal a' w') : X21.wp TZ Q a w := by
  have hcs := regs_cells hc
  let cs : List Value := [a.tmps.getD 0 undef, a.tmps.getD 3 undef, a.tmps.getD 4 undef, a.tmps.getD 6 undef, a.tmps.getD 7 undef]
  let T : Tok := tokB noH (hasF cs f) (hasF_cell hcs f)
  have t16 : ∀ j, j ∈ List.range 16 → T.val j = .bool (f j) := fun j hj => by
    rw [List.mem_range] at hj
    exact if_pos hj
  have tc : ∀ i c, cs[i]? = some c → T.val (100 + i) = c := fun i c hi => hasF_at hi
  have f3 : phiOf 2 [(ph, 0, 16)] 3 = some (ph, 0, 16) := rfl
  have hl16 : ((List.range 16).map fun j => Value.bool (f j)).length = 16 := by simp
  have hr : @Rel T TZ (phiOf 2 [(ph, 0, 16)]) (mkMem 2 0 .none [hasB k b]) w := by
    refine mkRelW tz_glob (by decide) hgs rfl (by show 2 + 1 + 1 ≤ 65536; decide) (fun i b y hb hw hy => ⟨rfl, fun j z hz hne => ?_⟩) (fun z hz => ?_) (fun i b' hb => ?_) (fun b o h => by cases h)
    · have h1 := getElem?_lt hz
      have h2 := getElem?_lt hy
      simp at h1 h2
      omega
    · rw [List.mem_singleton] at hz
      subst hz
      exact hH.lt
    · match i, hb with
      | 0, hb =>
        simp only [List.getElem?_cons_zero, Option.some.injEq] at hb
        subst hb
        exact StructAt.brel hH (by rw [hl16]; exact f3) (by rw [natL16]; exact hasL_rel (k := k) hf t16 : @VsRel T _ (hasL k b (natL 16 0)) _) (fun v hv => hasL_cell hv)
      | i + 1, hb => simp at hb
  have hrow := List.all_eq_true.1 h_all k (List.mem_range.2 hk)
  unfold hRow at hrow
  simp only [Bool.and_eq_true] at hrow
  have hrun : hOk TZ K0 X21 null b k = true := by
    cases null with
    | true => cases b with
      | true => exact hrow.2.2.2
      | false => exact hrow.2.2.1
    | false => cases b with
      | true => rcases hnb with h | h <;> cases h
      | false => exact hrow.2.1
  unfold hOk at hrun
  split at hrun
  rotate_left
  · cases hrun
  rename_i l m hq
  rw [Bool.and_eq_true] at hrun
  obtain ⟨hs, habs⟩ := hrun
  have hs' := sameL_eq hs
  subst hs'
  refine @one_ok TZ T K0 k0_ok k0_draw 129 X21 gx21 _ _ _ _ _ _ hq _ w a Q hr ha (by decide) (hregs (tc 0 _ rfl) (tc 1 _ rfl) (tc 2 _ rfl) (tc 3 _ rfl) (tc 4 _ rfl) g5 f3 g9 (by
    rw [g10]; exact @VRel.niliface T _) g11) (fun _ φ' a' w' hst ha' hv => ?_) (fun i h => by cases h) (fun h => by cases h)
  have hext : ∀ q x, phiOf 2 [(ph, 0, 16)] q = some x → φ' q = some x := @Step.ext T TZ _ _ _ _ _ _ hst
  obtain ⟨r1, _⟩ := idRel (T := T) rfl tz_glob (@Step.rel T TZ _ _ _ _ _ _ hst) habs
  obtain ⟨b1, b2⟩ := mkMem_at (G := 2) (by decide) (l := [hasB k (or b (not null))]) (by show 2 + 1 + 1 ≤ 65536; decide) (i := 0) rfl
  have hll : ∀ (k : Nat) (b : Bool) (l : List Nat), (hasL k b l).length = l.length := fun k b l => by
    induction l with
    | nil => rfl
    | cons j l ih => show (hasL k b l).length + 1 = _; rw [ih]; rfl
  obtain ⟨vs, hS1, hvs⟩ := StructAt.of (T := T) rfl (p := ph) (n := 16) r1 b1 b2 (hext 3 _ f3) (by rw [hll]; decide)
  have hwr : ∀ q b' o s, q < (mkMem 2 0 .none [hasB k b]).next → ((mkMem 2 0 .none [hasB k b]).get q).wr = true → phiOf 2 [(ph, 0, 16)] q = some (b', o, s) → b' = ph := fun q b' o s hq hw hφ => by
    have hn : (mkMem 2 0 .none [hasB k b]).next = 4 := addL_next [hasB k b] _
    rw [hn] at hq
    rw [mkMem_get (by decide) (by show 2 + 1 + 1 ≤ 65536; decide) (by omega)] at hw
    match q, hq with
    | 0, _ => cases hw
    | 1, _ => cases hw
    | 2, _ => cases hw
    | 3, _ => rw [f3] at hφ; cases hφ; rfl
  refine hn a' w' ha' (fun t ht => ?_) (leftX_of hst hwr) ?_
  · simp only [List.mem_cons, List.not_mem_nil, or_false] at ht
    rcases ht with rfl | rfl | rfl | rfl | rfl | rfl
    · rw [opq_is (vals_get hv (i := 0) (t := 0) rfl rfl)]; exact tc 0 _ rfl
    · rw [opq_is (vals_get hv (i := 1) (t := 3) rfl rfl)]; exact tc 1 _ rfl
    · rw [opq_is (vals_get hv (i := 2) (t := 4) rfl rfl)]; exact tc 2 _ rfl
    · rw [ptr_is (vals_get hv (i := 3) (t := 5) rfl rfl) (hext _ _ f3), g5]; rfl
    · rw [opq_is (vals_get hv (i := 4) (t := 6) rfl rfl)]; exact tc 3 _ rfl
    · rw [opq_is (vals_get hv (i := 5) (t := 7) rfl rfl)]; exact tc 4 _ rfl
  · rw [natL16] at hvs
    have hvs' := hasL_un t16 hvs
    rw [hvs'] at hS1
    exact hS1
end
end Go.AM

namespace Go.AM
open Go.Proofs

/- ### a round of the law -/
attribute [local irreducible] O20 in
theorem law_20 {a : Act} {w : World} (ha : ActIs 129 a) {ad : Addr} {n cap i z : Nat} (hi : i < n) (g0 : a.tmps.getD 0 undef = .slice (some ad) n cap) (g7 : a.tmps.getD 7 undef = .int .i64 (i : Int)) (hcell : w.cell? (ad.add i) = some (.int .u8 (z : Int))) {rest : Code} {Q : Exit → Act → World → Prop}
    (hn : ∀ a', ActIs 129 a' → (∀ t, t < 75 → t ≠ 11 → a'.tmps.getD t undef = a.tmps.getD t undef) → a'.tmps.getD 11 undef = .int .u8 ((z % 16 : Nat) : Int) → rest.wp TZ Q a' w) : (Code.seq (.region 20 O20 false) rest).wp TZ Q a w := by
  refine wp_seq (wp_region ?_)
  rw [s20]
  show wpOps TZ O20 _ [0, 1, 2, 3, 4, 5] a w
  refine wpOps_val o20_0 (fun o ho => run_mv ho) ?_
  rw [g0]
  have h2 := put_is ha (some 75) (.slice (some ad) n cap)
  have e75 := get_same ha (by decide : 75 < 129) (.slice (some ad) n cap)
  have b2 : ∀ t, t < 75 → (a.put (some 75) (.slice (some ad) n cap)).tmps.getD t undef = a.tmps.getD t undef := fun t ht => get_other ha (by decide : 75 < 129) _ (by omega)
  generalize a.put (some 75) (.slice (some ad) n cap) = a2 at h2 e75 b2 ⊢
  refine wpOps_val o20_1 (fun o ho => run_mv ho) ?_
  rw [b2 7 (by decide), g7]
  have h3 := put_is h2 (some 76) (.int .i64 (i : Int))
  have e76 := get_same h2 (by decide : 76 < 129) (.int .i64 (i : Int))
  have e75 := (get_other h2 (by decide : 76 < 129) (.int .i64 (i : Int)) (t := 75) (by decide)).trans e75
  have b3 : ∀ t, t < 75 → (a2.put (some 76) (.int .i64 (i : Int))).tmps.getD t undef = a.tmps.getD t undef := fun t ht => (get_other h2 (by decide : 76 < 129) _ (by omega)).trans (b2 t ht)
  generalize a2.put (some 76) (.int .i64 (i : Int)) = a3 at h3 e76 e75 b3 ⊢
  refine wpOps_val o20_2 (fun o ho => run_ix tz_u22 tz_s5 ho hi e75 e76) ?_
  have h4 := put_is h3 (some 77) (.pointer (some (ad.add i)))
  have e77 := get_same h3 (by decide : 77 < 129) (.pointer (some (ad.add i)))
  have b4 : ∀ t, t < 75 → (a3.put (some 77) (.pointer (some (ad.add i)))).tmps.getD t undef = a.tmps.getD t undef := fun t ht => (get_other h3 (by decide : 77 < 129) _ (by omega)).trans (b3 t ht)
  generalize a3.put (some 77) (.pointer (some (ad.add i))) = a4 at h4 e77 b4 ⊢
  refine wpOps_val o20_3 (fun o ho => run_ld tz_a5 ho e77 hcell) ?_
  have h5 := put_is h4 (some 78) (.int .u8 (z : Int))
  have e78 := get_same h4 (by decide : 78 < 129) (.int .u8 (z : Int))
  have b5 : ∀ t, t < 75 → (a4.put (some 78) (.int .u8 (z : Int))).tmps.getD t undef = a.tmps.getD t undef := fun t ht => (get_other h4 (by decide : 78 < 129) _ (by omega)).trans (b4 t ht)
  generalize a4.put (some 78) (.int .u8 (z : Int)) = a5 at h5 e78 b5 ⊢
  refine wpOps_val o20_4 (fun o ho => run_rem4 (k := 16) ho (by decide) e78) ?_
  have h6 := put_is h5 (some 79) (.int .u8 ((z % 16 : Nat) : Int))
  have e79 := get_same h5 (by decide : 79 < 129) (.int .u8 ((z % 16 : Nat) : Int))
  have b6 : ∀ t, t < 75 → (a5.put (some 79) (.int .u8 ((z % 16 : Nat) : Int))).tmps.getD t undef = a.tmps.getD t undef := fun t ht => (get_other h5 (by decide : 79 < 129) _ (by omega)).trans (b5 t ht)
  generalize a5.put (some 79) (.int .u8 ((z % 16 : Nat) : Int)) = a6 at h6 e79 b6 ⊢
  refine wpOps_val o20_5 (fun o ho => run_as ho) ?_
  rw [e79]
  have h7 := put_is h6 (some 11) (.int .u8 ((z % 16 : Nat) : Int))
  have e11 := get_same h6 (by decide : 11 < 129) (.int .u8 ((z % 16 : Nat) : Int))
  have b7 : ∀ t, t < 75 → t ≠ 11 → (a6.put (some 11) (.int .u8 ((z % 16 : Nat) : Int))).tmps.getD t undef = a.tmps.getD t undef := fun t ht h => (get_other h6 (by decide : 11 < 129) _ h).trans (b6 t ht)
  generalize a6.put (some 11) (.int .u8 ((z % 16 : Nat) : Int)) = a7 at h7 e11 b7 ⊢
  show rest.wp TZ Q a7 w
  exact hn a7 h7 b7 e11
/- the plain law of a round -/
def HasOk (f : Nat → Bool) (rows : List RowD) : Prop := ∀ k, k < 16 → (f k = true ↔ ∃ s, s ∈ rows ∧ s.a < 4 ∧ s.b < 4 ∧ s.a + 4 * s.b = k)
theorem rowZ_ok {z id : Nat} (h1 : 1 ≤ id) (h2 : id ≤ 127) : RowOk (rowZ z id) := by
  refine ⟨?_, ?_, ?_, h1, h2⟩
  · show (if 200 ≤ z ∧ z % 2 = 0 then 4 else z % 4) ≤ 4
    split <;> omega
  · show (if 200 ≤ z ∧ z % 2 = 1 then 4 else z / 4 % 4) ≤ 4
    split <;> omega
  · show ¬ ((if 200 ≤ z ∧ z % 2 = 0 then 4 else z % 4) = 4 ∧ (if 200 ≤ z ∧ z % 2 = 1 then 4 else z / 4 % 4) = 4)
    split <;> split <;> omega
theorem rowZ_full {z id : Nat} (h : ¬ 200 ≤ z) : (rowZ z id).a = z % 4 ∧ (rowZ z id).b = z / 4 % 4 ∧ (rowZ z id).a + 4 * (rowZ z id).b = z % 16 := by
  have h1 : (rowZ z id).a = z % 4 := if_neg (fun h2 => h h2.1)
  have h2 : (rowZ z id).b = z / 4 % 4 := if_neg (fun h2 => h h2.1)
  refine ⟨h1, h2, ?_⟩
  rw [h1, h2]; omega
theorem rowZ_null {z id : Nat} (h : 200 ≤ z) : (rowZ z id).a = 4 ∨ (rowZ z id).b = 4 := by
  by_cases h0 : z % 2 = 0
  · exact .inl (if_pos ⟨h, h0⟩)
  · exact .inr (if_pos ⟨h, by omega⟩)
theorem dup_iff {f : Nat → Bool} {rows : List RowD} (h : HasOk f rows) {z id : Nat} : (∃ s, s ∈ rows ∧ Same s (rowZ z id)) ↔ (¬ 200 ≤ z ∧ f (z % 16) = true) := by
  constructor
  · rintro ⟨s, hs, s1, s2, s3, s4⟩
    have hz : ¬ 200 ≤ z := fun hz => by
      rcases rowZ_null (id := id) hz with e | e <;> omega
    obtain ⟨q1, q2, q3⟩ := rowZ_full (id := id) hz
    exact ⟨hz, (h _ (by omega)).2 ⟨s, hs, s1, s2, by rw [s3, s4]; exact q3⟩⟩
  · rintro ⟨hz, hf⟩
    obtain ⟨s, hs, s1, s2, s3⟩ := (h _ (by omega)).1 hf
    obtain ⟨q1, q2, q3⟩ := rowZ_full (id := id) hz
    exact ⟨s, hs, s1, s2, by rw [q1]; omega, by rw [q2]; omega⟩
theorem nodup_app {rows : List RowD} {r : RowD} : NoDup (rows ++ [r]) ↔ NoDup rows ∧ ¬ ∃ s, s ∈ rows ∧ Same s r := by
  unfold NoDup
  rw [List.pairwise_append]
  constructor
  · rintro ⟨h1, _, h3⟩
    exact ⟨h1, fun ⟨s, hs, hS⟩ => h3 s hs r (by simp) hS⟩
  · rintro ⟨h1, h2⟩
    refine ⟨h1, List.pairwise_singleton _ _, fun s hs t ht hS => ?_⟩
    rw [List.mem_singleton] at ht
    subst ht
    exact h2 ⟨s, hs, hS⟩
theorem hasOk_dup {f : Nat → Bool} {rows : List RowD} (h : HasOk f rows) {z id : Nat} (hz : ¬ 200 ≤ z) (hf : f (z % 16) = true) : HasOk f (rows ++ [rowZ z id]) := fun k hk => by
  obtain ⟨q1, q2, q3⟩ := rowZ_full (id := id) hz
  constructor
  · intro hk1
    obtain ⟨s, hs, h2⟩ := (h k hk).1 hk1
    exact ⟨s, List.mem_append_left _ hs, h2⟩
  · rintro ⟨s, hs, s1, s2, s3⟩
    rcases List.mem_append.1 hs with hs | hs
    · exact (h k hk).2 ⟨s, hs, s1, s2, s3⟩
    · rw [List.mem_singleton] at hs
      subst hs
      rw [← s3, q3]; exact hf
theorem hasOk_new {f : Nat → Bool} {rows : List RowD} (h : HasOk f rows) {z id : Nat} : HasOk (fun j => if j = z % 16 then (f (z % 16) || !decide (200 ≤ z)) else f j) (rows ++ [rowZ z id]) := fun k hk => by
  by_cases hz : 200 ≤ z
  · have e : (fun j => if j = z % 16 then (f (z % 16) || !decide (200 ≤ z)) else f j) k = f k := by
      show (if k = z % 16 then (f (z % 16) || !decide (200 ≤ z)) else f k) = f k
      rw [decide_eq_true hz]
      split
      · rename_i e; rw [e]; simp
      · rfl
    rw [e]
    constructor
    · intro hk1
      obtain ⟨s, hs, h2⟩ := (h k hk).1 hk1
      exact ⟨s, List.mem_append_left _ hs, h2⟩
    · rintro ⟨s, hs, s1, s2, s3⟩
      rcases List.mem_append.1 hs with hs | hs
      · exact (h k hk).2 ⟨s, hs, s1, s2, s3⟩
      · rw [List.mem_singleton] at hs
        subst hs
        rcases rowZ_null (id := id) hz with e | e <;> omega
  · obtain ⟨q1, q2, q3⟩ := rowZ_full (id := id) hz
    show (if k = z % 16 then (f (z % 16) || !decide (200 ≤ z)) else f k) = true ↔ _
    rw [decide_eq_false hz]
    split
    · rename_i e
      refine ⟨fun _ => ⟨rowZ z id, List.mem_append_right _ (by simp), by omega, by omega, by rw [q3, e]⟩, fun _ => by simp⟩
    · rename_i hne
      constructor
      · intro hk1
        obtain ⟨s, hs, h2⟩ := (h k hk).1 hk1
        exact ⟨s, List.mem_append_left _ hs, h2⟩
      · rintro ⟨s, hs, s1, s2, s3⟩
        rcases List.mem_append.1 hs with hs | hs
        · exact (h k hk).2 ⟨s, hs, s1, s2, s3⟩
        · rw [List.mem_singleton] at hs
          subst hs
          omega
end Go.AM

namespace Go.AM
open Go.Proofs

/- ### a round of the law: what holds ahead of it and behind it -/
structure Env (w0 : World) (own : Nat → Nat) (ph : Nat) (w : World) : Prop where
  gs : 2 ≤ w0.heap.size
  old : ∀ b, b < w0.heap.size → own b = 0 ∧ w.heap[b]? = w0.heap[b]?
  size : w0.heap.size ≤ w.heap.size
  os : w.os = w0.os
  out : w.output = w0.output
  tape : w.tape = w0.tape
  oph : own ph = 3
  lph : ph < w.heap.size
theorem Env.left {w0 : World} {own : Nat → Nat} {ph : Nat} {w w' : World} (h : Env w0 own ph w) (hl : Left' w w') : Env w0 (extO own w 0) ph w' :=
  ⟨h.gs, fun b hb => by
    have hb' := Nat.lt_of_lt_of_le hb h.size
    rw [extO_lt hb', hl.1 b hb']; exact h.old b hb, Nat.le_trans h.size hl.2.1, hl.2.2.1.trans h.os, hl.2.2.2.1.trans h.out, hl.2.2.2.2.trans h.tape, by rw [extO_lt h.lph]; exact h.oph, Nat.lt_of_lt_of_le h.lph hl.2.1⟩
theorem Env.leftO {w0 : World} {own : Nat → Nat} {ph tag : Nat} {w w' : World} (h : Env w0 own ph w) (ht : tag ≠ 0) (hl : LeftO own tag w w') : Env w0 (extO own w tag) ph w' :=
  ⟨h.gs, fun b hb => by
    have hb' := Nat.lt_of_lt_of_le hb h.size
    have h0 := (h.old b hb).1
    rw [extO_lt hb', hl.1 b hb' (by rw [h0]; exact ht.symm)]; exact h.old b hb, Nat.le_trans h.size hl.2.1, hl.2.2.1.trans h.os, hl.2.2.2.1.trans h.out, hl.2.2.2.2.trans h.tape, by rw [extO_lt h.lph]; exact h.oph, Nat.lt_of_lt_of_le h.lph hl.2.1⟩
theorem Env.leftX {w0 : World} {own : Nat → Nat} {ph : Nat} {w w' : World} (h : Env w0 own ph w) (hl : LeftX ph w w') : Env w0 (extO own w 0) ph w' :=
  ⟨h.gs, fun b hb => by
    have hb' := Nat.lt_of_lt_of_le hb h.size
    have h0 := (h.old b hb).1
    rw [extO_lt hb', hl.1 b hb' (fun e => by rw [e, h.oph] at h0; cases h0)]; exact h.old b hb, Nat.le_trans h.size hl.2.1, hl.2.2.1.trans h.os, hl.2.2.2.1.trans h.out, hl.2.2.2.2.trans h.tape, by rw [extO_lt h.lph]; exact h.oph, Nat.lt_of_lt_of_le h.lph hl.2.1⟩
theorem Env.cell {w0 : World} {own : Nat → Nat} {ph : Nat} {w : World} (h : Env w0 own ph w) {ad : Addr} {v : Value} (hl : ad.block < w0.heap.size) (hc : w0.cell? ad = some v) : w.cell? ad = some v := by
  rw [← hc]; exact cell_congr (h.old _ hl).2
/-- what is known of the rows -/
structure RowsIs (rows : List RowD) (f : Nat → Bool) (n : Nat) : Prop where
  len : rows.length ≤ n
  oks : ∀ s, s ∈ rows → RowOk s
  ids : ∀ i s, rows[i]? = some s → s.id = i + 1
  has : HasOk f rows
structure LawSt (spT spU : Value) (ph : Nat) (w0 : World) (i : Nat) (tw : Bool) (own : Nat → Nat) (rt ru : List RowD) (f : Nat → Bool) (w : World) : Prop where
  env : Env w0 own ph w
  T : StoAt true rt spT 1 own w
  U : StoAt false ru spU 2 own w
  has : HasAt w ph f
  okT : RowsIs rt f i
  okU : RowsIs ru f i
  nd : NoDup rt
  tws : tw = false ↔ NoDup ru
theorem RowsIs.new {rows : List RowD} {f : Nat → Bool} {i : Nat} (h : RowsIs rows f i) (hi : i ≤ 39) (z : Nat) : NewRow rows (rowZ z (rows.length + 1)) :=
  ⟨by have := h.len; omega, h.oks, rowZ_ok (by omega) (by have := h.len; omega), h.ids, rfl⟩
theorem RowsIs.app {rows : List RowD} {f f' : Nat → Bool} {i : Nat} (h : RowsIs rows f i) (hi : i ≤ 39) {z : Nat} (hf : HasOk f' (rows ++ [rowZ z (rows.length + 1)])) : RowsIs (rows ++ [rowZ z (rows.length + 1)]) f' (i + 1) :=
  ⟨by rw [List.length_append]; show rows.length + 1 ≤ _; have := h.len; omega, fun s hs => by
    rcases List.mem_append.1 hs with hs | hs
    · exact h.oks s hs
    · rw [List.mem_singleton] at hs; subst hs; exact (h.new hi z).row, ids_app h.ids rfl, hf⟩
theorem StoAt.ptr {κ : Bool} {rows : List RowD} {sp : Value} {tag : Nat} {own : Nat → Nat} {w : World} (h : StoAt κ rows sp tag own w) : sp.oneCell' = true := by
  obtain ⟨_, x3, _, _, e, _⟩ := h
  rw [e]; rfl
theorem HasAt.heap {w w' : World} {ph : Nat} {f : Nat → Bool} (h : HasAt w ph f) (e : w'.heap[ph]? = w.heap[ph]?) : HasAt w' ph f := by
  obtain ⟨c, el, fz, h1, h2⟩ := h
  exact ⟨c, el, fz, e.trans h1, h2⟩
theorem ErrW.move {own own' : Nat → Nat} {tag tag' : Nat} {w w' : World} {e : Value} (h : ErrW own tag w e) (hl : ∀ b, b < w.heap.size → own b = 0 ∨ own b = tag → w'.heap[b]? = w.heap[b]? ∧ (own' b = 0 ∨ own' b = tag')) : ErrW own' tag' w' e := by
  obtain ⟨x1, x2, v1, vs, h1, h2, h3, h4, h5, h6, h7⟩ := h
  have l1 := h2.lt (fun b o h => h)
  have l2 := h3.lt (fun b o h => h)
  exact ⟨x1, x2, v1, vs, h1, h2.at_ (hl _ l1 h6).1, h3.at_ (hl _ l2 h7).1, h4, h5, (hl _ l1 h6).2, (hl _ l2 h7).2⟩
attribute [local irreducible] R17 S18 X21 O20 in
theorem law_round2 {spT spU : Value} {ph : Nat} {w0 : World} {i : Nat} {tw : Bool} {own : Nat → Nat} {rt ru : List RowD} {f : Nat → Bool} {w : World} (h : LawSt spT spU ph w0 i tw own rt ru f w) {n cap z : Nat} {ad : Addr} (hi : i < n) (hn40 : n ≤ 40) (hz : z < 256) (hadl : (ad.add i).block < w0.heap.size) (hcell : w0.cell? (ad.add i) = some (.int .u8 (z : Int)))
    {a : Act} (ha : ActIs 129 a) (g0 : a.tmps.getD 0 undef = .slice (some ad) n cap) (g3 : a.tmps.getD 3 undef = spT) (g4 : a.tmps.getD 4 undef = spU) (g5 : a.tmps.getD 5 undef = .pointer (some ⟨ph, 0, none⟩)) (g6 : a.tmps.getD 6 undef = .bool tw) (g7 : a.tmps.getD 7 undef = .int .i64 (i : Int))
    {Q : Exit → Act → World → Prop} (hQ : ∀ c a a' w, a.defers = a'.defers → Q (.panic c) a w → Q (.panic c) a' w)
    (hgo : ∀ a' w' tw' own' rt' ru' f', ActIs 129 a' → SameRegs [0, 3, 4, 5, 7] a a' → a'.tmps.getD 6 undef = .bool tw' → LawSt spT spU ph w0 (i + 1) tw' own' rt' ru' f' w' → Q .normal a' w' ∧ Q (.exit 1) a' w') : D3.wp TZ Q a w := by
  have hgs := Nat.le_trans h.env.gs h.env.size
  have hcell0 := h.env.cell hadl hcell
  refine law_front (id := 1) ha hgs hi hz g0 g7 hcell0 (Nat.lt_of_lt_of_le hadl h.env.size) (fun t ht => ?_) hQ fun a1 w1 xv ha1 hs1 hl1 hxv hV1 g9 => ?_
  · simp only [List.mem_cons, List.not_mem_nil, or_false] at ht
    rcases ht with rfl | rfl | rfl | rfl | rfl | rfl
    · rw [g0]; rfl
    · rw [g3]; exact h.T.ptr
    · rw [g4]; exact h.U.ptr
    · rw [g5]; rfl
    · rw [g6]; rfl
    · rw [g7]; rfl
  have q0 : a1.tmps.getD 0 undef = .slice (some ad) n cap := by rw [hs1 0 (by decide)]; exact g0
  have q3 : a1.tmps.getD 3 undef = spT := by rw [hs1 3 (by decide)]; exact g3
  have q4 : a1.tmps.getD 4 undef = spU := by rw [hs1 4 (by decide)]; exact g4
  have q5 : a1.tmps.getD 5 undef = .pointer (some ⟨ph, 0, none⟩) := by rw [hs1 5 (by decide)]; exact g5
  have q6 : a1.tmps.getD 6 undef = .bool tw := by rw [hs1 6 (by decide)]; exact g6
  have q7 : a1.tmps.getD 7 undef = .int .i64 (i : Int) := by rw [hs1 7 (by decide)]; exact g7
  have e1 := h.env.left hl1
  have T1 : StoAt true rt spT 1 (extO own w 0) w1 := h.T.move hl1.2.1 (fun b hb => extO_lt hb) fun b hb _ => hl1.1 b hb
  have U1 : StoAt false ru spU 2 (extO own w 0) w1 := h.U.move hl1.2.1 (fun b hb => extO_lt hb) fun b hb _ => hl1.1 b hb
  have has1 : HasAt w1 ph f := h.has.heap (hl1.1 _ h.env.lph)
  have ov1 : extO own w 0 xv.1 = 0 := extO_ge hxv
  have hxl : xv.1 < w1.heap.size := hV1.2.2.lt (fun b o h => h)
  have h001 : extO own w 0 0 = 0 := (e1.old 0 (by have := e1.gs; omega)).1
  have hw1 : 0 < w1.heap.size := by have := e1.gs; have := e1.size; omega
  generalize extO own w 0 = own1 at e1 T1 U1 ov1 h001
  have hk16 : z % 16 < 16 := by omega
  have hi39 : i ≤ 39 := by omega
  -- what both ends share: u.Write, and the row's place
  have cont : ∀ a2 w2 rt2, ActIs 129 a2 → SameRegs [0, 3, 4, 5, 6, 7, 8, 9] a1 a2 → LeftO own1 1 w1 w2 → StoAt true rt2 spT 1 (extO own1 w1 1) w2 → (a2.tmps.getD 10 undef).oneCell' = true → {Q2 : Exit → Act → World → Prop} →
      (∀ a4 w3 own3, ActIs 129 a4 → SameRegs [0, 3, 4, 5, 6, 7, 9, 10] a2 a4 → a4.tmps.getD 11 undef = .int .u8 ((z % 16 : Nat) : Int) → Env w0 own3 ph w3 → StoAt true rt2 spT 1 own3 w3 → StoAt false (ru ++ [rowZ z (ru.length + 1)]) spU 2 own3 w3 → HasAt w3 ph f →
        (∀ e, ErrW (extO own1 w1 1) 1 w2 e → ErrW own3 1 w3 e) → X21.wp TZ Q2 a4 w3) → (Code.seq S18 D20).wp TZ Q2 a2 w2 := by
    intro a2 w2 rt2 ha2 hs2 hl2 T2 hc10 Q2 hgo2
    have e2 := e1.leftO (by decide) hl2
    have U2 : StoAt false ru spU 2 (extO own1 w1 1) w2 := U1.move hl2.2.1 (fun b hb => extO_lt hb) fun b hb ho => hl2.1 b hb (by rcases ho with e | e <;> rw [e] <;> decide)
    have has2 : HasAt w2 ph f := has1.heap (hl2.1 _ e1.lph (by rw [e1.oph]; decide))
    have ov2 : extO own1 w1 1 xv.1 = 0 := by rw [extO_lt hxl]; exact ov1
    have hV2 : VAt (heapOf w2) (a2.tmps.getD 8 undef) xv (rowZ z (ru.length + 1)) := by
      obtain ⟨v1, v2, v3⟩ := hV1
      exact ⟨by rw [hs2 8 (by decide)]; exact v1, v2, v3.at_ (hl2.1 _ hxl (by rw [ov1]; decide))⟩
    have h002 : extO own1 w1 1 0 = 0 := (e2.old 0 (by have := e2.gs; omega)).1
    have hw2 : 0 < w2.heap.size := by have := e2.gs; have := e2.size; omega
    generalize extO own1 w1 1 = own2 at e2 T2 U2 ov2 h002 hgo2
    refine uWrite (h.okU.new hi39 z) U2 h002 hV2 ov2 ha2 (by rw [hs2 4 (by decide)]; exact q4) rfl (fun t ht => ?_) hw2 fun a3 w3 ha3 hs3 hl3 U3 => ?_
    · simp only [List.mem_cons, List.not_mem_nil, or_false] at ht
      rcases ht with rfl | rfl | rfl | rfl | rfl | rfl | rfl
      · rw [hs2 0 (by decide), q0]; rfl
      · rw [hs2 3 (by decide), q3]; exact h.T.ptr
      · rw [hs2 5 (by decide), q5]; rfl
      · rw [hs2 6 (by decide), q6]; rfl
      · rw [hs2 7 (by decide), q7]; rfl
      · rw [hs2 9 (by decide), g9]; rfl
      · exact hc10
    have e3 := e2.leftO (by decide) hl3
    have T3 : StoAt true rt2 spT 1 (extO own2 w2 2) w3 := T2.move hl3.2.1 (fun b hb => extO_lt hb) fun b hb ho => hl3.1 b hb (by rcases ho with e | e <;> rw [e] <;> decide)
    have has3 : HasAt w3 ph f := has2.heap (hl3.1 _ e2.lph (by rw [e2.oph]; decide))
    have hE : ∀ e, ErrW own2 1 w2 e → ErrW (extO own2 w2 2) 1 w3 e := fun e he => he.move fun b hb ho => ⟨hl3.1 b hb (by rcases ho with e | e <;> rw [e] <;> decide), by rw [extO_lt hb]; exact ho⟩
    rw [d20_is]
    refine law_20 ha3 hi (by rw [hs3 0 (by decide), hs2 0 (by decide)]; exact q0) (by rw [hs3 7 (by decide), hs2 7 (by decide)]; exact q7) (e3.cell hadl hcell) fun a4 ha4 hs4 g11 => ?_
    refine hgo2 a4 w3 _ ha4 (fun t ht => ?_) g11 e3 T3 U3 has3 hE
    have ht' := ht
    simp only [List.mem_cons, List.not_mem_nil, or_false] at ht'
    rw [hs4 t (by omega) (by omega)]
    exact hs3 t ht
  rw [d17_is]
  refine tWrite (h.okT.new hi39 z) h.nd T1 h001 hV1 ov1 ha1 q3 rfl (fun t ht => ?_) hw1 (fun hnd a2 w2 ha2 hs2 g10 hl2 T2 => ?_) (fun hnd a2 w2 ha2 hs2 g10 hl2 T2 => ?_)
  · simp only [List.mem_cons, List.not_mem_nil, or_false] at ht
    rcases ht with rfl | rfl | rfl | rfl | rfl | rfl
    · rw [q0]; rfl
    · rw [q4]; exact h.U.ptr
    · rw [q5]; rfl
    · rw [q6]; rfl
    · rw [q7]; rfl
    · rw [g9]; rfl
  · -- the row is new
    have hno : ¬ (¬ 200 ≤ z ∧ f (z % 16) = true) := fun hd => (nodup_app.1 hnd).2 ((dup_iff h.okT.has).2 hd)
    refine cont a2 w2 _ ha2 hs2 hl2 T2 (by rw [g10]; rfl) fun a4 w3 own3 ha4 hs4 g11 e3 T3 U3 has3 _ => ?_
    have hgs3 : 2 ≤ w3.heap.size := Nat.le_trans e3.gs e3.size
    refine law_ok hk16 hgs3 ha4 has3 (null := decide (200 ≤ z)) (b := f (z % 16)) rfl ?_ (by rw [hs4 5 (by decide), hs2 5 (by decide)]; exact q5) (by rw [hs4 9 (by decide), hs2 9 (by decide)]; exact g9) (by rw [hs4 10 (by decide)]; exact g10) g11 (fun t ht => ?_) fun a5 w5 ha5 hs5 hl5 has5 => ?_
    · by_cases hzn : 200 ≤ z
      · exact .inl (decide_eq_true hzn)
      · right
        cases hfz : f (z % 16) with
        | false => rfl
        | true => exact absurd ⟨hzn, hfz⟩ hno
    · simp only [List.mem_cons, List.not_mem_nil, or_false] at ht
      rcases ht with rfl | rfl | rfl | rfl | rfl
      · rw [hs4 0 (by decide), hs2 0 (by decide), q0]; rfl
      · rw [hs4 3 (by decide), hs2 3 (by decide), q3]; exact h.T.ptr
      · rw [hs4 4 (by decide), hs2 4 (by decide), q4]; exact h.U.ptr
      · rw [hs4 6 (by decide), hs2 6 (by decide), q6]; rfl
      · rw [hs4 7 (by decide), hs2 7 (by decide), q7]; rfl
    · refine (hgo a5 w5 tw _ _ _ _ ha5 (fun t ht => ?_) (by rw [hs5 6 (by decide), hs4 6 (by decide), hs2 6 (by decide)]; exact q6) ⟨e3.leftX hl5, T3.move hl5.2.1 (fun b hb => extO_lt hb) fun b hb ho => hl5.1 b hb fun e => ?_, U3.move hl5.2.1 (fun b hb => extO_lt hb) fun b hb ho => hl5.1 b hb fun e => ?_, has5, h.okT.app hi39 (hasOk_new h.okT.has), h.okU.app hi39 (hasOk_new h.okU.has), hnd, ?_⟩).1
      · simp only [List.mem_cons, List.not_mem_nil, or_false] at ht
        rw [hs5 t (by simp only [List.mem_cons, List.not_mem_nil, or_false]; omega), hs4 t (by simp only [List.mem_cons, List.not_mem_nil, or_false]; omega), hs2 t (by simp only [List.mem_cons, List.not_mem_nil, or_false]; omega)]
        exact hs1 t (by simp only [List.mem_cons, List.not_mem_nil, or_false]; omega)
      · rw [e, e3.oph] at ho
        rcases ho with e | e <;> cases e
      · rw [e, e3.oph] at ho
        rcases ho with e | e <;> cases e
      · rw [h.tws, nodup_app]
        exact ⟨fun h1 => ⟨h1, fun hd => hno ((dup_iff h.okU.has).1 hd)⟩, fun h1 => h1.1⟩
  · -- a row with its kinds is there
    obtain ⟨hzn, hfz⟩ : ¬ 200 ≤ z ∧ f (z % 16) = true := by
      refine (dup_iff h.okT.has (id := rt.length + 1)).1 ?_
      apply Classical.byContradiction
      intro hno
      exact hnd (nodup_app.2 ⟨h.nd, hno⟩)
    have hc10 : (a2.tmps.getD 10 undef).oneCell' = true := by
      obtain ⟨_, _, _, _, e, _⟩ := g10
      rw [e]; rfl
    refine cont a2 w2 _ ha2 hs2 hl2 T2 hc10 fun a4 w3 own3 ha4 hs4 g11 e3 T3 U3 has3 hE => ?_
    have hul : (ru ++ [rowZ z (ru.length + 1)]).length ≤ 40 := by
      rw [List.length_append]
      have := h.okU.len
      show ru.length + 1 ≤ 40
      omega
    refine law_dup hk16 ha4 hul U3 has3 hfz (by rw [hs4 5 (by decide), hs2 5 (by decide)]; exact q5) (by rw [hs4 9 (by decide), hs2 9 (by decide), g9, decide_eq_false hzn]) (by rw [hs4 10 (by decide)]; exact hE _ g10) g11 (fun t ht => ?_) fun a5 w5 ha5 hs5 g6' hl5 => ?_
    · simp only [List.mem_cons, List.not_mem_nil, or_false] at ht
      rcases ht with rfl | rfl | rfl | rfl | rfl
      · rw [hs4 0 (by decide), hs2 0 (by decide), q0]; rfl
      · rw [hs4 3 (by decide), hs2 3 (by decide), q3]; exact h.T.ptr
      · rw [hs4 4 (by decide), hs2 4 (by decide), q4]; exact h.U.ptr
      · rw [hs4 6 (by decide), hs2 6 (by decide), q6]; rfl
      · rw [hs4 7 (by decide), hs2 7 (by decide), q7]; rfl
    · have rt' : RowsIs rt f (i + 1) := ⟨Nat.le_succ_of_le h.okT.len, h.okT.oks, h.okT.ids, h.okT.has⟩
      refine (hgo a5 w5 true _ _ _ _ ha5 (fun t ht => ?_) g6' ⟨e3.left hl5, T3.move hl5.2.1 (fun b hb => extO_lt hb) fun b hb _ => hl5.1 b hb, U3.move hl5.2.1 (fun b hb => extO_lt hb) fun b hb _ => hl5.1 b hb, has3.heap (hl5.1 _ e3.lph), rt', h.okU.app hi39 (hasOk_dup h.okU.has hzn hfz), h.nd, ?_⟩).2
      · simp only [List.mem_cons, List.not_mem_nil, or_false] at ht
        rw [hs5 t (by simp only [List.mem_cons, List.not_mem_nil, or_false]; omega), hs4 t (by simp only [List.mem_cons, List.not_mem_nil, or_false]; omega), hs2 t (by simp only [List.mem_cons, List.not_mem_nil, or_false]; omega)]
        exact hs1 t (by simp only [List.mem_cons, List.not_mem_nil, or_false]; omega)
      · constructor
        · intro e; cases e
        · intro hn2
          exact absurd ((dup_iff h.okU.has (id := ru.length + 1)).2 ⟨hzn, hfz⟩) (nodup_app.1 hn2).2
end Go.AM
