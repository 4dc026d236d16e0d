/- The abstract machine is sound: operations, first half. -/
import Derived.Test.YtggjomdndfacgaaGreatDoorUm1
import Derived.Calls
import Derived.Laws.Cells
import Derived.Laws.Strings
import Derived.Laws.Cover1
import Derived.Laws.Concat
import Derived.Laws.StructEq
import Derived.Laws.Tables
set_option linter.unusedSectionVars false
set_option linter.unusedVariables false
set_option linter.unusedSimpArgs false
namespace Go.AM
variable [Tok]
variable {P : Program}

/-- a call ends: at once, or by a body -/
def Ends (P : Program) (f : FuncId) (cargs : Array Value) (w : World) (R : Value → World → Prop) : Prop :=
  (∃ c w', (callFunc f cargs).run P w = .ok (.value c) w' ∧ R c w') ∨
  ((callFunc f cargs).run P w = .ok (.enter f cargs) w ∧ Calls P f cargs w fun e w' => ∃ c, e = .returned c ∧ R c w')
/-- what a call of the abstract machine tells of the program's calls -/
def KSound (P : Program) (K : KH) : Prop := ∀ f args m v m', K f args m = .ok v m' →
  ∀ φ w cargs, Rel P φ m w → VsRel φ args cargs.toList → Ends P f cargs w fun c w' => ∃ φ', Step P φ m w φ' m' w' ∧ VRel φ' v c
def OpsRel (φ : Phi) (r : Regs) (a : Act) (o : Oper) : Prop := ∀ x, x ∈ o.op.operands → VRel φ ((opd x).get r) (a.eval x)
def PureOk (P : Program) (o : Oper) (f : Regs → (AVal → R) → R) : Prop := ∀ r k v mf, f r k = .ok v mf → ∃ u, k u = .ok v mf ∧
  ∀ φ m w (a : Act), Rel P φ m w → OpsRel φ r a o → ∃ c, VRel φ u c ∧ (execOp a.eval o).run P w = .ok (.value c) w
def ReadOk (P : Program) (o : Oper) (x : Od) (f : AVal → Mem → (AVal → R) → R) : Prop := ∃ ad, o.op.operands = #[ad] ∧ x = opd ad ∧ ∀ av m k v mf, f av m k = .ok v mf → ∃ u, k u = .ok v mf ∧
  ∀ φ w (a : Act), Rel P φ m w → VRel φ av (a.eval ad) → ∃ c, VRel φ u c ∧ (execOp a.eval o).run P w = .ok (.value c) w
def AllocOk (P : Program) (o : Oper) (f : Regs → Nat → (AVal → Blk → R) → R) : Prop := ∀ r id k v mf, f r id k = .ok v mf → ∃ u b, k u b = .ok v mf ∧ b.live = true ∧
  ∀ φ m w (a : Act), Rel P φ m w → OpsRel φ r a o → ∃ c ob s, (execOp a.eval o).run P w = .ok (.value c) (w.alloc ob) ∧
    ∀ φ', Ext' φ φ' → φ' id = some (w.heap.size, 0, s) → VRel φ' u c ∧ BRel φ' (w.alloc ob) id b
def HeavyOk (P : Program) (o : Oper) (f : KH → Regs → Mem → KV → R) : Prop := ∀ K, KSound P K → ∀ r m k v mf, f K r m k = .ok v mf → ∃ u m', k u m' = .ok v mf ∧
  ∀ φ w (a : Act), Rel P φ m w → OpsRel φ r a o → ∀ (next : Act → World → Prop) (Q : Exit → Act → World → Prop),
    (∀ φ' c w', Step P φ m w φ' m' w' → VRel φ' u c → next (a.put o.dst c) w') → o.wp P a w next Q
def OpOk (P : Program) (o : Oper) : OpC → Prop
  | .pure f => PureOk P o f
  | .read x f => ReadOk P o x f
  | .alloc f => AllocOk P o f
  | .heavy f => HeavyOk P o f
  | .bad _ => True

/- ### the program's tables -/
section
variable {w : World} {t : TypeId}
theorem info_of_hasT (h : hasT P t = true) : ∃ i, P.info? t = some i := by
  unfold hasT Program.underlying at h
  cases hi : P.info? t with
  | none => rw [hi] at h; cases h
  | some i => exact ⟨i, rfl⟩
theorem run_under {d : TypeDesc} (h : P.underlying t = some d) : (underlying t).run P w = .ok d w := by
  simp [underlying, h]
theorem run_isAgg' (h : hasT P t = true) : (isAgg t).run P w = .ok (aggB P t) w := by
  unfold hasT at h
  cases hd : P.underlying t with
  | none => rw [hd] at h; cases h
  | some d =>
    unfold isAgg aggB
    simp only [Sem.run_bind, run_under hd, Result.andThen_ok, hd]
    cases d <;> rfl
theorem run_sizeOf' (h : hasT P t = true) : (sizeOf t).run P w = .ok (szOf P t) w := by
  obtain ⟨i, hi⟩ := info_of_hasT h
  simp [sizeOf, typeInfo, hi, szOf, Program.cellsOf]
theorem run_zeroV {z : Value} (h : (P.info? t).bind (·.zero) = some z) : (zeroValue t).run P w = .ok z w := by
  cases hi : P.info? t with
  | none => rw [hi] at h; cases h
  | some i =>
    rw [hi] at h
    simp at h
    simp [zeroValue, typeInfo, hi, h]
end
theorem run_value {s : Sem Value} {w w' : World} {c : Value} (h : s.run P w = .ok c w') : (do pure (Next.value (← s)) : Sem Next).run P w = .ok (.value c) w' := by
  simp [h]

/- ### constants -/
theorem map_rel {φ : Phi} {f : Value → AVal} (hf : ∀ v, VRel φ (f v) v) : ∀ l : List Value, VsRel φ (l.map f) l
  | [] => .nil
  | v :: l => .cons (hf v) (map_rel hf l)
theorem cvalN_rel (φ : Phi) : ∀ (d : Nat) (v : Value), VRel φ (cvalN d v) v
  | 0, v => .bad v
  | d + 1, v => by
    have ih := cvalN_rel φ d
    cases v with
    | bool b => exact .bool b
    | int k n => exact .int k n
    | string s => exact .str _ s rfl
    | pointer a => cases a with
      | none => exact .nilptr
      | some a => exact .bad _
    | slice a l c =>
      cases a with
      | none =>
        cases l with
        | zero => cases c with
          | zero => exact .nilslice
          | succ c => exact .bad _
        | succ l => exact .bad _
      | some a => exact .bad _
    | map r => cases r with
      | none => exact .nilmap
      | some r => exact .bad _
    | nilFunc => exact .nilfunc
    | nilIface => exact .niliface
    | agg cs =>
      show VRel φ (cond' (AVal.agg (cs.toList.map (cvalN d))) .bad ((cs.toList.map (cvalN d)).all AVal.isCell)) _
      cases hc : (cs.toList.map (cvalN d)).all AVal.isCell with
      | false => exact .bad _
      | true => exact .agg _ cs (map_rel ih _) (fun v hv => List.all_eq_true.1 hc v hv)
    | tuple cs => exact .tuple _ cs (map_rel ih _)
    | func fn first caps =>
      cases fn with
      | func f =>
        obtain ⟨first⟩ := first
        obtain ⟨caps⟩ := caps
        cases first with
        | nil => cases caps with
          | nil => exact .func f [] #[] .nil (fun v hv => by cases hv)
          | cons c cs => exact .bad _
        | cons c cs => exact .bad _
      | _ => exact .bad _
    | _ => exact .bad _
theorem cval_rel (φ : Phi) (v : Value) : VRel φ (cval v) v := cvalN_rel φ 4 v
theorem zeroA_ok {t : TypeId} {z : List AVal} (h : zeroA P t = some z) : ∃ c, (P.info? t).bind (·.zero) = some c ∧ (∀ φ, VsRel φ z c.cells.toList) ∧ (∀ v, v ∈ z → v.isCell = true) := by
  unfold zeroA at h
  cases hz : (P.info? t).bind (·.zero) with
  | none => rw [hz] at h; cases h
  | some c =>
    rw [hz] at h
    simp only [Option.map_some, Option.filter_some, List.all_eq_true] at h
    split at h
    · rename_i hc
      obtain rfl := Option.some.inj h
      refine ⟨c, rfl, fun φ => (cval_rel φ c).cells ?_, hc⟩
      cases hv : cval c with
      | bad => rw [hv] at hc; have := hc .bad (by simp [AM.cells]); cases this
      | tuple l => rw [hv] at hc; have := hc (.tuple l) (by simp [AM.cells]); cases this
      | _ => rfl
    · cases h
theorem zeroV_ok {t : TypeId} {z : AVal} (h : zeroV P t = some z) : ∃ c, (P.info? t).bind (·.zero) = some c ∧ ∀ φ, VRel φ z c := by
  unfold zeroV at h
  cases hz : (P.info? t).bind (·.zero) with
  | none => rw [hz] at h; cases h
  | some c =>
    rw [hz] at h
    obtain rfl := Option.some.inj h
    exact ⟨c, rfl, fun φ => cval_rel φ c⟩

/- ### the simplest operations -/
theorem move_ok {o : Oper} {x : Operand} (h : o.op = .move x ∨ o.op = .assign x) : PureOk P o fun r k => k ((opd x).get r) := by
  intro r k v mf hk
  refine ⟨_, hk, fun φ m w a hr ho => ⟨a.eval x, ho x ?_, ?_⟩⟩
  · rcases h with h | h <;> simp [h, Op.operands]
  · rcases h with h | h <;> simp [execOp, h]
theorem pick_ok {o : Oper} {c x y : Operand} (h : o.op = .pick c x y) : PureOk P o fun r k => ((opd c).get r).onBool fun t => k (cond' ((opd x).get r) ((opd y).get r) t) := by
  intro r k v mf hk
  obtain ⟨b, hb, hk⟩ := onBool_ok hk
  refine ⟨_, hk, fun φ m w a hr ho => ?_⟩
  have h1 := ho c (by simp [h, Op.operands])
  have h2 := ho x (by simp [h, Op.operands])
  have h3 := ho y (by simp [h, Op.operands])
  rw [hb] at h1
  generalize hc : a.eval c = cc at h1
  cases h1
  refine ⟨if b then a.eval x else a.eval y, ?_, ?_⟩
  · cases b
    · exact h3
    · exact h2
  · simp [execOp, h, hc, asBool]
theorem cellsOf_block {φ : Phi} {m : Mem} {w : World} (hr : Rel P φ m w) {b o n : Nat} {k : List AVal → R} {v : AVal} {mf : Mem} {x : Nat × Nat × Nat} (hφ : φ b = some x)
    (h : getCells m b o n k = .ok v mf) : ∃ l cb co sz, φ b = some (cb, co, sz) ∧ l.length = n ∧ k l = .ok v mf ∧ (∀ v, v ∈ l → v.isCell = true) ∧
      ∃ c el fz, w.heap[cb]? = some (.cells c el fz) ∧ sz = c.size ∧ (n ≠ 0 → co + o + n ≤ c.size) ∧ VsRel φ l ((c.toList.drop (co + o)).take n) := by
  obtain ⟨ro, cs, hb, hn, hk⟩ := getCells_ok h
  have hB := hr.blk b (hr.dom _ _ hφ)
  rw [hb] at hB
  obtain ⟨cb, co, c, el, fz, h1, h2, h3, h4, h5, h6⟩ := hB
  refine ⟨_, cb, co, _, h1, hn, hk, fun v hv => h5 v (List.mem_of_mem_drop (List.mem_of_mem_take hv)), c, el, fz, h2, rfl, ?_, ?_⟩
  · intro h0; simp at hn; omega
  · have := (h4.drop o).take n
    rw [List.drop_take, List.drop_drop, List.take_take] at this
    have e : min n (cs.length - o) = n := by simp at hn; omega
    rw [e] at this
    rw [show co + o = o + co from Nat.add_comm ..] at *
    simpa [Nat.add_comm] using this

theorem getCell_block {φ : Phi} {m : Mem} {w : World} (hr : Rel P φ m w) {b o : Nat} {k : AVal → R} {v : AVal} {mf : Mem} {x : Nat × Nat × Nat} (hφ : φ b = some x)
    (h : getCell m b o k = .ok v mf) : ∃ u cb co sz c, φ b = some (cb, co, sz) ∧ k u = .ok v mf ∧ u.isCell = true ∧ w.cell? ⟨cb, co + o, none⟩ = some c ∧ VRel φ u c := by
  obtain ⟨ro, cs, hb, h⟩ := onCells_ok h
  obtain ⟨u, r, hd, hk⟩ := onL_ok h
  rw [dropL_eq] at hd
  have hB := hr.blk b (hr.dom _ _ hφ)
  rw [hb] at hB
  obtain ⟨cb, co, c, el, fz, h1, h2, h3, h4, h5, h6⟩ := hB
  obtain ⟨x, hx, hv⟩ := h4.of_drop_cons hd
  refine ⟨u, cb, co, _, x, h1, hk, h5 u (List.mem_of_mem_drop (by rw [hd]; exact List.mem_cons_self ..)), ?_, hv⟩
  rw [List.getElem?_take] at hx
  split at hx
  · rw [List.getElem?_drop] at hx
    simp only [World.cell?, h2, Option.isSome_none, Bool.false_eq_true, if_false]
    rw [← Array.getElem?_toList]; exact hx
  · cases hx
theorem run_loadAt {φ : Phi} {m : Mem} {w : World} (hr : Rel P φ m w) {t : TypeId} (ht : hasT P t = true) {av : AVal} {c : Value} (hv : VRel φ av c) {k : AVal → R} {v : AVal} {mf : Mem}
    (h : aLoad (aggB P t) (szOf P t) av m k = .ok v mf) : ∃ u x, k u = .ok v mf ∧ VRel φ u x ∧ (Instr.loadAt t c).run P w = .ok x w := by
  obtain ⟨b, o, rfl, h⟩ := onPtr_ok h
  cases hv with
  | ptr _ _ cb co sz hφ =>
    unfold Instr.loadAt Instr.sureAddr loadVar
    simp only [Sem.run_bind, Sem.run_pure, Result.andThen_ok, run_isAgg' ht]
    rcases cond_ok h with ⟨hg, h⟩ | ⟨hg, h⟩
    · obtain ⟨l, cb', co', sz', hφ', hl, hk, hc, c, el, fz, h2, h3, h4, h5⟩ := cellsOf_block hr hφ h
      rw [hφ] at hφ'; cases hφ'
      refine ⟨_, .agg (((c.toList.drop (co + o)).take (szOf P t)).toArray), hk, .agg _ _ (by simpa using h5) hc, ?_⟩
      rw [hg]
      simp only [if_true, Sem.run_bind, run_sizeOf' ht, Result.andThen_ok]
      have hlen : ((c.toList.drop (co + o)).take (szOf P t)).length = szOf P t := by rw [h5.length, hl]
      have := run_loadCells_list (P := P) (w := w) ⟨cb, co + o, none⟩ ((c.toList.drop (co + o)).take (szOf P t)) (by
        intro j v hj
        rw [addr_add]
        rw [List.getElem?_take] at hj
        split at hj
        · rw [List.getElem?_drop] at hj
          simp only [World.cell?, h2, Option.isSome_none, Bool.false_eq_true, if_false]
          rw [← Array.getElem?_toList]; exact hj
        · cases hj)
      rw [hlen] at this
      rw [this]; rfl
    · obtain ⟨u, cb', co', sz', x, hφ', hk, _, hx, hux⟩ := getCell_block hr hφ h
      rw [hφ] at hφ'; cases hφ'
      refine ⟨u, x, hk, hux, ?_⟩
      rw [hg]
      simp [hx]
theorem aLoad_det {agg : Bool} {n : Nat} {av : AVal} {m : Mem} {k : AVal → R} {v : AVal} {mf : Mem} (h : aLoad agg n av m k = .ok v mf) :
    ∃ u, k u = .ok v mf ∧ ∀ k' : AVal → R, aLoad agg n av m k' = k' u := by
  obtain ⟨b, o, rfl, h⟩ := onPtr_ok h
  rcases cond_ok h with ⟨rfl, h⟩ | ⟨rfl, h⟩
  · obtain ⟨ro, cs, hb, h⟩ := onCells_ok h
    obtain ⟨h1, h2⟩ := cond_t h
    refine ⟨_, h2, fun k' => ?_⟩
    show getCells m b o n (fun l => k' (.agg l)) = _
    unfold getCells
    rw [hb]
    show cond' (k' (.agg (takeL n (dropL o cs)))) (.fail 22) _ = _
    rw [h1]; rfl
  · obtain ⟨ro, cs, hb, h⟩ := onCells_ok h
    obtain ⟨u, r, hd, hk⟩ := onL_ok h
    refine ⟨u, hk, fun k' => ?_⟩
    show getCell m b o k' = _
    unfold getCell
    rw [hb]
    show onL (.fail 23) (fun x _ => k' x) (dropL o cs) = _
    rw [hd]; rfl
theorem load_ok {o : Oper} {t : TypeId} {ad : Operand} (h : o.op = .load t ad) : OpOk P o (cLoad P t ad) := by
  unfold cLoad
  cases ht : hasT P t with
  | false => trivial
  | true =>
    refine ⟨ad, by simp [h, Op.operands], rfl, fun av m k v mf hk => ?_⟩
    obtain ⟨u, hu, hdet⟩ := aLoad_det hk
    refine ⟨u, hu, fun φ w a hr hv => ?_⟩
    have h2 : aLoad (aggB P t) (szOf P t) av m (fun u => .ok u m) = .ok u m := hdet _
    obtain ⟨u', x, hu', hx, hrun⟩ := run_loadAt hr ht hv h2
    cases hu'
    exact ⟨x, hx, by simp only [execOp, h]; exact run_value hrun⟩

/- ### stores -/
theorem overL_nil : ∀ (o : Nat) (cs : List AVal), overL [] o cs = cs
  | 0, cs => by simp [overL, appL_eq, dropL_eq, lenL_eq]
  | n + 1, [] => rfl
  | n + 1, x :: l => congrArg (List.cons x) (overL_nil n l)
theorem putCells_ok {m : Mem} {b o : Nat} {vs : List AVal} {k : Mem → R} {v : AVal} {mf : Mem} (h : putCells m b o vs k = .ok v mf) :
    ∃ cs, m.get b = .cells false cs ∧ (vs.length ≠ 0 → o + vs.length ≤ cs.length) ∧ k (m.put b (.cells false (overL vs o cs))) = .ok v mf := by
  obtain ⟨ro, cs, hb, h⟩ := onCells_ok h
  obtain ⟨rfl, h⟩ := cond_f h
  obtain ⟨h1, h⟩ := cond_t h
  rw [ble_true, lenL_eq, lenL_eq, takeL_eq, dropL_eq] at h1
  refine ⟨cs, hb, fun h0 => ?_, h⟩
  simp at h1; omega
theorem putCells_step {φ : Phi} {m : Mem} {w : World} (hr : Rel P φ m w) {b o cb co sz : Nat} (hφ : φ b = some (cb, co, sz)) {cs vs : List AVal} (hb : m.get b = .cells false cs)
    (hlen : vs.length ≠ 0 → o + vs.length ≤ cs.length) {ws : List Value} (hv : VsRel φ vs ws) (hc : ∀ v, v ∈ vs → v.isCell = true) :
    ∃ w', (storeCells ⟨cb, co + o, none⟩ ws 0).run P w = .ok () w' ∧ Step P φ m w φ (m.put b (.cells false (overL vs o cs))) w' := by
  have hp := hr.dom _ _ hφ
  have hB := hr.blk b hp
  rw [hb] at hB
  obtain ⟨cb', co', c, el, fz, h1, h2, h3, h4, h5, h6⟩ := hB
  rw [hφ] at h1; cases h1
  have hwr : (m.get b).wr = true := by rw [hb]; rfl
  by_cases h0 : vs.length = 0
  · have hvs : vs = [] := List.length_eq_zero_iff.1 h0
    subst hvs
    cases hv
    refine ⟨w, rfl, ?_⟩
    rw [overL_nil]
    have := Step.upd hr (ob := .cells c el fz) (x' := .cells false cs) hp hwr hφ
    rw [setBlk_same h2] at this
    exact this ⟨_, _, c, el, fz, hφ, h2, h3, h4, h5, h6⟩
  · have hlen' := hlen h0
    have hws := hv.length
    have hlt : cb < w.heap.size := by
      rcases Nat.lt_or_ge cb w.heap.size with h | h
      · exact h
      · rw [Array.getElem?_eq_none h] at h2; cases h2
    refine ⟨_, run_storeCells' ws 0 (co + o) c w h2 (by omega) (hv.plain hc) (fun j h7 h8 => (h6 rfl j (by omega) (.inl (by omega))).1), ?_⟩
    refine Step.upd hr hp hwr hφ ?_
    have hsz : (spl c (co + o + 0) ws).size = c.size := spl_size _ _ _ (by omega)
    have hover := overL_eq vs cs o hlen'
    refine ⟨cb, co, _, el, fz, by rw [hsz]; exact hφ, setBlk_get _ _ _ hlt, ?_, ?_, ?_, ?_⟩
    · rw [hsz, hover]; simp; omega
    · rw [hover]
      have e1 : (List.take o cs ++ vs ++ List.drop (o + vs.length) cs).length = cs.length := by simp; omega
      rw [e1]
      have h7 := h4.over hv o
      have e2 : ((spl c (co + o + 0) ws).toList.drop co).take cs.length = List.take o ((c.toList.drop co).take cs.length) ++ ws ++ List.drop (o + ws.length) ((c.toList.drop co).take cs.length) := by
        simp only [spl, Nat.add_zero, List.toList_toArray]
        apply List.ext_getElem?
        intro i
        simp only [List.getElem?_take, List.getElem?_drop, List.getElem?_append, List.length_take, List.length_drop, List.length_append, Array.length_toList]
        grind
      rw [e2]; exact h7
    · rw [hover]
      intro v hm
      simp only [List.mem_append] at hm
      rcases hm with (hm | hm) | hm
      · exact h5 v (List.mem_of_mem_take hm)
      · exact hc v hm
      · exact h5 v (List.mem_of_mem_drop hm)
    · intro hro i h7 h8
      rw [hsz] at h8
      refine ⟨(h6 hro i h7 h8).1, fun x hx => ?_⟩
      rcases spl_at (by omega) hx with h9 | h9
      · exact hv.plain hc x h9
      · exact (h6 hro i h7 h8).2 x h9
theorem VRel.cells_size {φ : Phi} {v : AVal} {c : Value} (h : VRel φ v c) (hc : v.isCell = true) : c.cells = #[c] := by
  have := h.plain hc
  cases c <;> first | rfl | cases this
theorem store_ok {o : Oper} {t : TypeId} {ad x : Operand} (h : o.op = .store t ad x) : OpOk P o (cStore P t ad x) := by
  have key : ∀ agg n, hasT P t = true → aggB P t = agg → szOf P t = n → (agg = false → n = 1) →
      HeavyOk P o fun _ r m k => aStore agg n ((opd ad).get r) ((opd x).get r) m fun m => k undefA m := by
    intro agg n ht hg hn h1 K _ r m k v mf hk
    obtain ⟨b, p, hb, hk⟩ := onPtr_ok hk
    -- the cells that are stored
    have hcells : ∃ vs cs, m.get b = .cells false cs ∧ (vs.length ≠ 0 → p + vs.length ≤ cs.length) ∧ k undefA (m.put b (.cells false (overL vs p cs))) = .ok v mf ∧ vs.length = n ∧
        ∀ φ c, VRel φ ((opd x).get r) c → VsRel φ vs c.cells.toList ∧ (∀ v, v ∈ vs → v.isCell = true) := by
      rcases cond_ok hk with ⟨rfl, hk⟩ | ⟨rfl, hk⟩
      · obtain ⟨cs', hx, hk⟩ := onAgg_ok hk
        obtain ⟨hl, hk⟩ := cond_t hk
        obtain ⟨cs, h2, h3, h4⟩ := putCells_ok hk
        refine ⟨cs', cs, h2, h3, h4, by rw [beq_true, lenL_eq] at hl; exact hl, fun φ c hc => ?_⟩
        rw [hx] at hc
        cases hc with
        | agg _ ca h5 h6 => exact ⟨h5, h6⟩
      · obtain ⟨hl, hk⟩ := cond_t hk
        obtain ⟨cs, h2, h3, h4⟩ := putCells_ok hk
        refine ⟨[(opd x).get r], cs, h2, h3, h4, (h1 rfl).symm, fun φ c hc => ⟨?_, fun v hv => by simp at hv; rw [hv]; exact hl⟩⟩
        rw [hc.cells_size hl]
        exact .cons hc .nil
    obtain ⟨vs, cs, h2, h3, h4, h5, h6⟩ := hcells
    refine ⟨undefA, _, h4, fun φ w a hr ho next Q hnext => ?_⟩
    have ha := ho ad (by simp [h, Op.operands])
    have hx := ho x (by simp [h, Op.operands])
    rw [hb] at ha
    generalize hca : a.eval ad = ca at ha
    cases ha with
    | ptr _ _ cb co sz hφ =>
      obtain ⟨h7, h8⟩ := h6 φ _ hx
      obtain ⟨w', hrun, hstep⟩ := putCells_step hr hφ h2 h3 h7 h8
      have hlen : (a.eval x).cells.size = szOf P t := by rw [← Array.length_toList, h7.length, h5, hn]
      have : (execOp a.eval o).run P w = .ok .skip w' := by
        simp only [execOp, h, hca, Instr.storeAt, Instr.sureAddr, storeVar, Sem.run_bind, Sem.run_pure, Result.andThen_ok, run_sizeOf' ht, hlen, ne_eq, not_true, if_false, hrun]
      unfold Oper.wp
      rw [this]
      exact hnext φ undef w' hstep (.tuple _ _ .nil)
  unfold cStore
  cases ht : hasT P t with
  | false => trivial
  | true =>
    cases hg : aggB P t with
    | true => exact key true _ ht hg rfl (fun h => by cases h)
    | false =>
      cases hn : szOf P t with
      | zero => trivial
      | succ k => cases k with
        | zero => exact key false 1 ht hg hn (fun _ => rfl)
        | succ k => trivial
end Go.AM

namespace Go.AM
variable [Tok]
variable {P : Program}

theorem brel_new {φ' : Phi} {w : World} {id : Nat} {c : Array Value} {el : TypeId} {cs : List AVal} (hφ : φ' id = some (w.heap.size, 0, c.size)) (hv : VsRel φ' cs c.toList)
    (hc : ∀ v, v ∈ cs → v.isCell = true) : BRel φ' (w.alloc (.cells c el)) id (.cells false cs) := by
  have hl := hv.length
  refine ⟨w.heap.size, 0, c, el, (0, 0), hφ, by show (w.heap.push _)[w.heap.size]? = _; simp, by simp at hl; omega, ?_, hc, fun _ i _ _ => ⟨fun h => by simp at h, fun x hx => hv.plain hc x (Array.mem_toList_iff.2 (Array.mem_of_getElem? hx))⟩⟩
  rw [List.drop_zero, List.take_of_length_le (by simp at hl ⊢; omega)]; exact hv
theorem alloc_ok {o : Oper} {e : TypeId} (h : o.op = .alloc e) : OpOk P o (cAlloc P e) := by
  unfold cAlloc
  cases hz : zeroA P e with
  | none => trivial
  | some z =>
    obtain ⟨c, h1, h2, h3⟩ := zeroA_ok hz
    intro r id k v mf hk
    refine ⟨_, _, hk, rfl, fun φ m w a hr ho => ⟨.pointer (some ⟨w.heap.size, 0, none⟩), .cells c.cells e, c.cells.size, ?_, fun φ' he hφ => ⟨?_, brel_new hφ (h2 φ') h3⟩⟩⟩
    · simp only [execOp, h]
      exact run_value (by simp [Instr.alloc, run_zeroV h1, newVar, newRow])
    · exact .ptr id 0 _ 0 _ hφ
theorem box_ok {o : Oper} {e : TypeId} {x : Operand} (h : o.op = .box e x) : OpOk P o (cBox x) := by
  intro r id k v mf hk
  obtain ⟨hf, hk⟩ := cond_t hk
  refine ⟨_, _, hk, rfl, fun φ m w a hr ho => ?_⟩
  have hx := ho x (by simp [h, Op.operands])
  refine ⟨.pointer (some ⟨w.heap.size, 0, none⟩), .cells (a.eval x).cells e, (a.eval x).cells.size, ?_, fun φ' he hφ => ⟨?_, brel_new hφ ((hx.cells hf).mono he) (cells_cell hx hf)⟩⟩
  · simp only [execOp, h]
    exact run_value (by simp [Instr.box, newVar, newRow])
  · exact .ptr id 0 _ 0 _ hφ
theorem nilCheck_ok {o : Oper} {x : Operand} (h : o.op = .nilCheck x) : PureOk P o fun r k => ((opd x).get r).onPtr fun b o => k (.ptr b o) := by
  intro r k v mf hk
  obtain ⟨b, p, hb, hk⟩ := onPtr_ok hk
  refine ⟨_, hk, fun φ m w a hr ho => ?_⟩
  have hx := ho x (by simp [h, Op.operands])
  rw [hb] at hx
  generalize hc : a.eval x = c at hx
  have hx' := hx
  cases hx with
  | ptr _ _ cb co sz hφ => exact ⟨_, hx', by simp [execOp, h, hc]⟩
theorem fieldOf_ok {s : TypeId} {f : Nat} {fd : Field} (h : fieldOf P s f = some fd) : ∃ fs, P.underlying s = some (.struct fs) ∧ fs[f]? = some fd := by
  unfold fieldOf at h
  split at h
  · exact ⟨_, ‹_›, h⟩
  · cases h
theorem fieldAddr_ok {o : Oper} {s : TypeId} {x : Operand} {f : Nat} (h : o.op = .fieldAddr s x f) : OpOk P o (cFieldAddr P s x f) := by
  unfold cFieldAddr
  cases hf : fieldOf P s f with
  | none => trivial
  | some fd =>
    obtain ⟨fs, h1, h2⟩ := fieldOf_ok hf
    simp only
    split
    · trivial
    · rename_i hs
      simp at hs
      obtain ⟨hs, ht⟩ := hs
      intro r k v mf hk
      obtain ⟨b, p, hb, hk⟩ := onPtr_ok hk
      rw [forceN_eq] at hk
      refine ⟨_, hk, fun φ m w a hr ho => ?_⟩
      have hx := ho x (by simp [h, Op.operands])
      rw [hb] at hx
      generalize hc : a.eval x = c at hx
      cases hx with
      | ptr _ _ cb co sz hφ =>
        refine ⟨.pointer (some ⟨cb, co + (p + fd.offset), none⟩), .ptr _ _ _ _ _ hφ, ?_⟩
        simp only [execOp, h, hc]
        refine run_value ?_
        simp only [Instr.fieldAt, Sem.run_bind, run_under h1, Result.andThen_ok, h2, Instr.sureAddr, Sem.run_pure, fieldPlace, run_sizeOf' ht, hs, if_false, addr_add, Nat.add_assoc]
theorem extract_ok {o : Oper} {t : Operand} {i : Nat} (h : o.op = .extract t i) : PureOk P o fun r k => ((opd t).get r).onTuple fun vs => onL (.fail 82) (fun v _ => k v) (dropL i vs) := by
  intro r k v mf hk
  obtain ⟨l, hl, hk⟩ := onTuple_ok hk
  obtain ⟨u, rest, hd, hk⟩ := onL_ok hk
  rw [dropL_eq] at hd
  refine ⟨_, hk, fun φ m w a hr ho => ?_⟩
  have hx := ho t (by simp [h, Op.operands])
  rw [hl] at hx
  generalize hc : a.eval t = c at hx
  cases hx with
  | tuple _ cs hv =>
    obtain ⟨c, hci, hcv⟩ := hv.of_drop_cons hd
    refine ⟨c, hcv, ?_⟩
    simp only [execOp, h, hc]
    refine run_value ?_
    have : cs[i]? = some c := by rw [← Array.getElem?_toList]; exact hci
    simp [Instr.extract, this]
theorem opds_rel {φ : Phi} {r : Regs} {a : Act} : ∀ l : List Operand, (∀ x, x ∈ l → VRel φ ((opd x).get r) (a.eval x)) → VsRel φ ((opds l).get r) (l.map a.eval)
  | [], _ => .nil
  | x :: l, hl => .cons (hl x (List.mem_cons_self ..)) (opds_rel l fun y hy => hl y (List.mem_cons_of_mem _ hy))
theorem makeFunc_ok {o : Oper} {f : FuncId} {first caps : Array Operand} (h : o.op = .makeFunc (.func f) first caps) : OpOk P o (cMakeFunc f first.toList caps.toList) := by
  have rel1 : ∀ {φ r a}, OpsRel φ r a o → VsRel φ ((opds first.toList).get r) (first.map a.eval).toList := by
    intro φ r a ho
    rw [Array.toList_map]
    exact opds_rel _ fun x hx => ho x (by simp [h, Op.operands]; exact .inl (Array.mem_toList_iff.1 hx))
  have rel2 : ∀ {φ r a}, OpsRel φ r a o → VsRel φ ((opds caps.toList).get r) (caps.map a.eval).toList := by
    intro φ r a ho
    rw [Array.toList_map]
    exact opds_rel _ fun x hx => ho x (by simp [h, Op.operands]; exact .inr (Array.mem_toList_iff.1 hx))
  unfold cMakeFunc
  dsimp only
  split
  · rename_i hf
    intro r k v mf hk
    obtain ⟨hc, hk2⟩ := cond_t hk
    refine ⟨_, hk2, fun φ m w a hr ho => ⟨.func (.func f) #[] (caps.map a.eval), .func f _ _ (rel2 ho) (fun v hv => List.all_eq_true.1 hc v hv), ?_⟩⟩
    have hf' : first = #[] := Array.toList_inj.1 hf
    simp only [execOp, h, hf']
    exact run_value (by simp [Instr.makeFunc])
  · intro r k v mf hk
    refine ⟨_, hk, fun φ m w a hr ho => ⟨.func (.func f) (first.map a.eval) (caps.map a.eval), .meth f _ _ _ _ (rel1 ho) (rel2 ho), ?_⟩⟩
    simp only [execOp, h]
    exact run_value (by simp [Instr.makeFunc])
theorem makeIface_ok {o : Oper} {t : TypeId} {x : Operand} (h : o.op = .makeInterface t x) : OpOk P o (cMakeIface P t x) := by
  unfold cMakeIface
  split
  · trivial
  · trivial
  · rename_i h1 h2
    cases hd : P.underlying t with
    | none => exact absurd hd h2
    | some d =>
      intro r k v mf hk
      refine ⟨_, hk, fun φ m w a hr ho => ⟨.iface t (a.eval x), .iface t _ _ (ho x (by simp [h, Op.operands])), ?_⟩⟩
      simp only [execOp, h]
      refine run_value ?_
      simp only [Instr.makeInterface, Sem.run_bind, run_under hd, Result.andThen_ok]
      cases d <;> first | rfl | exact absurd hd (h1 _)
theorem asIntOf_run {k : IntKind} {n : Int} {w : World} : (asIntOf (.int k n)).run P w = .ok (k, n) w := rfl
theorem indexAddr_ok {o : Oper} {t : TypeId} {x ix : Operand} (h : o.op = .indexAddr t x ix) : OpOk P o (cIndexAddr P t x ix) := by
  unfold cIndexAddr
  split
  · rename_i len e hu
    split
    · rename_i ht
      intro r k v mf hk
      obtain ⟨b, p, hb, hk⟩ := onPtr_ok hk
      obtain ⟨j, i, hi, hk⟩ := onNat_ok hk
      obtain ⟨hlt, hk⟩ := cond_t hk
      rw [ble_true] at hlt
      rw [forceN_eq] at hk
      refine ⟨_, hk, fun φ m w a hr ho => ?_⟩
      have hx := ho x (by simp [h, Op.operands])
      have hj := ho ix (by simp [h, Op.operands])
      rw [hb] at hx
      rw [hi] at hj
      generalize hc : a.eval x = c at hx
      generalize hc2 : a.eval ix = c2 at hj
      cases hj
      cases hx with
      | ptr _ _ cb co sz hφ =>
        refine ⟨.pointer (some ⟨cb, co + (p + i * szOf P e), none⟩), .ptr _ _ _ _ _ hφ, ?_⟩
        simp only [execOp, h, hc, hc2]
        refine run_value ?_
        simp only [Instr.indexAt, Sem.run_bind, asIntOf_run, run_under hu, Result.andThen_ok, Instr.sureAddr, Sem.run_pure]
        have h1 : (0 ≤ Int.ofNat i ∧ Int.ofNat i < (len : Int)) := ⟨Int.natCast_nonneg i, by simp; omega⟩
        simp only [h1, and_self, if_true, Sem.run_bind, run_sizeOf' ht, Result.andThen_ok, Sem.run_pure, addr_add, Nat.add_assoc]
        rfl
    · trivial
  · rename_i e hu
    split
    · rename_i ht
      intro r k v mf hk
      obtain ⟨b, p, len, cap, ex, es, hb, hk⟩ := onSlice_ok hk
      obtain ⟨j, i, hi, hk⟩ := onNat_ok hk
      obtain ⟨hlt, hk2⟩ := cond_t hk
      rw [Bool.and_eq_true, beq_true, ble_true] at hlt
      obtain ⟨hes, hlt⟩ := hlt
      rw [forceN_eq] at hk2
      refine ⟨_, hk2, fun φ m w a hr ho => ?_⟩
      have hx := ho x (by simp [h, Op.operands])
      have hj := ho ix (by simp [h, Op.operands])
      rw [hb] at hx
      rw [hi] at hj
      generalize hc : a.eval x = c at hx
      generalize hc2 : a.eval ix = c2 at hj
      cases hj
      cases hx with
      | slice _ _ _ _ _ _ cb co sz o' cap' hφ g1 g2 g3 g4 g5 =>
        have ho' := g4 (by omega)
        subst ho'
        refine ⟨.pointer (some ⟨cb, co + (p + i * szOf P e), none⟩), .ptr _ _ _ _ _ hφ, ?_⟩
        simp only [execOp, h, hc, hc2]
        refine run_value ?_
        simp only [Instr.indexAt, Sem.run_bind, asIntOf_run, run_under hu, Result.andThen_ok, Sem.run_pure]
        have h1 : (0 ≤ Int.ofNat i ∧ Int.ofNat i < (len : Int)) := ⟨Int.natCast_nonneg i, by simp; omega⟩
        simp only [h1, and_self, if_true, Sem.run_bind, run_sizeOf' ht, Result.andThen_ok, Sem.run_pure, addr_add, Nat.add_assoc]
        rfl
    · trivial
  · trivial
end Go.AM

namespace Go.AM
variable [Tok]
variable {P : Program}

/- ### numbers -/
theorem ikEq_eq {j k : IntKind} (h : ikEq j k = true) : j = k := by
  cases j <;> cases k <;> first | rfl | cases h
theorem inRange_wrap {k : IntKind} {z : Int} (h : inRange k z = true) : k.wrap z = z := by
  cases z with
  | ofNat n =>
    have h1 : n ≤ ikMax k := ble_true.1 h
    cases k <;> simp only [IntKind.wrap, IntKind.bits, IntKind.signed, ikMax] at h1 ⊢ <;> simp <;> omega
  | negSucc n =>
    have h1 : (ikSigned k && Nat.ble n (ikMax k)) = true := h
    rw [Bool.and_eq_true, ble_true] at h1
    obtain ⟨h1, h2⟩ := h1
    cases k <;> simp only [IntKind.wrap, IntKind.bits, IntKind.signed, ikMax, ikSigned, Bool.false_eq_true] at h1 h2 ⊢ <;> simp <;> omega
theorem wrapI_eq {α : Type} (k : IntKind) (z : Int) (c : Int → α) : wrapI k z c = c (k.wrap z) := by
  unfold wrapI
  rw [forceI_eq, forceI_eq]
  cases h : inRange k z with
  | false => rfl
  | true => rw [inRange_wrap h]; rfl
theorem iadd_eq (x y : Int) : iadd x y = x + y := by cases x <;> cases y <;> rfl
theorem isub_eq (x y : Int) : isub x y = x - y := by
  cases x with
  | negSucc a => rfl
  | ofNat a => cases y with
    | negSucc b => rfl
    | ofNat b =>
      show cond' (Int.ofNat (Nat.sub a b)) (Int.sub a b) (Nat.ble b a) = _
      cases h : Nat.ble b a with
      | false => rfl
      | true =>
        have := ble_true.1 h
        show Int.ofNat (a - b) = (a : Int) - b
        simp; omega
theorem imul_eq (x y : Int) : imul x y = x * y := by cases x <;> cases y <;> rfl
theorem ieq_eq (x y : Int) : ieq x y = (x == y) := by
  rw [Bool.eq_iff_iff, beq_iff_eq]
  cases x with
  | ofNat a => cases y with
    | ofNat b => show Nat.beq a b = true ↔ _; rw [beq_true]; simp; omega
    | negSucc b => show false = true ↔ _; simp
  | negSucc a => cases y with
    | ofNat b => show false = true ↔ _; simp
    | negSucc b => show Nat.beq a b = true ↔ _; rw [beq_true]; simp
theorem ile_eq (x y : Int) : ile x y = decide (x ≤ y) := by
  rw [Bool.eq_iff_iff, decide_eq_true_iff]
  cases x with
  | ofNat a => cases y with
    | ofNat b => show Nat.ble a b = true ↔ _; rw [ble_true]; simp
    | negSucc b => show false = true ↔ _; simp; omega
  | negSucc a => cases y with
    | ofNat b => show true = true ↔ _; simp; omega
    | negSucc b => show Nat.ble b a = true ↔ _; rw [ble_true]; omega
theorem ilt_eq (x y : Int) : ilt x y = decide (x < y) := by
  show (!(ile y x)) = _
  rw [ile_eq, Bool.eq_iff_iff]
  cases hd : decide (y ≤ x) <;> simp at hd ⊢ <;> omega
theorem aInt2_ok {x y : AVal} {f : IntKind → Int → Int → R} {v : AVal} {m : Mem} (h : aInt2 x y f = .ok v m) : ∃ j a b, x = .int j a ∧ y = .int j b ∧ f j a b = .ok v m := by
  obtain ⟨j, a, rfl, h2⟩ := onInt_ok h
  replace h := h2; clear h2
  obtain ⟨k, b, rfl, h2⟩ := onInt_ok h
  replace h := h2; clear h2
  obtain ⟨h1, h3⟩ := cond_t h
  have h4 := ikEq_eq h1
  subst h4
  exact ⟨_, _, _, rfl, rfl, h3⟩
def noEq : BinOp → Bool
  | .eql | .neq => false
  | _ => true
theorem eqGuard_no {op : BinOp} (h : noEq op = true) (t : TypeId) (x y : Operand) (c d : Value) (w : World) : (eqGuard op t x y c d).run P w = .ok () w := by
  cases op <;> first | (cases h; done) | rfl
def BinOk (P : Program) (op : BinOp) (t : TypeId) (x y : Operand) (g : AVal → AVal → (AVal → R) → R) : Prop :=
  ∀ u v k r m, g u v k = .ok r m → ∃ z, k z = .ok r m ∧ ∀ φ w c d, VRel φ u c → VRel φ v d → ∃ e, VRel φ z e ∧ ((do eqGuard op t x y c d; binOp op t c d) : Sem Value).run P w = .ok e w
theorem bin_ok {o : Oper} {op : BinOp} {t yt : TypeId} {x y : Operand} (h : o.op = .binOp op t x y yt) {g : AVal → AVal → (AVal → R) → R} (hg : BinOk P op t x y g) :
    PureOk P o fun r k => g ((opd x).get r) ((opd y).get r) k := by
  intro r k v mf hk
  obtain ⟨z, hz, hall⟩ := hg _ _ _ _ _ hk
  refine ⟨z, hz, fun φ m w a hr ho => ?_⟩
  obtain ⟨e, he, hrun⟩ := hall φ w _ _ (ho x (by simp [h, Op.operands])) (ho y (by simp [h, Op.operands]))
  refine ⟨e, he, ?_⟩
  simp only [execOp, h]
  exact run_value hrun
theorem arith_ok {op : BinOp} {t : TypeId} {x y : Operand} {f : Int → Int → Int} (hop : noEq op = true) (hf : ∀ k a b (w : World), (binOp op t (.int k a) (.int k b)).run P w = .ok (.int k (k.wrap (f a b))) w) :
    BinOk P op t x y (aArith f) := by
  intro u v k r m h
  obtain ⟨j, a, b, rfl, rfl, h2⟩ := aInt2_ok h
  replace h := h2; clear h2
  rw [wrapI_eq] at h
  refine ⟨_, h, fun φ w c d hc hd => ?_⟩
  cases hc; cases hd
  exact ⟨_, .int _ _, by rw [Sem.run_bind, eqGuard_no hop]; exact hf j a b w⟩
theorem cmp_ok {op : BinOp} {t : TypeId} {x y : Operand} {f : Int → Int → Bool} (hop : noEq op = true) (hf : ∀ k a b (w : World), (binOp op t (.int k a) (.int k b)).run P w = .ok (.bool (f a b)) w) :
    BinOk P op t x y (aCmp f) := by
  intro u v k r m h
  obtain ⟨j, a, b, rfl, rfl, h2⟩ := aInt2_ok h
  replace h := h2; clear h2
  rw [forceB_eq] at h
  refine ⟨_, h, fun φ w c d hc hd => ?_⟩
  cases hc; cases hd
  exact ⟨_, .bool _, by rw [Sem.run_bind, eqGuard_no hop]; exact hf j a b w⟩
theorem onI_nat {R' : Type} {p : Nat → R'} {n : Nat → R'} {z : Int} : onI p n z = match z with | .ofNat a => p a | .negSucc a => n a := by cases z <;> rfl
theorem ikBits_eq (k : IntKind) : ikBits k = k.bits := by cases k <;> rfl
theorem minB (n b : Nat) : cond' n b (Nat.ble n b) = min n b := by
  cases h : Nat.ble n b with
  | true => have := ble_true.1 h; show n = _; omega
  | false => have := ble_false.1 h; show b = _; omega
theorem shl_ok {t : TypeId} {x y : Operand} : BinOk P .shl t x y aShl := by
  intro u v k r m h
  obtain ⟨j, a, rfl, h2⟩ := onInt_ok h
  replace h := h2; clear h2
  obtain ⟨j', n, rfl, h2⟩ := onNat_ok h
  replace h := h2; clear h2
  rw [wrapI_eq, imul_eq, minB, ikBits_eq] at h
  refine ⟨_, h, fun φ w c d hc hd => ?_⟩
  cases hc; cases hd
  refine ⟨_, .int _ _, ?_⟩
  rw [Sem.run_bind, eqGuard_no rfl]
  have h0 : ¬ ((n : Int) < 0) := by omega
  simp [binOp, Op.shift, h0]
theorem shr_ok {t : TypeId} {x y : Operand} : BinOk P .shr t x y aShr := by
  intro u v k r m h
  obtain ⟨j, a, rfl, h2⟩ := onInt_ok h
  replace h := h2; clear h2
  obtain ⟨j', n, rfl, h2⟩ := onNat_ok h
  replace h := h2; clear h2
  have h0 : ¬ ((n : Int) < 0) := by omega
  have key : k (.int j (a.fdiv (2 ^ min n j.bits))) = .ok r m := by
    cases a with
    | ofNat p =>
      rw [onI_nat] at h
      simp only at h
      rw [forceN_eq, minB, ikBits_eq] at h
      have e : Int.fdiv (Int.ofNat p) (2 ^ min n j.bits) = Int.ofNat (Nat.div p (Nat.pow 2 (min n j.bits))) := by
        have : ((2 : Int) ^ min n j.bits) = Int.ofNat (2 ^ min n j.bits) := by simp
        rw [this]; exact (Int.ofNat_fdiv p _).symm
      rw [e]; exact h
    | negSucc p =>
      rw [onI_nat] at h
      simp only at h
      rw [forceI_eq, minB, ikBits_eq] at h
      exact h
  refine ⟨_, key, fun φ w c d hc hd => ?_⟩
  cases hc; cases hd
  refine ⟨_, .int _ _, ?_⟩
  rw [Sem.run_bind, eqGuard_no rfl]
  simp [binOp, Op.shift, h0]
theorem quo_ok {t : TypeId} {x y : Operand} : BinOk P .quo t x y aQuo := by
  intro u v k r m h
  obtain ⟨j, a, b, rfl, rfl, h2⟩ := aInt2_ok h
  replace h := h2; clear h2
  obtain ⟨h0, h⟩ := cond_f h
  rw [wrapI_eq] at h
  have hb : b ≠ 0 := by
    rw [ieq_eq] at h0; simpa using h0
  have e : (onI (fun p => onI (fun q => Int.ofNat (Nat.div p q)) (fun _ => Int.tdiv a b) b) (fun _ => Int.tdiv a b) a) = a.tdiv b := by
    cases a <;> cases b <;> rfl
  rw [e] at h
  refine ⟨_, h, fun φ w c d hc hd => ?_⟩
  cases hc; cases hd
  exact ⟨_, .int _ _, by rw [Sem.run_bind, eqGuard_no rfl]; simp [binOp, Op.intDiv, hb]⟩
theorem rem_ok {t : TypeId} {x y : Operand} : BinOk P .rem t x y aRem := by
  intro u v k r m h
  obtain ⟨j, a, b, rfl, rfl, h2⟩ := aInt2_ok h
  replace h := h2; clear h2
  obtain ⟨h0, h⟩ := cond_f h
  rw [forceI_eq] at h
  have hb : b ≠ 0 := by
    rw [ieq_eq] at h0; simpa using h0
  have e : (onI (fun p => onI (fun q => Int.ofNat (Nat.mod p q)) (fun _ => Int.tmod a b) b) (fun _ => Int.tmod a b) a) = a.tmod b := by
    cases a <;> cases b <;> rfl
  rw [e] at h
  refine ⟨_, h, fun φ w c d hc hd => ?_⟩
  cases hc; cases hd
  exact ⟨_, .int _ _, by rw [Sem.run_bind, eqGuard_no rfl]; simp [binOp, Op.intDiv, hb]⟩
theorem uOf_eq (k : IntKind) (a : Int) : uOf k a = (BitVec.ofInt k.bits a).toNat := by
  rw [BitVec.toNat_ofInt]
  unfold uOf
  rw [onI_nat, ikBits_eq]
  cases a with
  | ofNat p => exact (Int.toNat_natCast _).symm
  | negSucc p =>
    have h1 : (((2 ^ k.bits : Nat) : Int)) ≠ 0 := by
      have := Nat.two_pow_pos k.bits
      omega
    rw [Int.negSucc_emod _ (by have := Nat.two_pow_pos k.bits; omega)]
    have hlt : p % 2 ^ k.bits < 2 ^ k.bits := Nat.mod_lt _ (Nat.two_pow_pos _)
    have e1 : ((p : Int) % ((2 ^ k.bits : Nat) : Int)) = ((p % 2 ^ k.bits : Nat) : Int) := rfl
    rw [e1]
    show 2 ^ k.bits - 1 - p % 2 ^ k.bits = _
    omega
theorem bits_ok {op : BinOp} {t : TypeId} {x y : Operand} {f : Nat → Nat → Nat} (hop : noEq op = true)
    (hf : ∀ k p q (w : World), inRange k (.ofNat p) = true → inRange k (.ofNat q) = true → (binOp op t (.int k (.ofNat p)) (.int k (.ofNat q))).run P w = .ok (.int k (.ofNat (f p q))) w)
    (hgen : ∀ k a b (w : World), (binOp op t (.int k a) (.int k b)).run P w = .ok (.int k (k.wrap (f (uOf k a) (uOf k b) : Nat))) w) : BinOk P op t x y (aBits f) := by
  intro u v k r m h
  obtain ⟨j, a, b, rfl, rfl, h2⟩ := aInt2_ok h
  replace h := h2; clear h2
  have gen : bitsGen f j a b k = .ok r m → ∃ u', k u' = .ok r m ∧ ∀ φ (w : World) c d, VRel φ (.int j a) c → VRel φ (.int j b) d → ∃ e, VRel φ u' e ∧ (do eqGuard op t x y c d; binOp op t c d : Sem Value).run P w = .ok e w := by
    intro hb
    unfold bitsGen at hb
    rw [wrapI_eq] at hb
    refine ⟨_, hb, fun φ w c d hc hd => ?_⟩
    cases hc; cases hd
    exact ⟨_, .int _ _, by rw [Sem.run_bind, eqGuard_no hop]; exact hgen j a b w⟩
  cases a with
  | negSucc a => exact gen h
  | ofNat p => cases b with
    | negSucc b => exact gen h
    | ofNat q =>
      rcases cond_ok h with ⟨h0, h1⟩ | ⟨h0, h1⟩
      · rw [Bool.and_eq_true] at h0
        rw [forceN_eq] at h1
        refine ⟨_, h1, fun φ w c d hc hd => ?_⟩
        cases hc; cases hd
        exact ⟨_, .int _ _, by rw [Sem.run_bind, eqGuard_no hop]; exact hf j p q w h0.1 h0.2⟩
      · exact gen h1
end Go.AM

namespace Go.AM
variable [Tok]
variable {P : Program}

/- ### strings -/
theorem listEq_iff : ∀ {a b : List Nat}, listEq a b = true ↔ a = b
  | [], [] => by simp [listEq]
  | [], _ :: _ => by simp [listEq]
  | _ :: _, [] => by simp [listEq]
  | x :: a, y :: b => by
    show cond' (listEq a b) false (Nat.beq x y) = true ↔ _
    cases h : Nat.beq x y with
    | true => have := beq_true.1 h; subst this; show listEq a b = true ↔ _; rw [listEq_iff]; simp
    | false =>
      show false = true ↔ _
      have : x ≠ y := fun e => by rw [e] at h; rw [beq_true.2 rfl] at h; cases h
      simp [this]
theorem u8_inj {x y : UInt8} : x.toNat = y.toNat ↔ x = y := UInt8.toNat_inj
theorem map_u8_inj : ∀ {a b : List UInt8}, a.map UInt8.toNat = b.map UInt8.toNat ↔ a = b
  | [], [] => by simp
  | [], _ :: _ => by simp
  | _ :: _, [] => by simp
  | x :: a, y :: b => by
    simp only [List.map_cons, List.cons.injEq, u8_inj, map_u8_inj]
theorem listEq_bytes (a b : ByteArray) : listEq (a.data.toList.map UInt8.toNat) (b.data.toList.map UInt8.toNat) = (a.toList == b.toList) := by
  rw [Bool.eq_iff_iff, listEq_iff, map_u8_inj, beq_iff_eq, ByteArray.toList_eq, ByteArray.toList_eq]
theorem listLt_u8 : ∀ (a b : List UInt8), listLt (a.map UInt8.toNat) (b.map UInt8.toNat) = Op.bytesLess a b
  | _, [] => by cases ‹List UInt8› <;> rfl
  | [], _ :: _ => rfl
  | x :: a, y :: b => by
    show cond' true (cond' (listLt (a.map UInt8.toNat) (b.map UInt8.toNat)) false (Nat.beq x.toNat y.toNat)) (Nat.ble (Nat.succ x.toNat) y.toNat) = (decide (x < y) || (x == y && Op.bytesLess a b))
    rw [listLt_u8 a b]
    cases h : Nat.ble (Nat.succ x.toNat) y.toNat with
    | true =>
      have h1 := ble_true.1 h
      have : x < y := by rw [UInt8.lt_iff_toNat_lt]; omega
      simp [this, cond']
    | false =>
      have h1 := ble_false.1 h
      have : ¬ x < y := by rw [UInt8.lt_iff_toNat_lt]; omega
      cases h2 : Nat.beq x.toNat y.toNat with
      | true =>
        have h3 := u8_inj.1 (beq_true.1 h2)
        simp [h3, cond']
      | false =>
        have h3 : x ≠ y := fun e => by rw [e, beq_true.2 rfl] at h2; cases h2
        simp [this, h3, cond']
theorem listLt_bytes (a b : ByteArray) : listLt (a.data.toList.map UInt8.toNat) (b.data.toList.map UInt8.toNat) = Op.bytesLess a.toList b.toList := by
  rw [listLt_u8, ByteArray.toList_eq, ByteArray.toList_eq]
theorem aStr2_ok {x y : AVal} {f : List Nat → List Nat → R} {v : AVal} {m : Mem} (h : aStr2 x y f = .ok v m) : ∃ a b, x = .str a ∧ y = .str b ∧ f a b = .ok v m := by
  obtain ⟨a, h1, h2⟩ := onStr_ok h
  obtain ⟨b, h3, h4⟩ := onStr_ok h2
  exact ⟨a, b, h1, h3, h4⟩
theorem strCmp_ok {op : BinOp} {t : TypeId} {x y : Operand} {f : List Nat → List Nat → Bool} (hop : noEq op = true)
    (hf : ∀ (a b : ByteArray) (w : World), (binOp op t (.string a) (.string b)).run P w = .ok (.bool (f (a.data.toList.map UInt8.toNat) (b.data.toList.map UInt8.toNat))) w) : BinOk P op t x y (aStrCmp f) := by
  intro u v k r m h
  obtain ⟨a, b, h1, h2, h3⟩ := aStr2_ok h
  subst h1; subst h2
  rw [forceB_eq] at h3
  refine ⟨_, h3, fun φ w c d hc hd => ?_⟩
  cases hc with
  | str _ s hs => cases hd with
    | str _ t' ht => exact ⟨_, .bool _, by rw [Sem.run_bind, eqGuard_no hop, ← hs, ← ht]; exact hf s t' w⟩
theorem cat_ok {t : TypeId} {x y : Operand} : BinOk P .add t x y aCat := by
  intro u v k r m h
  obtain ⟨a, b, h1, h2, h3⟩ := aStr2_ok h
  subst h1; subst h2
  obtain ⟨h4, h5⟩ := cond_t h3
  rw [ble_true] at h4
  refine ⟨_, h5, fun φ w c d hc hd => ?_⟩
  cases hc with
  | str _ s hs => cases hd with
    | str _ t' ht =>
      have e1 : lenL a = s.size := by rw [lenL_eq, ← hs, List.length_map, Array.length_toList]; rfl
      have e2 : lenL b = t'.size := by rw [lenL_eq, ← ht, List.length_map, Array.length_toList]; rfl
      have h6 : s.size + t'.size ≤ 4611686018427387904 := by rw [← e1, ← e2]; exact h4
      refine ⟨.string (s ++ t'), .str _ _ ?_, ?_⟩
      · rw [appL_eq, ← hs, ← ht]; simp [ByteArray.data_append]
      · rw [Sem.run_bind, eqGuard_no rfl]
        show (binOp .add t (.string s) (.string t')).run P w = _
        rw [binOp_string_add]
        exact run_string_add_sum _ s t' (by omega)

/- ### equality -/
theorem aIsNil_ok {x : AVal} {k : Bool → R} {v : AVal} {m : Mem} (h : aIsNil x k = .ok v m) :
    ∃ b, k b = .ok v m ∧ ((b = true ∧ (x = .nilptr ∨ x = .nilmap ∨ x = .nilslice ∨ x = .nilfunc ∨ x = .niliface)) ∨
      (b = false ∧ ((∃ p o, x = .ptr p o) ∨ (∃ p, x = .map p) ∨ (∃ p o l c e s, x = .slice p o l c e s) ∨ (∃ f l, x = .func f l) ∨ (∃ t u, x = .iface t u)))) := by
  cases x <;> first
    | (cases h; done)
    | exact ⟨true, h, .inl ⟨rfl, by simp⟩⟩
    | exact ⟨false, h, .inr ⟨rfl, by simp⟩⟩
def maxD : Nat := 9999
theorem equal_eq (t : TypeId) (c d : Value) : Op.equal t c d = Op.equalIn (maxD + 1) t c d := rfl
theorem eqLeaf_det {e : EK} {x y : AVal} {k : Bool → R} {v : AVal} {m : Mem} (h : eqLeaf e x y k = .ok v m) : ∃ b, k b = .ok v m ∧ ∀ k' : Bool → R, eqLeaf e x y k' = k' b := by
  cases e with
  | int =>
    obtain ⟨j, a, b, h1, h2, h3⟩ := aInt2_ok h
    subst h1; subst h2
    refine ⟨_, h3, fun k' => ?_⟩
    show cond' (k' (ieq a b)) (.fail 32) (ikEq j j) = _
    have : ikEq j j = true := by cases j <;> rfl
    rw [this]; rfl
  | str =>
    obtain ⟨a, b, h1, h2, h3⟩ := aStr2_ok h
    subst h1; subst h2
    exact ⟨_, h3, fun k' => rfl⟩
  | bool =>
    obtain ⟨a, h1, h2⟩ := onBool_ok h
    obtain ⟨b, h3, h4⟩ := onBool_ok h2
    subst h1; subst h3
    exact ⟨_, h4, fun k' => rfl⟩
/-- which kinds of leaves a type's description allows -/
def leafFits : TypeDesc → EK → Bool
  | .int _, .int | .string, .str | .bool, .bool => true
  | _, _ => false
theorem eqLeaf_run {e : EK} {t : TypeId} {d : TypeDesc} (hd : P.underlying t = some d) (hf : leafFits d e = true) {x y : AVal} {k : Bool → R} {v : AVal} {m : Mem} (h : eqLeaf e x y k = .ok v m) :
    ∃ b, k b = .ok v m ∧ ∀ φ (w : World) c c' n, VRel φ x c → VRel φ y c' → (Op.equalIn (n + 1) t c c').run P w = .ok b w := by
  cases e with
  | int =>
    obtain ⟨j, a, b, h1, h2, h3⟩ := aInt2_ok h
    subst h1; subst h2
    refine ⟨_, h3, fun φ w c c' n hc hc' => ?_⟩
    cases hc; cases hc'
    cases d <;> first | (cases hf; done) | (simp [Op.equalIn, run_under hd, ieq_eq])
  | str =>
    obtain ⟨a, b, h1, h2, h3⟩ := aStr2_ok h
    subst h1; subst h2
    refine ⟨_, h3, fun φ w c c' n hc hc' => ?_⟩
    cases hc with
    | str _ s hs => cases hc' with
      | str _ s' hs' =>
        have e : listEq a b = (s == s') := by
          rw [← hs, ← hs', listEq_bytes, beq_toListBytes]
        cases d <;> first | (cases hf; done) | (simp [Op.equalIn, run_under hd, e])
  | bool =>
    obtain ⟨a, h1, h2⟩ := onBool_ok h
    obtain ⟨b, h3, h4⟩ := onBool_ok h2
    subst h1; subst h3
    refine ⟨_, h4, fun φ w c c' n hc hc' => ?_⟩
    cases hc; cases hc'
    have e : cond' b (not b) a = (a == b) := by cases a <;> cases b <;> rfl
    cases d <;> first | (cases hf; done) | (simp [Op.equalIn, run_under hd, e])
end Go.AM

namespace Go.AM
variable [Tok]
variable {P : Program}

theorem leafK_fits {d : TypeDesc} {e : EK} (h : leafK d = some e) : leafFits d e = true := by
  cases d <;> simp [leafK] at h <;> subst h <;> rfl
/-- an equality that is answered by values alone, at a type -/
def EqOk (P : Program) (t : TypeId) (f : AVal → AVal → (Bool → R) → R) : Prop :=
  ∀ x y k v m, f x y k = .ok v m → ∃ b, k b = .ok v m ∧ ∀ φ (w : World) c c' n, VRel φ x c → VRel φ y c' → (Op.equalIn (n + 2) t c c').run P w = .ok b w
theorem run_part_cell {t : TypeId} {d : TypeDesc} (hd : P.underlying t = some d) {e : EK} (he : leafFits d e = true) {cs : Array Value} {o : Nat} {c : Value} (hc : cs.toList[o]? = some c) (w : World) :
    (part t cs o).run P w = .ok c w := by
  rw [Array.getElem?_toList] at hc
  cases d <;> first | (cases he; done) | (simp [part, isAgg, run_under hd, hc])
theorem eqLeaves_ok : ∀ {fs : List Field} {l : List (Nat × EK)}, flatLeaves P fs = some l → ∀ {xs ys : List AVal} {k : Bool → R} {v : AVal} {m : Mem}, (eqLeaves l).run xs ys k = .ok v m →
    ∃ b, k b = .ok v m ∧ ∀ φ (w : World) (cs cs' : Array Value) n, VsRel φ xs cs.toList → VsRel φ ys cs'.toList → (Op.eqFields (n + 1) cs cs' fs).run P w = .ok b w
  | [], l, hl, xs, ys, k, v, m, h => by
    simp [flatLeaves] at hl
    subst hl
    exact ⟨true, h, fun φ w cs cs' _ _ _ => rfl⟩
  | f :: fs, l, hl, xs, ys, k, v, m, h => by
    unfold flatLeaves at hl
    split at hl
    · cases hl
    · rename_i hname
      split at hl
      · rename_i e l' h1 h2
        obtain rfl := Option.some.inj hl
        cases hd : P.underlying f.type with
        | none => rw [hd] at h1; cases h1
        | some d =>
          rw [hd] at h1
          have hfit := leafK_fits h1
          obtain ⟨x, r1, hx, h3⟩ := onL_ok h
          obtain ⟨y, r2, hy, h4⟩ := onL_ok h3
          rw [dropL_eq] at hx hy
          obtain ⟨b, hb, hrun⟩ := eqLeaf_run (P := P) hd hfit h4
          have hn : f.name ≠ "_" := by simpa using hname
          rcases cond_ok hb with ⟨rfl, hb⟩ | ⟨rfl, hb⟩
          · obtain ⟨b', hb', hall⟩ := eqLeaves_ok h2 hb
            refine ⟨b', hb', fun φ w cs cs' n hcs hcs' => ?_⟩
            obtain ⟨c, hc, hcv⟩ := hcs.of_drop_cons hx
            obtain ⟨c', hc', hcv'⟩ := hcs'.of_drop_cons hy
            simp only [Op.eqFields, hn, ne_eq, not_false_eq_true, if_true, Sem.run_bind, run_part_cell hd hfit hc, run_part_cell hd hfit hc', Result.andThen_ok, hrun φ w c c' n hcv hcv', Sem.run_ite,
              Bool.not_true, Bool.false_eq_true, if_false]
            exact hall φ w cs cs' n hcs hcs'
          · refine ⟨false, hb, fun φ w cs cs' n hcs hcs' => ?_⟩
            obtain ⟨c, hc, hcv⟩ := hcs.of_drop_cons hx
            obtain ⟨c', hc', hcv'⟩ := hcs'.of_drop_cons hy
            simp only [Op.eqFields, hn, ne_eq, not_false_eq_true, if_true, Sem.run_bind, run_part_cell hd hfit hc, run_part_cell hd hfit hc', Result.andThen_ok, hrun φ w c c' n hcv hcv', Sem.run_ite,
              Bool.not_false, Sem.run_pure]
      · cases hl
theorem eqPlain_ok (t : TypeId) : EqOk P t (eqPlain (eqPlainK P t)) := by
  intro x y k v m h
  unfold eqPlainK at h
  cases hd : P.underlying t with
  | none => rw [hd] at h; cases h
  | some d =>
    rw [hd] at h
    have leaf : ∀ e, leafFits d e = true → eqLeaf e x y k = .ok v m → ∃ b, k b = .ok v m ∧ ∀ φ (w : World) c c' n, VRel φ x c → VRel φ y c' → (Op.equalIn (n + 2) t c c').run P w = .ok b w := by
      intro e he hh
      obtain ⟨b, hb, hrun⟩ := eqLeaf_run (P := P) hd he hh
      exact ⟨b, hb, fun φ w c c' n h1 h2 => hrun φ w c c' (n + 1) h1 h2⟩
    cases d with
    | int k' => exact leaf .int rfl h
    | string => exact leaf .str rfl h
    | bool => exact leaf .bool rfl h
    | struct fs =>
      simp only at h
      split at h
      · cases h
      · rename_i hs
        split at h
        · rename_i l hl
          obtain ⟨a, ha, h2⟩ := onAgg_ok h
          obtain ⟨b, hb, h3⟩ := onAgg_ok h2
          subst ha; subst hb
          have hst : P.stoodInHeld t = false := by simpa using hs
          obtain ⟨z, hz, hall⟩ := eqLeaves_ok hl h3
          refine ⟨z, hz, fun φ w c c' n hc hc' => ?_⟩
          cases hc with
          | agg _ cs h4 _ => cases hc' with
            | agg _ cs' h5 _ =>
              have hf : P.fieldsOf t = fs := by simp [Program.fieldsOf, hd]
              rw [show n + 2 = (n + 1) + 1 from rfl, run_equalIn_struct w (n + 1) t cs cs' (by rw [hf]; exact hd) hst, hf]
              exact hall φ w cs cs' n h4 h5
        · cases h
    | _ => cases h
inductive NilIs : NK → Bool → AVal → Prop where
  | p0 : NilIs .ptr true .nilptr
  | p1 (b o : Nat) : NilIs .ptr false (.ptr b o)
  | s0 : NilIs .slice true .nilslice
  | s1 (b o l c : Nat) (e : Bool) (s : Nat) : NilIs .slice false (.slice b o l c e s)
  | m0 : NilIs .map true .nilmap
  | m1 (b : Nat) : NilIs .map false (.map b)
  | f0 : NilIs .func true .nilfunc
  | f1 (f : Nat) (l : List AVal) : NilIs .func false (.func f l)
theorem isNilQ_ok {q : NK} {x : AVal} {k : Bool → R} {v : AVal} {m : Mem} (h : isNilQ q x k = .ok v m) : ∃ b, k b = .ok v m ∧ NilIs q b x := by
  cases q <;> cases x <;> first
    | (cases h; done)
    | exact ⟨true, h, by constructor⟩
    | exact ⟨false, h, by constructor⟩
/-- which description goes with a kind of nil -/
def nkFits : TypeDesc → NK → Bool
  | .pointer _, .ptr | .slice _, .slice | .map _ _, .map | .func _ _ _, .func => true
  | _, _ => false
set_option maxHeartbeats 2000000 in
theorem eqNil_ok {t : TypeId} {d : TypeDesc} (hd : P.underlying t = some d) {q : NK} (hf : nkFits d q = true) : EqOk P t (aEqNil q) := by
  intro x y k v m h
  obtain ⟨a, h1, hx⟩ := isNilQ_ok h
  obtain ⟨b, h2, hy⟩ := isNilQ_ok h1
  obtain ⟨h3, h4⟩ := cond_t h2
  refine ⟨_, h4, fun φ w c c' n hc hc' => ?_⟩
  cases hx <;> cases d <;> first
    | (cases hf; done)
    | (cases hy <;> first
        | (cases h3; done)
        | (cases hc <;> cases hc' <;> (simp only [Op.equalIn, Sem.run_bind, run_under hd, Result.andThen_ok]; rfl)))
end Go.AM

namespace Go.AM
variable [Tok]
variable {P : Program}

def noNum : Value → Bool
  | .int _ _ | .float _ _ | .complex _ _ _ | .string _ => false
  | _ => true
theorem binEq_run {t : TypeId} {c d : Value} {w : World} {b : Bool} (hc : noNum c = true) (h : (Op.equal t c d).run P w = .ok b w) :
    (binOp .eql t c d).run P w = .ok (.bool b) w ∧ (binOp .neq t c d).run P w = .ok (.bool (!b)) w := by
  have e1 : binOp .eql t c d = (do pure (.bool (← Op.equal t c d))) := by cases c <;> first | (cases hc; done) | rfl
  have e2 : binOp .neq t c d = (do pure (.bool (!(← Op.equal t c d)))) := by cases c <;> first | (cases hc; done) | rfl
  rw [e1, e2]
  constructor
  · simp only [Sem.run_bind, h, Result.andThen_ok, Sem.run_pure]
  · simp only [Sem.run_bind, h, Result.andThen_ok, Sem.run_pure]
/-- both tests, and what stands ahead of them -/
def EqRun (P : Program) (t : TypeId) (x y : Operand) (b : Bool) (c d : Value) (w : World) : Prop :=
  (∀ op, (eqGuard op t x y c d).run P w = .ok () w) ∧ (binOp .eql t c d).run P w = .ok (.bool b) w ∧ (binOp .neq t c d).run P w = .ok (.bool (!b)) w
theorem guard_plain {t : TypeId} {x y : Operand} {c d : Value} (w : World) (h1 : ¬ (c = .nilIface ∧ d = .nilIface)) (h2 : ∀ a b, ¬ (c = .agg a ∧ d = .agg b)) (op : BinOp) : (eqGuard op t x y c d).run P w = .ok () w := by
  unfold eqGuard
  cases op <;> simp only [] <;> (first | rfl | skip)
  all_goals
    split
    · rfl
    · split
      · rename_i h3 h4; exact absurd ⟨rfl, rfl⟩ h1
      · exact absurd ⟨rfl, rfl⟩ (h2 _ _)
      · rfl
theorem isNilIface {φ : Phi} {c : Value} (h : VRel φ .niliface c) : c = .nilIface := by cases h; rfl
theorem leaf_eqRun {e : EK} {t : TypeId} {x y : Operand} {u v : AVal} {k : Bool → R} {r : AVal} {m : Mem} (h : eqLeaf e u v k = .ok r m) {d0 : TypeDesc} (hd : P.underlying t = some d0) (hf : leafFits d0 e = true) :
    ∃ b, k b = .ok r m ∧ ∀ φ w c d, VRel φ u c → VRel φ v d → EqRun P t x y b c d w := by
  cases e with
  | int =>
    obtain ⟨j, a, b, h1, h2, h3⟩ := aInt2_ok h
    subst h1; subst h2
    refine ⟨_, h3, fun φ w c d hc hd => ?_⟩
    cases hc; cases hd
    refine ⟨guard_plain w (by simp) (by simp), ?_, ?_⟩ <;> simp [binOp, Op.intCmp, ieq_eq, bne]
  | str =>
    obtain ⟨a, b, h1, h2, h3⟩ := aStr2_ok h
    subst h1; subst h2
    refine ⟨_, h3, fun φ w c d hc hd => ?_⟩
    cases hc with
    | str _ s hs => cases hd with
      | str _ s' hs' =>
        refine ⟨guard_plain w (by simp) (by simp), ?_, ?_⟩ <;> rw [← hs, ← hs', listEq_bytes] <;> simp [binOp, Op.stringOp]
  | bool =>
    obtain ⟨b, hb, hrun⟩ := eqLeaf_run (P := P) hd hf h
    obtain ⟨p, h1, h2⟩ := onBool_ok h
    obtain ⟨q, h3, h4⟩ := onBool_ok h2
    subst h1; subst h3
    refine ⟨b, hb, fun φ w c d hc hd => ?_⟩
    have h5 := hrun φ w c d maxD hc hd
    cases hc; cases hd
    obtain ⟨h6, h7⟩ := binEq_run (P := P) (t := t) (c := .bool p) (d := .bool q) rfl h5
    exact ⟨guard_plain w (by simp) (by simp), h6, h7⟩
theorem agg_eqRun {t : TypeId} {x y : Operand} {e : EqC} {u v : AVal} {k : Bool → R} {r : AVal} {m : Mem} (hg : P.eqGuardType P.depth t = false) (he : eqPlainK P t = .agg e) (h : aEqAgg e u v k = .ok r m) :
    ∃ b, k b = .ok r m ∧ ∀ φ w c d, VRel φ u c → VRel φ v d → EqRun P t x y b c d w := by
  have h' : eqPlain (eqPlainK P t) u v k = .ok r m := by rw [he]; exact h
  obtain ⟨b, hb, hrun⟩ := eqPlain_ok t u v k r m h'
  obtain ⟨a, h1, h2⟩ := onAgg_ok h
  obtain ⟨a', h3, h4⟩ := onAgg_ok h2
  subst h1; subst h3
  refine ⟨b, hb, fun φ w c d hc hd => ?_⟩
  have h5 := hrun φ w c d 9998 hc hd
  cases hc with
  | agg _ cs _ _ => cases hd with
    | agg _ cs' _ _ =>
      obtain ⟨h6, h7⟩ := binEq_run (P := P) (t := t) (c := .agg cs) (d := .agg cs') rfl h5
      exact ⟨fun op => run_eqGuard_agg w op t x y cs cs' hg, h6, h7⟩
theorem nil_eqRun {t : TypeId} {d0 : TypeDesc} (hd : P.underlying t = some d0) {q : NK} (hf : nkFits d0 q = true) {x y : Operand} {u v : AVal} {k : Bool → R} {r : AVal} {m : Mem} (h : aEqNil q u v k = .ok r m) :
    ∃ b, k b = .ok r m ∧ ∀ φ w c d, VRel φ u c → VRel φ v d → EqRun P t x y b c d w := by
  obtain ⟨b, hb, hrun⟩ := eqNil_ok hd hf u v k r m h
  obtain ⟨b1, h1, hx⟩ := isNilQ_ok h
  obtain ⟨b2, h2, hy⟩ := isNilQ_ok h1
  refine ⟨b, hb, fun φ w c d hc hd => ?_⟩
  have h5 := hrun φ w c d 9998 hc hd
  have hn : noNum c = true := by cases hx <;> cases hc <;> rfl
  obtain ⟨h6, h7⟩ := binEq_run (P := P) (t := t) (c := c) (d := d) hn h5
  refine ⟨guard_plain w ?_ ?_, h6, h7⟩
  · rintro ⟨e1, e2⟩; subst e1; cases hx <;> cases hc
  · rintro a b ⟨e1, e2⟩; subst e1; cases hx <;> cases hc
theorem iface_eqRun {t : TypeId} {ms : Array (String × TypeId)} (hd : P.underlying t = some (.interface ms)) {x y : Operand} {u v : AVal} {k : Bool → R} {r : AVal} {m : Mem}
    (h : aEqIface P (isConst x || isConst y || ms.isEmpty) u v k = .ok r m) : ∃ b, k b = .ok r m ∧ ∀ φ w c d, VRel φ u c → VRel φ v d → EqRun P t x y b c d w := by
  have lift : ∀ {c d : Value} {w : World} {b : Bool}, noNum c = true → (∀ op, (eqGuard op t x y c d).run P w = .ok () w) → (Op.equalIn (maxD + 1) t c d).run P w = .ok b w → EqRun P t x y b c d w := by
    intro c d w b hn hg he
    obtain ⟨h6, h7⟩ := binEq_run (P := P) (t := t) (c := c) (d := d) hn he
    exact ⟨hg, h6, h7⟩
  rcases onIface_ok h with ⟨h1, h2⟩ | ⟨t1, a, h1, h2⟩
  · subst h1
    rcases onIface_ok h2 with ⟨h3, h4⟩ | ⟨t2, b, h3, h4⟩
    · subst h3
      obtain ⟨h5, h6⟩ := cond_t h4
      refine ⟨true, h6, fun φ w c d hc hd' => ?_⟩
      cases hc; cases hd'
      refine lift rfl (fun op => ?_) (by simp [Op.equalIn, run_under hd])
      have h10 : (Op.eqGuardIn Op.maxDepth t .nilIface .nilIface).run P w = .ok (!ms.isEmpty) w := by
        have : ∀ n, (Op.eqGuardIn (n + 1) t .nilIface .nilIface).run P w = .ok (!ms.isEmpty) w := fun n => by
          simp only [Op.eqGuardIn, Sem.run_bind, run_under hd, Result.andThen_ok, Sem.run_pure]
        exact this 9999
      have key : (if (isConst x || isConst y) = true then (pure () : Sem Unit) else (do
          if ← Op.eqGuardIn Op.maxDepth t .nilIface .nilIface then unsupported (.noEntry "binop/eql: two nil values of an interface type with methods, neither of them the literal nil"))).run P w = .ok () w := by
        split
        · rfl
        · rename_i h7
          have h9 : ms.isEmpty = true := by
            rw [Bool.or_eq_true] at h5
            rcases h5 with h5 | h5
            · exact absurd h5 h7
            · exact h5
          simp only [Sem.run_bind, h10, Result.andThen_ok, h9, Bool.not_true, Bool.false_eq_true, if_false, Sem.run_pure]
      cases op <;> first | rfl | exact key
    · subst h3
      refine ⟨false, h4, fun φ w c d hc hd' => ?_⟩
      cases hc; cases hd'
      exact lift rfl (guard_plain w (by simp) (by simp)) (by simp [Op.equalIn, run_under hd])
  · subst h1
    rcases onIface_ok h2 with ⟨h3, h4⟩ | ⟨t2, b, h3, h4⟩
    · subst h3
      refine ⟨false, h4, fun φ w c d hc hd' => ?_⟩
      cases hc; cases hd'
      exact lift rfl (guard_plain w (by simp) (by simp)) (by simp [Op.equalIn, run_under hd])
    · subst h3
      rcases cond_ok h4 with ⟨h5, h6⟩ | ⟨h5, h6⟩
      · have e := beq_true.1 h5
        subst e
        unfold dynKind at h6
        split at h6
        · rename_i hcomp
          obtain ⟨z, hz, hrun⟩ := eqPlain_ok t1 a b k r m h6
          refine ⟨z, hz, fun φ w c d hc hd' => ?_⟩
          cases hc with
          | iface _ _ c1 hc1 => cases hd' with
            | iface _ _ d1 hd1 =>
              refine lift rfl (guard_plain w (by simp) (by simp)) ?_
              cases hi : P.info? t1 with
              | none => rw [hi] at hcomp; cases hcomp
              | some i =>
                rw [hi] at hcomp
                have hcmp : i.comparable = true := hcomp
                have : ∀ n, (Op.equalIn (n + 2 + 1) t (.iface t1 c1) (.iface t1 d1)).run P w = .ok z w := fun n => by
                  rw [Op.equalIn]
                  simp only [Sem.run_bind, run_under hd, Result.andThen_ok, ne_eq, not_true, if_false, typeInfo, run_program, hi, Sem.run_pure, hcmp, Bool.not_true, Bool.false_eq_true]
                  exact hrun φ w c1 d1 n hc1 hd1
                exact this 9997
        · cases h6
      · have hne : t1 ≠ t2 := fun e => by rw [e, beq_true.2 rfl] at h5; cases h5
        refine ⟨false, h6, fun φ w c d hc hd' => ?_⟩
        cases hc; cases hd'
        exact lift rfl (guard_plain w (by simp) (by simp)) (by simp [Op.equalIn, run_under hd, hne])
end Go.AM

namespace Go.AM
variable [Tok]
variable {P : Program}

theorem aEq_ok {t : TypeId} {x y : Operand} {u v : AVal} {k : Bool → R} {r : AVal} {m : Mem} (h : aEq P (eqKind P t (isConst x || isConst y)) u v k = .ok r m) :
    ∃ b, k b = .ok r m ∧ ∀ φ w c d, VRel φ u c → VRel φ v d → EqRun P t x y b c d w := by
  unfold eqKind at h
  cases hd : P.underlying t with
  | none => rw [hd] at h; simp only [eqPlainK, hd] at h; cases h
  | some d0 =>
    rw [hd] at h
    cases d0 with
    | pointer e => exact nil_eqRun hd (q := .ptr) rfl h
    | slice e => exact nil_eqRun hd (q := .slice) rfl h
    | map a e => exact nil_eqRun hd (q := .map) rfl h
    | func a b c => exact nil_eqRun hd (q := .func) rfl h
    | interface ms => exact iface_eqRun hd h
    | int j => simp only [eqPlainK, hd] at h; exact leaf_eqRun (e := .int) h hd rfl
    | string => simp only [eqPlainK, hd] at h; exact leaf_eqRun (e := .str) h hd rfl
    | bool => simp only [eqPlainK, hd] at h; exact leaf_eqRun (e := .bool) h hd rfl
    | struct fs =>
      simp only at h
      split at h
      · cases h
      · rename_i hg
        have hg' : P.eqGuardType P.depth t = false := by simpa using hg
        cases he : eqPlainK P t with
        | agg e => rw [he] at h; exact agg_eqRun hg' he h
        | leaf e =>
          exfalso
          unfold eqPlainK at he; rw [hd] at he; simp only at he
          split at he
          · cases he
          · split at he <;> cases he
        | nil q =>
          exfalso
          unfold eqPlainK at he; rw [hd] at he; simp only at he
          split at he
          · cases he
          · split at he <;> cases he
        | iface c =>
          exfalso
          unfold eqPlainK at he; rw [hd] at he; simp only at he
          split at he
          · cases he
          · split at he <;> cases he
        | bad => rw [he] at h; cases h
    | _ => simp only [eqPlainK, hd] at h; cases h
theorem eql_ok {t : TypeId} {x y : Operand} : BinOk P .eql t x y fun u v k => aEq P (eqKind P t (isConst x || isConst y)) u v fun b => forceB (fun t => k (.bool t)) b := by
  intro u v k r m h
  obtain ⟨b, hb, hall⟩ := aEq_ok h
  rw [forceB_eq] at hb
  refine ⟨_, hb, fun φ w c d hc hd => ⟨_, .bool b, ?_⟩⟩
  obtain ⟨h1, h2, h3⟩ := hall φ w c d hc hd
  rw [Sem.run_bind, h1]; exact h2
theorem neq_ok {t : TypeId} {x y : Operand} : BinOk P .neq t x y fun u v k => aEq P (eqKind P t (isConst x || isConst y)) u v fun b => forceB (fun t => k (.bool t)) (not b) := by
  intro u v k r m h
  obtain ⟨b, hb, hall⟩ := aEq_ok h
  rw [forceB_eq] at hb
  refine ⟨_, hb, fun φ w c d hc hd => ⟨_, .bool _, ?_⟩⟩
  obtain ⟨h1, h2, h3⟩ := hall φ w c d hc hd
  rw [Sem.run_bind, h1]; exact h3
theorem bits_range {k : IntKind} {p : Nat} (h : inRange k (.ofNat p) = true) : p < 2 ^ k.bits ∧ (k.signed = true → p < 2 ^ (k.bits - 1)) := by
  have h1 : p ≤ ikMax k := ble_true.1 h
  cases k <;> simp [ikMax, IntKind.bits, IntKind.signed] at * <;> omega
theorem wrap_small {k : IntKind} {p : Nat} (h1 : p < 2 ^ k.bits) (h2 : k.signed = true → p < 2 ^ (k.bits - 1)) : k.wrap (p : Int) = p := by
  cases k <;> simp [IntKind.wrap, IntKind.bits, IntKind.signed] at * <;> omega
theorem land_run {op : BinOp} {t : TypeId} {g : Nat → Nat → Nat} {f : ∀ n, BitVec n → BitVec n → BitVec n} (hg : ∀ n (a b : BitVec n), (f n a b).toNat = g a.toNat b.toNat) (hlt : ∀ n p q, p < 2 ^ n → q < 2 ^ n → g p q < 2 ^ n)
    (hb : ∀ k a b (w : World), (binOp op t (.int k a) (.int k b)).run P w = .ok (.int k (k.wrap (f k.bits (BitVec.ofInt k.bits a) (BitVec.ofInt k.bits b)).toNat)) w)
    (k : IntKind) (p q : Nat) (w : World) (hp : inRange k (.ofNat p) = true) (hq : inRange k (.ofNat q) = true) : (binOp op t (.int k (.ofNat p)) (.int k (.ofNat q))).run P w = .ok (.int k (.ofNat (g p q))) w := by
  obtain ⟨h1, h2⟩ := bits_range hp
  obtain ⟨h3, h4⟩ := bits_range hq
  rw [hb, hg]
  have e1 : (BitVec.ofInt k.bits (Int.ofNat p)).toNat = p := by
    rw [BitVec.toNat_ofInt]; show ((p : Int) % _).toNat = p
    rw [Int.emod_eq_of_lt (by omega) (by exact_mod_cast h1)]; rfl
  have e2 : (BitVec.ofInt k.bits (Int.ofNat q)).toNat = q := by
    rw [BitVec.toNat_ofInt]; show ((q : Int) % _).toNat = q
    rw [Int.emod_eq_of_lt (by omega) (by exact_mod_cast h3)]; rfl
  rw [e1, e2, wrap_small (hlt _ _ _ h1 h3) (fun hs => hlt _ _ _ (h2 hs) (h4 hs))]
  rfl
theorem land_gen {op : BinOp} {t : TypeId} {g : Nat → Nat → Nat} {f : ∀ n, BitVec n → BitVec n → BitVec n} (hg : ∀ n (a b : BitVec n), (f n a b).toNat = g a.toNat b.toNat)
    (hb : ∀ k a b (w : World), (binOp op t (.int k a) (.int k b)).run P w = .ok (.int k (k.wrap (f k.bits (BitVec.ofInt k.bits a) (BitVec.ofInt k.bits b)).toNat)) w)
    (k : IntKind) (a b : Int) (w : World) : (binOp op t (.int k a) (.int k b)).run P w = .ok (.int k (k.wrap (g (uOf k a) (uOf k b) : Nat))) w := by
  rw [hb, hg, uOf_eq, uOf_eq]
theorem lt_total : ∀ a b : List Nat, (listLt a b || listEq a b) = !(listLt b a)
  | [], [] => rfl
  | [], _ :: _ => rfl
  | _ :: _, [] => rfl
  | x :: a, y :: b => by
    show (cond' true (cond' (listLt a b) false (Nat.beq x y)) (Nat.ble (Nat.succ x) y) || cond' (listEq a b) false (Nat.beq x y)) = !(cond' true (cond' (listLt b a) false (Nat.beq y x)) (Nat.ble (Nat.succ y) x))
    have ih := lt_total a b
    rcases Nat.lt_trichotomy x y with h | h | h
    · have e1 : Nat.ble (Nat.succ x) y = true := ble_true.2 h
      have e2 : Nat.ble (Nat.succ y) x = false := ble_false.2 (by omega)
      have e3 : Nat.beq y x = false := by
        cases hb : Nat.beq y x with
        | false => rfl
        | true => have := beq_true.1 hb; omega
      rw [e1, e2, e3]; rfl
    · subst h
      have e1 : Nat.ble (Nat.succ x) x = false := ble_false.2 (by omega)
      have e2 : Nat.beq x x = true := beq_true.2 rfl
      rw [e1, e2]; exact ih
    · have e1 : Nat.ble (Nat.succ x) y = false := ble_false.2 (by omega)
      have e2 : Nat.ble (Nat.succ y) x = true := ble_true.2 h
      have e3 : Nat.beq x y = false := by
        cases hb : Nat.beq x y with
        | false => rfl
        | true => have := beq_true.1 hb; omega
      rw [e1, e2, e3]; rfl
theorem bin_all0 {o : Oper} {op : BinOp} {t yt : TypeId} {x y : Operand} (h : o.op = .binOp op t x y yt) : OpOk P o (cBin0 P op t x y) := by
  cases op with
  | eql => exact bin_ok h eql_ok
  | neq => exact bin_ok h neq_ok
  | shl => exact bin_ok h shl_ok
  | shr => exact bin_ok h shr_ok
  | quo => exact bin_ok h quo_ok
  | rem => exact bin_ok h rem_ok
  | andNot => trivial
  | add =>
    show OpOk P o (if isStr P t = true then _ else _)
    split
    · exact bin_ok h cat_ok
    · exact bin_ok h (arith_ok rfl fun k a b w => by rw [iadd_eq]; simp [binOp, Op.intArith])
  | sub => exact bin_ok h (arith_ok rfl fun k a b w => by rw [isub_eq]; simp [binOp, Op.intArith])
  | mul => exact bin_ok h (arith_ok rfl fun k a b w => by rw [imul_eq]; simp [binOp, Op.intArith])
  | and => exact bin_ok h (bits_ok rfl (land_run (f := fun _ a b => a &&& b) (fun n a b => by simp) (fun n p q h1 _ => Nat.and_lt_two_pow _ (by assumption)) (fun k a b w => by simp [binOp, Op.intBits])) (land_gen (f := fun _ a b => a &&& b) (fun n a b => by simp) (fun k a b w => by simp [binOp, Op.intBits])))
  | or => exact bin_ok h (bits_ok rfl (land_run (f := fun _ a b => a ||| b) (fun n a b => by simp) (fun n p q h1 h2 => Nat.or_lt_two_pow h1 h2) (fun k a b w => by simp [binOp, Op.intBits])) (land_gen (f := fun _ a b => a ||| b) (fun n a b => by simp) (fun k a b w => by simp [binOp, Op.intBits])))
  | xor => exact bin_ok h (bits_ok rfl (land_run (f := fun _ a b => a ^^^ b) (fun n a b => by simp) (fun n p q h1 h2 => Nat.xor_lt_two_pow h1 h2) (fun k a b w => by simp [binOp, Op.intBits])) (land_gen (f := fun _ a b => a ^^^ b) (fun n a b => by simp) (fun k a b w => by simp [binOp, Op.intBits])))
  | lss =>
    show OpOk P o (if isStr P t = true then _ else _)
    split
    · exact bin_ok h (strCmp_ok rfl fun a b w => by rw [listLt_bytes, binOp_string_lss]; rfl)
    · exact bin_ok h (cmp_ok rfl fun k a b w => by rw [ilt_eq]; simp [binOp, Op.intCmp])
  | leq =>
    show OpOk P o (if isStr P t = true then _ else _)
    split
    · exact bin_ok h (strCmp_ok rfl fun a b w => by
        rw [binOp_string_leq, ← listLt_bytes, ← listEq_bytes, lt_total]; rfl)
    · exact bin_ok h (cmp_ok rfl fun k a b w => by rw [ile_eq]; simp [binOp, Op.intCmp])
  | gtr =>
    show OpOk P o (if isStr P t = true then _ else _)
    split
    · exact bin_ok h (strCmp_ok rfl fun a b w => by
        rw [binOp_string_gtr, ← listLt_bytes, ← listEq_bytes, lt_total, Bool.not_not]; rfl)
    · exact bin_ok h (cmp_ok rfl fun k a b w => by rw [ilt_eq]; simp [binOp, Op.intCmp])
  | geq =>
    show OpOk P o (if isStr P t = true then _ else _)
    split
    · exact bin_ok h (strCmp_ok rfl fun a b w => by rw [listLt_bytes, binOp_string_geq]; rfl)
    · exact bin_ok h (cmp_ok rfl fun k a b w => by rw [ile_eq]; simp [binOp, Op.intCmp])
/- ### tokens -/
def Ord3.holds : Ord3 → Int → Int → Prop
  | .lt, a, b => a < b
  | .eq, a, b => a = b
  | .gt, a, b => b < a
  | .ge, a, b => b ≤ a
  | .le, a, b => a ≤ b
theorem swap_holds {o : Ord3} {a b : Int} (h : o.holds a b) : o.swap.holds b a := by cases o <;> first | exact h | exact h.symm
theorem is_run {o : Ord3} {op : BinOp} {b : Bool} (h : o.is op = some b) {k : IntKind} {x y : Int} (ho : o.holds x y) (t : TypeId) (w : World) : (binOp op t (.int k x) (.int k y)).run P w = .ok (.bool b) w := by
  cases o <;> cases op <;> first
    | (cases h; done)
    | (cases h; simp only [Ord3.holds] at ho; simp [binOp, Op.intCmp]; omega)
    | (cases h; simp only [Ord3.holds] at ho; simp [binOp, Op.intCmp, ho])
theorem natCmp_holds (f : Nat → Int) (a b : Nat) (hm : ∀ i j, (i = a ∨ i = b) → (j = a ∨ j = b) → i < j → f i < f j) : (natCmp a b).holds (f a) (f b) := by
  unfold natCmp
  cases h1 : Nat.beq a b with
  | true => rw [beq_true] at h1; subst h1; rfl
  | false =>
    have hne : a ≠ b := fun e => by rw [beq_true.2 e] at h1; cases h1
    cases h2 : Nat.ble a b with
    | true => rw [ble_true] at h2; exact hm a b (.inl rfl) (.inr rfl) (by omega)
    | false => rw [ble_false] at h2; exact hm b a (.inr rfl) (.inl rfl) h2
theorem intSide_holds {z : Int} {o : Ord3} (h : intSide z = some o) {x : Int} (h1 : 1 ≤ x) (h2 : x ≤ 127) : o.holds x z := by
  unfold intSide at h
  rw [onI_nat] at h
  cases z with
  | negSucc n => cases h; show _ < _; omega
  | ofNat n =>
    simp only at h
    cases hb : Nat.beq n 0 with
    | true => rw [hb] at h; rw [beq_true] at hb; cases h; subst hb; show (0 : Int) < x; omega
    | false =>
      rw [hb] at h
      cases hb1 : Nat.beq n 1 with
      | true =>
        have h' : (some Ord3.ge) = some o := by rw [hb1] at h; exact h
        rw [beq_true] at hb1; cases h'; subst hb1; show (1 : Int) ≤ x; omega
      | false =>
        have h' : cond' (some Ord3.lt) none (Nat.ble 128 n) = some o := by rw [hb1] at h; exact h
        cases hb2 : Nat.ble 128 n with
        | true => rw [hb2] at h'; rw [ble_true] at hb2; cases h'; show x < ((n : Nat) : Int); omega
        | false => rw [hb2] at h'; cases h'
theorem sym_range {j : Nat} (h : j < Tok.cnt) : 1 ≤ Tok.num j ∧ Tok.num j ≤ 127 := ⟨Tok.pos j h, Tok.hi j h⟩
theorem nx_range {d : Nat} (h : d ≤ 7) (hn : Tok.nxok) : 1 ≤ Tok.base + (d : Int) ∧ Tok.base + (d : Int) ≤ 127 := by
  have h1 := hn.1
  have h2 := hn.2.1
  omega
theorem condSome {α : Type} {x : Option α} {b : Bool} {o : α} (h : cond' x none b = some o) : b = true ∧ x = some o := by
  cases b
  · cases h
  · exact ⟨rfl, h⟩
theorem tokCmp_ok {u v : AVal} {o : Ord3} (h : tokCmp u v = some o) {φ : Phi} {c d : Value} (hc : VRel φ u c) (hd : VRel φ v d) : ∃ k a b, c = .int k a ∧ d = .int k b ∧ o.holds a b := by
  unfold tokCmp at h
  split at h
  · obtain ⟨h1, h2⟩ := condSome h
    rw [ikEq_eq h1] at hc
    cases hc with | sym _ _ hi => cases hd with | sym _ _ hj =>
    cases h2
    exact ⟨_, _, _, rfl, rfl, natCmp_holds Tok.num _ _ fun i j h3 h4 h5 => Tok.mono i j h5 (by rcases h4 with rfl | rfl <;> assumption)⟩
  · obtain ⟨h1, h2⟩ := condSome h
    rw [ikEq_eq h1] at hc
    cases hc with | nx _ _ hi hin => cases hd with | nx _ _ hj hjn =>
    cases h2
    exact ⟨_, _, _, rfl, rfl, natCmp_holds (fun d => Tok.base + (d : Int)) _ _ fun i j _ _ h5 => by show Tok.base + (i : Int) < Tok.base + (j : Int); omega⟩
  · obtain ⟨h1, h2⟩ := condSome h
    rw [ikEq_eq h1] at hc
    cases hc with | sym _ _ hi => cases hd with | nx _ _ hj hjn =>
    cases h2
    refine ⟨_, _, _, rfl, rfl, ?_⟩
    have := hjn.2.2 _ hi
    show _ < _; omega
  · obtain ⟨h1, h2⟩ := condSome h
    rw [ikEq_eq h1] at hc
    cases hc with | nx _ _ hi hin => cases hd with | sym _ _ hj =>
    cases h2
    refine ⟨_, _, _, rfl, rfl, ?_⟩
    have := hin.2.2 _ hj
    show _ < _; omega
  · obtain ⟨h1, h2⟩ := condSome h
    rw [ikEq_eq h1] at hc
    cases hc with
    | sym _ _ hi =>
    cases hd
    exact ⟨_, _, _, rfl, rfl, intSide_holds h2 (sym_range hi).1 (sym_range hi).2⟩
  · obtain ⟨h1, h2⟩ := condSome h
    rw [ikEq_eq h1] at hc
    cases hc with
    | nx _ _ hi hin =>
    cases hd
    exact ⟨_, _, _, rfl, rfl, intSide_holds h2 (nx_range hi hin).1 (nx_range hi hin).2⟩
  · obtain ⟨h1, h2⟩ := condSome h
    rw [ikEq_eq h1] at hc
    cases hc
    cases hd with | sym _ _ hi =>
    rw [Option.map_eq_some_iff] at h2
    obtain ⟨o', h3, rfl⟩ := h2
    exact ⟨_, _, _, rfl, rfl, swap_holds (intSide_holds h3 (sym_range hi).1 (sym_range hi).2)⟩
  · obtain ⟨h1, h2⟩ := condSome h
    rw [ikEq_eq h1] at hc
    cases hc
    cases hd with | nx _ _ hi hin =>
    rw [Option.map_eq_some_iff] at h2
    obtain ⟨o', h3, rfl⟩ := h2
    exact ⟨_, _, _, rfl, rfl, swap_holds (intSide_holds h3 (nx_range hi hin).1 (nx_range hi hin).2)⟩
  · cases h
theorem onO3_ok {x : Option Ord3} {c : Nat} {k : Ord3 → R} {v : AVal} {m : Mem} (h : onO3 (.fail c) k x = .ok v m) : ∃ o, x = some o ∧ k o = .ok v m := by
  cases x with
  | none => cases h
  | some o => exact ⟨o, rfl, h⟩
theorem onB3_ok {x : Option Bool} {c : Nat} {k : Bool → R} {v : AVal} {m : Mem} (h : onB3 (.fail c) k x = .ok v m) : ∃ o, x = some o ∧ k o = .ok v m := by
  cases x with
  | none => cases h
  | some o => exact ⟨o, rfl, h⟩
theorem wrap_small127 {k : IntKind} {x : Int} (h1 : 0 ≤ x) (h2 : x ≤ 127) : k.wrap x = x := by
  cases k <;> simp [IntKind.wrap, IntKind.bits, IntKind.signed] <;> omega
theorem eqGuard_int {op : BinOp} {t : TypeId} {x y : Operand} {k j : IntKind} {a b : Int} {w : World} : (eqGuard op t x y (.int k a) (.int j b)).run P w = .ok () w := by
  unfold eqGuard
  cases op <;> rfl
theorem shr_tok {t : TypeId} {k j : IntKind} {a : Int} {n : Nat} (h1 : 1 ≤ a) (h2 : a ≤ 127) (w : World) (hn : n = 0 ∨ 7 ≤ n) :
    (binOp .shr t (.int k a) (.int j (.ofNat n))).run P w = .ok (.int k (if n = 0 then a else 0)) w := by
  have h0 : ¬ ((n : Int) < 0) := by omega
  have key : a.fdiv (2 ^ min n k.bits) = if n = 0 then a else 0 := by
    rcases hn with rfl | hn
    · simp
    · rw [if_neg (by omega), Int.fdiv_eq_ediv_of_nonneg _ (by have : (0 : Int) < 2 ^ min n k.bits := Int.pow_pos (by decide); omega)]
      refine Int.ediv_eq_zero_of_lt (by omega) ?_
      have hb : 7 ≤ min n k.bits := by
        have : 8 ≤ k.bits := by cases k <;> decide
        omega
      have : (2 : Int) ^ 7 ≤ 2 ^ min n k.bits := by
        have := Nat.pow_le_pow_right (n := 2) (by decide) hb
        exact_mod_cast this
      omega
  simp [binOp, Op.shift, h0, key]
theorem tokOp_ok {op : BinOp} {t : TypeId} {x y : Operand} : BinOk P op t x y (tokOp op) := by
  intro u v k r m h
  have cmp : onO3 (.fail 140) (fun o => onB3 (.fail 150) (fun b => forceB (fun b => k (.bool b)) b) (o.is op)) (tokCmp u v) = .ok r m → ∃ z, k z = .ok r m ∧ ∀ φ (w : World) c d, VRel φ u c → VRel φ v d → ∃ e, VRel φ z e ∧ ((do eqGuard op t x y c d; binOp op t c d) : Sem Value).run P w = .ok e w := by
    intro h
    obtain ⟨o, h1, h2⟩ := onO3_ok h
    obtain ⟨b, h3, h4⟩ := onB3_ok h2
    rw [forceB_eq] at h4
    refine ⟨_, h4, fun φ w c d hc hd => ⟨.bool b, .bool b, ?_⟩⟩
    obtain ⟨kk, a, bb, rfl, rfl, ho⟩ := tokCmp_ok h1 hc hd
    rw [Sem.run_bind, eqGuard_int]
    exact is_run h3 ho t w
  unfold tokOp at h
  split at h
  · unfold tokAdd at h
    split at h
    · rename_i j d j' z
      rw [onI_nat] at h
      cases z with
      | negSucc n => cases h
      | ofNat c =>
        obtain ⟨h1, h2⟩ := cond_t h
        rw [forceN_eq] at h2
        rw [Bool.and_eq_true, ble_true] at h1
        obtain ⟨h1, h3⟩ := h1
        have := ikEq_eq h1
        subst this
        refine ⟨_, h2, fun φ w cc dd hc hd => ?_⟩
        cases hc with
        | nx _ _ hi hin =>
          cases hd
          refine ⟨_, .nx j _ h3 hin, ?_⟩
          rw [Sem.run_bind, eqGuard_int]
          have e : Tok.base + (d : Int) + Int.ofNat c = Tok.base + ((d + c : Nat) : Int) := by simp; omega
          have hr := nx_range (d := d + c) h3 hin
          simp only [Result.andThen_ok]
          show (binOp .add t (.int j _) (.int j _)).run P w = .ok (.int j (Tok.base + ((d + c : Nat) : Int))) w
          simp only [binOp, ne_eq, not_true, if_false, Op.intArith, Sem.run_pure]
          rw [e, wrap_small127 (by omega) hr.2]
    · cases h
  · unfold tokShr at h
    split at h
    · rename_i j i
      obtain ⟨jj, n, rfl, h1⟩ := onNat_ok h
      rcases cond_ok h1 with ⟨h2, h3⟩ | ⟨h2, h3⟩
      · rw [beq_true] at h2
        subst h2
        refine ⟨_, h3, fun φ w c d hc hd => ?_⟩
        have hc' := hc
        cases hc with
        | sym _ _ hi =>
          cases hd
          exact ⟨_, hc', by rw [Sem.run_bind, eqGuard_int]; have := shr_tok (P := P) (t := t) (k := j) (j := jj) (sym_range hi).1 (sym_range hi).2 w (.inl rfl); simpa using this⟩
      · obtain ⟨h4, h5⟩ := cond_t h3
        rw [ble_true] at h4
        refine ⟨_, h5, fun φ w c d hc hd => ?_⟩
        cases hc with
        | sym _ _ hi =>
          cases hd
          exact ⟨_, .int j 0, by rw [Sem.run_bind, eqGuard_int]; have := shr_tok (P := P) (t := t) (k := j) (j := jj) (sym_range hi).1 (sym_range hi).2 w (.inr h4); rw [if_neg (by omega)] at this; exact this⟩
    · rename_i j i
      obtain ⟨jj, n, rfl, h1⟩ := onNat_ok h
      rcases cond_ok h1 with ⟨h2, h3⟩ | ⟨h2, h3⟩
      · rw [beq_true] at h2
        subst h2
        refine ⟨_, h3, fun φ w c d hc hd => ?_⟩
        have hc' := hc
        cases hc with
        | nx _ _ hi hin =>
          cases hd
          exact ⟨_, hc', by rw [Sem.run_bind, eqGuard_int]; have := shr_tok (P := P) (t := t) (k := j) (j := jj) (nx_range hi hin).1 (nx_range hi hin).2 w (.inl rfl); simpa using this⟩
      · obtain ⟨h4, h5⟩ := cond_t h3
        rw [ble_true] at h4
        refine ⟨_, h5, fun φ w c d hc hd => ?_⟩
        cases hc with
        | nx _ _ hi hin =>
          cases hd
          exact ⟨_, .int j 0, by rw [Sem.run_bind, eqGuard_int]; have := shr_tok (P := P) (t := t) (k := j) (j := jj) (nx_range hi hin).1 (nx_range hi hin).2 w (.inr h4); rw [if_neg (by omega)] at this; exact this⟩
    · cases h
  · exact cmp h
theorem bin_all {o : Oper} {op : BinOp} {t yt : TypeId} {x y : Operand} (h : o.op = .binOp op t x y yt) : OpOk P o (cBin P op t x y) := by
  unfold cBin
  have h0 := bin_all0 (P := P) h
  cases hasTok op with
  | false => exact h0
  | true =>
    show OpOk P o (withTok op x y (cBin0 P op t x y))
    cases hc : cBin0 P op t x y with
    | pure f =>
      rw [hc] at h0
      intro r k v mf hk
      rcases cond_ok hk with ⟨_, h1⟩ | ⟨_, h1⟩
      · exact bin_ok h (tokOp_ok (op := op) (t := t) (x := x) (y := y)) r k v mf h1
      · exact h0 r k v mf h1
    | read a f => rw [hc] at h0; exact h0
    | alloc f => rw [hc] at h0; exact h0
    | heavy f => rw [hc] at h0; exact h0
    | bad n => trivial
theorem un_all {o : Oper} {op : UnOp} {t : TypeId} {x : Operand} (h : o.op = .unOp op t x) : OpOk P o (cUn op x) := by
  cases op with
  | neg =>
    intro r k v mf hk
    obtain ⟨j, a, ha, hk⟩ := onInt_ok hk
    rw [wrapI_eq, isub_eq] at hk
    refine ⟨_, hk, fun φ m w a' hr ho => ?_⟩
    have hx := ho x (by simp [h, Op.operands])
    rw [ha] at hx
    generalize hc : a'.eval x = c at hx
    cases hx
    refine ⟨_, .int _ _, ?_⟩
    simp only [execOp, h, hc]
    exact run_value (by simp [Op.unary, Op.intArith])
  | not =>
    intro r k v mf hk
    obtain ⟨a, ha, hk⟩ := onBool_ok hk
    rw [forceB_eq] at hk
    refine ⟨_, hk, fun φ m w a' hr ho => ?_⟩
    have hx := ho x (by simp [h, Op.operands])
    rw [ha] at hx
    generalize hc : a'.eval x = c at hx
    cases hx
    refine ⟨_, .bool _, ?_⟩
    simp only [execOp, h, hc]
    exact run_value (by simp [Op.unary])
  | _ => trivial
end Go.AM

namespace Go.AM
variable [Tok]
variable {P : Program}

theorem part_ok {t : TypeId} (ht : hasT P t = true) {o : Nat} {cs : List AVal} {k : AVal → R} {v : AVal} {m : Mem} (h : aPart (aggB P t) o (szOf P t) cs k = .ok v m) :
    ∃ u, k u = .ok v m ∧ ∀ φ (w : World) (cc : Array Value), VsRel φ cs cc.toList → (∀ v, v ∈ cs → v.isCell = true) → ∃ c, VRel φ u c ∧ (part t cc o).run P w = .ok c w := by
  rcases cond_ok h with ⟨hg, h2⟩ | ⟨hg, h2⟩
  · obtain ⟨h3, h4⟩ := cond_t h2
    rw [takeL_eq, dropL_eq] at h4
    refine ⟨_, h4, fun φ w cc hcc hcell => ⟨.agg (cc.extract o (o + szOf P t)), .agg _ _ ?_ (fun v hv => hcell v (List.mem_of_mem_drop (List.mem_of_mem_take hv))), ?_⟩⟩
    · have := (hcc.drop o).take (szOf P t)
      rw [Array.toList_extract, List.extract_eq_take_drop]
      simpa using this
    · unfold part
      simp only [Sem.run_bind, run_isAgg' ht, Result.andThen_ok, hg, if_true, run_sizeOf' ht, Sem.run_pure]
  · obtain ⟨x, r, hd, h3⟩ := onL_ok h2
    rw [dropL_eq] at hd
    refine ⟨x, h3, fun φ w cc hcc _ => ?_⟩
    obtain ⟨c, hc, hv⟩ := hcc.of_drop_cons hd
    refine ⟨c, hv, ?_⟩
    rw [Array.getElem?_toList] at hc
    unfold part
    simp only [Sem.run_bind, run_isAgg' ht, Result.andThen_ok, hg, Bool.false_eq_true, if_false, hc, Sem.run_pure]
theorem field_ok {o : Oper} {s : TypeId} {x : Operand} {f : Nat} (h : o.op = .field s x f) : OpOk P o (cField P s x f) := by
  unfold cField
  cases hf : fieldOf P s f with
  | none => trivial
  | some fd =>
    obtain ⟨fs, h1, h2⟩ := fieldOf_ok hf
    simp only
    split
    · rename_i ht
      intro r k v mf hk
      obtain ⟨cs, hcs, hk2⟩ := onAgg_ok hk
      obtain ⟨u, hu, hall⟩ := part_ok ht hk2
      refine ⟨u, hu, fun φ m w a hr ho => ?_⟩
      have hx := ho x (by simp [h, Op.operands])
      rw [hcs] at hx
      generalize hc : a.eval x = c at hx
      cases hx with
      | agg _ cc hv hcell =>
        obtain ⟨c, hc1, hrun⟩ := hall φ w cc hv hcell
        refine ⟨c, hc1, ?_⟩
        simp only [execOp, h, hc]
        refine run_value ?_
        simp only [Instr.field, Sem.run_bind, run_under h1, Result.andThen_ok, h2, asAgg, Sem.run_pure]
        exact hrun
    · trivial
theorem index_ok {o : Oper} {t : TypeId} {x ix : Operand} (h : o.op = .index t x ix) : OpOk P o (cIndex P t x ix) := by
  unfold cIndex
  split
  · rename_i len e hu
    split
    · rename_i ht
      intro r k v mf hk
      obtain ⟨cs, hb, hk2⟩ := onAgg_ok hk
      obtain ⟨j, i, hi, hk3⟩ := onNat_ok hk2
      obtain ⟨hlt, hk4⟩ := cond_t hk3
      rw [ble_true] at hlt
      obtain ⟨u, hu', hall⟩ := part_ok ht hk4
      refine ⟨u, hu', fun φ m w a hr ho => ?_⟩
      have hx := ho x (by simp [h, Op.operands])
      have hj := ho ix (by simp [h, Op.operands])
      rw [hb] at hx
      rw [hi] at hj
      generalize hc : a.eval x = c at hx
      generalize hc2 : a.eval ix = c2 at hj
      cases hj
      cases hx with
      | agg _ cc hv hcell =>
        obtain ⟨c, hc1, hrun⟩ := hall φ w cc hv hcell
        refine ⟨c, hc1, ?_⟩
        simp only [execOp, h, hc, hc2]
        refine run_value ?_
        simp only [Instr.index, Sem.run_bind, asIntOf_run, run_under hu, Result.andThen_ok]
        have h1 : (0 ≤ Int.ofNat i ∧ Int.ofNat i < (len : Int)) := ⟨Int.natCast_nonneg i, by simp; omega⟩
        simp only [h1, and_self, if_true, Sem.run_bind, run_sizeOf' ht, Result.andThen_ok]
        exact hrun
    · trivial
  · rename_i hu
    intro r k v mf hk
    obtain ⟨s, hb, hk2⟩ := onStr_ok hk
    obtain ⟨j, i, hi, hk3⟩ := onNat_ok hk2
    obtain ⟨c0, rest, hd, hk4⟩ := onL_ok hk3
    rw [dropL_eq] at hd
    refine ⟨_, hk4, fun φ m w a hr ho => ?_⟩
    have hx := ho x (by simp [h, Op.operands])
    have hj := ho ix (by simp [h, Op.operands])
    rw [hb] at hx
    rw [hi] at hj
    generalize hc : a.eval x = c at hx
    generalize hc2 : a.eval ix = c2 at hj
    cases hj
    cases hx with
    | str _ t' hs =>
      have h5 : s[i]? = some c0 := by
        have := congrArg (fun l => l[0]?) hd
        simpa using this
      rw [← hs, List.getElem?_map] at h5
      cases h6 : t'.data.toList[i]? with
      | none => rw [h6] at h5; cases h5
      | some b =>
        rw [h6] at h5
        simp at h5
        rw [Array.getElem?_toList] at h6
        have hlt : i < t'.size := by
          rcases Nat.lt_or_ge i t'.size with h7 | h7
          · exact h7
          · rw [Array.getElem?_eq_none (by exact h7)] at h6; cases h6
        refine ⟨.int .u8 c0, .int _ _, ?_⟩
        simp only [execOp, h, hc, hc2]
        refine run_value ?_
        rw [run_index_string w t t' _ _ hu]
        have h8 : (0 ≤ Int.ofNat i ∧ Int.ofNat i < (t'.size : Int)) := ⟨Int.natCast_nonneg i, by simp; omega⟩
        rw [dif_pos h8]
        have h9 : t'[i]'hlt = b := by
          have : t'.data[i]? = some (t'.data[i]'hlt) := Array.getElem?_eq_getElem hlt
          rw [this] at h6
          exact Option.some.inj h6
        have h10 : (Int.ofNat i).toNat = i := rfl
        simp only [h10, h9, ← h5]
  · trivial

/- ### bounds -/
theorem sliceBound_run {j : IntKind} {n y : Nat} {code : BoundsCode} (h : n ≤ y) (w : World) : (Instr.sliceBound (.int j (.ofNat n)) y code).run P w = .ok n w := by
  have h1 : (0 ≤ Int.ofNat n ∧ Int.ofNat n ≤ (y : Int)) := ⟨Int.natCast_nonneg n, by simp; omega⟩
  simp only [Instr.sliceBound, Sem.run_bind, asIntOf_run, Result.andThen_ok, h1, and_self, if_true, Sem.run_pure]
  rfl
theorem optNat_ok {x : Option Operand} {d : Nat} {r : Regs} {k : Nat → R} {v : AVal} {m : Mem} (h : optNat x d r k = .ok v m) :
    ∃ n, k n = .ok v m ∧ ((x = none ∧ n = d) ∨ ∃ o j, x = some o ∧ (opd o).get r = .int j (.ofNat n)) := by
  cases x with
  | none => exact ⟨d, h, .inl ⟨rfl, rfl⟩⟩
  | some o =>
    obtain ⟨j, n, h1, h2⟩ := onNat_ok h
    exact ⟨n, h2, .inr ⟨o, j, rfl, h1⟩⟩
theorem bounds_ok {lo hi mx : Option Operand} {r : Regs} {len cap : Nat} {k : Nat → Nat → Nat → R} {v : AVal} {mf : Mem} (h : aBounds lo hi mx r len cap k = .ok v mf) (hmh : mx.isSome = true → hi.isSome = true) :
    ∃ l h m, k l h m = .ok v mf ∧ l ≤ h ∧ h ≤ m ∧ m ≤ cap ∧ (mx = none → m = cap) ∧ ∀ φ (a : Act) (w : World) (isS : Bool) (cap' : Nat), (∀ x, x ∈ lo.toList ++ hi.toList ++ mx.toList → VRel φ ((opd x).get r) (a.eval x)) → cap ≤ cap' →
      (Instr.sliceBounds isS len cap' (lo.map a.eval) (hi.map a.eval) (mx.map a.eval)).run P w = .ok (l, h, if mx.isSome then m else cap') w := by
  obtain ⟨m, h1, hm⟩ := optNat_ok h
  obtain ⟨h2', h3⟩ := cond_t h1
  have h2 : m ≤ cap := by
    rcases hm with ⟨_, e2⟩ | ⟨o, j, e1, _⟩
    · omega
    · rw [e1] at h2'
      have h2'' : Nat.ble m cap = true := h2'
      exact ble_true.1 h2''
  obtain ⟨hh, h4, hhi⟩ := optNat_ok h3
  obtain ⟨h5, h6⟩ := cond_t h4
  obtain ⟨l, h7, hlo⟩ := optNat_ok h6
  obtain ⟨h8, h9⟩ := cond_t h7
  rw [ble_true] at h5 h8
  refine ⟨l, hh, m, h9, h8, h5, h2, fun e => ?_, fun φ a w isS cap' hrel hcap => ?_⟩
  · rcases hm with ⟨_, e2⟩ | ⟨o, j, e2, _⟩
    · exact e2
    · rw [e] at e2; cases e2
  · have run1 : ∀ (x : Operand) (j : IntKind) (n y : Nat) (code : BoundsCode), x ∈ lo.toList ++ hi.toList ++ mx.toList → (opd x).get r = .int j (.ofNat n) → n ≤ y → (Instr.sliceBound (a.eval x) y code).run P w = .ok n w := by
      intro x j n y code hx he hle
      have h10 := hrel x hx
      rw [he] at h10
      generalize a.eval x = c at h10
      cases h10
      exact sliceBound_run hle w
    rcases hm with ⟨rfl, rfl⟩ | ⟨om, jm, rfl, em⟩
    · rcases hhi with ⟨rfl, rfl⟩ | ⟨oh, jh, rfl, eh⟩
      · rcases hlo with ⟨rfl, rfl⟩ | ⟨ol, jl, rfl, el⟩
        · simp [Instr.sliceBounds]
        · simp [Instr.sliceBounds, run1 ol jl l _ _ (by simp) el h8]
      · have e1 := fun code => run1 oh jh hh cap' code (by simp) eh (by omega)
        rcases hlo with ⟨rfl, rfl⟩ | ⟨ol, jl, rfl, el⟩
        · simp [Instr.sliceBounds, e1]
        · simp [Instr.sliceBounds, e1, run1 ol jl l _ _ (by simp) el h8]
    · have e0 := fun code => run1 om jm m cap' code (by simp) em (by omega)
      rcases hhi with ⟨rfl, rfl⟩ | ⟨oh, jh, rfl, eh⟩
      · cases hmh rfl
      · have e1 := fun code => run1 oh jh hh m code (by simp) eh h5
        rcases hlo with ⟨rfl, rfl⟩ | ⟨ol, jl, rfl, el⟩
        · simp [Instr.sliceBounds, e0, e1]
        · simp [Instr.sliceBounds, e0, e1, run1 ol jl l _ _ (by simp) el h8]
end Go.AM

namespace Go.AM
variable [Tok]
variable {P : Program}

theorem slice_ok {o : Oper} {t : TypeId} {x : Operand} {lo hi mx : Option Operand} (h : o.op = .slice t x lo hi mx) : OpOk P o (cSlice P t x lo hi mx) := by
  unfold cSlice
  split
  · trivial
  · rename_i hmh'
    have hmh : mx.isSome = true → hi.isSome = true := by
      intro hm
      cases hi with
      | none => simp [hm] at hmh'
      | some _ => rfl
    split
    · rename_i hu
      split
      · trivial
      · rename_i hmx
        have hmx' : mx = none := by cases mx with
          | none => rfl
          | some _ => exact absurd rfl hmx
        subst hmx'
        intro r k v mf hk
        obtain ⟨s, hb, hk2⟩ := onStr_ok hk
        obtain ⟨l, hh, m, hk3, h1, h2, h3, h4, hall⟩ := bounds_ok (P := P) (mx := none) hk2 hmh
        rw [takeL_eq, dropL_eq] at hk3
        refine ⟨_, hk3, fun φ mm w a hr ho => ?_⟩
        have hx := ho x (by simp [h, Op.operands])
        rw [hb] at hx
        generalize hc : a.eval x = c at hx
        cases hx with
        | str _ t' hs =>
          have hsz : lenL s = t'.size := by rw [lenL_eq, ← hs, List.length_map, Array.length_toList]; rfl
          have hrun := hall φ a w false (lenL s) (fun y hy => ho y (by simp [h, Op.operands] at hy ⊢; rcases hy with hy | hy <;> simp [hy])) (Nat.le_refl _)
          refine ⟨.string (t'.extract l hh), .str _ _ ?_, ?_⟩
          · rw [ByteArray.data_extract, Array.toList_extract, List.extract_eq_take_drop, ← hs, List.map_take, List.map_drop]; rfl
          · simp only [execOp, h, hc]
            refine run_value ?_
            rw [hsz] at hrun
            simp only [Instr.sliceAt, Instr.slice, Sem.run_bind, run_under hu, Result.andThen_ok, Option.map_none, Option.isSome_none, Bool.false_eq_true, if_false, hrun, Sem.run_pure] at hrun ⊢
            rw [hrun]
            rfl
    · rename_i e hu
      split
      · rename_i ht
        intro r k v mf hk
        have hops : ∀ {φ : Phi} {a : Act}, OpsRel φ r a o → ∀ y, y ∈ lo.toList ++ hi.toList ++ mx.toList → VRel φ ((opd y).get r) (a.eval y) := by
          intro φ a ho y hy
          refine ho y ?_
          simp [h, Op.operands] at hy ⊢
          rcases hy with hy | hy | hy <;> simp [hy]
        rcases onSliceN_ok hk with ⟨hb, hk2⟩ | ⟨b, p, len, cap, ex, es, hb, hk2⟩
        · obtain ⟨l, hh, m, hk3, h1, h2, h3, h4, hall⟩ := bounds_ok (P := P) hk2 hmh
          refine ⟨_, hk3, fun φ mm w a hr ho => ?_⟩
          have hx := ho x (by simp [h, Op.operands])
          rw [hb] at hx
          generalize hc : a.eval x = c at hx
          cases hx
          have hrun := hall φ a w true 0 (hops ho) (Nat.le_refl _)
          have hm0 : m = 0 := by omega
          have hl0 : l = 0 := by omega
          have hh0 : hh = 0 := by omega
          subst hm0; subst hl0; subst hh0
          refine ⟨.slice none 0 0, .nilslice, ?_⟩
          simp only [execOp, h, hc]
          refine run_value ?_
          have e0 : (if mx.isSome = true then 0 else 0) = 0 := by split <;> rfl
          rw [e0] at hrun
          simp only [Instr.sliceAt, Instr.slice, Sem.run_bind, run_under hu, Result.andThen_ok, hrun, run_sizeOf' ht, Sem.run_pure, if_true]
        · obtain ⟨hes, hk3⟩ := cond_t hk2
          rw [beq_true] at hes
          obtain ⟨l, hh, m, hk4, h1, h2, h3, h4, hall⟩ := bounds_ok (P := P) hk3 hmh
          rw [forceN_eq, forceN_eq, forceN_eq] at hk4
          refine ⟨_, hk4, fun φ mm w a hr ho => ?_⟩
          have hx := ho x (by simp [h, Op.operands])
          rw [hb] at hx
          generalize hc : a.eval x = c at hx
          cases hx with
          | slice _ _ _ _ _ _ cb co sz o' cap' hφ g1 g2 g3 g4 g5 =>
            have hrun := hall φ a w true cap' (hops ho) g2
            generalize hm' : (if mx.isSome = true then m else cap') = m' at hrun
            have hmm : m ≤ m' ∧ m' ≤ cap' ∧ ((ex || mx.isSome) = true → m' = m) := by
              cases hmx : mx.isSome with
              | true => rw [hmx] at hm'; simp at hm'; subst hm'; exact ⟨Nat.le_refl _, by omega, fun _ => rfl⟩
              | false =>
                rw [hmx] at hm'
                simp at hm'
                have : mx = none := by cases mx with
                  | none => rfl
                  | some _ => cases hmx
                have h5 := h4 this
                subst hm'
                refine ⟨by omega, Nat.le_refl _, fun he => ?_⟩
                have : ex = true := by simpa using he
                rw [g3 this, h5]
            obtain ⟨q1, q2, q3⟩ := hmm
            refine ⟨.slice (if m' = l then some ⟨cb, o', none⟩ else (some (⟨cb, o', none⟩ : Addr)).map (·.add (l * szOf P e))) (hh - l) (m' - l), ?_, ?_⟩
            · have e1 : (if m' = l then some (⟨cb, o', none⟩ : Addr) else (some (⟨cb, o', none⟩ : Addr)).map (·.add (l * szOf P e))) = some ⟨cb, if m' = l then o' else o' + l * szOf P e, none⟩ := by
                split
                · rfl
                · simp [addr_add]
              rw [e1]
              refine .slice _ _ _ _ _ _ cb co sz _ _ hφ (by show Nat.sub hh l ≤ Nat.sub m l; exact Nat.sub_le_sub_right h2 l) (Nat.sub_le_sub_right q1 l) ?_ ?_ ?_
              · intro he
                show m' - l = m - l
                rw [q3 he]
              · intro hne
                have hne' : m - l ≠ 0 := hne
                have h5 : m ≠ l := by omega
                have h6 : m' ≠ l := by omega
                have h7 := g4 (by omega)
                have h8 : Nat.beq m l = false := by
                  cases hb2 : Nat.beq m l with
                  | false => rfl
                  | true => exact absurd (beq_true.1 hb2) h5
                rw [if_neg h6, h8, h7]
                show _ = co + (p + cond' 0 (l * szOf P e) (or ex mx.isSome && false))
                rw [Bool.and_false]
                show _ = co + (p + l * szOf P e)
                omega
              · rw [hes]
                have h9 : (m' - l) * szOf P e + l * szOf P e = m' * szOf P e ∨ m' < l := by
                  rcases Nat.lt_or_ge m' l with h10 | h10
                  · exact .inr h10
                  · left; rw [← Nat.add_mul]; congr 1; omega
                have h11 : m' * szOf P e ≤ cap' * szOf P e := Nat.mul_le_mul_right _ q2
                rw [hes] at g5
                split
                · rename_i h12; subst h12; simp; omega
                · omega
            · simp only [execOp, h, hc]
              refine run_value ?_
              simp only [Instr.sliceAt, Instr.slice, Sem.run_bind, run_under hu, Result.andThen_ok, hrun, run_sizeOf' ht, Sem.run_pure]
      · trivial
    · trivial
end Go.AM

namespace Go.AM
variable [Tok]
variable {P : Program}

theorem fold_spl (off : Nat) : ∀ (vs : List Value) (k : Nat) (c : Array Value), off + k + vs.length ≤ c.size →
    (vs.zipIdx k).foldl (fun cs (x : Value × Nat) => cs.setIfInBounds (off + x.2) x.1) c = spl c (off + k) vs
  | [], k, c, _ => by rw [spl_nil]; rfl
  | v :: vs, k, c, h => by
    simp only [List.length_cons] at h
    rw [List.zipIdx_cons, List.foldl_cons]
    have := fold_spl off vs (k + 1) (c.setIfInBounds (off + k) v) (by simp; omega)
    rw [this, ← Nat.add_assoc, spl_cons c (off + k) v vs (by omega)]
/-- parts as the model has them beside parts as the abstract machine has them -/
def PR (place : Nat → Option (Nat × Nat)) : List (Nat × Operand) → List (Nat × Nat × Operand) → Prop
  | [], [] => True
  | (i, x) :: p, (o, n, y) :: l => x = y ∧ place i = some (o, n) ∧ PR place p l
  | _, _ => False
theorem fills_ok {place : Nat → Option (Nat × Nat)} {r : Regs} : ∀ {ps : List (Nat × Operand)} {l : List (Nat × Nat × Operand)}, PR place ps l → ∀ {cs : List AVal} {k : List AVal → R} {v : AVal} {m : Mem},
    (fills l).run r cs k = .ok v m → ∃ cs', k cs' = .ok v m ∧ cs'.length = cs.length ∧
      ∀ φ (a : Act) (cc : Array Value), VsRel φ cs cc.toList → (∀ v, v ∈ cs → v.isCell = true) → (∀ x, x ∈ ps.map (·.2) → VRel φ ((opd x).get r) (a.eval x)) →
        ∃ cc', Instr.fill place cc (ps.map fun (i, x) => (i, a.eval x)) = some cc' ∧ VsRel φ cs' cc'.toList ∧ (∀ v, v ∈ cs' → v.isCell = true)
  | [], [], _, cs, k, v, m, h => ⟨cs, h, rfl, fun φ a cc h1 h2 _ => ⟨cc, rfl, h1, h2⟩⟩
  | (i, x) :: ps, (o, n, y) :: l, hp, cs, k, v, m, h => by
    obtain ⟨rfl, hpl, hp⟩ := hp
    obtain ⟨hc, h2⟩ := cond_t h
    rw [Bool.and_eq_true, Bool.and_eq_true, beq_true, ble_true, lenL_eq, lenL_eq] at hc
    obtain ⟨hf, hn, hle⟩ := hc
    have hle' : o + n ≤ cs.length := hle
    obtain ⟨cs', hk, hl, hall⟩ := fills_ok hp h2
    have hov := overL_eq (cells ((opd x).get r)) cs o (by omega)
    refine ⟨cs', hk, ?_, fun φ a cc h3 h4 h5 => ?_⟩
    · rw [hl, hov]; simp; omega
    · have hx := h5 x (by simp)
      have hcl := h3.length
      have hxc := hx.cells hf
      have hxl := hxc.length
      rw [Array.length_toList] at hcl hxl
      have h6 : VsRel φ (overL (cells ((opd x).get r)) o cs) (spl cc o (a.eval x).cells.toList).toList := by
        rw [hov]
        have := h3.over hxc o
        simpa [spl] using this
      have h7 : ∀ v, v ∈ overL (cells ((opd x).get r)) o cs → v.isCell = true := by
        rw [hov]
        intro v hm
        simp only [List.mem_append] at hm
        rcases hm with (hm | hm) | hm
        · exact h4 v (List.mem_of_mem_take hm)
        · exact cells_cell hx hf v hm
        · exact h4 v (List.mem_of_mem_drop hm)
      obtain ⟨cc', hfill, h8, h9⟩ := hall φ a _ h6 h7 (fun y hy => h5 y (by simp at hy ⊢; exact .inr hy))
      refine ⟨cc', ?_, h8, h9⟩
      simp only [List.map_cons, Instr.fill, hpl]
      have hsz : (a.eval x).cells.size = n := by omega
      rw [if_neg (by simp; omega)]
      have hfold := fold_spl o (a.eval x).cells.toList 0 cc (by simp; omega)
      rw [← Array.foldl_toList, Array.toList_zipIdx]
      rw [Nat.add_zero] at hfold
      rw [hfold]; exact hfill
  | [], _ :: _, hp, _, _, _, _, _ => hp.elim
  | _ :: _, [], hp, _, _, _, _, _ => hp.elim
end Go.AM

namespace Go.AM
variable [Tok]
variable {P : Program}

theorem places_all : ∀ (fs : List Field), (fs.all fun f => hasT P f.type) = true →
    fs.mapM (fun f => (P.info? f.type).map fun i => (f.offset, i.size)) = some (fs.map fun f => (f.offset, szOf P f.type))
  | [], _ => rfl
  | f :: fs, h => by
    rw [List.all_cons, Bool.and_eq_true] at h
    obtain ⟨i, hi⟩ := info_of_hasT h.1
    simp only [List.mapM_cons, hi, Option.map_some, Option.bind_eq_bind, Option.pure_def, places_all fs h.2, Option.bind_some, List.map_cons, szOf, Program.cellsOf, Option.getD_some]
theorem pr_struct {fs : Array Field} : ∀ {ps : List (Nat × Operand)} {l : List (Nat × Nat × Operand)}, ps.mapM (fun (i, x) => (fs[i]?).map fun (f : Field) => (f.offset, szOf P f.type, x)) = some l →
    PR (fun i => (fs.toList.map fun (f : Field) => (f.offset, szOf P f.type)).toArray[i]?) ps l
  | [], l, h => by simp at h; subst h; trivial
  | (i, x) :: ps, l, h => by
    simp only [List.mapM_cons, Option.bind_eq_bind, Option.pure_def] at h
    cases hi : fs[i]? with
    | none => simp [hi] at h
    | some f =>
      cases hr : ps.mapM (fun (i, x) => (fs[i]?).map fun (f : Field) => (f.offset, szOf P f.type, x)) with
      | none => simp [hi, hr] at h
      | some l' =>
        simp [hi, hr] at h
        subst h
        exact ⟨rfl, by simp [hi], pr_struct hr⟩
theorem pr_array {n : Nat} : ∀ (ps : List (Nat × Operand)), PR (fun i => some (i * n, n)) ps (ps.map fun (i, x) => (i * n, n, x))
  | [] => trivial
  | (i, x) :: ps => ⟨rfl, rfl, pr_array ps⟩
theorem build_ok {o : Oper} {t : TypeId} {parts : Array (Nat × Operand)} (h : o.op = .build t parts) : OpOk P o (cBuild P t parts.toList) := by
  have ops : ∀ {φ r a}, OpsRel φ r a o → ∀ x, x ∈ parts.toList.map (·.2) → VRel φ ((opd x).get r) (a.eval x) := by
    intro φ r a ho x hx
    exact ho x (by simp only [h, Op.operands]; exact (List.mem_toArray.2 hx))
  have mp : ∀ a : Act, (parts.map fun (i, x) => (i, a.eval x)).toList = parts.toList.map fun (i, x) => (i, a.eval x) := by intro a; simp
  unfold cBuild
  split
  · rename_i z fs hz hu
    obtain ⟨c, hc1, hc2, hc3⟩ := zeroA_ok hz
    split
    · rename_i hall
      split
      · rename_i l hl
        intro r k v mf hk
        obtain ⟨cs', hk2, hlen, hf⟩ := fills_ok (pr_struct (P := P) hl) hk
        refine ⟨_, hk2, fun φ m w a hr ho => ?_⟩
        obtain ⟨cc', h1, h2, h3⟩ := hf φ a c.cells (hc2 φ) hc3 (ops ho)
        refine ⟨.agg cc', .agg _ _ h2 h3, ?_⟩
        simp only [execOp, h]
        refine run_value (run_build w t _ cc' ?_)
        rw [mp]
        unfold Program.built
        cases hi : P.info? t with
        | none => rw [hi] at hc1; cases hc1
        | some it =>
          rw [hi] at hc1
          have hc1' : it.zero = some c := hc1
          have hall' : (fs.toList.all fun f => hasT P f.type) = true := by simpa using hall
          simp only [hu, hc1', places_all fs.toList hall']
          exact h1
      · trivial
    · trivial
  · rename_i z len e hz hu
    obtain ⟨c, hc1, hc2, hc3⟩ := zeroA_ok hz
    split
    · rename_i ht
      intro r k v mf hk
      obtain ⟨cs', hk2, hlen, hf⟩ := fills_ok (pr_array (n := szOf P e) parts.toList) hk
      refine ⟨_, hk2, fun φ m w a hr ho => ?_⟩
      obtain ⟨cc', h1, h2, h3⟩ := hf φ a c.cells (hc2 φ) hc3 (ops ho)
      refine ⟨.agg cc', .agg _ _ h2 h3, ?_⟩
      simp only [execOp, h]
      refine run_value (run_build w t _ cc' ?_)
      rw [mp]
      unfold Program.built
      cases hi : P.info? t with
      | none => rw [hi] at hc1; cases hc1
      | some it =>
        rw [hi] at hc1
        have hc1' : it.zero = some c := hc1
        obtain ⟨ie, hie⟩ := info_of_hasT ht
        have hsz : szOf P e = ie.size := by simp [szOf, Program.cellsOf, hie]
        simp only [hu, hc1', hie]
        rw [← hsz]
        exact h1
    · trivial
  · trivial
theorem repL_eq (n : Nat) (zs : List AVal) : repL n zs = (List.replicate n zs).flatten := by
  induction n with
  | zero => rfl
  | succ n ih =>
    rw [List.replicate_succ, List.flatten_cons, ← ih]
    exact appL_eq zs (repL n zs)
theorem range_rep (z : Array Value) (n : Nat) : ((Array.range (n * z.size)).map (z[· % z.size]!)).toList = (List.replicate n z.toList).flatten := by
  induction n with
  | zero => simp
  | succ n ih =>
    rw [List.replicate_succ', List.flatten_append, ← ih]
    simp only [Array.toList_map, Array.toList_range, List.flatten_cons, List.flatten_nil, List.append_nil]
    rw [Nat.succ_mul, List.range_add, List.map_append]
    congr 1
    rw [List.map_map]
    apply List.ext_getElem
    · simp
    · intro i h1 h2
      simp at h1 h2
      simp only [List.getElem_map, List.getElem_range, Function.comp]
      rw [Nat.mul_add_mod_self_right, Nat.mod_eq_of_lt h1]
      simp [h1]
theorem range_rep' (z : Array Value) (n s : Nat) (hs : z.size = s) : ((Array.range (n * s)).map ((if n * s = 0 then #[] else z)[· % (if n * s = 0 then (#[] : Array Value) else z).size]!)).toList = (List.replicate n z.toList).flatten := by
  subst hs
  split
  · rename_i h
    rw [h]
    rcases Nat.mul_eq_zero.1 h with h0 | h0
    · subst h0; simp
    · have : z.toList = [] := by rw [← List.length_eq_zero_iff]; simpa using h0
      rw [this]; simp
  · exact range_rep z n
end Go.AM
