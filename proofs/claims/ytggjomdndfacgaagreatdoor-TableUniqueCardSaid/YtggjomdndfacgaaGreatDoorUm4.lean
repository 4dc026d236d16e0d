/- The abstract machine is sound: code, functions, regions that draw their order. -/
import Derived.Test.YtggjomdndfacgaaGreatDoorUm3
import Derived.Scope
import Derived.LoopN
import Derived.Test.YtggjomdndfacgaaGreatDoorUm1
set_option linter.unusedSectionVars false
set_option linter.unusedVariables false
set_option linter.unusedSimpArgs false
namespace Go.AM
variable [Tok]
variable {P : Program}

/-- the registers -/
structure RRel (φ : Phi) (nt : Nat) (r : Regs) (a : Act) : Prop where
  size : a.tmps.size = nt
  le : nt ≤ 4096
  defers : a.defers = []
  reg : ∀ t, VRel φ ((opd (.tmp t)).get r) (a.tmps.getD t undef)
theorem RRel.mono {φ φ' : Phi} {nt : Nat} {r : Regs} {a : Act} (h : RRel φ nt r a) (he : Ext' φ φ') : RRel φ' nt r a := ⟨h.size, h.le, h.defers, fun t => (h.reg t).mono he⟩
theorem RRel.put {φ : Phi} {nt : Nat} {r : Regs} {a : Act} (h : RRel φ nt r a) {v : AVal} {c : Value} (hv : VRel φ v c) (d : Option Tmp) : RRel φ nt ((cDst nt d).run v r) (a.put d c) := by
  cases d with
  | none => exact h
  | some d =>
    have hr : (cDst nt (some d)).run v r = if d < nt then rput d v r else r := by
      show (if d < nt then (⟨fun v r => rput d v r⟩ : DstC) else ⟨fun _ r => r⟩).run v r = _
      split <;> rfl
    rw [hr]
    refine ⟨by simp [Act.put, h.size], h.le, h.defers, fun t => ?_⟩
    have hreg := h.reg t
    have hle := h.le
    have hsz := h.size
    by_cases hd : d < nt
    · have hd' : @LT.lt Nat _ d nt := hd
      rw [if_pos hd, opd_tmp]
      rw [opd_tmp] at hreg
      have hget : (a.put (some d) c).tmps.getD t undef = if t = d then c else a.tmps.getD t undef := by
        simp only [Act.put, Array.getD_eq_getD_getElem?, Array.getElem?_setIfInBounds]
        by_cases e : d = t
        · subst e; simp [hsz, hd]
        · simp [e, Ne.symm e]
      rw [hget]
      by_cases ht : t < 4096
      · rw [if_pos ht, rget_rput _ _ _ _ (by omega) ht]
        by_cases e : t = d
        · rw [if_pos e, if_pos e]; exact hv
        · rw [if_neg e, if_neg e]; rw [if_pos ht] at hreg; exact hreg
      · have htd : ¬ (t = d) := fun e => ht (by rw [e]; exact Nat.lt_of_lt_of_le hd' hle)
        rw [if_neg ht, if_neg htd]; rw [if_neg ht] at hreg; exact hreg
    · have hd' : ¬ @LT.lt Nat _ d nt := hd
      rw [if_neg hd]
      have hget : (a.put (some d) c).tmps = a.tmps := by
        simp only [Act.put]
        apply Array.ext_getElem?
        intro i
        rw [Array.getElem?_setIfInBounds]
        split
        · rename_i e; subst e
          rw [if_neg (by omega), Array.getElem?_eq_none (by omega)]
        · rfl
      rw [hget]; exact hreg
/-- the globals that an operation names are there -/
def gOpd (n : Nat) : Operand → Bool
  | .global g => Nat.blt g n
  | _ => true
def gOper (n : Nat) (o : Oper) : Bool := o.op.operands.toList.all (gOpd n)
def gCode (n : Nat) : Code → Bool
  | .region _ ops _ => ops.toList.all (gOper n)
  | .seq x y => gCode n x && gCode n y
  | .cond _ x y => gCode n x && gCode n y
  | .block _ b => gCode n b
  | .loop b => gCode n b
  | .scope b => gCode n b
  | _ => true
def gFunc (n : Nat) (fn : Func) : Bool := match fn.body with | some c => gCode n c | none => true
def gProg (P : Program) : Bool := P.funcs.toList.all (gFunc P.globals.size)
theorem opd_rel {φ : Phi} {m : Mem} {w : World} {nt : Nat} {r : Regs} {a : Act} (hr : Rel P φ m w) (h : RRel φ nt r a) {x : Operand} (hg : gOpd P.globals.size x = true) : VRel φ ((opd x).get r) (a.eval x) := by
  cases x with
  | tmp t => exact h.reg t
  | const v => exact cval_rel φ v
  | global g =>
    have hlt : g < P.globals.size := by
      simpa [gOpd, Nat.blt_eq] using hg
    obtain ⟨sz, hs⟩ := hr.glob g hlt
    exact .ptr g 0 g 0 sz hs
  | func f => exact .func f [] #[] .nil (fun v hv => by cases hv)
theorem ops_rel {φ : Phi} {m : Mem} {w : World} {nt : Nat} {r : Regs} {a : Act} (hr : Rel P φ m w) (h : RRel φ nt r a) {o : Oper} (hg : gOper P.globals.size o = true) : OpsRel φ r a o :=
  fun x hx => opd_rel hr h (List.all_eq_true.1 hg x (Array.mem_toList_iff.2 hx))

section
variable {K : KH} (hK : KSound P K) {nt : Nat}
include hK
theorem stepOf_ok {o : Oper} {oc : OpC} (ho : OpOk P o oc) (hg : gOper P.globals.size o = true) {r : Regs} {m : Mem} {k : Ct} {v : AVal} {mf : Mem} (h : (stepOf (cDst nt o.dst) oc).run K r m k = .ok v mf)
    {φ : Phi} {w : World} {a : Act} (hr : Rel P φ m w) (ha : RRel φ nt r a) {next : Act → World → Prop} {Q : Exit → Act → World → Prop}
    (hn : ∀ φ' r' m' a' w', Step P φ m w φ' m' w' → RRel φ' nt r' a' → k r' m' = .ok v mf → next a' w') : o.wp P a w next Q := by
  have hops := ops_rel hr ha hg
  cases oc with
  | pure f =>
    obtain ⟨u, h1, h2⟩ := ho r _ v mf h
    obtain ⟨c, hc, hrun⟩ := h2 φ m w a hr hops
    exact wp_val hrun (hn φ _ _ _ w (Step.refl hr) (ha.put hc o.dst) h1)
  | read x f =>
    obtain ⟨ad, hop, rfl, hf⟩ := ho
    obtain ⟨u, h1, h2⟩ := hf _ m _ v mf h
    obtain ⟨c, hc, hrun⟩ := h2 φ w a hr (hops ad (by rw [hop]; simp))
    exact wp_val hrun (hn φ _ _ _ w (Step.refl hr) (ha.put hc o.dst) h1)
  | alloc f =>
    obtain ⟨hlt, h1⟩ := cond_t h
    rw [forceN_eq] at h1
    rw [ble_true] at hlt
    obtain ⟨u, b, h2, hb, h3⟩ := ho r _ _ v mf h1
    obtain ⟨c, ob, s, hrun, hrel⟩ := h3 φ m w a hr hops
    have ext : Ext' φ (fun q => if q = m.next then some (w.heap.size, 0, s) else φ q) := by
      intro q y hq
      have := hr.dom q y hq
      show (if q = m.next then _ else _) = _
      rw [if_neg (by omega)]; exact hq
    obtain ⟨hv, hB⟩ := hrel _ ext (by simp)
    have hst := Step.new (w' := w.alloc ob) hr hlt rfl rfl rfl rfl hB
    exact wp_val hrun (hn _ _ _ _ _ hst ((ha.mono ext).put hv o.dst) h2)
  | heavy f =>
    obtain ⟨u, m', h1, h2⟩ := ho K hK r m _ v mf h
    exact h2 φ w a hr hops next Q fun φ' c w' hst hv => hn φ' _ m' _ w' hst ((ha.mono hst.ext).put hv o.dst) h1
  | bad c => cases h
omit hK in
theorem guard_ok {ops : Array Oper} {o : Oper} {r : Regs} {k : Bool → R} {v : AVal} {mf : Mem} (h : (cGuard ops o.guard).run r k = .ok v mf) {φ : Phi} {a : Act} (ha : RRel φ nt r a) :
    k (Region.wanted o (yielded ops a.tmps)) = .ok v mf := by
  unfold Region.wanted
  cases hg : o.guard with
  | none => rw [hg] at h; exact h
  | some p =>
    obtain ⟨j, want⟩ := p
    rw [hg] at h
    unfold cGuard at h
    simp only at h ⊢
    unfold yielded
    cases hd : (ops[j]?).bind (·.dst) with
    | none =>
      rw [hd] at h
      simpa using h
    | some d =>
      rw [hd] at h
      simp only [Option.bind_some] at h ⊢
      have hreg := ha.reg d
      have hgd : a.tmps.getD d undef = (a.tmps[d]?).getD undef := by rw [Array.getD_eq_getD_getElem?]
      rw [hgd] at hreg
      cases want with
      | true =>
        change ((opd (.tmp d)).get r).onYes k = _ at h
        generalize (opd (.tmp d)).get r = x at h hreg
        cases hx : a.tmps[d]? with
        | none =>
          rw [hx] at hreg
          have hu : (Option.getD none undef : Value) = .tuple #[] := rfl
          rw [hu] at hreg
          simp only
          generalize hz : (Value.tuple #[] : Value) = z at hreg
          cases hreg <;> first | (cases hz; done) | (cases h; done) | exact h
        | some y =>
          rw [hx] at hreg
          simp only [Option.getD_some] at hreg
          cases hreg <;> first | (cases h; done) | exact h | skip
          all_goals (rename_i b; cases b <;> exact h)
      | false =>
        change ((opd (.tmp d)).get r).onNo k = _ at h
        generalize (opd (.tmp d)).get r = x at h hreg
        cases hx : a.tmps[d]? with
        | none =>
          rw [hx] at hreg
          have hu : (Option.getD none undef : Value) = .tuple #[] := rfl
          rw [hu] at hreg
          simp only
          generalize hz : (Value.tuple #[] : Value) = z at hreg
          cases hreg <;> first | (cases hz; done) | (cases h; done) | exact h
        | some y =>
          rw [hx] at hreg
          simp only [Option.getD_some] at hreg
          cases hreg <;> first | (cases h; done) | exact h | skip
          all_goals (rename_i b; cases b <;> exact h)
theorem cStep_ok {ops : Array Oper} {o : Oper} (hg : gOper P.globals.size o = true) {r : Regs} {m : Mem} {k : Ct} {v : AVal} {mf : Mem} (h : (cStep P nt ops o).run K r m k = .ok v mf)
    {φ : Phi} {w : World} {a : Act} (hr : Rel P φ m w) (ha : RRel φ nt r a) {next : Act → World → Prop} {Q : Exit → Act → World → Prop}
    (hn : ∀ φ' r' m' a' w', Step P φ m w φ' m' w' → RRel φ' nt r' a' → k r' m' = .ok v mf → next a' w') :
    if Region.wanted o (yielded ops a.tmps) then o.wp P a w next Q ∨ (o.asks P a w ∧ LetsOut Q) else next (a.put o.dst undef) w := by
  cases hgd : o.guard with
  | none =>
    have hw : Region.wanted o (yielded ops a.tmps) = true := by unfold Region.wanted; rw [hgd]
    rw [if_pos hw]
    unfold cStep at h
    rw [hgd] at h
    exact .inl (stepOf_ok hK (cOper_ok o) hg h hr ha hn)
  | some p =>
    unfold cStep at h
    rw [hgd] at h
    simp only at h
    rw [← hgd] at h
    have h2 := guard_ok h ha
    cases hw : Region.wanted o (yielded ops a.tmps) with
    | true =>
      rw [hw] at h2
      rw [if_pos rfl]
      exact .inl (stepOf_ok hK (cOper_ok o) hg h2 hr ha hn)
    | false =>
      rw [hw] at h2
      rw [if_neg (by simp)]
      exact hn φ _ m _ w (Step.refl hr) (ha.put (undef_rel φ) o.dst) h2
theorem cOps_ok {ops : Array Oper} {Q : Exit → Act → World → Prop} {v : AVal} {mf : Mem} {k : Ct} : ∀ (l : List Oper) (i : Nat), ops.toList.drop i = l → l.all (gOper P.globals.size) = true → ∀ {r : Regs} {m : Mem},
    (cOps P nt ops l).run K r m k = .ok v mf → ∀ {φ : Phi} {w : World} {a : Act}, Rel P φ m w → RRel φ nt r a →
    (∀ φ' r' m' a' w', Step P φ m w φ' m' w' → RRel φ' nt r' a' → k r' m' = .ok v mf → Q .normal a' w') → wpOps P ops Q (List.range' i l.length) a w
  | [], i, _, _, r, m, h, φ, w, a, hr, ha, hn => hn φ r m a w (Step.refl hr) ha h
  | o :: l, i, hd, hg, r, m, h, φ, w, a, hr, ha, hn => by
    rw [List.all_cons, Bool.and_eq_true] at hg
    have hoi : ops[i]? = some o := by
      rw [← Array.getElem?_toList]
      have := congrArg (fun l => l[0]?) hd
      simpa using this
    have hd2 : ops.toList.drop (i + 1) = l := by
      rw [← List.drop_drop, hd]; rfl
    rw [List.length_cons, List.range'_succ]
    unfold wpOps
    rw [hoi]
    simp only
    refine cStep_ok hK hg.1 h hr ha fun φ' r' m' a' w' hst ha' h2 => ?_
    exact cOps_ok l (i + 1) hd2 hg.2 h2 hst.rel ha' fun φ'' r'' m'' a'' w'' hst' ha'' h3 => hn φ'' r'' m'' a'' w'' (hst.trans hst') ha'' h3
end
end Go.AM

namespace Go.AM
variable [Tok]
variable {P : Program}

/-- a region whose order is drawn does what the abstract machine does -/
def DrawOk (P : Program) (K : KH) : Prop := ∀ (nt : Nat) (ops : Array Oper), ops.toList.all (gOper P.globals.size) = true → ∀ {r : Regs} {m : Mem} {k : Ct} {v : AVal} {mf : Mem}, (cDraw P nt ops).run K r m k = .ok v mf →
  ∀ (id : Nat) {φ : Phi} {w : World} {a : Act} {Q : Exit → Act → World → Prop}, Rel P φ m w → RRel φ nt r a →
    (∀ φ' r' m' a' w', Step P φ m w φ' m' w' → RRel φ' nt r' a' → k r' m' = .ok v mf → Q .normal a' w') → (Code.region id ops true).wp P Q a w

section
variable {K : KH} (hK : KSound P K) (hD : DrawOk P K) {nt : Nat}
include hK hD
theorem cCode_ok {v : AVal} {mf : Mem} : ∀ (c : Code), gCode P.globals.size c = true → ∀ {e : Nat → Ct} {rt k : Ct} {r : Regs} {m : Mem}, (cCode P nt c).run K e rt k r m = .ok v mf →
    ∀ {φ : Phi} {w : World} {a : Act} {Q : Exit → Act → World → Prop}, Rel P φ m w → RRel φ nt r a →
    (∀ φ' r' m' a' w', Step P φ m w φ' m' w' → RRel φ' nt r' a' → k r' m' = .ok v mf → Q .normal a' w') →
    (∀ i φ' r' m' a' w', Step P φ m w φ' m' w' → RRel φ' nt r' a' → e i r' m' = .ok v mf → Q (.exit i) a' w') →
    (∀ φ' r' m' a' w', Step P φ m w φ' m' w' → RRel φ' nt r' a' → rt r' m' = .ok v mf → Q .ret a' w') → c.wp P Q a w
  | .skip, _, e, rt, k, r, m, h, φ, w, a, Q, hr, ha, hn, _, _ => Go.wp_skip (hn φ r m a w (Step.refl hr) ha h)
  | .region id ops false, hg, e, rt, k, r, m, h, φ, w, a, Q, hr, ha, hn, _, _ => by
    refine wp_region ?_
    rw [List.range_eq_range', ← Array.length_toList]
    exact cOps_ok hK ops.toList 0 rfl hg h hr ha hn
  | .region id ops true, hg, e, rt, k, r, m, h, φ, w, a, Q, hr, ha, hn, _, _ => hD nt ops hg h id hr ha hn
  | .seq x y, hg, e, rt, k, r, m, h, φ, w, a, Q, hr, ha, hn, he, hrt => by
    have hg' := hg
    simp only [gCode, Bool.and_eq_true] at hg'
    refine wp_seq (cCode_ok x hg'.1 h hr ha ?_ he hrt)
    intro φ' r' m' a' w' hst ha' h2
    exact cCode_ok y hg'.2 h2 hst.rel ha' (fun φ'' r'' m'' a'' w'' hst' ha'' h3 => hn φ'' r'' m'' a'' w'' (hst.trans hst') ha'' h3)
      (fun i φ'' r'' m'' a'' w'' hst' ha'' h3 => he i φ'' r'' m'' a'' w'' (hst.trans hst') ha'' h3)
      (fun φ'' r'' m'' a'' w'' hst' ha'' h3 => hrt φ'' r'' m'' a'' w'' (hst.trans hst') ha'' h3)
  | .cond c x y, hg, e, rt, k, r, m, h, φ, w, a, Q, hr, ha, hn, he, hrt => by
    have hg' := hg
    simp only [gCode, Bool.and_eq_true] at hg'
    obtain ⟨b, hb, h2⟩ := onBool_ok h
    have hc : a.eval c = .bool b := by
      cases c with
      | global g => cases hb
      | func f => cases hb
      | tmp t =>
        have := opd_rel (x := .tmp t) hr ha rfl
        rw [hb] at this
        generalize a.eval (.tmp t) = z at this ⊢
        cases this; rfl
      | const v => have := opd_rel (x := .const v) hr ha rfl; rw [hb] at this; cases this; rfl
    refine wp_cond hc ?_
    cases b with
    | true => exact cCode_ok x hg'.1 h2 hr ha hn he hrt
    | false => exact cCode_ok y hg'.2 h2 hr ha hn he hrt
  | .block id b, hg, e, rt, k, r, m, h, φ, w, a, Q, hr, ha, hn, he, hrt => by
    refine wp_block (cCode_ok b hg h hr ha hn ?_ hrt)
    intro i φ' r' m' a' w' hst ha' h2
    show if i = id then Q .normal a' w' else Q (.exit i) a' w'
    rcases cond_ok h2 with ⟨hi, h3⟩ | ⟨hi, h3⟩
    · rw [beq_true] at hi
      rw [if_pos hi]
      exact hn φ' r' m' a' w' hst ha' h3
    · rw [if_neg (fun e => by rw [beq_true.2 e] at hi; cases hi)]
      exact he i φ' r' m' a' w' hst ha' h3
  | .loop b, hg, e, rt, k, r, m, h, φ, w, a, Q, hr, ha, hn, he, hrt => by
    refine wp_loop_rounds loopFuel ?_
    have key : ∀ n {r : Regs} {m : Mem}, iterN (α := Ct) (fun _ _ => .fail 84) (fun ih r m => (cCode P nt b).run K e rt ih r m) n r m = .ok v mf → ∀ {φ : Phi} {w : World} {a : Act}, Rel P φ m w → RRel φ nt r a →
        (∀ i φ' r' m' a' w', Step P φ m w φ' m' w' → RRel φ' nt r' a' → e i r' m' = .ok v mf → Q (.exit i) a' w') →
        (∀ φ' r' m' a' w', Step P φ m w φ' m' w' → RRel φ' nt r' a' → rt r' m' = .ok v mf → Q .ret a' w') → Code.rounds P b Q n a w := by
      intro n
      induction n with
      | zero => intro r m h; cases h
      | succ n ih =>
        intro r m h φ w a hr ha he hrt
        rw [rounds_succ]
        refine cCode_ok b hg (k := fun r m => iterN (α := Ct) (fun _ _ => .fail 84) (fun ih r m => (cCode P nt b).run K e rt ih r m) n r m) h hr ha ?_ he hrt
        intro φ' r' m' a' w' hst ha' h2
        exact ih h2 hst.rel ha' (fun i φ'' r'' m'' a'' w'' hst' ha'' h3 => he i φ'' r'' m'' a'' w'' (hst.trans hst') ha'' h3)
          (fun φ'' r'' m'' a'' w'' hst' ha'' h3 => hrt φ'' r'' m'' a'' w'' (hst.trans hst') ha'' h3)
    exact key loopFuel h hr ha he hrt
  | .exit id, _, e, rt, k, r, m, h, φ, w, a, Q, hr, ha, _, he, _ => Go.wp_exit (he id φ r m a w (Step.refl hr) ha h)
  | .ret, _, e, rt, k, r, m, h, φ, w, a, Q, hr, ha, _, _, hrt => Go.wp_ret (hrt φ r m a w (Step.refl hr) ha h)
  | .scope b, hg, e, rt, k, r, m, h, φ, w, a, Q, hr, ha, hn, he, hrt => wp_scope_straight (cCode_ok b hg h hr ha hn he hrt)
  | .label l, _, e, rt, k, r, m, h, φ, w, a, Q, hr, ha, hn, _, _ => Go.wp_label (hn φ r m a w (Step.refl hr) ha h)
  | .rangeFunc _ _ _ _, _, e, rt, k, r, m, h, φ, w, a, Q, hr, ha, hn, _, _ => by cases h
  | .goto _, _, e, rt, k, r, m, h, φ, w, a, Q, hr, ha, hn, _, _ => by cases h
  | .refuse _, _, e, rt, k, r, m, h, φ, w, a, Q, hr, ha, hn, _, _ => by cases h

/- ### functions -/
def resOne (tmps : Array Value) : ResultVar → Sem Value
  | .tmp t => pure (tmps.getD t undef)
  | .cell b t => do loadVar t (← asAddr (tmps.getD b undef))
omit hK hD in
theorem results_eq (fn : Func) (tmps : Array Value) : results fn tmps = (do let vs ← fn.results.mapM (resOne tmps); pure (if h : vs.size = 1 then vs[0] else .tuple vs)) := by
  unfold results
  congr 1
omit hK hD in
theorem cResults_ok {r : Regs} {m : Mem} : ∀ {l : List ResultVar} {k : List AVal → R} {v : AVal} {mf : Mem}, (cResults P l).run r m k = .ok v mf → ∃ vs, k vs = .ok v mf ∧
    ∀ {φ : Phi} {w : World} {a : Act}, Rel P φ m w → RRel φ nt r a → ∃ cs : List Value, VsRel φ vs cs ∧
      (l.mapM (resOne a.tmps)).run P w = .ok cs w
  | [], k, v, mf, h => ⟨[], h, fun hr ha => ⟨[], .nil, rfl⟩⟩
  | .tmp t :: l, k, v, mf, h => by
    obtain ⟨vs, h1, h2⟩ := cResults_ok (l := l) (k := fun vs => k ((opd (.tmp t)).get r :: vs)) h
    refine ⟨_, h1, fun {φ w a} hr ha => ?_⟩
    obtain ⟨cs, h3, h4⟩ := h2 hr ha
    exact ⟨_, .cons (ha.reg t) h3, by simp only [List.mapM_cons, resOne, Sem.run_bind, Sem.run_pure, Result.andThen_ok, h4]⟩
  | .cell b t :: l, k, v, mf, h => by
    by_cases ht : hasT P t = true
    · have hc : (cResults P (.cell b t :: l)).run r m k = aLoad (aggB P t) (szOf P t) ((opd (.tmp b)).get r) m fun v => (cResults P l).run r m fun vs => k (v :: vs) := by
        show (if hasT P t = true then (⟨_⟩ : ResC) else ⟨_⟩).run r m k = _
        rw [if_pos ht]
      rw [hc] at h
      obtain ⟨u, h1, hdet⟩ := aLoad_det h
      obtain ⟨vs, h2, h3⟩ := cResults_ok h1
      refine ⟨_, h2, fun {φ w a} hr ha => ?_⟩
      obtain ⟨cs, h4, h5⟩ := h3 hr ha
      have h6 : aLoad (aggB P t) (szOf P t) ((opd (.tmp b)).get r) m (fun u => .ok u m) = .ok u m := hdet _
      obtain ⟨u', x, hu', hx, hrun⟩ := run_loadAt hr ht (ha.reg b) h6
      cases hu'
      refine ⟨x :: cs, .cons hx h4, ?_⟩
      have hreg := ha.reg b
      obtain ⟨b', o', hp, _⟩ := onPtr_ok h6
      rw [hp] at hreg
      simp only [List.mapM_cons, resOne, Sem.run_bind]
      generalize a.tmps.getD b undef = cc at hreg hrun
      cases hreg
      simp only [Instr.loadAt, Instr.sureAddr, Sem.run_bind, Sem.run_pure, Result.andThen_ok] at hrun
      simp [asAddr, hrun, h5]
    · have hc : (cResults P (.cell b t :: l)).run r m k = .fail 86 := by
        show (if hasT P t = true then (⟨_⟩ : ResC) else ⟨_⟩).run r m k = _
        rw [if_neg ht]
      rw [hc] at h
      cases h
omit hK hD in
theorem init_reg {φ : Phi} : ∀ (args : List AVal) (cs : List Value) (i : Nat) (r : Regs), VsRel φ args cs → i + args.length ≤ 4096 → ∀ t, t < 4096 →
    (i ≤ t → t < i + args.length → ∃ c, cs[t - i]? = some c ∧ VRel φ (rgetV (initRegs i args r) t) c) ∧ (t < i ∨ i + args.length ≤ t → rgetV (initRegs i args r) t = rgetV r t)
  | [], cs, i, r, h, hl, t, ht => ⟨fun h1 h2 => by simp at h2; omega, fun _ => rfl⟩
  | v :: l, cs, i, r, h, hl, t, ht => by
    cases h with
    | cons h hs =>
      rename_i c cs
      simp only [List.length_cons] at hl ⊢
      obtain ⟨h1, h2⟩ := init_reg l cs (i + 1) (rput i v r) hs (by omega) t ht
      unfold initRegs
      constructor
      · intro h3 h4
        by_cases e : t = i
        · subst e
          refine ⟨c, by simp, ?_⟩
          rw [h2 (.inl (by omega)), rget_rput _ _ _ _ (by omega) ht, if_pos rfl]
          exact h
        · obtain ⟨c', h5, h6⟩ := h1 (by omega) (by omega)
          refine ⟨c', ?_, h6⟩
          have : t - i = (t - (i + 1)) + 1 := by omega
          rw [this]; simpa using h5
      · intro h3
        rw [h2 (by omega), rget_rput _ _ _ _ (by omega) ht, if_neg (by omega)]
theorem cFunc_ok (hG : gProg P = true) {f : FuncId} {args : List AVal} {m : Mem} {v : AVal} {mf : Mem} (h : (cFunc P f).run K args m = .ok v mf) {φ : Phi} {w : World} {cargs : Array Value} (hr : Rel P φ m w)
    (hv : VsRel φ args cargs.toList) : Ends P f cargs w fun c w' => ∃ φ', Step P φ m w φ' mf w' ∧ VRel φ' v c := by
  unfold cFunc at h
  split at h
  · rename_i fn hf
    split at h
    · rename_i c hb
      split at h
      · rename_i hcond
        simp only [Bool.and_eq_true, decide_eq_true_eq, Bool.not_eq_true'] at hcond
        obtain ⟨hnt, hname⟩ := hcond
        obtain ⟨hlen, h2⟩ := cond_t h
        rw [ble_true, lenL_eq] at hlen
        have hcl := hv.length
        rw [Array.length_toList] at hcl
        have hgc : gCode P.globals.size c = true := by
          have h3 := List.all_eq_true.1 hG fn (by
            rw [Array.mem_toList_iff]
            exact Array.mem_of_getElem? hf)
          unfold gFunc at h3
          rw [hb] at h3; exact h3
        right
        have hname' : fn.name ≠ "runtime.NumGoroutine" := by simpa using hname
        refine ⟨by simp [callFunc, hf, hname', hb], ?_⟩
        refine calls_of_wp hf hb ?_
        have ha : RRel φ fn.ntmps (initRegs 0 args Regs.empty) { tmps := cargs ++ Array.replicate (fn.ntmps - cargs.size) undef, defers := [] } := by
          refine ⟨by simp; omega, hnt, rfl, fun (t : Nat) => ?_⟩
          rw [opd_tmp]
          simp only [Array.getD_eq_getD_getElem?]
          by_cases ht : t < 4096
          · rw [if_pos ht]
            obtain ⟨g1, g2⟩ := init_reg args cargs.toList 0 Regs.empty hv (by omega) t ht
            by_cases hta : t < args.length
            · obtain ⟨c', h5, h6⟩ := g1 (Nat.zero_le _) (by omega)
              have : (cargs ++ Array.replicate (fn.ntmps - cargs.size) undef)[t]? = some c' := by
                rw [Array.getElem?_append_left (by omega), ← Array.getElem?_toList]; simpa using h5
              rw [this]; exact h6
            · rw [g2 (.inr (by omega)), rget_empty]
              have : ((cargs ++ Array.replicate (fn.ntmps - cargs.size) undef)[t]?).getD undef = undef := by
                rw [Array.getElem?_append_right (by omega), Array.getElem?_replicate]
                split <;> rfl
              rw [this]; exact undef_rel φ
          · rw [if_neg ht]
            have : ((cargs ++ Array.replicate (fn.ntmps - cargs.size) undef)[t]?).getD undef = undef := by
              rw [Array.getElem?_eq_none (by simp; omega)]; rfl
            rw [this]; exact undef_rel φ
        have fin : ∀ φ' r' m' a' w', Step P φ m w φ' m' w' → RRel φ' fn.ntmps r' a' → ((cResults P fn.results.toList).run r' m' fun vs => .ok (oneOf vs) m') = .ok v mf →
            a'.defers = [] ∧ ∃ v1, (results fn a'.tmps).run P w' = .ok v1 w' ∧ ∃ c, Ending.returned v1 = .returned c ∧ ∃ φ', Step P φ m w φ' mf w' ∧ VRel φ' v c := by
          intro φ' r' m' a' w' hst ha' h3
          obtain ⟨vs, h4, h5⟩ := cResults_ok (P := P) (nt := fn.ntmps) h3
          obtain ⟨cs, h6, h7⟩ := h5 hst.rel ha'
          cases h4
          refine ⟨ha'.defers, if h : cs.toArray.size = 1 then cs.toArray[0] else .tuple cs.toArray, ?_, _, rfl, φ', hst, ?_⟩
          · rw [results_eq]
            simp [Array.mapM_eq_mapM_toList, h7]
          · cases h6 with
            | nil => exact .tuple [] #[] .nil
            | cons h6 h8 =>
              cases h8 with
              | nil => simpa [oneOf] using h6
              | cons h8 h9 =>
                simp only [List.size_toArray, List.length_cons]
                rw [dif_neg (by omega)]
                exact .tuple _ _ (.cons h6 (.cons h8 h9))
        refine cCode_ok hK hD c hgc h2 hr ha ?_ ?_ ?_
        · intro φ' r' m' a' w' hst ha' h3; exact fin φ' r' m' a' w' hst ha' h3
        · intro i φ' r' m' a' w' hst ha' h3; cases h3
        · intro φ' r' m' a' w' hst ha' h3; exact fin φ' r' m' a' w' hst ha' h3
      · cases h
    · cases h
  · cases h
end
end Go.AM

namespace Go.AM
variable {P : Program}

def Agree (o : Oper) (r r' : Regs) : Prop := ∀ x, x ∈ o.op.operands → (opd x).get r = (opd x).get r'
/-- what an operation does hangs on its operands alone -/
def LooksOk (o : Oper) : OpC → Prop
  | .pure f => ∀ r r', Agree o r r' → f r = f r'
  | .alloc f => ∀ r r', Agree o r r' → f r = f r'
  | .heavy f => ∀ K r r', Agree o r r' → f K r = f K r'
  | .read x _ => ∀ r r', Agree o r r' → x.get r = x.get r'
  | .bad _ => True
theorem opds_looks {r r' : Regs} : ∀ {l : List Operand}, (∀ x, x ∈ l → (opd x).get r = (opd x).get r') → (opds l).get r = (opds l).get r'
  | [], _ => rfl
  | x :: l, h => by
    show (opd x).get r :: (opds l).get r = (opd x).get r' :: (opds l).get r'
    rw [h x (List.mem_cons_self ..), opds_looks fun y hy => h y (List.mem_cons_of_mem _ hy)]
theorem fills_looks {r r' : Regs} : ∀ {l : List (Nat × Nat × Operand)}, (∀ x, x ∈ l.map (fun e => e.2.2) → (opd x).get r = (opd x).get r') → (fills l).run r = (fills l).run r'
  | [], _ => rfl
  | (o, n, x) :: l, h => by
    funext cs k
    unfold fills
    simp only
    rw [h x (by simp), fills_looks (l := l) fun y hy => h y (by simp at hy ⊢; exact .inr hy)]
theorem minMax_looks (mx : Bool) {r r' : Regs} : ∀ {l : List Operand}, (∀ x, x ∈ l → (opd x).get r = (opd x).get r') → (minMax mx l).run r = (minMax mx l).run r'
  | [], _ => rfl
  | x :: l, h => by
    funext j a k
    unfold minMax
    simp only
    rw [h x (by simp), minMax_looks mx (l := l) fun y hy => h y (by simp [hy])]
theorem optNat_looks {r r' : Regs} {x : Option Operand} (h : ∀ y, x = some y → (opd y).get r = (opd y).get r') (d : Nat) (k : Nat → R) : optNat x d r k = optNat x d r' k := by
  cases x with
  | none => rfl
  | some y => show ((opd y).get r).onNat k = ((opd y).get r').onNat k; rw [h y rfl]
theorem bounds_looks {r r' : Regs} {lo hi mx : Option Operand} (h1 : ∀ y, lo = some y → (opd y).get r = (opd y).get r') (h2 : ∀ y, hi = some y → (opd y).get r = (opd y).get r')
    (h3 : ∀ y, mx = some y → (opd y).get r = (opd y).get r') (l c : Nat) (k : Nat → Nat → Nat → R) : aBounds lo hi mx r l c k = aBounds lo hi mx r' l c k := by
  unfold aBounds
  rw [optNat_looks h3]
  congr 1; funext m
  rw [optNat_looks h2]
  congr 2; funext h
  rw [optNat_looks h1]

theorem mapM_ops {fs : Array Field} {P : Program} : ∀ {ps : List (Nat × Operand)} {l : List (Nat × Nat × Operand)}, (ps.mapM fun (i, x) => (fs[i]?).map fun (f : Field) => (f.offset, szOf P f.type, x)) = some l →
    ∀ x, x ∈ l.map (fun e => e.2.2) → x ∈ ps.map (·.2)
  | [], l, h, x, hx => by
    have : l = [] := by simpa using h.symm
    subst this; simp at hx
  | p :: ps, l, h, x, hx => by
    simp only [List.mapM_cons] at h
    cases hf : fs[p.1]? with
    | none => rw [hf] at h; simp at h
    | some f =>
      rw [hf] at h
      cases hr : (ps.mapM fun (i, x) => (fs[i]?).map fun (f : Field) => (f.offset, szOf P f.type, x)) with
      | none => rw [hr] at h; simp at h
      | some r =>
        rw [hr] at h
        simp at h
        subst h
        simp only [List.map_cons, List.mem_cons] at hx ⊢
        rcases hx with hx | hx
        · exact .inl hx
        · exact .inr (mapM_ops hr x hx)

theorem looks_move {o : Oper} {x : Operand} (h : o.op = .move x) : LooksOk o (.pure fun r k => k ((opd x).get r)) := by
  have kx : ∀ r r', Agree o r r' → (opd x).get r = (opd x).get r' := fun r r' ha => ha x (by simp [h, Op.operands])
  repeat' split
  all_goals first | trivial | (intro r r' ha; simp only [kx r r' ha]) | (intro K r r' ha; simp only [kx r r' ha])
theorem looks_assign {o : Oper} {x : Operand} (h : o.op = .assign x) : LooksOk o (.pure fun r k => k ((opd x).get r)) := by
  have kx : ∀ r r', Agree o r r' → (opd x).get r = (opd x).get r' := fun r r' ha => ha x (by simp [h, Op.operands])
  repeat' split
  all_goals first | trivial | (intro r r' ha; simp only [kx r r' ha]) | (intro K r r' ha; simp only [kx r r' ha])
theorem looks_pick {o : Oper} {c x y : Operand} (h : o.op = .pick c x y) : LooksOk o (.pure fun r k => ((opd c).get r).onBool fun t => k (cond' ((opd x).get r) ((opd y).get r) t)) := by
  have kc : ∀ r r', Agree o r r' → (opd c).get r = (opd c).get r' := fun r r' ha => ha c (by simp [h, Op.operands])
  have kx : ∀ r r', Agree o r r' → (opd x).get r = (opd x).get r' := fun r r' ha => ha x (by simp [h, Op.operands])
  have ky : ∀ r r', Agree o r r' → (opd y).get r = (opd y).get r' := fun r r' ha => ha y (by simp [h, Op.operands])
  repeat' split
  all_goals first | trivial | (intro r r' ha; simp only [kc r r' ha, kx r r' ha, ky r r' ha]) | (intro K r r' ha; simp only [kc r r' ha, kx r r' ha, ky r r' ha])
theorem looks_alloc {o : Oper} {e : TypeId} (_h : o.op = .alloc e) : LooksOk o (cAlloc P e) := by
  unfold cAlloc
  repeat' split
  all_goals first | trivial | (intro r r' ha; rfl) | (intro K r r' ha; rfl)
theorem looks_box {o : Oper} {e : TypeId} {x : Operand} (h : o.op = .box e x) : LooksOk o (cBox x) := by
  have kx : ∀ r r', Agree o r r' → (opd x).get r = (opd x).get r' := fun r r' ha => ha x (by simp [h, Op.operands])
  unfold cBox
  repeat' split
  all_goals first | trivial | (intro r r' ha; simp only [kx r r' ha]) | (intro K r r' ha; simp only [kx r r' ha])
theorem looks_load {o : Oper} {t : TypeId} {x : Operand} (h : o.op = .load t x) : LooksOk o (cLoad P t x) := by
  have kx : ∀ r r', Agree o r r' → (opd x).get r = (opd x).get r' := fun r r' ha => ha x (by simp [h, Op.operands])
  unfold cLoad
  repeat' split
  all_goals first | trivial | (intro r r' ha; simp only [kx r r' ha]) | (intro K r r' ha; simp only [kx r r' ha])
theorem looks_store {o : Oper} {t : TypeId} {x y : Operand} (h : o.op = .store t x y) : LooksOk o (cStore P t x y) := by
  have kx : ∀ r r', Agree o r r' → (opd x).get r = (opd x).get r' := fun r r' ha => ha x (by simp [h, Op.operands])
  have ky : ∀ r r', Agree o r r' → (opd y).get r = (opd y).get r' := fun r r' ha => ha y (by simp [h, Op.operands])
  unfold cStore
  repeat' split
  all_goals first | trivial | (intro r r' ha; simp only [kx r r' ha, ky r r' ha]) | (intro K r r' ha; simp only [kx r r' ha, ky r r' ha])
theorem looks_nilCheck {o : Oper} {x : Operand} (h : o.op = .nilCheck x) : LooksOk o (.pure fun r k => ((opd x).get r).onPtr fun b o => k (.ptr b o)) := by
  have kx : ∀ r r', Agree o r r' → (opd x).get r = (opd x).get r' := fun r r' ha => ha x (by simp [h, Op.operands])
  repeat' split
  all_goals first | trivial | (intro r r' ha; simp only [kx r r' ha]) | (intro K r r' ha; simp only [kx r r' ha])
theorem looks_bin0 {o : Oper} {op : BinOp} {t yt : TypeId} {x y : Operand} (h : o.op = .binOp op t x y yt) : LooksOk o (cBin0 P op t x y) := by
  have kx : ∀ r r', Agree o r r' → (opd x).get r = (opd x).get r' := fun r r' ha => ha x (by simp [h, Op.operands])
  have ky : ∀ r r', Agree o r r' → (opd y).get r = (opd y).get r' := fun r r' ha => ha y (by simp [h, Op.operands])
  unfold cBin0
  repeat' split
  all_goals first | trivial | (intro r r' ha; simp only [kx r r' ha, ky r r' ha]) | (intro K r r' ha; simp only [kx r r' ha, ky r r' ha])
theorem looks_un {o : Oper} {op : UnOp} {t : TypeId} {x : Operand} (h : o.op = .unOp op t x) : LooksOk o (cUn op x) := by
  have kx : ∀ r r', Agree o r r' → (opd x).get r = (opd x).get r' := fun r r' ha => ha x (by simp [h, Op.operands])
  unfold cUn
  repeat' split
  all_goals first | trivial | (intro r r' ha; simp only [kx r r' ha]) | (intro K r r' ha; simp only [kx r r' ha])
theorem looks_conv {o : Oper} {s d : TypeId} {x : Operand} (h : o.op = .convert s d x) : LooksOk o (cConv P s d x) := by
  have kx : ∀ r r', Agree o r r' → (opd x).get r = (opd x).get r' := fun r r' ha => ha x (by simp [h, Op.operands])
  unfold cConv
  repeat' split
  all_goals first | trivial | (intro r r' ha; simp only [kx r r' ha]) | (intro K r r' ha; simp only [kx r r' ha])
theorem looks_makeIface {o : Oper} {t : TypeId} {x : Operand} (h : o.op = .makeInterface t x) : LooksOk o (cMakeIface P t x) := by
  have kx : ∀ r r', Agree o r r' → (opd x).get r = (opd x).get r' := fun r r' ha => ha x (by simp [h, Op.operands])
  unfold cMakeIface
  repeat' split
  all_goals first | trivial | (intro r r' ha; simp only [kx r r' ha]) | (intro K r r' ha; simp only [kx r r' ha])
theorem looks_makeSlice {o : Oper} {t : TypeId} {x y : Operand} (h : o.op = .makeSlice t x y) : LooksOk o (cMakeSlice P t x y) := by
  have kx : ∀ r r', Agree o r r' → (opd x).get r = (opd x).get r' := fun r r' ha => ha x (by simp [h, Op.operands])
  have ky : ∀ r r', Agree o r r' → (opd y).get r = (opd y).get r' := fun r r' ha => ha y (by simp [h, Op.operands])
  unfold cMakeSlice
  repeat' split
  all_goals try dsimp only
  all_goals repeat' split
  all_goals first | trivial | (intro r r' ha; simp only [kx r r' ha, ky r r' ha]) | (intro K r r' ha; simp only [kx r r' ha, ky r r' ha])
theorem looks_fieldAddr {o : Oper} {s : TypeId} {x : Operand} {f : Nat} (h : o.op = .fieldAddr s x f) : LooksOk o (cFieldAddr P s x f) := by
  have kx : ∀ r r', Agree o r r' → (opd x).get r = (opd x).get r' := fun r r' ha => ha x (by simp [h, Op.operands])
  unfold cFieldAddr
  repeat' split
  all_goals first | trivial | (intro r r' ha; simp only [kx r r' ha]) | (intro K r r' ha; simp only [kx r r' ha])
theorem looks_field {o : Oper} {s : TypeId} {x : Operand} {f : Nat} (h : o.op = .field s x f) : LooksOk o (cField P s x f) := by
  have kx : ∀ r r', Agree o r r' → (opd x).get r = (opd x).get r' := fun r r' ha => ha x (by simp [h, Op.operands])
  unfold cField
  repeat' split
  all_goals first | trivial | (intro r r' ha; simp only [kx r r' ha]) | (intro K r r' ha; simp only [kx r r' ha])
theorem looks_indexAddr {o : Oper} {t : TypeId} {x y : Operand} (h : o.op = .indexAddr t x y) : LooksOk o (cIndexAddr P t x y) := by
  have kx : ∀ r r', Agree o r r' → (opd x).get r = (opd x).get r' := fun r r' ha => ha x (by simp [h, Op.operands])
  have ky : ∀ r r', Agree o r r' → (opd y).get r = (opd y).get r' := fun r r' ha => ha y (by simp [h, Op.operands])
  unfold cIndexAddr
  repeat' split
  all_goals first | trivial | (intro r r' ha; simp only [kx r r' ha, ky r r' ha]) | (intro K r r' ha; simp only [kx r r' ha, ky r r' ha])
theorem looks_index {o : Oper} {t : TypeId} {x y : Operand} (h : o.op = .index t x y) : LooksOk o (cIndex P t x y) := by
  have kx : ∀ r r', Agree o r r' → (opd x).get r = (opd x).get r' := fun r r' ha => ha x (by simp [h, Op.operands])
  have ky : ∀ r r', Agree o r r' → (opd y).get r = (opd y).get r' := fun r r' ha => ha y (by simp [h, Op.operands])
  unfold cIndex
  repeat' split
  all_goals first | trivial | (intro r r' ha; simp only [kx r r' ha, ky r r' ha]) | (intro K r r' ha; simp only [kx r r' ha, ky r r' ha])
theorem looks_lookup {o : Oper} {t : TypeId} {x y : Operand} {ok : Bool} (h : o.op = .lookup t x y ok) : LooksOk o (cLookup P t x y ok) := by
  have kx : ∀ r r', Agree o r r' → (opd x).get r = (opd x).get r' := fun r r' ha => ha x (by simp [h, Op.operands])
  have ky : ∀ r r', Agree o r r' → (opd y).get r = (opd y).get r' := fun r r' ha => ha y (by simp [h, Op.operands])
  unfold cLookup
  repeat' split
  all_goals first | trivial | (intro r r' ha; simp only [kx r r' ha, ky r r' ha]) | (intro K r r' ha; simp only [kx r r' ha, ky r r' ha])
theorem looks_mapUpdate {o : Oper} {t : TypeId} {x y z : Operand} (h : o.op = .mapUpdate t x y z) : LooksOk o (cMapUpdate P t x y z) := by
  have kx : ∀ r r', Agree o r r' → (opd x).get r = (opd x).get r' := fun r r' ha => ha x (by simp [h, Op.operands])
  have ky : ∀ r r', Agree o r r' → (opd y).get r = (opd y).get r' := fun r r' ha => ha y (by simp [h, Op.operands])
  have kz : ∀ r r', Agree o r r' → (opd z).get r = (opd z).get r' := fun r r' ha => ha z (by simp [h, Op.operands])
  unfold cMapUpdate
  repeat' split
  all_goals first | trivial | (intro r r' ha; simp only [kx r r' ha, ky r r' ha, kz r r' ha]) | (intro K r r' ha; simp only [kx r r' ha, ky r r' ha, kz r r' ha])
theorem looks_insert {o : Oper} {t : TypeId} {x y z : Operand} (h : o.op = .insert t x y z) : LooksOk o (cMapUpdate P t x y z) := by
  have kx : ∀ r r', Agree o r r' → (opd x).get r = (opd x).get r' := fun r r' ha => ha x (by simp [h, Op.operands])
  have ky : ∀ r r', Agree o r r' → (opd y).get r = (opd y).get r' := fun r r' ha => ha y (by simp [h, Op.operands])
  have kz : ∀ r r', Agree o r r' → (opd z).get r = (opd z).get r' := fun r r' ha => ha z (by simp [h, Op.operands])
  unfold cMapUpdate
  repeat' split
  all_goals first | trivial | (intro r r' ha; simp only [kx r r' ha, ky r r' ha, kz r r' ha]) | (intro K r r' ha; simp only [kx r r' ha, ky r r' ha, kz r r' ha])
theorem looks_mapEntry {o : Oper} {t : TypeId} {x y : Operand} (h : o.op = .mapEntry t x y) : LooksOk o (cMapEntry P t x y) := by
  have kx : ∀ r r', Agree o r r' → (opd x).get r = (opd x).get r' := fun r r' ha => ha x (by simp [h, Op.operands])
  have ky : ∀ r r', Agree o r r' → (opd y).get r = (opd y).get r' := fun r r' ha => ha y (by simp [h, Op.operands])
  unfold cMapEntry
  repeat' split
  all_goals first | trivial | (intro r r' ha; simp only [kx r r' ha, ky r r' ha]) | (intro K r r' ha; simp only [kx r r' ha, ky r r' ha])
theorem looks_entryStore {o : Oper} {t : TypeId} {x y z : Operand} (h : o.op = .entryStore t x y z) : LooksOk o (cEntryStore x y z) := by
  have kx : ∀ r r', Agree o r r' → (opd x).get r = (opd x).get r' := fun r r' ha => ha x (by simp [h, Op.operands])
  have ky : ∀ r r', Agree o r r' → (opd y).get r = (opd y).get r' := fun r r' ha => ha y (by simp [h, Op.operands])
  have kz : ∀ r r', Agree o r r' → (opd z).get r = (opd z).get r' := fun r r' ha => ha z (by simp [h, Op.operands])
  unfold cEntryStore
  repeat' split
  all_goals first | trivial | (intro r r' ha; simp only [kx r r' ha, ky r r' ha, kz r r' ha]) | (intro K r r' ha; simp only [kx r r' ha, ky r r' ha, kz r r' ha])
theorem looks_range {o : Oper} {t : TypeId} {x : Operand} (h : o.op = .range t x) : LooksOk o (cRange P t x) := by
  have kx : ∀ r r', Agree o r r' → (opd x).get r = (opd x).get r' := fun r r' ha => ha x (by simp [h, Op.operands])
  unfold cRange
  repeat' split
  all_goals first | trivial | (intro r r' ha; simp only [kx r r' ha]) | (intro K r r' ha; simp only [kx r r' ha])
theorem looks_next {o : Oper} {x : Operand} {b : Bool} (h : o.op = .next x b) : LooksOk o (cNext x b) := by
  have kx : ∀ r r', Agree o r r' → (opd x).get r = (opd x).get r' := fun r r' ha => ha x (by simp [h, Op.operands])
  unfold cNext
  repeat' split
  all_goals first | trivial | (intro r r' ha; simp only [kx r r' ha]) | (intro K r r' ha; simp only [kx r r' ha])
theorem looks_assert {o : Oper} {t u : TypeId} {x : Operand} {ok : Bool} (h : o.op = .typeAssert x u t ok) : LooksOk o (cAssert P x t ok) := by
  have kx : ∀ r r', Agree o r r' → (opd x).get r = (opd x).get r' := fun r r' ha => ha x (by simp [h, Op.operands])
  unfold cAssert
  repeat' split
  all_goals first | trivial | (intro r r' ha; simp only [kx r r' ha]) | (intro K r r' ha; simp only [kx r r' ha])
theorem looks_extract {o : Oper} {x : Operand} {i : Nat} (h : o.op = .extract x i) : LooksOk o (.pure fun r k => ((opd x).get r).onTuple fun vs => onL (.fail 82) (fun v _ => k v) (dropL i vs)) := by
  have kx : ∀ r r', Agree o r r' → (opd x).get r = (opd x).get r' := fun r r' ha => ha x (by simp [h, Op.operands])
  repeat' split
  all_goals first | trivial | (intro r r' ha; simp only [kx r r' ha]) | (intro K r r' ha; simp only [kx r r' ha])
theorem looks_bin {o : Oper} {op : BinOp} {t yt : TypeId} {x y : Operand} (h : o.op = .binOp op t x y yt) : LooksOk o (cBin P op t x y) := by
  have kx : ∀ r r', Agree o r r' → (opd x).get r = (opd x).get r' := fun r r' ha => ha x (by simp [h, Op.operands])
  have ky : ∀ r r', Agree o r r' → (opd y).get r = (opd y).get r' := fun r r' ha => ha y (by simp [h, Op.operands])
  have h0 := looks_bin0 (P := P) h
  unfold cBin
  cases hasTok op with
  | false => exact h0
  | true =>
    show LooksOk o (withTok op x y (cBin0 P op t x y))
    cases hc : cBin0 P op t x y with
    | pure f =>
      rw [hc] at h0
      intro r r' ha
      simp only [kx r r' ha, ky r r' ha, h0 r r' ha]
    | read a f => rw [hc] at h0; exact h0
    | alloc f => rw [hc] at h0; exact h0
    | heavy f => rw [hc] at h0; exact h0
    | bad n => trivial
theorem looks_build {o : Oper} {t : TypeId} {ps : Array (Nat × Operand)} (h : o.op = .build t ps) : LooksOk o (cBuild P t ps.toList) := by
  have kp : ∀ r r', Agree o r r' → ∀ x, x ∈ ps.toList.map (·.2) → (opd x).get r = (opd x).get r' := fun r r' ha x hx => ha x (by simp only [h, Op.operands]; exact List.mem_toArray.2 hx)
  unfold cBuild
  split
  · split
    · split
      · rename_i l hl
        intro r r' ha
        have : (fills l).run r = (fills l).run r' := fills_looks fun x hx => kp r r' ha x (mapM_ops hl x hx)
        simp only [this]
      · trivial
    · trivial
  · split
    · intro r r' ha
      have : ∀ n, (fills (ps.toList.map fun (i, x) => (i * n, n, x))).run r = (fills (ps.toList.map fun (i, x) => (i * n, n, x))).run r' := fun n => fills_looks fun x hx => kp r r' ha x (by
        simp only [List.map_map, List.mem_map] at hx ⊢
        obtain ⟨e, h1, h2⟩ := hx
        exact ⟨e, h1, h2⟩)
      simp only [this]
    · trivial
  · trivial
theorem looks_buildSlice {o : Oper} {t : TypeId} {len : Nat} {ps : Array (Nat × Operand)} (h : o.op = .buildSlice t len ps) : LooksOk o (cBuildSlice P t len ps.toList) := by
  have kp : ∀ r r', Agree o r r' → ∀ x, x ∈ ps.toList.map (·.2) → (opd x).get r = (opd x).get r' := fun r r' ha x hx => ha x (by simp only [h, Op.operands]; exact List.mem_toArray.2 hx)
  unfold cBuildSlice
  split
  · split
    · dsimp only
      split
      · trivial
      · intro r r' ha
        have : ∀ n, (fills (ps.toList.map fun (i, x) => (i * n, n, x))).run r = (fills (ps.toList.map fun (i, x) => (i * n, n, x))).run r' := fun n => fills_looks fun x hx => kp r r' ha x (by
          simp only [List.map_map, List.mem_map] at hx ⊢
          obtain ⟨e, h1, h2⟩ := hx
          exact ⟨e, h1, h2⟩)
        simp only [this]
    · trivial
  · trivial
theorem looks_makeFunc {o : Oper} {f : FuncId} {first caps : Array Operand} (h : o.op = .makeFunc (.func f) first caps) : LooksOk o (cMakeFunc f first.toList caps.toList) := by
  have k1 : ∀ r r', Agree o r r' → (opds caps.toList).get r = (opds caps.toList).get r' := fun r r' ha => opds_looks fun x hx => ha x (by simp [h, Op.operands]; exact .inr (Array.mem_toList_iff.1 hx))
  have k2 : ∀ r r', Agree o r r' → (opds first.toList).get r = (opds first.toList).get r' := fun r r' ha => opds_looks fun x hx => ha x (by simp [h, Op.operands]; exact .inl (Array.mem_toList_iff.1 hx))
  unfold cMakeFunc
  dsimp only
  split
  · intro r r' ha; simp only [k1 r r' ha]
  · intro r r' ha; simp only [k1 r r' ha, k2 r r' ha]
theorem looks_makeMap {o : Oper} {t : TypeId} {x : Option Operand} (h : o.op = .makeMap t x) : LooksOk o (cMakeMap P t x) := by
  unfold cMakeMap
  split
  · split
    · intro K r r' ha; rfl
    · rename_i y
      intro K r r' ha
      have := ha y (by simp [h, Op.operands])
      simp only [this]
  · trivial
theorem looks_slice {o : Oper} {t : TypeId} {x : Operand} {lo hi mx : Option Operand} (h : o.op = .slice t x lo hi mx) : LooksOk o (cSlice P t x lo hi mx) := by
  have k0 : ∀ r r', Agree o r r' → (opd x).get r = (opd x).get r' := fun r r' ha => ha x (by simp [h, Op.operands])
  have kb : ∀ r r', Agree o r r' → ∀ l c (k : Nat → Nat → Nat → R), aBounds lo hi mx r l c k = aBounds lo hi mx r' l c k := fun r r' ha l c k =>
    bounds_looks (fun y hy => ha y (by simp [h, Op.operands, hy])) (fun y hy => ha y (by simp [h, Op.operands, hy])) (fun y hy => ha y (by simp [h, Op.operands, hy])) l c k
  have kb2 : ∀ r r', Agree o r r' → ∀ l c (k : Nat → Nat → Nat → R), aBounds lo hi none r l c k = aBounds lo hi none r' l c k := fun r r' ha l c k =>
    bounds_looks (fun y hy => ha y (by simp [h, Op.operands, hy])) (fun y hy => ha y (by simp [h, Op.operands, hy])) (fun y hy => by cases hy) l c k
  unfold cSlice
  split
  · trivial
  · split
    · split
      · trivial
      · intro r r' ha; simp only [k0 r r' ha, kb2 r r' ha]
    · split
      · intro r r' ha; simp only [k0 r r' ha, kb r r' ha]
      · trivial
    · trivial
theorem looks_call {o : Oper} {c : Call} (h : o.op = .call c) : LooksOk o (cCall P c) := by
  have ka : ∀ r r', Agree o r r' → ∀ x, x ∈ c.args.toList → (opd x).get r = (opd x).get r' := fun r r' ha x hx => ha x (by
    simp only [h, Op.operands, Call.operands]
    split <;> simp [Array.mem_toList_iff.1 hx])
  unfold cCall
  split
  · rename_i b hb
    unfold cBuiltin
    split
    · rename_i t ts x rest ht hargs
      have k1 : ∀ r r', Agree o r r' → (opd x).get r = (opd x).get r' := fun r r' ha => ka r r' ha x (by rw [hargs]; simp)
      unfold cLen
      repeat' split
      all_goals first | trivial | (intro r r' ha; simp only [k1 r r' ha]) | (intro K r r' ha; simp only [k1 r r' ha]) | (intro r r' ha; rfl)
    · rename_i t ts x rest ht hargs
      have k1 : ∀ r r', Agree o r r' → (opd x).get r = (opd x).get r' := fun r r' ha => ka r r' ha x (by rw [hargs]; simp)
      unfold cCap
      repeat' split
      all_goals first | trivial | (intro r r' ha; simp only [k1 r r' ha])
    · rename_i x y rest hargs
      have k1 : ∀ r r', Agree o r r' → (opd x).get r = (opd x).get r' := fun r r' ha => ka r r' ha x (by rw [hargs]; simp)
      have k2 : ∀ r r', Agree o r r' → (opd y).get r = (opd y).get r' := fun r r' ha => ka r r' ha y (by rw [hargs]; simp)
      unfold cAppend
      repeat' split
      all_goals try dsimp only
      all_goals repeat' split
      all_goals first | trivial | (intro K r r' ha; simp only [k1 r r' ha, k2 r r' ha])
    · rename_i t ts x y rest ht hargs
      have k1 : ∀ r r', Agree o r r' → (opd x).get r = (opd x).get r' := fun r r' ha => ka r r' ha x (by rw [hargs]; simp)
      have k2 : ∀ r r', Agree o r r' → (opd y).get r = (opd y).get r' := fun r r' ha => ka r r' ha y (by rw [hargs]; simp)
      unfold cCopy
      repeat' split
      all_goals first | trivial | (intro K r r' ha; simp only [k1 r r' ha, k2 r r' ha])
    · rename_i t ts x rest ht hargs
      have k1 : ∀ r r', Agree o r r' → (opd x).get r = (opd x).get r' := fun r r' ha => ka r r' ha x (by rw [hargs]; simp)
      unfold cClear
      repeat' split
      all_goals try dsimp only
      all_goals repeat' split
      all_goals first | trivial | (intro K r r' ha; simp only [k1 r r' ha])
    · rename_i t ts x y rest ht hargs
      have k1 : ∀ r r', Agree o r r' → (opd x).get r = (opd x).get r' := fun r r' ha => ka r r' ha x (by rw [hargs]; simp)
      have k2 : ∀ r r', Agree o r r' → (opd y).get r = (opd y).get r' := fun r r' ha => ka r r' ha y (by rw [hargs]; simp)
      unfold cDelete
      repeat' split
      all_goals first | trivial | (intro K r r' ha; simp only [k1 r r' ha, k2 r r' ha])
    · unfold cMinMax
      split
      · rename_i x l hargs
        intro r r' ha
        simp only [ka r r' ha x (by rw [hargs]; simp), minMax_looks true (l := l) fun y hy => ka r r' ha y (by rw [hargs]; simp [hy])]
      · trivial
    · unfold cMinMax
      split
      · rename_i x l hargs
        intro r r' ha
        simp only [ka r r' ha x (by rw [hargs]; simp), minMax_looks false (l := l) fun y hy => ka r r' ha y (by rw [hargs]; simp [hy])]
      · trivial
    · trivial
  · intro K r r' ha
    simp only [opds_looks (ka r r' ha)]
  · rename_i x _ hc
    intro K r r' ha
    simp only [opds_looks (ka r r' ha), ha x (by simp [h, Op.operands, Call.operands, hc])]
  · rename_i x name hc
    intro K r r' ha
    simp only [opds_looks (ka r r' ha), ha x (by simp [h, Op.operands, Call.operands, hc])]
theorem cOper_looks (o : Oper) : LooksOk o (cOper P o) := by
  unfold cOper
  split
  all_goals first
    | trivial
    | (rename_i h; exact looks_move h)
    | (rename_i h; exact looks_assign h)
    | (rename_i h; exact looks_pick h)
    | (rename_i h; exact looks_alloc h)
    | (rename_i h; exact looks_box h)
    | (rename_i h; exact looks_load h)
    | (rename_i h; exact looks_store h)
    | (rename_i h; exact looks_nilCheck h)
    | (rename_i h; exact looks_un h)
    | (rename_i h; exact looks_conv h)
    | (rename_i h; exact looks_makeIface h)
    | (rename_i h; exact looks_makeSlice h)
    | (rename_i h; exact looks_fieldAddr h)
    | (rename_i h; exact looks_field h)
    | (rename_i h; exact looks_indexAddr h)
    | (rename_i h; exact looks_index h)
    | (rename_i h; exact looks_lookup h)
    | (rename_i h; exact looks_mapUpdate h)
    | (rename_i h; exact looks_insert h)
    | (rename_i h; exact looks_mapEntry h)
    | (rename_i h; exact looks_entryStore h)
    | (rename_i h; exact looks_range h)
    | (rename_i h; exact looks_next h)
    | (rename_i h; exact looks_assert h)
    | (rename_i h; exact looks_extract h)
    | (rename_i h; exact looks_bin h)
    | (rename_i h; exact looks_build h)
    | (rename_i h; exact looks_buildSlice h)
    | (rename_i h; exact looks_makeFunc h)
    | (rename_i h; exact looks_makeMap h)
    | (rename_i h; exact looks_slice h)
    | (rename_i h; exact looks_call h)
end Go.AM

namespace Go.AM
variable [Tok]
variable {P : Program} {φ : Phi} {w : World}

theorem Blk.dead {b : Blk} (h : b.live = false) : b = .none := by cases b <;> first | rfl | cases h
/-- fewer blocks -/
theorem Rel.weaken {V m : Mem} (h : Rel P φ V w) (hn : m.next = V.next) (hg : ∀ p, p < 65536 → m.get p = V.get p ∨ m.get p = .none) : Rel P φ m w := by
  have hb := h.bound
  have lv : ∀ p, p < 65536 → (m.get p).live = true → m.get p = V.get p := by
    intro p hp hl
    rcases hg p hp with h1 | h1
    · exact h1
    · rw [h1] at hl; cases hl
  refine ⟨by rw [hn]; exact hb, fun p x hp => by rw [hn]; exact h.dom p x hp, h.heap, h.handle, ?_, h.glob, ?_, ?_, ?_, h.held, fun p b o s hp hw hφ => by
    rw [hn] at hp
    rw [lv p (by omega) (Blk.live_of_wr hw)] at hw
    exact h.apart p b o s hp hw hφ, fun hs => Blk.dead_of fun hl => by
    have := h.mode hs
    rw [lv 0 (by omega) hl] at hl
    rw [hl] at this; cases this⟩
  · rcases hg P.globals.size (Nat.lt_of_lt_of_le (h.dom _ _ h.handle) hb) with h1 | h1
    · rw [h1]; exact h.nohandle
    · exact h1
  · intro p hp
    rw [hn] at hp
    rcases hg p (by omega) with h1 | h1
    · rw [h1]; exact h.blk p hp
    · rw [h1]; trivial
  · intro p q b o s o' s' hp hq hne hw hl h1 h2
    rw [hn] at hp hq
    rw [lv p (by omega) (Blk.live_of_wr hw)] at hw
    rw [lv q (by omega) hl] at hl
    exact h.inj p q b o s o' s' hp hq hne hw hl h1 h2
  · intro p hp hlt
    rw [hn] at hp
    rcases hg p hlt with h1 | h1
    · rw [h1]; exact h.clean p hp hlt
    · exact h1
/-- names laid by -/
theorem Step.raise {m : Mem} {n : Nat} (h : Rel P φ m w) (hn : m.next + n ≤ 65536) : Step P φ m w φ ⟨m.next + n, m.t⟩ w := by
  have get : ∀ p, (⟨m.next + n, m.t⟩ : Mem).get p = m.get p := fun p => rfl
  refine ⟨⟨hn, fun p x hp => Nat.lt_of_lt_of_le (h.dom p x hp) (Nat.le_add_right _ _), h.heap, h.handle, h.nohandle, h.glob, ?_, ?_, ?_, h.held, fun p b o s hp hw hφ => by
    rw [get] at hw
    exact h.apart p b o s (h.dom _ _ hφ) hw hφ, h.mode⟩, fun _ _ h => h, Nat.le_add_right _ _, fun _ _ h => .inl h,
    fun _ _ h => h, fun _ _ h => h, ?_, fun _ _ _ => rfl, Nat.le_refl _, rfl, rfl, rfl⟩
  · intro p hp
    rw [get]
    change p < m.next + n at hp
    rcases Nat.lt_or_ge p m.next with h1 | h1
    · exact h.blk p h1
    · rw [h.clean p h1 (by omega)]; trivial
  · intro p q b o s o' s' hp hq hne hw hl h1 h2
    rw [get] at hw hl
    change p < m.next + n at hp
    change q < m.next + n at hq
    have hp' : p < m.next := by
      rcases Nat.lt_or_ge p m.next with h3 | h3
      · exact h3
      · rw [h.clean p h3 (by omega)] at hw; cases hw
    have hq' : q < m.next := by
      rcases Nat.lt_or_ge q m.next with h3 | h3
      · exact h3
      · rw [h.clean q h3 (by omega)] at hl; cases hl
    exact h.inj p q b o s o' s' hp' hq' hne hw hl h1 h2
  · intro p hp hlt
    rw [get]
    change m.next + n ≤ p at hp
    exact h.clean p (by omega) hlt
  · intro p b o s h1 h2 h3
    change p < m.next + n at h2
    rw [get, h.clean p h1 (by omega)] at h3
    cases h3
/-- a new block of the heap under a name that was laid by -/
theorem Step.allocAt {φ0 : Phi} {m0 V V' : Mem} {w0 w' : World} (h : Step P φ0 m0 w0 φ V w) {id : Nat} (h0 : m0.next ≤ id) (h1 : id < V.next) (hφ : φ id = none) {ob : Obj} {s : Nat} {b : Blk}
    (hh : w'.heap = w.heap.push ob) (hos : w'.os = w.os) (hout : w'.output = w.output) (ht : w'.tape = w.tape) (hx : BRel (fun q => if q = id then some (w.heap.size, 0, s) else φ q) w' id b)
    (hn : V'.next = V.next) (hget : ∀ p, p < 65536 → V'.get p = if p = id then b else V.get p) : Step P φ0 m0 w0 (fun q => if q = id then some (w.heap.size, 0, s) else φ q) V' w' := by
  have R := h.rel
  have hb := R.bound
  have ext : Ext' φ (fun q => if q = id then some (w.heap.size, 0, s) else φ q) := by
    intro q y hq
    show (if q = id then _ else _) = _
    rw [if_neg (fun e => by rw [e, hφ] at hq; cases hq)]; exact hq
  have hG : P.globals.size ≠ id := fun e => by have := R.handle; rw [e, hφ] at this; cases this
  have hGlt := R.dom _ _ R.handle
  have hsz : w'.heap.size = w.heap.size + 1 := by rw [hh]; simp
  have hget' : ∀ b, b < w.heap.size → w'.heap[b]? = w.heap[b]? := fun b hb => by rw [hh, Array.getElem?_push]; rw [if_neg (by omega)]
  have old : ∀ q b o s', q < 65536 → q ≠ id → (V'.get q).live = true → (fun q => if q = id then some (w.heap.size, 0, s) else φ q) q = some (b, o, s') → φ q = some (b, o, s') ∧ (V.get q).live = true ∧ b < w.heap.size := by
    intro q b' o' s' hq hne hl hq2
    rw [hget q hq, if_neg hne] at hl
    have hq3 : φ q = some (b', o', s') := by simpa [hne] using hq2
    exact ⟨hq3, hl, R.heap q b' o' s' hq3 (fun e => by rw [e, R.nohandle] at hl; cases hl)⟩
  refine ⟨⟨by rw [hn]; exact hb, ?_, ?_, ext _ _ R.handle, ?_, ?_, ?_, ?_, ?_, fun b' o' hb' => by rw [hget' b' (R.held_lt hb')]; exact R.held b' o' hb', fun q b' o' s' hq hw hφ' => by
    rw [hn] at hq
    by_cases e : q = id
    · simp [e] at hφ'
      exact R.free (by omega)
    · obtain ⟨h3, _, _⟩ := old q _ _ _ (by omega) e (Blk.live_of_wr hw) hφ'
      rw [hget q (by omega), if_neg e] at hw
      exact R.apart q b' o' s' hq hw h3, fun hs => by
    have hid : (0 : Nat) ≠ id := fun e => by obtain ⟨x, hx⟩ := R.zero; rw [e, hφ] at hx; cases hx
    rw [hget 0 (by omega), if_neg hid]; exact R.mode hs⟩, fun p x hp => ext p x (h.ext p x hp), by rw [hn]; exact h.next, ?_, ?_, ?_, ?_, ?_, by rw [hsz]; exact Nat.le_succ_of_le h.size, hos.trans h.os, hout.trans h.out, ht.trans h.tape⟩
  · intro q y hq
    rw [hn]
    by_cases e : q = id
    · omega
    · exact R.dom q y (by simpa [e] using hq)
  · intro q b' o' s' hq hne
    by_cases e : q = id
    · simp [e] at hq; omega
    · have hq' : φ q = some (b', o', s') := by simpa [e] using hq
      have := R.heap q b' o' s' hq' hne; omega
  · rw [hget _ (by omega), if_neg hG]; exact R.nohandle
  · intro g hg
    obtain ⟨sz, hsz⟩ := R.glob g hg
    exact ⟨sz, ext _ _ hsz⟩
  · intro q hq
    rw [hn] at hq
    rw [hget q (by omega)]
    by_cases e : q = id
    · rw [if_pos e, e]; exact hx
    · rw [if_neg e]
      cases hl : (V.get q).live with
      | false => rw [Blk.dead hl]; trivial
      | true =>
        refine ((R.blk q hq).mono ext).congr fun b' o' s' hφ' => ?_
        have hφq : φ q = some (b', o', s') := by simpa [e] using hφ'
        exact hget' _ (R.heap q b' o' s' hφq (fun hG => by rw [hG, R.nohandle] at hl; cases hl))
  · intro q q' b' o' s' o'' s'' hq hq' hne hw hl h1 h2
    rw [hn] at hq hq'
    by_cases e1 : q = id
    · have e2 : q' ≠ id := fun e => hne (e1.trans e.symm)
      obtain ⟨_, _, h5⟩ := old q' _ _ _ (by omega) e2 hl h2
      simp [e1] at h1; omega
    · obtain ⟨h3, h4, h5⟩ := old q _ _ _ (by omega) e1 (Blk.live_of_wr hw) h1
      by_cases e2 : q' = id
      · simp [e2] at h2; omega
      · obtain ⟨h6, h7, h8⟩ := old q' _ _ _ (by omega) e2 hl h2
        rw [hget q (by omega), if_neg e1] at hw
        exact R.inj q q' b' o' s' o'' s'' hq hq' hne hw h7 h3 h6
  · intro q h3 h4
    rw [hn] at h3
    rw [hget q h4, if_neg (by omega)]; exact R.clean q h3 h4
  · intro q y hq
    by_cases e : q = id
    · right; omega
    · exact h.fresh q y (by simpa [e] using hq)
  · intro q hq hl
    rw [hget q (by have := h.next; omega), if_neg (by omega)] at hl
    exact h.live q hq hl
  · intro q hq hl
    rw [hget q (by have := h.next; omega), if_neg (by omega)] at hl
    exact h.wr q hq hl
  · intro q b' o' s' h3 h4 h5 h6 h7
    rw [hn] at h4
    by_cases e : q = id
    · simp [e] at h6
      have := h.size; omega
    · obtain ⟨h8, h9, _⟩ := old q _ _ _ (by omega) e h5 h6
      exact h.img q b' o' s' h3 h4 h9 h8 h7
  · intro b' hb' hno
    rw [hget' b' (Nat.lt_of_lt_of_le hb' h.size)]
    exact h.frame b' hb' hno
/-- what a step with fewer blocks does, with all of them -/
theorem Step.framed {V F M V' : Mem} {φ' : Phi} {w' : World} (RV : Rel P φ V w) (hFn : F.next = V.next) (hF : ∀ p, p < 65536 → F.get p = V.get p ∨ F.get p = .none) (h : Step P φ F w φ' M w')
    (hn : V'.next = M.next) (hE : ∀ p, p < 65536 → (p < V.next ∧ F.get p = .none ∧ (V.get p).live = true → V'.get p = V.get p) ∧ (¬ (p < V.next ∧ F.get p = .none ∧ (V.get p).live = true) → V'.get p = M.get p)) :
    Step P φ V w φ' V' w' := by
  have hb := RV.bound
  have hMb := h.rel.bound
  have hnx := h.next
  have same : ∀ p, p < 65536 → (F.get p).live = true → F.get p = V.get p := by
    intro p hp hl
    rcases hF p hp with h1 | h1
    · exact h1
    · rw [h1] at hl; cases hl
  have eat : ∀ p, p < V.next → F.get p = .none → (V.get p).live = true → ∃ b o s, φ p = some (b, o, s) ∧ b < w.heap.size ∧ w'.heap[b]? = w.heap[b]? ∧ (∀ q o' s', q < F.next → (F.get q).wr = true → φ q ≠ some (b, o', s')) := by
    intro p hp hf hl
    obtain ⟨b, o, s, hφ⟩ := (RV.blk p hp).at_ hl
    have hbs := RV.heap p b o s hφ (fun e => by rw [e, RV.nohandle] at hl; cases hl)
    have hno : ∀ q o' s', q < F.next → (F.get q).wr = true → φ q ≠ some (b, o', s') := by
      intro q o' s' hq hw hφq
      have hs := same q (by omega) (Blk.live_of_wr hw)
      exact RV.inj q p b o' s' o s (by omega) hp (fun e => by rw [e, hf] at hw; cases hw) (by rw [← hs]; exact hw) hl hφq hφ
    exact ⟨b, o, s, hφ, hbs, h.frame b hbs fun q o' s' hq hw => hno q o' s' hq hw, hno⟩
  have old : ∀ q b o s, q < F.next → φ' q = some (b, o, s) → φ q = some (b, o, s) := by
    intro q b o s hq hφ
    rcases h.fresh q _ hφ with h1 | h1
    · exact h1
    · omega
  -- a block of the step and one that it did not see lie apart
  have apart : ∀ p q b o s o' s', p < V.next → F.get p = .none → (V.get p).live = true → q < M.next → (M.get q).live = true → ((V.get p).wr = true ∨ (M.get q).wr = true) → p ≠ q →
      φ' p = some (b, o, s) → φ' q = some (b, o', s') → False := by
    intro p q b o s o' s' hp hf hl hq hql hw hne h1 h2
    obtain ⟨b1, o1, s1, g1, g2, g3, g4⟩ := eat p hp hf hl
    have := h.ext p _ g1
    rw [h1] at this; cases this
    rcases Nat.lt_or_ge q F.next with h3 | h3
    · have h4 := old q _ _ _ h3 h2
      have hFl := h.live q h3 hql
      have hs := same q (by omega) hFl
      rcases hw with hw | hw
      · exact RV.inj p q b o s o' s' hp (by omega) hne hw (by rw [← hs]; exact hFl) g1 h4
      · exact g4 q o' s' h3 (h.wr q h3 hw) h4
    · obtain ⟨q0, o0, s0, h4, h5, h6⟩ := h.img q b o' s' h3 hq hql h2 g2
      exact g4 q0 o0 s0 h4 h5 h6
  refine ⟨⟨by rw [hn]; exact hMb, fun p x hp => by rw [hn]; exact h.rel.dom p x hp, h.rel.heap, h.rel.handle, ?_, h.rel.glob, ?_, ?_, ?_, h.rel.held, fun p b o s hp hw hφ => by
    rw [hn] at hp
    by_cases e : p < V.next ∧ F.get p = .none ∧ (V.get p).live = true
    · rw [(hE p (by omega)).1 e] at hw
      obtain ⟨b1, o1, s1, g1, _⟩ := eat p e.1 e.2.1 e.2.2
      have g2 := h.ext p _ g1
      rw [hφ] at g2; cases g2
      exact RV.apart p b o s e.1 hw g1
    · rw [(hE p (by omega)).2 e] at hw
      exact h.rel.apart p b o s hp hw hφ, fun hs => Blk.dead_of fun hl => by
    have hV := RV.mode hs
    by_cases e : 0 < V.next ∧ F.get 0 = .none ∧ (V.get 0).live = true
    · rw [e.2.2] at hV; cases hV
    · rw [(hE 0 (by omega)).2 e, h.rel.mode hs] at hl; cases hl⟩, h.ext, by omega, fun p x hp => by rw [← hFn]; exact h.fresh p x hp, ?_, ?_, ?_, ?_, h.size, h.os, h.out, h.tape⟩
  · have hG := h.rel.dom _ _ h.rel.handle
    rw [(hE _ (by omega)).2 (fun e => by rw [RV.nohandle] at e; cases e.2.2)]
    exact h.rel.nohandle
  · intro p hp
    rw [hn] at hp
    by_cases e : p < V.next ∧ F.get p = .none ∧ (V.get p).live = true
    · rw [(hE p (by omega)).1 e]
      obtain ⟨b, o, s, g1, g2, g3, g4⟩ := eat p e.1 e.2.1 e.2.2
      refine ((RV.blk p e.1).mono h.ext).congr fun b' o' s' hφ => ?_
      have := h.ext p _ g1
      rw [hφ] at this; cases this
      exact g3
    · rw [(hE p (by omega)).2 e]; exact h.rel.blk p hp
  · intro p q b o s o' s' hp hq hne hw hl h1 h2
    rw [hn] at hp hq
    by_cases e1 : p < V.next ∧ F.get p = .none ∧ (V.get p).live = true
    · rw [(hE p (by omega)).1 e1] at hw
      by_cases e2 : q < V.next ∧ F.get q = .none ∧ (V.get q).live = true
      · obtain ⟨b1, o1, s1, g1, _⟩ := eat p e1.1 e1.2.1 e1.2.2
        obtain ⟨b2, o2, s2, g2, _⟩ := eat q e2.1 e2.2.1 e2.2.2
        have g1' := h.ext p _ g1
        have g2' := h.ext q _ g2
        rw [h1] at g1'; cases g1'
        rw [h2] at g2'; cases g2'
        exact RV.inj p q b o s o' s' e1.1 e2.1 hne hw e2.2.2 g1 g2
      · rw [(hE q (by omega)).2 e2] at hl
        exact apart p q b o s o' s' e1.1 e1.2.1 e1.2.2 hq hl (.inl hw) hne h1 h2
    · rw [(hE p (by omega)).2 e1] at hw
      by_cases e2 : q < V.next ∧ F.get q = .none ∧ (V.get q).live = true
      · exact apart q p b o' s' o s e2.1 e2.2.1 e2.2.2 hp (Blk.live_of_wr hw) (.inr hw) (Ne.symm hne) h2 h1
      · rw [(hE q (by omega)).2 e2] at hl
        exact h.rel.inj p q b o s o' s' hp hq hne hw hl h1 h2
  · intro p hp hlt
    rw [hn] at hp
    rw [(hE p hlt).2 (fun e => by omega)]
    exact h.rel.clean p hp hlt
  · intro p hp hl
    by_cases e : p < V.next ∧ F.get p = .none ∧ (V.get p).live = true
    · exact e.2.2
    · rw [(hE p (by omega)).2 e] at hl
      have := h.live p (by omega) hl
      rw [← same p (by omega) this]; exact this
  · intro p hp hl
    by_cases e : p < V.next ∧ F.get p = .none ∧ (V.get p).live = true
    · rw [(hE p (by omega)).1 e] at hl; exact hl
    · rw [(hE p (by omega)).2 e] at hl
      have := h.wr p (by omega) hl
      rw [← same p (by omega) (Blk.live_of_wr this)]; exact this
  · intro p b o s h1 h2 h3 h4 h5
    rw [hn] at h2
    rw [(hE p (by omega)).2 (fun e => by omega)] at h3
    obtain ⟨q, o', s', g1, g2, g3⟩ := h.img p b o s (by omega) h2 h3 h4 h5
    exact ⟨q, o', s', by omega, by rw [← same q (by omega) (Blk.live_of_wr g2)]; exact g2, g3⟩
  · intro b hb hno
    exact h.frame b hb fun q o s hq hw => hno q o s (by omega) (by rw [← same q (by omega) (Blk.live_of_wr hw)]; exact hw)
end Go.AM

namespace Go.AM
variable [Tok]
variable {P : Program}

/- ### bits -/
theorem tb_eq (m n : Nat) : tb m n = m.testBit n := by
  have h1 : tb m n = Nat.beq (Nat.land (Nat.shiftRight m n) 1) 1 := rfl
  have h2 : Nat.land (Nat.shiftRight m n) 1 = (m >>> n) &&& 1 := rfl
  rw [h1, h2]
  have h3 : m.testBit n = ((m >>> n) &&& 1 != 0) := by
    rw [Nat.testBit]; rw [Nat.and_comm]
  rw [h3]
  have h4 : (m >>> n) &&& 1 = (m >>> n) % 2 := Nat.and_one_is_mod _
  rw [h4]
  rcases Nat.mod_two_eq_zero_or_one (m >>> n) with h | h <;> rw [h] <;> rfl
theorem bit_eq (n : Nat) : bit n = 2 ^ n := rfl
theorem tb_lor (a b n : Nat) : tb (Nat.lor a b) n = (tb a n || tb b n) := by
  rw [tb_eq, tb_eq, tb_eq]; exact Nat.testBit_or a b n
theorem tb_bit (a n : Nat) : tb (bit a) n = true ↔ a = n := by
  rw [tb_eq, bit_eq, Nat.testBit_two_pow]; simp
theorem fold_bits : ∀ (l : List Tmp) (s : Nat) (t : Nat), (t ∈ l ∨ tb s t = true) → tb (l.foldl (fun s t => Nat.lor s (bit t)) s) t = true
  | [], s, t, h => by rcases h with h | h; cases h; exact h
  | x :: l, s, t, h => by
    refine fold_bits l _ t ?_
    rcases h with h | h
    · cases h with
      | head => right; rw [tb_lor, (tb_bit _ _).2 rfl]; simp
      | tail _ h => exact .inl h
    · right; rw [tb_lor, h]; rfl
theorem looks_bit {ops : Array Oper} {o : Oper} {t : Nat} (h : t ∈ o.looksAt ops) : tb (looksBits ops o) t = true := fold_bits _ 0 t (.inl h)
theorem dst_bit {o : Oper} {t : Nat} (h : o.dst = some t) : tb (dstBits o) t = true := by
  unfold dstBits; rw [h]; exact (tb_bit t t).2 rfl
/-- neither writes what the other one looks at or writes -/
def Apart (ops : Array Oper) (x y : Oper) : Prop := (∀ d, x.dst = some d → d ∉ y.looksAt ops ∧ y.dst ≠ some d) ∧ (∀ d, y.dst = some d → d ∉ x.looksAt ops ∧ x.dst ≠ some d)
theorem Apart.symm {ops : Array Oper} {x y : Oper} (h : Apart ops x y) : Apart ops y x := ⟨h.2, h.1⟩
theorem land_zero {a b n : Nat} (h : Nat.land a b = 0) (ha : tb a n = true) (hb : tb b n = true) : False := by
  have h1 : (Nat.land a b).testBit n = true := by
    have := Nat.testBit_and a b n
    rw [tb_eq] at ha hb
    rw [ha, hb] at this
    exact this
  rw [h] at h1; simp at h1
theorem clash_apart {ops : Array Oper} {x y : Oper} (h : clash (looksBits ops x, dstBits x) (looksBits ops y, dstBits y) = false) : Apart ops x y := by
  unfold clash at h
  simp only [Bool.not_eq_false', beq_true] at h
  obtain ⟨h1, h2⟩ : Nat.land (dstBits x) (Nat.lor (looksBits ops y) (dstBits y)) = 0 ∧ Nat.land (dstBits y) (looksBits ops x) = 0 := by
    constructor
    · apply Nat.eq_of_testBit_eq
      intro i
      have := congrArg (fun n => Nat.testBit n i) h
      simp only [Nat.zero_testBit] at this ⊢
      have h3 := Nat.testBit_or (Nat.land (dstBits x) (Nat.lor (looksBits ops y) (dstBits y))) (Nat.land (dstBits y) (looksBits ops x)) i
      change Nat.testBit (Nat.lor _ _) i = _ at h3
      rw [this] at h3
      exact (Bool.or_eq_false_iff.1 h3.symm).1
    · apply Nat.eq_of_testBit_eq
      intro i
      have := congrArg (fun n => Nat.testBit n i) h
      simp only [Nat.zero_testBit] at this ⊢
      have h3 := Nat.testBit_or (Nat.land (dstBits x) (Nat.lor (looksBits ops y) (dstBits y))) (Nat.land (dstBits y) (looksBits ops x)) i
      change Nat.testBit (Nat.lor _ _) i = _ at h3
      rw [this] at h3
      exact (Bool.or_eq_false_iff.1 h3.symm).2
  refine ⟨fun d hd => ⟨fun hl => ?_, fun hy => ?_⟩, fun d hd => ⟨fun hl => ?_, fun hy => ?_⟩⟩
  · exact land_zero h1 (dst_bit hd) (by rw [tb_lor, looks_bit hl]; rfl)
  · exact land_zero h1 (dst_bit hd) (by rw [tb_lor, dst_bit hy]; simp)
  · exact land_zero h2 (dst_bit hd) (looks_bit hl)
  · exact land_zero h1 (dst_bit hy) (by rw [tb_lor, dst_bit hd]; simp)
/- ### registers -/
theorem putV_comm {d e : D16} (h : d ≠ e) (u v : AVal) (t : N16 AVal) : putV d u (putV e v t) = putV e v (putV d u t) := by
  cases d <;> cases e <;> first | rfl | exact absurd rfl h
theorem putR_comm {d e : D16} (h : d ≠ e) (u v : N16 AVal) (t : N16 (N16 AVal)) : putR d u (putR e v t) = putR e v (putR d u t) := by
  cases d <;> cases e <;> first | rfl | exact absurd rfl h
theorem putR_put (d : D16) (u v : N16 AVal) (t : N16 (N16 AVal)) : putR d u (putR d v t) = putR d u t := by
  cases d <;> rfl
theorem putQ_comm {d e : D16} (h : d ≠ e) (u v : N16 (N16 AVal)) (t : Regs) : putQ d u (putQ e v t) = putQ e v (putQ d u t) := by
  cases d <;> cases e <;> first | rfl | exact absurd rfl h
theorem putQ_put (d : D16) (u v : N16 (N16 AVal)) (t : Regs) : putQ d u (putQ d v t) = putQ d u t := by
  cases d <;> rfl
theorem rput_comm {d e : Nat} (h : d ≠ e) (hd : d < 4096) (he : e < 4096) (u v : AVal) (r : Regs) : rput d u (rput e v r) = rput e v (rput d u r) := by
  unfold rput
  by_cases h2 : dig (Nat.div d 256) = dig (Nat.div e 256)
  · rw [h2, selQ_same, selQ_same, putQ_put, putQ_put]
    congr 1
    by_cases h1 : dig (Nat.div d 16) = dig (Nat.div e 16)
    · have h0 : dig d ≠ dig e := by
        intro h0
        have e2 := dig_inj h2; have e1 := dig_inj h1; have e0 := dig_inj h0
        have d2 : ∀ n, Nat.div n 256 = n / 256 := fun _ => rfl
        have d1 : ∀ n, Nat.div n 16 = n / 16 := fun _ => rfl
        rw [d2, d2] at e2
        rw [d1, d1] at e1
        omega
      rw [h1, selR_same, selR_same, putR_put, putR_put, putV_comm h0]
    · rw [selR_ne _ _ (fun e => h1 e.symm), selR_ne _ _ h1, putR_comm h1]
  · rw [selQ_ne _ _ (fun e => h2 e.symm), selQ_ne _ _ h2, putQ_comm h2]
section
variable {nt : Nat} (hnt : nt ≤ 4096)
include hnt
theorem dst_comm {x y : Option Tmp} (h : ∀ d, x = some d → y ≠ some d) (u v : AVal) (r : Regs) : (cDst nt x).run u ((cDst nt y).run v r) = (cDst nt y).run v ((cDst nt x).run u r) := by
  cases x with
  | none => rfl
  | some d =>
    cases y with
    | none => rfl
    | some e =>
      have hne : d ≠ e := fun e' => h d rfl (by rw [e'])
      have hr : ∀ (d : Tmp) v r, (cDst nt (some d)).run v r = if d < nt then rput d v r else r := by
        intro d v r
        show (if d < nt then (⟨fun v r => rput d v r⟩ : DstC) else ⟨fun _ r => r⟩).run v r = _
        split <;> rfl
      rw [hr, hr, hr, hr]
      by_cases h1 : d < nt
      · by_cases h2 : e < nt
        · rw [if_pos h1, if_pos h2, if_pos h2, if_pos h1]
          exact rput_comm hne (Nat.lt_of_lt_of_le h1 hnt) (Nat.lt_of_lt_of_le h2 hnt) u v r
        · rw [if_neg h2, if_neg h2]
      · rw [if_neg h1, if_neg h1]
theorem opd_put_ne {x : Option Tmp} {t : Nat} (h : x ≠ some t) (u : AVal) (r : Regs) : (opd (.tmp t)).get ((cDst nt x).run u r) = (opd (.tmp t)).get r := by
  cases x with
  | none => rfl
  | some d =>
    have hr : (cDst nt (some d)).run u r = if d < nt then rput d u r else r := by
      show (if d < nt then (⟨fun v r => rput d v r⟩ : DstC) else ⟨fun _ r => r⟩).run u r = _
      split <;> rfl
    rw [hr]
    by_cases h1 : d < nt
    · rw [if_pos h1, opd_tmp, opd_tmp]
      by_cases h2 : t < 4096
      · rw [if_pos h2, if_pos h2, rget_rput _ _ _ _ (Nat.lt_of_lt_of_le h1 hnt) h2, if_neg (fun e => h (by rw [e]))]
      · rw [if_neg h2, if_neg h2]
    · rw [if_neg h1]
theorem agree_put {ops : Array Oper} {o : Oper} {x : Option Tmp} (h : ∀ d, x = some d → d ∉ o.looksAt ops) (u : AVal) (r : Regs) : Agree o ((cDst nt x).run u r) r := by
  intro y hy
  cases y with
  | tmp t =>
    refine opd_put_ne hnt (fun e => h t e ?_) u r
    unfold Oper.looksAt
    exact List.mem_append_left _ (List.mem_filterMap.2 ⟨.tmp t, Array.mem_toList_iff.2 hy, rfl⟩)
  | const v => rfl
  | global g => rfl
  | func f => rfl
theorem guard_put {ops : Array Oper} {o : Oper} {x : Option Tmp} (h : ∀ d, x = some d → d ∉ o.looksAt ops) (u : AVal) (r : Regs) : (cGuard ops o.guard).run ((cDst nt x).run u r) = (cGuard ops o.guard).run r := by
  cases hg : o.guard with
  | none => rfl
  | some p =>
    obtain ⟨j, want⟩ := p
    unfold cGuard
    simp only
    cases hd : (ops[j]?).bind (·.dst) with
    | none => rfl
    | some d =>
      have hne : x ≠ some d := fun e => h d e (by
        unfold Oper.looksAt
        rw [hg]
        simp only [hd]
        exact List.mem_append_right _ (by simp))
      have := opd_put_ne hnt hne u r
      cases want with
      | true => funext k; show ((opd (.tmp d)).get _).onYes k = ((opd (.tmp d)).get _).onYes k; rw [this]
      | false => funext k; show ((opd (.tmp d)).get _).onNo k = ((opd (.tmp d)).get _).onNo k; rw [this]
end
/-- a guard tells -/
theorem guard_det {ops : Array Oper} {g : Option (Nat × Bool)} {r : Regs} {k : Bool → R} {v : AVal} {mf : Mem} (h : (cGuard ops g).run r k = .ok v mf) :
    ∃ b, k b = .ok v mf ∧ ∀ k' : Bool → R, (cGuard ops g).run r k' = k' b := by
  cases g with
  | none => exact ⟨true, h, fun _ => rfl⟩
  | some p =>
    obtain ⟨j, want⟩ := p
    unfold cGuard at h ⊢
    simp only at h ⊢
    cases hd : (ops[j]?).bind (·.dst) with
    | none => rw [hd] at h; exact ⟨false, h, fun _ => rfl⟩
    | some d =>
      rw [hd] at h
      cases want with
      | true =>
        change ((opd (.tmp d)).get r).onYes k = _ at h
        have : ∃ b, k b = .ok v mf ∧ ∀ k' : Bool → R, ((opd (.tmp d)).get r).onYes k' = k' b := by
          generalize (opd (.tmp d)).get r = x at h
          cases x <;> first | (cases h; done) | exact ⟨_, h, fun _ => rfl⟩
        exact this
      | false =>
        change ((opd (.tmp d)).get r).onNo k = _ at h
        have : ∃ b, k b = .ok v mf ∧ ∀ k' : Bool → R, ((opd (.tmp d)).get r).onNo k' = k' b := by
          generalize (opd (.tmp d)).get r = x at h
          cases x <;> first | (cases h; done) | exact ⟨_, h, fun _ => rfl⟩
        exact this
end Go.AM

namespace Go.AM
variable [Tok]
variable {P : Program}

structure St where
  r : Regs
  m : Mem
  p : Pend
  c : Chk
/-- what an operation yields: the value, the new block, what was loaded from where, the memory behind a heavy one -/
structure Out where
  u : AVal
  pb : Option Blk
  cb : Option (AVal × AVal)
  hm : Option Mem
section
variable (P : Program) (K : KH) (nt : Nat) (ops : Array Oper) (A : List Nat) (al : List (Nat × Nat)) (base : Nat)
noncomputable def csOf : List OpC := ops.toList.map (cOper P)
noncomputable def reOf (i : Nat) : RechkC := rechecks (readsOf (ancAt A i) (csOf P ops).zipIdx)
def CondT (i : Nat) : OpC → St → Out → Prop
  | .pure f, s, x => (∃ m1, f s.r (fun v => .ok v Mem.zero) = .ok x.u m1) ∧ x.pb = none ∧ x.cb = none ∧ x.hm = none
  | .read a f, s, x => (∃ m1, f (a.get s.r) s.m (fun v => .ok v Mem.zero) = .ok x.u m1) ∧ x.pb = none ∧ x.cb = some (a.get s.r, x.u) ∧ x.hm = none
  | .alloc f, s, x => ∃ e, al.find? (fun e => Nat.beq e.1 i) = some e ∧ (∃ m1, f s.r (Nat.add base e.2) (fun v b => .ok v (Mem.zero.put (Nat.add base e.2) b)) = .ok x.u m1 ∧ x.pb = some (m1.get (Nat.add base e.2))) ∧ x.cb = none ∧ x.hm = none
  | .heavy f, s, x => ∃ m1, f K s.r (flushM base (ancAt A i) s.p al s.m) (fun v m => .ok v m) = .ok x.u m1 ∧ (∃ u2 m2, (reOf P ops A i).run m1 s.c = .ok u2 m2) ∧ x.pb = none ∧ x.cb = none ∧ x.hm = some m1
  | .bad _, _, _ => False
def Cond (i : Nat) (o : Oper) (s : St) (x : Out) : Prop :=
  ((∀ k', (cGuard ops o.guard).run s.r k' = k' false) ∧ x = ⟨undefA, none, none, none⟩) ∨ ((∀ k', (cGuard ops o.guard).run s.r k' = k' true) ∧ CondT P K ops A al base i (cOper P o) s x)
noncomputable def After (i : Nat) (o : Oper) (s : St) (x : Out) : St :=
  ⟨(cDst nt o.dst).run x.u s.r, x.hm.getD s.m, match x.pb with | some b => setF i b s.p | none => if x.hm.isSome then dropF (ancAt A i) s.p else s.p, match x.cb with | some y => setF i (some y) s.c | none => s.c⟩
def Eff (i : Nat) (s s' : St) : Prop := ∃ o, ops[i]? = some o ∧ ∃ x, Cond P K ops A al base i o s x ∧ s' = After nt A i o s x
def Runs : List Nat → St → St → Prop
  | [], s, s' => s = s'
  | i :: l, s, s' => ∃ s1, Eff P K nt ops A al base i s s1 ∧ Runs l s1 s'
end
section
variable {K : KH} {nt : Nat} {ops : Array Oper} {A : List Nat} {al : List (Nat × Nat)} {base : Nat}
theorem dAct_ok {i : Nat} {o : Oper} {s : St} {k : DCt} {v : AVal} {mf : Mem} (h : (dAct (cDst nt o.dst) al (reOf P ops A i) (ancAt A i) i (cOper P o)).run K base s.r s.m s.p s.c k = .ok v mf) :
    ∃ x, CondT P K ops A al base i (cOper P o) s x ∧ k (After nt A i o s x).r (After nt A i o s x).m (After nt A i o s x).p (After nt A i o s x).c = .ok v mf := by
  cases hc : cOper P o with
  | pure f =>
    rw [hc] at h
    obtain ⟨u, m1, h1, h2⟩ := andThen_ok h
    exact ⟨⟨u, none, none, none⟩, ⟨⟨m1, h1⟩, rfl, rfl, rfl⟩, h2⟩
  | read a f =>
    rw [hc] at h
    obtain ⟨u, m1, h1, h2⟩ := andThen_ok h
    exact ⟨⟨u, none, some (a.get s.r, u), none⟩, ⟨⟨m1, h1⟩, rfl, rfl, rfl⟩, h2⟩
  | alloc f =>
    rw [hc] at h
    simp only [dAct] at h
    cases he : al.find? (fun e => Nat.beq e.1 i) with
    | none => rw [he] at h; cases h
    | some e =>
      rw [he] at h
      obtain ⟨u, m1, h1, h2⟩ := andThen_ok h
      exact ⟨⟨u, some (m1.get (Nat.add base e.2)), none, none⟩, ⟨e, he, ⟨m1, h1, rfl⟩, rfl, rfl⟩, h2⟩
  | heavy f =>
    rw [hc] at h
    obtain ⟨u, m1, h1, h2⟩ := andThen_ok h
    obtain ⟨u2, m2, h3, h4⟩ := andThen_ok h2
    exact ⟨⟨u, none, none, some m1⟩, ⟨m1, h1, ⟨u2, m2, h3⟩, rfl, rfl, rfl⟩, h4⟩
  | bad n => rw [hc] at h; cases h
theorem eff_of_run {i : Nat} {s : St} {k : DCt} {v : AVal} {mf : Mem} (h : (dOne nt ops (csOf P ops) A al i).run K base s.r s.m s.p s.c k = .ok v mf) :
    ∃ s', Eff P K nt ops A al base i s s' ∧ k s'.r s'.m s'.p s'.c = .ok v mf := by
  unfold dOne at h
  cases ho : ops[i]? with
  | none => rw [ho] at h; cases h
  | some o =>
    have hcs : (csOf P ops)[i]? = some (cOper P o) := by
      unfold csOf
      rw [List.getElem?_map, Array.getElem?_toList, ho]; rfl
    rw [ho, hcs] at h
    simp only at h
    unfold guarded at h
    split at h
    · rename_i hg
      obtain ⟨x, h1, h2⟩ := dAct_ok h
      exact ⟨_, ⟨o, ho, x, .inr ⟨fun k' => by rw [hg]; rfl, h1⟩, rfl⟩, h2⟩
    · obtain ⟨b, h1, h2⟩ := guard_det h
      cases b with
      | true =>
        obtain ⟨x, h3, h4⟩ := dAct_ok h1
        exact ⟨_, ⟨o, ho, x, .inr ⟨h2, h3⟩, rfl⟩, h4⟩
      | false => exact ⟨_, ⟨o, ho, ⟨undefA, none, none, none⟩, .inl ⟨h2, rfl⟩, rfl⟩, h1⟩
theorem runs_of_seq : ∀ {l : List Nat} {s : St} {k : DCt} {v : AVal} {mf : Mem}, (dSeq (dOne nt ops (csOf P ops) A al) l).run K base s.r s.m s.p s.c k = .ok v mf →
    ∃ s', Runs P K nt ops A al base l s s' ∧ k s'.r s'.m s'.p s'.c = .ok v mf
  | [], s, k, v, mf, h => ⟨s, rfl, h⟩
  | i :: l, s, k, v, mf, h => by
    obtain ⟨s1, h1, h2⟩ := eff_of_run h
    obtain ⟨s2, h3, h4⟩ := runs_of_seq h2
    exact ⟨s2, ⟨s1, h1, h3⟩, h4⟩
/- ### lists of reads -/
theorem aeqN_eq : ∀ (d : Nat) (x y : AVal), aeqN d x y = true → x = y
  | 0, x, y, h => by cases h
  | d + 1, x, y, h => by
    have zip : ∀ (a b : List AVal), zipAll (aeqN d) a b = true → a = b := by
      intro a
      induction a with
      | nil => intro b h; cases b with
        | nil => rfl
        | cons y l => cases h
      | cons x a ih => intro b h; cases b with
        | nil => cases h
        | cons y l =>
          have h' : cond' (zipAll (aeqN d) a l) false (aeqN d x y) = true := h
          cases hx : aeqN d x y with
          | false => rw [hx] at h'; cases h'
          | true => rw [hx] at h'; rw [aeqN_eq d x y hx, ih l h']
    have bools : ∀ (a b : Bool), cond' b (not b) a = true → a = b := by intro a b h; cases a <;> cases b <;> first | rfl | cases h
    cases x <;> cases y <;> simp only [aeqN, Bool.and_eq_true, beq_true, Bool.false_eq_true] at h <;> first
      | rfl
      | (obtain ⟨h1, h2⟩ := h; rw [ikEq_eq h1]; rw [ieq_eq] at h2; rw [eq_of_beq h2])
      | (rw [listEq_iff.1 h])
      | (rw [bools _ _ h])
      | (obtain ⟨⟨⟨h1, h2⟩, h3, h4⟩, h5, h6⟩ := h; rw [h1, h2, h3, h4, bools _ _ h5, h6])
      | (obtain ⟨h1, h2⟩ := h; rw [ikEq_eq h1, h2])
      | (obtain ⟨h1, h2⟩ := h; rw [h1, h2])
      | (rw [h])
      | (obtain ⟨h1, h2⟩ := h; rw [h1, zip _ _ h2])
      | (obtain ⟨h1, h2⟩ := h; rw [h1, aeqN_eq d _ _ h2])
      | (rw [zip _ _ h])
theorem rechecks_ok : ∀ {l : List (Nat × (AVal → Mem → (AVal → R) → R))} {m : Mem} {c : Chk} {u : AVal} {m2 : Mem}, (rechecks l).run m c = .ok u m2 →
    ∀ j f a v, (j, f) ∈ l → c j = some (a, v) → ∃ m1, f a m (fun v => .ok v Mem.zero) = .ok v m1
  | [], _, _, _, _, _, j, f, a, v, hm, _ => by cases hm
  | (i, g) :: l, m, c, u, m2, h, j, f, a, v, hm, hc => by
    unfold rechecks at h
    simp only at h
    cases hci : c i with
    | none =>
      rw [hci] at h
      cases hm with
      | head => rw [hc] at hci; cases hci
      | tail _ hm => exact rechecks_ok h j f a v hm hc
    | some av =>
      rw [hci] at h
      obtain ⟨v', m1, h1, h2⟩ := andThen_ok h
      obtain ⟨h3, h4⟩ := cond_t h2
      cases hm with
      | head =>
        rw [hc] at hci; cases hci
        have := aeqN_eq _ _ _ h3
        simp only at this
        subst this
        exact ⟨m1, h1⟩
      | tail _ hm => exact rechecks_ok h4 j f a v hm hc
theorem rechecks_less : ∀ {l : List (Nat × (AVal → Mem → (AVal → R) → R))} {m : Mem} {c : Chk} {u : AVal} {m2 : Mem} {x : Nat} {y : AVal × AVal}, c x = none → (rechecks l).run m (setF x (some y) c) = .ok u m2 →
    ∃ u m2, (rechecks l).run m c = .ok u m2
  | [], m, c, u, m2, x, y, _, h => ⟨u, m2, h⟩
  | (i, g) :: l, m, c, u, m2, x, y, hx, h => by
    have hset : setF x (some y) c i = if i = x then some y else c i := by
      show cond' (some y) (c i) (Nat.beq i x) = _
      by_cases e : i = x
      · rw [beq_true.2 e, if_pos e]; rfl
      · have : Nat.beq i x = false := by
          cases hb : Nat.beq i x with
          | false => rfl
          | true => exact absurd (beq_true.1 hb) e
        rw [this, if_neg e]; rfl
    unfold rechecks at h ⊢
    simp only at h ⊢
    rw [hset] at h
    by_cases e : i = x
    · rw [if_pos e] at h
      obtain ⟨v', m1, h1, h2⟩ := andThen_ok h
      obtain ⟨h3, h4⟩ := cond_t h2
      rw [e, hx]
      exact rechecks_less hx h4
    · rw [if_neg e] at h
      cases hci : c i with
      | none => rw [hci] at h; exact rechecks_less hx h
      | some av =>
        rw [hci] at h
        obtain ⟨v', m1, h1, h2⟩ := andThen_ok h
        obtain ⟨h3, h4⟩ := cond_t h2
        obtain ⟨u3, m3, h5⟩ := rechecks_less hx h4
        refine ⟨u3, m3, ?_⟩
        show R.andThen _ _ = _
        rw [h1]
        show cond' _ _ _ = _
        rw [h3]; exact h5
theorem readsOf_mem {a : Nat} : ∀ {l : List (OpC × Nat)} {x : Od} {f : AVal → Mem → (AVal → R) → R} {j : Nat}, (OpC.read x f, j) ∈ l → tb a j = false → (j, f) ∈ readsOf a l
  | (oc, i) :: l, x, f, j, hm, ht => by
    cases hm with
    | head =>
      show _ ∈ cond' _ _ (tb a _)
      rw [ht]; exact List.mem_cons_self ..
    | tail _ hm =>
      have ih := readsOf_mem hm ht
      cases oc with
      | read y g =>
        show (j, f) ∈ cond' (readsOf a l) ((i, g) :: readsOf a l) (tb a i)
        cases tb a i with
        | true => exact ih
        | false => exact List.mem_cons_of_mem _ ih
      | _ => exact ih
end
end Go.AM

namespace Go.AM
variable [Tok]
variable {P : Program}
section
variable {K : KH} {nt : Nat} {ops : Array Oper} {A : List Nat} {al : List (Nat × Nat)} {base : Nat}
theorem setF_at {α : Type} (i : Nat) (x : α) (p : Nat → α) (j : Nat) : setF i x p j = if j = i then x else p j := by
  show cond' x (p j) (Nat.beq j i) = _
  by_cases e : j = i
  · rw [beq_true.2 e, if_pos e]; rfl
  · have : Nat.beq j i = false := by
      cases hb : Nat.beq j i with
      | false => rfl
      | true => exact absurd (beq_true.1 hb) e
    rw [this, if_neg e]; rfl
theorem dropF_at (a : Nat) (p : Pend) (j : Nat) : dropF a p j = if tb a j = true then .none else p j := by
  show cond' Blk.none (p j) (tb a j) = _
  cases tb a j <;> rfl
theorem setF_comm {α : Type} {i j : Nat} (h : i ≠ j) (x y : α) (p : Nat → α) : setF i x (setF j y p) = setF j y (setF i x p) := by
  funext k
  rw [setF_at, setF_at, setF_at, setF_at]
  by_cases e1 : k = i
  · rw [if_pos e1, if_neg (fun e => h (e1.symm.trans e)), if_pos e1]
  · rw [if_neg e1, if_neg e1]
theorem dropF_setF {a i : Nat} (h : tb a i = false) (x : Blk) (p : Pend) : dropF a (setF i x p) = setF i x (dropF a p) := by
  funext k
  rw [dropF_at, setF_at, setF_at, dropF_at]
  by_cases e1 : k = i
  · rw [if_pos e1, if_pos e1, e1, h]; simp
  · rw [if_neg e1, if_neg e1]
theorem condT_light {i : Nat} {o : Oper} {oc : OpC} (hl : isHeavy oc = false) (hlk : LooksOk o oc) {s s' : St} (hag : Agree o s'.r s.r)
    (hm : ∀ a f, oc = .read a f → ∀ u m1, f (a.get s.r) s.m (fun v => .ok v Mem.zero) = .ok u m1 → ∃ m2, f (a.get s.r) s'.m (fun v => .ok v Mem.zero) = .ok u m2) {x : Out} (h : CondT P K ops A al base i oc s x) :
    CondT P K ops A al base i oc s' x := by
  cases oc with
  | pure f =>
    obtain ⟨⟨m1, h1⟩, h2⟩ := h
    exact ⟨⟨m1, by rw [hlk _ _ hag]; exact h1⟩, h2⟩
  | read a f =>
    obtain ⟨⟨m1, h1⟩, h2, h3, h4⟩ := h
    obtain ⟨m2, h5⟩ := hm a f rfl _ _ h1
    have e : a.get s'.r = a.get s.r := hlk _ _ hag
    exact ⟨⟨m2, by rw [e]; exact h5⟩, h2, by rw [e]; exact h3, h4⟩
  | alloc f =>
    obtain ⟨e, he, ⟨m1, h1, h2⟩, h3⟩ := h
    exact ⟨e, he, ⟨m1, by rw [hlk _ _ hag]; exact h1, h2⟩, h3⟩
  | heavy f => cases hl
  | bad n => cases hl
theorem condT_hm {i : Nat} {oc : OpC} (hl : isHeavy oc = false) {s : St} {x : Out} (h : CondT P K ops A al base i oc s x) : x.hm = none := by
  cases oc with
  | pure f => exact h.2.2.2
  | read a f => exact h.2.2.2
  | alloc f => obtain ⟨e, he, _, _, h4⟩ := h; exact h4
  | heavy f => cases hl
  | bad n => cases hl
theorem cond_hm {i : Nat} {o : Oper} (hl : isHeavy (cOper P o) = false) {s : St} {x : Out} (h : Cond P K ops A al base i o s x) : x.hm = none := by
  rcases h with ⟨_, rfl⟩ | ⟨_, h⟩
  · rfl
  · exact condT_hm hl h
theorem after_comm (hnt : nt ≤ 4096) {x i : Nat} {ox oi : Oper} (hne : x ≠ i) (hap : Apart ops ox oi) (hnx : tb (ancAt A i) x = false) {s : St} {X Y : Out} (hX : X.hm = none) (hYc : Y.hm = none ∨ Y.cb = none) :
    After nt A i oi (After nt A x ox s X) Y = After nt A x ox (After nt A i oi s Y) X := by
  unfold After
  simp only [hX, Option.getD_none, Option.isSome_none, Bool.false_eq_true, if_false]
  congr 1
  · exact dst_comm hnt (fun d hd e => (hap.2 d hd).2 e) Y.u X.u s.r
  · cases X.pb with
    | none => rfl
    | some b =>
      cases Y.pb with
      | some b' => exact setF_comm (Ne.symm hne) b' b s.p
      | none =>
        cases Y.hm with
        | none => rfl
        | some m1 => exact dropF_setF hnx b s.p
  · cases X.cb with
    | none => rfl
    | some b =>
      cases Y.cb with
      | some b' => exact setF_comm (Ne.symm hne) (some b') (some b) s.c
      | none => rfl
theorem flush_keep {mask : Nat} {x : Nat} {b : Blk} (h : tb mask x = false) : ∀ (l : List (Nat × Nat)) (p : Pend) (m : Mem), flushM base mask (setF x b p) l m = flushM base mask p l m
  | [], _, _ => rfl
  | (j, q) :: l, p, m => by
    show cond' (flushM base mask (setF x b p) l (putIf (Nat.add base q) (setF x b p j) m)) (flushM base mask (setF x b p) l m) (tb mask j) = cond' (flushM base mask p l (putIf (Nat.add base q) (p j) m)) (flushM base mask p l m) (tb mask j)
    cases hj : tb mask j with
    | false => exact flush_keep h l p m
    | true =>
      have : setF x b p j = p j := by
        rw [setF_at, if_neg (fun e => by rw [e, h] at hj; cases hj)]
      rw [this]
      exact flush_keep h l p _
theorem exchange (hnt : nt ≤ 4096) {x i : Nat} {ox oi : Oper} (hox : ops[x]? = some ox) (hoi : ops[i]? = some oi) (hne : x ≠ i) (hap : Apart ops ox oi) (hxl : isHeavy (cOper P ox) = false)
    (hnx : tb (ancAt A i) x = false) {s s1 s2 : St} (hcx : s.c x = none) (h1 : Eff P K nt ops A al base x s s1) (h2 : Eff P K nt ops A al base i s1 s2) :
    ∃ s1', Eff P K nt ops A al base i s s1' ∧ Eff P K nt ops A al base x s1' s2 := by
  obtain ⟨ox', hox', X, hX, rfl⟩ := h1
  rw [hox] at hox'; cases hox'
  obtain ⟨oi', hoi', Y, hY, rfl⟩ := h2
  rw [hoi] at hoi'; cases hoi'
  have hXhm := cond_hm hxl hX
  have lkx := cOper_looks (P := P) ox
  have lki := cOper_looks (P := P) oi
  -- what i looks at
  have hagi : Agree oi s.r (After nt A x ox s X).r := fun y hy => (agree_put hnt (fun d hd => (hap.1 d hd).1) X.u s.r y hy).symm
  have hgi : (cGuard ops oi.guard).run (After nt A x ox s X).r = (cGuard ops oi.guard).run s.r := guard_put hnt (fun d hd => (hap.1 d hd).1) X.u s.r
  have hagx : Agree ox (After nt A i oi s Y).r s.r := fun y hy => agree_put hnt (fun d hd => (hap.2 d hd).1) Y.u s.r y hy
  have hgx : (cGuard ops ox.guard).run (After nt A i oi s Y).r = (cGuard ops ox.guard).run s.r := guard_put hnt (fun d hd => (hap.2 d hd).1) Y.u s.r
  have hsm : (After nt A x ox s X).m = s.m := by unfold After; simp only [hXhm, Option.getD_none]
  have hYi : Cond P K ops A al base i oi s Y := by
    rcases hY with ⟨g, e⟩ | ⟨g, hT⟩
    · exact .inl ⟨by rw [← hgi]; exact g, e⟩
    · refine .inr ⟨by rw [← hgi]; exact g, ?_⟩
      cases hil : isHeavy (cOper P oi) with
      | false =>
        refine condT_light hil lki hagi (fun a f he u m1 hr => ⟨m1, ?_⟩) hT
        rw [hsm] at hr; exact hr
      | true =>
        cases hc : cOper P oi with
        | heavy f =>
          rw [hc] at hT lki
          obtain ⟨m1, g1, ⟨u2, m2, g2⟩, g3, g4, g5⟩ := hT
          refine ⟨m1, ?_, ?_, g3, g4, g5⟩
          · rw [hsm] at g1
            rw [lki K _ _ hagi]
            have hfl : flushM base (ancAt A i) (After nt A x ox s X).p al s.m = flushM base (ancAt A i) s.p al s.m := by
              unfold After
              simp only [hXhm, Option.isSome_none, Bool.false_eq_true, if_false]
              cases X.pb with
              | none => rfl
              | some b => exact flush_keep hnx al s.p s.m
            rw [hfl] at g1
            exact g1
          · have hcc : (After nt A x ox s X).c = match X.cb with | some y => setF x (some y) s.c | none => s.c := rfl
            rw [hcc] at g2
            cases hcb : X.cb with
            | none => rw [hcb] at g2; exact ⟨u2, m2, g2⟩
            | some y => rw [hcb] at g2; exact rechecks_less hcx g2
        | bad n => rw [hc] at hT; exact hT.elim
        | _ => rw [hc] at hil; cases hil
  refine ⟨_, ⟨oi, hoi, Y, hYi, rfl⟩, ox, hox, X, ?_, after_comm hnt hne hap hnx hXhm ?_⟩
  · rcases hX with ⟨g, e⟩ | ⟨g, hT⟩
    · exact .inl ⟨by rw [hgx]; exact g, e⟩
    · refine .inr ⟨by rw [hgx]; exact g, ?_⟩
      refine condT_light hxl lkx hagx (fun a f he u m1 hr => ?_) hT
      -- a load: looked at again behind i, where i changed the memory
      cases hYm : Y.hm with
      | none => exact ⟨m1, by show f _ (Y.hm.getD s.m) _ = _; rw [hYm]; exact hr⟩
      | some mm =>
        show ∃ m2, f _ (Y.hm.getD s.m) _ = _
        rw [hYm, Option.getD_some]
        rcases hY with ⟨g', e⟩ | ⟨g', hTi⟩
        · rw [e] at hYm; cases hYm
        · cases hc : cOper P oi with
          | heavy fi =>
            rw [hc] at hTi
            obtain ⟨m1', g1, ⟨u2, m2, g2⟩, g3, g4, g5⟩ := hTi
            rw [hYm] at g5; cases g5
            rw [he] at hT
            obtain ⟨⟨m3, k1⟩, k2, k3, k4⟩ := hT
            have hu : X.u = u := by rw [hr] at k1; cases k1; rfl
            have hcx' : (After nt A x ox s X).c x = some (a.get s.r, u) := by
              show (match X.cb with | some y => setF x (some y) s.c | none => s.c) x = _
              rw [k3, hu]
              exact (setF_at x _ s.c x).trans (if_pos rfl)
            refine rechecks_ok g2 x f (a.get s.r) u ?_ hcx'
            refine readsOf_mem (x := a) ?_ hnx
            rw [← he]
            have hxs : x < ops.size := by
              rcases Nat.lt_or_ge x ops.size with h | h
              · exact h
              · rw [Array.getElem?_eq_none h] at hox; cases hox
            rw [List.mem_zipIdx_iff_getElem?]
            unfold csOf
            rw [List.getElem?_map, Array.getElem?_toList, hox]; rfl
          | bad n => rw [hc] at hTi; exact hTi.elim
          | pure f' => rw [hc] at hTi; rw [hTi.2.2.2] at hYm; cases hYm
          | read a' f' => rw [hc] at hTi; rw [hTi.2.2.2] at hYm; cases hYm
          | alloc f' => rw [hc] at hTi; obtain ⟨_, _, _, _, h4⟩ := hTi; rw [h4] at hYm; cases hYm
  · rcases hY with ⟨_, e⟩ | ⟨_, hT⟩
    · left; rw [e]
    · cases hc : cOper P oi with
      | heavy f => rw [hc] at hT; obtain ⟨m1, _, _, _, h4, _⟩ := hT; exact .inr h4
      | bad n => rw [hc] at hT; exact hT.elim
      | pure f' => rw [hc] at hT; exact .inl hT.2.2.2
      | read a' f' => rw [hc] at hT; exact .inl hT.2.2.2
      | alloc f' => rw [hc] at hT; obtain ⟨_, _, _, _, h4⟩ := hT; exact .inl h4
end
end Go.AM

namespace Go.AM
variable [Tok]
variable {P : Program}
section
variable {al : List (Nat × Nat)} {base : Nat}
theorem putIf_eq (id : Nat) (x : Blk) (m : Mem) : putIf id x m = if x.live = true then m.put id x else m := by cases x <;> rfl
theorem putIf_next (id : Nat) (x : Blk) (m : Mem) : (putIf id x m).next = m.next := by rw [putIf_eq]; split <;> rfl
theorem putAll_next (p : Pend) : ∀ (l : List (Nat × Nat)) (m : Mem), (putAll base p l m).next = m.next
  | [], _ => rfl
  | (j, q) :: l, m => by
    show (putAll base p l _).next = _
    rw [putAll_next p l, putIf_next]
theorem alOk_head {na j q : Nat} {l : List (Nat × Nat)} (h : alOk na ((j, q) :: l) = true) : q < na ∧ (∀ e, e ∈ l → j ≠ e.1 ∧ q ≠ e.2) ∧ alOk na l = true := by
  simp only [alOk, Bool.and_eq_true, List.all_eq_true] at h
  obtain ⟨⟨h1, h2⟩, h3⟩ := h
  rw [Nat.blt_eq] at h1
  refine ⟨h1, fun e he => ?_, h3⟩
  have h4 := h2 e he
  constructor
  · intro e1
    rw [beq_true.2 e1] at h4; simp at h4
  · intro e1
    rw [beq_true.2 e1] at h4; simp at h4
theorem alOk_lt {na : Nat} : ∀ {l : List (Nat × Nat)}, alOk na l = true → ∀ e, e ∈ l → e.2 < na
  | (j, q) :: l, h, e, he => by
    obtain ⟨h1, h2, h3⟩ := alOk_head h
    cases he with
    | head => exact h1
    | tail _ he => exact alOk_lt h3 e he
theorem putAll_miss (p : Pend) : ∀ {l : List (Nat × Nat)} {m : Mem} {id : Nat}, id < 65536 → (∀ e, e ∈ l → base + e.2 < 65536) → (∀ e, e ∈ l → (p e.1).live = true → id ≠ base + e.2) → (putAll base p l m).get id = m.get id
  | [], m, id, _, _, _ => rfl
  | (j, q) :: l, m, id, hid, hb, h => by
    show (putAll base p l (putIf (base + q) (p j) m)).get id = _
    rw [putAll_miss p hid (fun e he => hb e (List.mem_cons_of_mem _ he)) (fun e he => h e (List.mem_cons_of_mem _ he)), putIf_eq]
    split
    · rename_i hl
      rw [Mem.get_put _ _ _ _ (hb (j, q) (List.mem_cons_self ..)) hid, if_neg (h (j, q) (List.mem_cons_self ..) hl)]
    · rfl
theorem putAll_hit (p : Pend) {na : Nat} {l : List (Nat × Nat)} {m : Mem} {e : Nat × Nat} (ha : alOk na l = true) (hb : ∀ e, e ∈ l → base + e.2 < 65536) (he : e ∈ l) (hl : (p e.1).live = true) :
    (putAll base p l m).get (base + e.2) = p e.1 := by
  induction l generalizing m with
  | nil => cases he
  | cons y l ih =>
    obtain ⟨j, q⟩ := y
    obtain ⟨h1, h2, h3⟩ := alOk_head ha
    have hbq : base + q < 65536 := hb (j, q) (List.mem_cons_self ..)
    have hstep : putAll base p ((j, q) :: l) m = putAll base p l (putIf (base + q) (p j) m) := rfl
    rw [hstep]
    rcases List.mem_cons.1 he with h4 | h4
    · subst h4
      rw [putAll_miss p hbq (fun e he => hb e (List.mem_cons_of_mem _ he)) (fun e he _ => by have := (h2 e he).2; omega), putIf_eq, if_pos hl, Mem.get_put _ _ _ _ hbq hbq, if_pos rfl]
    · exact ih h3 (fun e he => hb e (List.mem_cons_of_mem _ he)) h4
theorem al_inj1 {na : Nat} {l : List (Nat × Nat)} {e e' : Nat × Nat} (h : alOk na l = true) (h1 : e ∈ l) (h2 : e' ∈ l) (hj : e.1 = e'.1) : e = e' := by
  induction l with
  | nil => cases h1
  | cons y l ih =>
    obtain ⟨j, q⟩ := y
    obtain ⟨g1, g2, g3⟩ := alOk_head h
    rcases List.mem_cons.1 h1 with h4 | h4
    · rcases List.mem_cons.1 h2 with h5 | h5
      · rw [h4, h5]
      · subst h4; exact absurd hj (g2 e' h5).1
    · rcases List.mem_cons.1 h2 with h5 | h5
      · subst h5; exact absurd hj.symm (g2 e h4).1
      · exact ih g3 h4 h5
theorem al_inj2 {na : Nat} {l : List (Nat × Nat)} {e e' : Nat × Nat} (h : alOk na l = true) (h1 : e ∈ l) (h2 : e' ∈ l) (hj : e.2 = e'.2) : e = e' := by
  induction l with
  | nil => cases h1
  | cons y l ih =>
    obtain ⟨j, q⟩ := y
    obtain ⟨g1, g2, g3⟩ := alOk_head h
    rcases List.mem_cons.1 h1 with h4 | h4
    · rcases List.mem_cons.1 h2 with h5 | h5
      · rw [h4, h5]
      · subst h4; exact absurd hj (g2 e' h5).2
    · rcases List.mem_cons.1 h2 with h5 | h5
      · subst h5; exact absurd hj.symm (g2 e h4).2
      · exact ih g3 h4 h5
def keepF (mask : Nat) (p : Pend) : Pend := fun j => if tb mask j = true then p j else .none
theorem flush_eq (mask : Nat) (p : Pend) : ∀ (l : List (Nat × Nat)) (m : Mem), flushM base mask p l m = putAll base (keepF mask p) l m
  | [], _ => rfl
  | (j, q) :: l, m => by
    show cond' (flushM base mask p l (putIf (base + q) (p j) m)) (flushM base mask p l m) (tb mask j) = putAll base (keepF mask p) l (putIf (base + q) (keepF mask p j) m)
    unfold keepF
    cases hj : tb mask j with
    | false =>
      rw [if_neg (by simp)]
      exact flush_eq mask p l m
    | true =>
      rw [if_pos rfl]
      exact flush_eq mask p l _
end
/-- the state of a region half done: L stands out -/
structure Inv (P : Program) (nt : Nat) (al : List (Nat × Nat)) (φ0 : Phi) (m0 : Mem) (w0 : World) (s : St) (L : List Nat) (φ : Phi) (a : Act) (w : World) : Prop where
  step : Step P φ0 m0 w0 φ (putAll m0.next s.p al s.m) w
  regs : RRel φ nt s.r a
  room : m0.next + al.length ≤ s.m.next
  held : ∀ e, e ∈ al → (s.p e.1).live = true → s.m.get (m0.next + e.2) = .none
  free : ∀ e, e ∈ al → e.1 ∈ L → φ (m0.next + e.2) = none ∧ s.m.get (m0.next + e.2) = .none ∧ s.p e.1 = .none
  chk : ∀ j, j ∈ L → s.c j = none
section
variable {K : KH} (hK : KSound P K) {nt : Nat} {ops : Array Oper} {A : List Nat} {al : List (Nat × Nat)} {φ0 : Phi} {m0 : Mem} {w0 : World} (hal : alOk al.length al = true) (hg : ops.toList.all (gOper P.globals.size) = true)
include hK hal hg
theorem exec_ok {i : Nat} {o : Oper} (ho : ops[i]? = some o) {s s1 : St} {L L' : List Nat} (hL : ∀ j, j ∈ L' → j ∈ L ∧ j ≠ i) (hi : i ∈ L) {φ : Phi} {a : Act} {w : World} (I : Inv P nt al φ0 m0 w0 s L φ a w)
    (hE : Eff P K nt ops A al m0.next i s s1) {next : Act → World → Prop} {Q : Exit → Act → World → Prop} (hn : ∀ φ' a' w', Inv P nt al φ0 m0 w0 s1 L' φ' a' w' → next a' w') : wpOp P ops Q i next a w := by
  obtain ⟨o', ho', x, hC, rfl⟩ := hE
  rw [ho] at ho'; cases ho'
  have hgo : gOper P.globals.size o = true := List.all_eq_true.1 hg o (Array.mem_toList_iff.2 (Array.mem_of_getElem? ho))
  have R := I.step.rel
  have hVn : (putAll m0.next s.p al s.m).next = s.m.next := putAll_next s.p al s.m
  have hb := R.bound
  rw [hVn] at hb
  have hid : ∀ e, e ∈ al → m0.next + e.2 < s.m.next := fun e he => by
    have h1 := I.room
    have h2 := alOk_lt hal e he
    omega
  have hid2 : ∀ e, e ∈ al → m0.next + e.2 < 65536 := fun e he => Nat.lt_of_lt_of_le (hid e he) hb
  have getV : ∀ p, p < 65536 → (putAll m0.next s.p al s.m).get p = s.m.get p ∨ s.m.get p = .none := by
    intro p hp
    by_cases h : ∀ e, e ∈ al → (s.p e.1).live = true → p ≠ m0.next + e.2
    · exact .inl (putAll_miss s.p hp hid2 h)
    · simp only [Classical.not_forall, Decidable.not_not] at h
      obtain ⟨e, he, hl, rfl⟩ := h
      exact .inr (I.held e he hl)
  have Rm : Rel P φ s.m w := R.weaken hVn.symm (fun p hp => by rcases getV p hp with h | h; exact .inl h.symm; exact .inr h)
  have hops := ops_rel R I.regs hgo
  -- nothing but a register is written
  have plain : ∀ u c, VRel φ u c → (x = ⟨u, none, none, none⟩ ∨ ∃ y, x = ⟨u, none, some y, none⟩) → Inv P nt al φ0 m0 w0 (After nt A i o s x) L' φ (a.put o.dst c) w := by
    intro u c hv hx
    have hr : (After nt A i o s x).r = (cDst nt o.dst).run u s.r := by rcases hx with rfl | ⟨y, rfl⟩ <;> rfl
    have hm : (After nt A i o s x).m = s.m := by rcases hx with rfl | ⟨y, rfl⟩ <;> rfl
    have hp : (After nt A i o s x).p = s.p := by rcases hx with rfl | ⟨y, rfl⟩ <;> rfl
    have hc : ∀ j, j ≠ i → (After nt A i o s x).c j = s.c j := by
      intro j hj
      rcases hx with rfl | ⟨y, rfl⟩
      · rfl
      · exact (setF_at i (some y) s.c j).trans (if_neg hj)
    refine ⟨by rw [hm, hp]; exact I.step, by rw [hr]; exact I.regs.put hv o.dst, by rw [hm]; exact I.room, by rw [hm, hp]; exact I.held, ?_, ?_⟩
    · intro e he hj
      rw [hm, hp]; exact I.free e he (hL _ hj).1
    · intro j hj
      rw [hc j (hL j hj).2]; exact I.chk j (hL j hj).1
  have wanted : ∀ b, (∀ k', (cGuard ops o.guard).run s.r k' = k' b) → Region.wanted o (yielded ops a.tmps) = b := by
    intro b hb
    have h1 := guard_ok (ops := ops) (o := o) (k := fun t => .ok (.bool t) Mem.zero) (hb _) I.regs
    cases h1; rfl
  unfold wpOp
  rw [ho]
  simp only
  rcases hC with ⟨g, rfl⟩ | ⟨g, hT⟩
  · rw [if_neg (by rw [wanted false g]; simp)]
    exact hn φ _ w (plain undefA undef (undef_rel φ) (.inl rfl))
  · rw [if_pos (wanted true g)]
    left
    have hok := cOper_ok (P := P) o
    cases hc : cOper P o with
    | bad n => rw [hc] at hT; exact hT.elim
    | pure f =>
      rw [hc] at hT hok
      obtain ⟨⟨m1, h1⟩, h2, h3, h4⟩ := hT
      obtain ⟨u, h5, h6⟩ := hok s.r _ _ _ h1
      cases h5
      obtain ⟨c, hv, hrun⟩ := h6 φ _ w a R hops
      refine wp_val hrun (hn φ _ w (plain x.u c hv (.inl ?_)))
      cases x; simp only at h2 h3 h4; subst h2 h3 h4; rfl
    | read xa f =>
      rw [hc] at hT hok
      obtain ⟨⟨m1, h1⟩, h2, h3, h4⟩ := hT
      obtain ⟨ad, hop, rfl, hf⟩ := hok
      obtain ⟨u, h5, h6⟩ := hf _ _ _ _ _ h1
      cases h5
      obtain ⟨c, hv, hrun⟩ := h6 φ w a Rm (hops ad (by rw [hop]; simp))
      refine wp_val hrun (hn φ _ w (plain x.u c hv (.inr ⟨((opd ad).get s.r, x.u), ?_⟩)))
      cases x; simp only at h2 h3 h4; subst h2 h3 h4; rfl
    | alloc f =>
      rw [hc] at hT hok
      obtain ⟨e, he, ⟨m1, h1, h2⟩, h3, h4⟩ := hT
      have hmem := List.mem_of_find?_eq_some he
      have hei : e.1 = i := beq_true.1 (by have := List.find?_some he; exact this)
      have hadd : Nat.add m0.next e.2 = m0.next + e.2 := rfl
      rw [hadd] at h1 h2
      obtain ⟨u, b, h5, hbl, h6⟩ := hok s.r _ _ _ _ h1
      cases h5
      have hgb : (Mem.zero.put (m0.next + e.2) b).get (m0.next + e.2) = b := by
        rw [Mem.get_put _ _ _ _ (hid2 e hmem) (hid2 e hmem), if_pos rfl]
      rw [hgb] at h2
      obtain ⟨c, ob, sz, hrun, hrel⟩ := h6 φ _ w a R hops
      obtain ⟨hf1, hf2, hf3⟩ := I.free e hmem (by rw [hei]; exact hi)
      have ext : Ext' φ (fun q => if q = m0.next + e.2 then some (w.heap.size, 0, sz) else φ q) := by
        intro q y hq
        show (if q = _ then _ else _) = _
        rw [if_neg (fun e' => by rw [e', hf1] at hq; cases hq)]; exact hq
      obtain ⟨hv, hB⟩ := hrel _ ext (by simp)
      have hx : x = ⟨x.u, some b, none, none⟩ := by cases x; simp only at h2 h3 h4; subst h2 h3 h4; rfl
      have hAp : (After nt A i o s x).p = setF i b s.p := by rw [hx]; rfl
      have hAm : (After nt A i o s x).m = s.m := by rw [hx]; rfl
      have hAr : (After nt A i o s x).r = (cDst nt o.dst).run x.u s.r := rfl
      have hAc : (After nt A i o s x).c = s.c := by rw [hx]; rfl
      have hst := Step.allocAt (V' := putAll m0.next (setF i b s.p) al s.m) (w' := w.alloc ob) I.step (Nat.le_add_right _ _) (by rw [hVn]; exact hid e hmem) hf1 rfl rfl rfl rfl hB (by rw [putAll_next, putAll_next]) (by
        intro p hp
        by_cases hpe : p = m0.next + e.2
        · rw [if_pos hpe, hpe]
          have h7 : setF i b s.p e.1 = b := by rw [setF_at, if_pos hei]
          rw [putAll_hit _ hal hid2 hmem (by rw [h7]; exact hbl), h7]
        · rw [if_neg hpe]
          by_cases h : ∃ e', e' ∈ al ∧ (s.p e'.1).live = true ∧ p = m0.next + e'.2
          · obtain ⟨e', he', hl', rfl⟩ := h
            have hne : e'.1 ≠ i := fun e1 => by
              have := (I.free e' he' (by rw [e1]; exact hi)).2.2
              rw [this] at hl'; cases hl'
            have h7 : setF i b s.p e'.1 = s.p e'.1 := by rw [setF_at, if_neg hne]
            rw [putAll_hit _ hal hid2 he' (by rw [h7]; exact hl'), putAll_hit _ hal hid2 he' hl', h7]
          · rw [putAll_miss _ hp hid2, putAll_miss _ hp hid2]
            · intro e' he' hl' e1; exact h ⟨e', he', hl', e1⟩
            · intro e' he' hl' e1
              rw [setF_at] at hl'
              by_cases h8 : e'.1 = i
              · -- the same operation: the same name
                have hq : e' = e := by
                  exact al_inj1 hal he' hmem (h8.trans hei.symm)
                rw [hq] at e1; exact hpe e1
              · rw [if_neg h8] at hl'; exact h ⟨e', he', hl', e1⟩)
      refine wp_val hrun (hn _ _ _ ⟨by rw [hAm, hAp]; exact hst, by rw [hAr]; exact (I.regs.mono ext).put hv o.dst, by rw [hAm]; exact I.room, ?_, ?_, ?_⟩)
      · intro e' he' hl'
        rw [hAp, setF_at] at hl'
        rw [hAm]
        by_cases h8 : e'.1 = i
        · exact (I.free e' he' (by rw [h8]; exact hi)).2.1
        · rw [if_neg h8] at hl'; exact I.held e' he' hl'
      · intro e' he' hj
        obtain ⟨hj1, hj2⟩ := hL _ hj
        obtain ⟨q1, q2, q3⟩ := I.free e' he' hj1
        rw [hAm, hAp, setF_at, if_neg hj2]
        refine ⟨?_, q2, q3⟩
        show (if _ = _ then _ else _) = _
        rw [if_neg, q1]
        intro e1
        have hqq : e'.2 = e.2 := by omega
        have := al_inj2 hal he' hmem hqq
        rw [this] at hj2; exact hj2 hei
      · intro j hj
        rw [hAc]; exact I.chk j (hL j hj).1
    | heavy f =>
      rw [hc] at hT hok
      obtain ⟨m1, h1, ⟨u2, m2, h2⟩, h3, h4, h5⟩ := hT
      rw [flush_eq] at h1
      obtain ⟨u, m', h6, h7⟩ := hok K hK s.r _ _ _ _ h1
      cases h6
      have hx : x = ⟨x.u, none, none, some m1⟩ := by cases x; simp only at h3 h4 h5; subst h3 h4 h5; rfl
      have hAp : (After nt A i o s x).p = dropF (ancAt A i) s.p := by rw [hx]; rfl
      have hAm : (After nt A i o s x).m = m1 := by rw [hx]; rfl
      have hAr : (After nt A i o s x).r = (cDst nt o.dst).run x.u s.r := rfl
      have hAc : (After nt A i o s x).c = s.c := by rw [hx]; rfl
      have hFn : (putAll m0.next (keepF (ancAt A i) s.p) al s.m).next = s.m.next := putAll_next _ _ _
      have keepLive : ∀ j, (keepF (ancAt A i) s.p j).live = true → (s.p j).live = true ∧ tb (ancAt A i) j = true := by
        intro j hl
        unfold keepF at hl
        split at hl
        · exact ⟨hl, ‹_›⟩
        · cases hl
      have getF : ∀ p, p < 65536 → (putAll m0.next (keepF (ancAt A i) s.p) al s.m).get p = (putAll m0.next s.p al s.m).get p ∨ (putAll m0.next (keepF (ancAt A i) s.p) al s.m).get p = .none := by
        intro p hp
        by_cases h : ∃ e, e ∈ al ∧ (s.p e.1).live = true ∧ p = m0.next + e.2
        · obtain ⟨e, he, hl, rfl⟩ := h
          by_cases ht : tb (ancAt A i) e.1 = true
          · left
            have hk : keepF (ancAt A i) s.p e.1 = s.p e.1 := if_pos ht
            rw [putAll_hit _ hal hid2 he (by rw [hk]; exact hl), putAll_hit _ hal hid2 he hl, hk]
          · right
            rw [putAll_miss _ hp hid2, I.held e he hl]
            intro e' he' hl' e1
            obtain ⟨g1, g2⟩ := keepLive _ hl'
            have hqq : e.2 = e'.2 := by omega
            have := al_inj2 hal he' he hqq.symm
            rw [this] at g2; exact ht g2
        · left
          rw [putAll_miss _ hp hid2, putAll_miss _ hp hid2]
          · intro e he hl e1; exact h ⟨e, he, hl, e1⟩
          · intro e he hl e1; exact h ⟨e, he, (keepLive _ hl).1, e1⟩
      have RF : Rel P φ (putAll m0.next (keepF (ancAt A i) s.p) al s.m) w := R.weaken (by rw [hFn, hVn]) getF
      refine h7 φ w a RF hops next Q fun φ' c w' hst hv => ?_
      have hMn := hst.next
      rw [hFn] at hMn
      have hMb := hst.rel.bound
      -- a name that the step did not see
      have unseen : ∀ e, e ∈ al → (s.m.get (m0.next + e.2) = .none) → tb (ancAt A i) e.1 = false ∨ (s.p e.1).live = false → m1.get (m0.next + e.2) = .none ∧ (putAll m0.next (keepF (ancAt A i) s.p) al s.m).get (m0.next + e.2) = .none := by
        intro e he hnone ht
        have hF0 : (putAll m0.next (keepF (ancAt A i) s.p) al s.m).get (m0.next + e.2) = .none := by
          rw [putAll_miss _ (hid2 e he) hid2, hnone]
          intro e' he' hl' e1
          obtain ⟨g1, g2⟩ := keepLive _ hl'
          have hqq : e.2 = e'.2 := by omega
          have := al_inj2 hal he' he hqq.symm
          rw [this] at g1 g2
          rcases ht with ht | ht
          · rw [ht] at g2; cases g2
          · rw [ht] at g1; cases g1
        refine ⟨?_, hF0⟩
        cases hl : (m1.get (m0.next + e.2)).live with
        | false => exact Blk.dead hl
        | true =>
          have := hst.live _ (by rw [hFn]; exact hid e he) hl
          rw [hF0] at this; cases this
      have dropLive : ∀ j, (dropF (ancAt A i) s.p j).live = true → (s.p j).live = true ∧ tb (ancAt A i) j = false := by
        intro j hl
        rw [dropF_at] at hl
        by_cases ht : tb (ancAt A i) j = true
        · rw [if_pos ht] at hl; cases hl
        · rw [if_neg ht] at hl
          exact ⟨hl, by simpa using ht⟩
      have hfr : Step P φ (putAll m0.next s.p al s.m) w φ' (putAll m0.next (dropF (ancAt A i) s.p) al m1) w' := by
        refine Step.framed R (by rw [hFn, hVn]) getF hst (putAll_next _ _ _) fun p hp => ⟨?_, ?_⟩
        · rintro ⟨g1, g2, g3⟩
          by_cases h : ∃ e, e ∈ al ∧ (s.p e.1).live = true ∧ p = m0.next + e.2
          · obtain ⟨e, he, hl, rfl⟩ := h
            have ht : tb (ancAt A i) e.1 = false := by
              cases ht : tb (ancAt A i) e.1 with
              | false => rfl
              | true =>
                have hk : keepF (ancAt A i) s.p e.1 = s.p e.1 := if_pos ht
                rw [putAll_hit _ hal hid2 he (by rw [hk]; exact hl), hk] at g2
                rw [g2] at hl; cases hl
            have hd : dropF (ancAt A i) s.p e.1 = s.p e.1 := by rw [dropF_at, if_neg (by rw [ht]; simp)]
            rw [putAll_hit _ hal hid2 he (by rw [hd]; exact hl), putAll_hit _ hal hid2 he hl, hd]
          · have h8 : (putAll m0.next s.p al s.m).get p = s.m.get p := putAll_miss _ hp hid2 fun e he hl e1 => h ⟨e, he, hl, e1⟩
            have h9 : (putAll m0.next (keepF (ancAt A i) s.p) al s.m).get p = s.m.get p := putAll_miss _ hp hid2 fun e he hl e1 => h ⟨e, he, (keepLive _ hl).1, e1⟩
            rw [h9] at g2
            rw [h8, g2] at g3; cases g3
        · intro hno
          refine putAll_miss _ hp hid2 fun e he hl e1 => ?_
          obtain ⟨g1, g2⟩ := dropLive _ hl
          subst e1
          obtain ⟨_, g3⟩ := unseen e he (I.held e he g1) (.inl g2)
          exact hno ⟨by rw [hVn]; exact hid e he, g3, by rw [putAll_hit _ hal hid2 he g1]; exact g1⟩
      refine hn φ' _ w' ⟨by rw [hAm, hAp]; exact I.step.trans hfr, by rw [hAr]; exact (I.regs.mono hst.ext).put hv o.dst, by rw [hAm]; exact Nat.le_trans I.room hMn, ?_, ?_, ?_⟩
      · intro e he hl
        rw [hAp] at hl
        obtain ⟨g1, g2⟩ := dropLive _ hl
        rw [hAm]; exact (unseen e he (I.held e he g1) (.inl g2)).1
      · intro e he hj
        obtain ⟨hj1, hj2⟩ := hL _ hj
        obtain ⟨q1, q2, q3⟩ := I.free e he hj1
        refine ⟨?_, ?_, ?_⟩
        · cases hq : φ' (m0.next + e.2) with
          | none => rfl
          | some y =>
            rcases hst.fresh _ _ hq with h8 | h8
            · rw [q1] at h8; cases h8
            · rw [hFn] at h8; have := hid e he; omega
        · rw [hAm]; exact (unseen e he q2 (.inr (by rw [q3]; rfl))).1
        · rw [hAp, dropF_at, q3]; split <;> rfl
      · intro j hj
        rw [hAc]; exact I.chk j (hL j hj).1
end
end Go.AM

namespace Go.AM
variable [Tok]
variable {P : Program}
section
variable {K : KH} {nt : Nat} {ops : Array Oper} {A H : List Nat} {al : List (Nat × Nat)} {base : Nat}
theorem eff_chk {x : Nat} {s s' : St} (h : Eff P K nt ops A al base x s s') : ∀ y, y ≠ x → s'.c y = s.c y := by
  obtain ⟨o, ho, X, hX, rfl⟩ := h
  intro y hy
  unfold After
  simp only
  cases X.cb with
  | none => rfl
  | some b => exact (setF_at x (some b) s.c y).trans (if_neg hy)
theorem ord_split : ∀ {L1 : List Nat} {i : Nat} {L2 : List Nat}, ordOk A H (L1 ++ i :: L2) = true →
    (∀ x, x ∈ L1 → x ≠ i ∧ tb (ancAt A x) i = false ∧ (x ∈ H → tb (ancAt A i) x = true)) ∧ (∀ x, x ∈ L2 → i ≠ x ∧ tb (ancAt A i) x = false) ∧ ordOk A H (L1 ++ L2) = true := by
  have pair : ∀ {j : Nat} {l : List Nat}, ordOk A H (j :: l) = true → (∀ k, k ∈ l → j ≠ k ∧ tb (ancAt A j) k = false ∧ (j ∈ H → tb (ancAt A k) j = true)) ∧ ordOk A H l = true := by
    intro j l h
    simp only [ordOk, Bool.and_eq_true, List.all_eq_true] at h
    refine ⟨fun k hk => ?_, h.2⟩
    obtain ⟨⟨h1, h2⟩, h3⟩ := h.1 k hk
    refine ⟨fun e => ?_, by simpa using h2, fun hH => ?_⟩
    · rw [beq_true.2 e] at h1; simp at h1
    · have : H.contains j = true := List.contains_iff_mem.2 hH
      rw [this] at h3; simpa using h3
  intro L1
  induction L1 with
  | nil =>
    intro i L2 h
    obtain ⟨h1, h2⟩ := pair h
    exact ⟨fun x hx => (by cases hx), fun x hx => ⟨(h1 x hx).1, (h1 x hx).2.1⟩, h2⟩
  | cons y L1 ih =>
    intro i L2 h
    obtain ⟨h1, h2⟩ := pair h
    obtain ⟨h3, h4, h5⟩ := ih h2
    refine ⟨fun x hx => ?_, h4, ?_⟩
    · rcases List.mem_cons.1 hx with rfl | hx
      · exact h1 i (by simp)
      · exact h3 x hx
    · have h6 : ∀ k, k ∈ L1 ++ L2 → k ∈ L1 ++ i :: L2 := fun k hk => by
        rcases List.mem_append.1 hk with hk | hk
        · exact List.mem_append_left _ hk
        · exact List.mem_append_right _ (List.mem_cons_of_mem _ hk)
      have h7 : ordOk A H (y :: (L1 ++ i :: L2)) = true := h
      simp only [ordOk, Bool.and_eq_true, List.all_eq_true] at h7
      show ordOk A H (y :: (L1 ++ L2)) = true
      simp only [ordOk, Bool.and_eq_true, List.all_eq_true]
      exact ⟨fun k hk => h7.1 k (h6 k hk), h5⟩
theorem bubble (hnt : nt ≤ 4096) {i : Nat} {oi : Oper} (hoi : ops[i]? = some oi) {L2 : List Nat} {sf : St} : ∀ {L1 : List Nat} {s : St}, Runs P K nt ops A al base (L1 ++ i :: L2) s sf →
    (∀ x, x ∈ L1 → x ≠ i ∧ tb (ancAt A i) x = false ∧ ∃ ox, ops[x]? = some ox ∧ Apart ops ox oi ∧ isHeavy (cOper P ox) = false) → (∀ x, x ∈ L1 → s.c x = none) → L1.Nodup →
    ∃ s1, Eff P K nt ops A al base i s s1 ∧ Runs P K nt ops A al base (L1 ++ L2) s1 sf
  | [], s, h, _, _, _ => h
  | x :: L1, s, h, hx, hc, hnd => by
    obtain ⟨s', h1, h2⟩ := h
    rw [List.nodup_cons] at hnd
    obtain ⟨s1, h3, h4⟩ := bubble hnt hoi h2 (fun y hy => hx y (List.mem_cons_of_mem _ hy)) (fun y hy => by
      rw [eff_chk h1 y (fun e => hnd.1 (by rw [← e]; exact hy))]
      exact hc y (List.mem_cons_of_mem _ hy)) hnd.2
    obtain ⟨g1, g2, ox, g3, g4, g5⟩ := hx x (List.mem_cons_self ..)
    obtain ⟨s1', h5, h6⟩ := exchange hnt g3 hoi g1 g4 g5 g2 (hc x (List.mem_cons_self ..)) h1 h3
    exact ⟨s1', h5, s1, h6, h4⟩
theorem ord_nodup : ∀ {L : List Nat}, ordOk A H L = true → L.Nodup
  | [], _ => List.nodup_nil
  | j :: l, h => by
    obtain ⟨_, h1, h2⟩ := ord_split (L1 := []) (i := j) (L2 := l) h
    exact List.nodup_cons.2 ⟨fun hj => (h1 j hj).1 rfl, ord_nodup h2⟩
/- ### what comes ahead -/
theorem fold_anc : ∀ (l : List Edge) (s y : Nat), tb (l.foldl (fun s e => cond' (Nat.lor (Nat.lor s (bit e.on)) ((A[e.on]?).getD 0)) s (Region.binds .any e)) s) y = true ↔
    (tb s y = true ∨ ∃ e, e ∈ l ∧ Region.binds .any e = true ∧ (y = e.on ∨ tb (ancAt A e.on) y = true))
  | [], s, y => by simp
  | e :: l, s, y => by
    rw [List.foldl_cons, fold_anc l]
    cases hb : Region.binds .any e with
    | false =>
      show tb s y = true ∨ _ ↔ _
      constructor
      · rintro (h | ⟨e', h1, h2⟩)
        · exact .inl h
        · exact .inr ⟨e', List.mem_cons_of_mem _ h1, h2⟩
      · rintro (h | ⟨e', h1, h2, h3⟩)
        · exact .inl h
        · rcases List.mem_cons.1 h1 with rfl | h1
          · rw [hb] at h2; cases h2
          · exact .inr ⟨e', h1, h2, h3⟩
    | true =>
      show tb (Nat.lor (Nat.lor s (bit e.on)) (ancAt A e.on)) y = true ∨ _ ↔ _
      rw [tb_lor, tb_lor]
      simp only [Bool.or_eq_true, tb_bit]
      constructor
      · rintro (((h | h) | h) | ⟨e', h1, h2⟩)
        · exact .inl h
        · exact .inr ⟨e, List.mem_cons_self .., hb, .inl h.symm⟩
        · exact .inr ⟨e, List.mem_cons_self .., hb, .inr h⟩
        · exact .inr ⟨e', List.mem_cons_of_mem _ h1, h2⟩
      · rintro (h | ⟨e', h1, h2, h3⟩)
        · exact .inl (.inl (.inl h))
        · rcases List.mem_cons.1 h1 with rfl | h1
          · rcases h3 with h3 | h3
            · exact .inl (.inl (.inr h3.symm))
            · exact .inl (.inr h3)
          · exact .inr ⟨e', h1, h2, h3⟩
theorem anc_iff (o : Oper) (y : Nat) : tb (ancOf A o) y = true ↔ ∃ e, e ∈ o.after.toList ∧ Region.binds .any e = true ∧ (y = e.on ∨ tb (ancAt A e.on) y = true) := by
  unfold ancOf
  rw [fold_anc]
  have h0 : tb 0 y = false := by rw [tb_eq]; simp
  rw [h0]; simp
structure Lin (ops : Array Oper) (A : List Nat) : Prop where
  back : ∀ i o, ops[i]? = some o → ∀ e, e ∈ o.after.toList → Region.binds .any e = true → e.on < i
  anc : ∀ i o, ops[i]? = some o → ancAt A i = ancOf A o
  apart : ∀ i j oi oj, ops[i]? = some oi → ops[j]? = some oj → j < i → Apart ops oj oi ∨ tb (ancAt A i) j = true
theorem lin_ok (h : linOk ops A (ops.toList.map fun o => (looksBits ops o, dstBits o)) = true) : Lin ops A := by
  unfold linOk at h
  rw [List.all_eq_true] at h
  have at_ : ∀ {i : Nat} {o : Oper}, ops[i]? = some o → (o, i) ∈ ops.toList.zipIdx := fun {i o} ho => by
    rw [List.mem_zipIdx_iff_getElem?, Array.getElem?_toList]; exact ho
  refine ⟨fun i o ho e he hb => ?_, fun i o ho => ?_, fun i j oi oj hi hj hlt => ?_⟩
  · have h1 := h (o, i) (at_ ho)
    simp only [Bool.and_eq_true, List.all_eq_true] at h1
    have h2 := h1.1.1 e he
    rw [hb] at h2
    simp only [Bool.not_true, Bool.false_or] at h2
    rw [Nat.blt_eq] at h2; exact h2
  · have h1 := h (o, i) (at_ ho)
    simp only [Bool.and_eq_true] at h1
    exact beq_true.1 h1.1.2
  · have h1 := h (oi, i) (at_ hi)
    simp only [Bool.and_eq_true, List.all_eq_true] at h1
    have h2 := h1.2 ((looksBits ops oj, dstBits oj), j) (by
      rw [List.mem_zipIdx_iff_getElem?, List.getElem?_map, Array.getElem?_toList, hj]; rfl)
    have h3 : ((ops.toList.map fun o => (looksBits ops o, dstBits o))[i]?).getD (0, 0) = (looksBits ops oi, dstBits oi) := by
      rw [List.getElem?_map, Array.getElem?_toList, hi]; rfl
    simp only [h3] at h2
    have h4 : Nat.blt j i = true := by rw [Nat.blt_eq]; exact hlt
    rw [h4] at h2
    simp only [Bool.not_true, Bool.false_or, Bool.or_eq_true, Bool.not_eq_true'] at h2
    rcases h2 with h2 | h2
    · exact .inl (clash_apart h2)
    · exact .inr h2
/- ### every order -/
structure Left (ops : Array Oper) (A : List Nat) (L : List Nat) (listed : Array Bool) : Prop where
  out : ∀ j, j ∈ L → listed[j]? = some false
  done : ∀ j, j < ops.size → j ∉ L → listed[j]? = some true
  lt : ∀ j, j ∈ L → j < ops.size
  down : ∀ j, j < ops.size → j ∉ L → ∀ y, tb (ancAt A j) y = true → y ∉ L
theorem ready_iff {listed : Array Bool} {i : Nat} : i ∈ Region.ready .any ops listed ↔ i < ops.size ∧ listed.getD i true = false ∧ ∃ o, ops[i]? = some o ∧ ∀ e, e ∈ o.after.toList → Region.binds .any e = true → listed.getD e.on false = true := by
  unfold Region.ready
  rw [List.mem_filter, List.mem_range]
  constructor
  · rintro ⟨h1, h2⟩
    rw [Bool.and_eq_true] at h2
    refine ⟨h1, by simpa using h2.1, ?_⟩
    cases ho : ops[i]? with
    | none => rw [ho] at h2; simp at h2
    | some o =>
      refine ⟨o, rfl, fun e he hb => ?_⟩
      rw [ho] at h2
      have h3 := h2.2
      simp only [Option.map_some, Option.getD_some] at h3
      rw [← Array.all_toList, List.all_eq_true] at h3
      have := h3 e he
      rw [hb] at this; simpa using this
  · rintro ⟨h1, h2, o, h3, h4⟩
    refine ⟨h1, ?_⟩
    rw [Bool.and_eq_true]
    refine ⟨by rw [h2]; rfl, ?_⟩
    rw [h3]
    simp only [Option.map_some, Option.getD_some]
    rw [← Array.all_toList, List.all_eq_true]
    intro e he
    cases hb : Region.binds .any e with
    | false => rfl
    | true => rw [h4 e he hb]; rfl
end
section
variable {K : KH} (hK : KSound P K) {nt : Nat} {ops : Array Oper} {A H : List Nat} {al : List (Nat × Nat)} {φ0 : Phi} {m0 : Mem} {w0 : World} (hal : alOk al.length al = true) (hg : ops.toList.all (gOper P.globals.size) = true)
  (hlin : Lin ops A) (hH : ∀ j o, ops[j]? = some o → isHeavy (cOper P o) = true → j ∈ H) (hnt : nt ≤ 4096)
include hK hal hg hlin hH hnt
theorem any_ok {Q : Exit → Act → World → Prop} {sf : St} (hfin : ∀ φ' a' w', Step P φ0 m0 w0 φ' (putAll m0.next sf.p al sf.m) w' → RRel φ' nt sf.r a' → Q .normal a' w') :
    ∀ (n : Nat) {L : List Nat} {listed : Array Bool} {s : St} {φ : Phi} {a : Act} {w : World}, L.length = n → ordOk A H L = true → Left ops A L listed → Inv P nt al φ0 m0 w0 s L φ a w →
      Runs P K nt ops A al m0.next L s sf → wpAny P .any ops Q n listed a w
  | 0, L, listed, s, φ, a, w, hn, ho, hl, I, hR => by
    have hL : L = [] := List.length_eq_zero_iff.1 hn
    subst hL
    have hs : s = sf := hR
    subst hs
    refine ⟨?_, hfin φ a w I.step I.regs⟩
    apply List.eq_nil_iff_forall_not_mem.2
    intro i hi
    obtain ⟨h1, h2, _⟩ := ready_iff.1 hi
    have := hl.done i h1 (by simp)
    rw [Array.getD_eq_getD_getElem?, this] at h2; cases h2
  | n + 1, L, listed, s, φ, a, w, hn, ho, hl, I, hR => by
    have hnd := ord_nodup ho
    constructor
    · intro hnil
      cases L with
      | nil => cases hn
      | cons h L' =>
        exfalso
        have hlt := hl.lt h (List.mem_cons_self ..)
        have hoh : ops[h]? = some ops[h] := Array.getElem?_eq_getElem hlt
        have : h ∈ Region.ready .any ops listed := by
          refine ready_iff.2 ⟨hlt, ?_, ops[h], hoh, fun e he hb => ?_⟩
          · rw [Array.getD_eq_getD_getElem?, hl.out h (List.mem_cons_self ..)]; rfl
          · have h1 := hlin.back h _ hoh e he hb
            have h2 : tb (ancAt A h) e.on = true := by
              rw [hlin.anc h _ hoh, anc_iff]; exact ⟨e, he, hb, .inl rfl⟩
            have h3 : e.on ∉ h :: L' := by
              intro hm
              rcases List.mem_cons.1 hm with e1 | hm
              · omega
              · obtain ⟨_, h4, _⟩ := ord_split (L1 := []) (i := h) (L2 := L') ho
                rw [(h4 _ hm).2] at h2; cases h2
            rw [Array.getD_eq_getD_getElem?, hl.done e.on (by omega) h3]; rfl
        rw [hnil] at this; cases this
    · intro i hi
      obtain ⟨h1, h2, o, h3, h4⟩ := ready_iff.1 hi
      have hiL : i ∈ L := by
        apply Classical.byContradiction
        intro hno
        rw [Array.getD_eq_getD_getElem?, hl.done i h1 hno] at h2; cases h2
      have hanc : ∀ y, tb (ancAt A i) y = true → y ∉ L := by
        intro y hy
        rw [hlin.anc i o h3, anc_iff] at hy
        obtain ⟨e, he, hb, hy⟩ := hy
        have h5 := h4 e he hb
        have h6 := hlin.back i o h3 e he hb
        have h7 : e.on ∉ L := by
          intro hm
          rw [Array.getD_eq_getD_getElem?, hl.out _ hm] at h5; cases h5
        rcases hy with rfl | hy
        · exact h7
        · exact hl.down e.on (by omega) h7 y hy
      obtain ⟨L1, L2, rfl⟩ := List.append_of_mem hiL
      obtain ⟨g1, g2, g3⟩ := ord_split ho
      have hnd1 : L1.Nodup := (List.nodup_append.1 hnd).1
      obtain ⟨s1, hE, hR'⟩ := bubble hnt h3 hR (fun x hx => by
        obtain ⟨q1, q2, q3⟩ := g1 x hx
        have hxL : x ∈ L1 ++ i :: L2 := List.mem_append_left _ hx
        have hxlt := hl.lt x hxL
        have hox : ops[x]? = some ops[x] := Array.getElem?_eq_getElem hxlt
        have hna : tb (ancAt A i) x = false := by
          cases h : tb (ancAt A i) x with
          | false => rfl
          | true => exact absurd hxL (hanc x h)
        refine ⟨q1, hna, ops[x], hox, ?_, ?_⟩
        · rcases Nat.lt_or_ge x i with h5 | h5
          · rcases hlin.apart i x o _ h3 hox h5 with h6 | h6
            · exact h6
            · rw [hna] at h6; cases h6
          · rcases hlin.apart x i _ o hox h3 (by omega) with h6 | h6
            · exact h6.symm
            · rw [q2] at h6; cases h6
        · cases hh : isHeavy (cOper P ops[x]) with
          | false => rfl
          | true =>
            have := q3 (hH x _ hox hh)
            rw [hna] at this; cases this) (fun x hx => I.chk x (List.mem_append_left _ hx)) hnd1
      have hmem : ∀ j, j ∈ L1 ++ L2 → j ∈ L1 ++ i :: L2 ∧ j ≠ i := by
        intro j hj
        rcases List.mem_append.1 hj with hj | hj
        · exact ⟨List.mem_append_left _ hj, (g1 j hj).1⟩
        · exact ⟨List.mem_append_right _ (List.mem_cons_of_mem _ hj), fun e => (g2 j hj).1 e.symm⟩
      have hmem2 : ∀ j, j ∈ L1 ++ i :: L2 → j = i ∨ j ∈ L1 ++ L2 := by
        intro j hj
        rcases List.mem_append.1 hj with hj | hj
        · exact .inr (List.mem_append_left _ hj)
        · rcases List.mem_cons.1 hj with hj | hj
          · exact .inl hj
          · exact .inr (List.mem_append_right _ hj)
      have hlsz : i < listed.size := by
        have := hl.out i hiL
        rcases Nat.lt_or_ge i listed.size with h | h
        · exact h
        · rw [Array.getElem?_eq_none h] at this; cases this
      have hl' : Left ops A (L1 ++ L2) (listed.setIfInBounds i true) := by
        refine ⟨fun j hj => ?_, fun j hj hno => ?_, fun j hj => hl.lt j (hmem j hj).1, fun j hj hno y hy hm => ?_⟩
        · rw [Array.getElem?_setIfInBounds, if_neg (fun e => (hmem j hj).2 e.symm)]
          exact hl.out j (hmem j hj).1
        · rw [Array.getElem?_setIfInBounds]
          by_cases e : i = j
          · rw [if_pos e, if_pos hlsz]
          · rw [if_neg e]
            exact hl.done j hj fun hm => by
              rcases hmem2 j hm with h | h
              · exact e h.symm
              · exact hno h
        · by_cases e : j = i
          · subst e; exact hanc y hy (hmem y hm).1
          · refine hl.down j hj (fun hm2 => ?_) y hy (hmem y hm).1
            rcases hmem2 j hm2 with h | h
            · exact e h
            · exact hno h
      exact exec_ok hK hal hg h3 hmem hiL I hE fun φ' a' w' I' => any_ok hfin n (by simp at hn ⊢; omega) g3 hl' I' hR'
end
theorem heavies_ok {ops : Array Oper} {j : Nat} {o : Oper} (ho : ops[j]? = some o) (hh : isHeavy (cOper P o) = true) : j ∈ ((ops.toList.map (cOper P)).zipIdx.filter fun (c, _) => isHeavy c).map (·.2) := by
  rw [List.mem_map]
  refine ⟨(cOper P o, j), List.mem_filter.2 ⟨?_, hh⟩, rfl⟩
  rw [List.mem_zipIdx_iff_getElem?, List.getElem?_map, Array.getElem?_toList, ho]; rfl
theorem draw_ok (hm : P.follows .mixedOrders = true) {K : KH} (hK : KSound P K) : DrawOk P K := by
  intro nt ops hg r m k v mf h id φ w a Q hr ha hn
  unfold cDraw at h
  simp only at h
  split at h
  · rename_i hd
    unfold drawOk at hd
    simp only [Bool.and_eq_true] at hd
    obtain ⟨⟨⟨⟨⟨h1, h2⟩, h3⟩, h4⟩, h5⟩, h6⟩ := hd
    obtain ⟨hroom, h7⟩ := cond_t h
    rw [forceN_eq] at h7
    rw [ble_true] at hroom
    rw [List.all_eq_true] at h5 h6
    obtain ⟨sf, hR, hk⟩ := runs_of_seq (P := P) (s := ⟨r, ⟨m.next + _, m.t⟩, fun _ => .none, fun _ => none⟩) h7
    have hsz := beq_true.1 h4
    refine wp_region_any hm ?_
    have hst := (Step.raise (n := _) hr hroom).congr (w'' := { w with drawn := w.drawn + 1 }) rfl rfl rfl rfl
    refine any_ok (m0 := m) (φ0 := φ) (w0 := w) (φ := φ) hK h3 hg (lin_ok h1) (fun j o ho hh => heavies_ok ho hh) ha.le (sf := sf) (fun φ' a' w' hs hr' => hn φ' _ _ a' w' hs hr' hk) ops.size hsz h2 ?_ ?_ hR
    · refine ⟨fun j hj => ?_, fun j hj hno => ?_, fun j hj => ?_, fun j hj hno => ?_⟩
      · have := h5 j hj
        rw [Nat.blt_eq] at this
        simp [this]
      · exact absurd (List.contains_iff_mem.1 (h6 j (List.mem_range.2 hj))) hno
      · have := h5 j hj
        rw [Nat.blt_eq] at this; exact this
      · exact absurd (List.contains_iff_mem.1 (h6 j (List.mem_range.2 hj))) hno
    · have hput : ∀ (l : List (Nat × Nat)) (m1 : Mem), putAll m.next (fun _ => Blk.none) l m1 = m1 := by
        intro l
        induction l with
        | nil => intro m1; rfl
        | cons y l ih => intro m1; obtain ⟨j, q⟩ := y; exact ih m1
      refine ⟨by rw [hput]; exact hst, ha, Nat.le_refl _, fun e he hl => (by cases hl), fun e he _ => ⟨?_, ?_, rfl⟩, fun _ _ => rfl⟩
      · cases hq : φ (m.next + e.2) with
        | none => rfl
        | some y => have := hr.dom _ _ hq; omega
      · exact hr.clean _ (Nat.le_add_right _ _) (by have := alOk_lt h3 e he; have hroom' : m.next + (allocsOf 0 0 (List.map (cOper P) ops.toList)).length ≤ 65536 := hroom; omega)
  · cases h
end Go.AM
