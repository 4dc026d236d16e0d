/- Pieces of code between places that are taken by hand; slices.Insert and slices.Replace as stand-ins, whatever the room. -/
import Derived.Test.YtggjomdndfacgaaGreatDoorUm5
set_option linter.unusedSectionVars false
set_option linter.unusedVariables false
set_option linter.unusedSimpArgs false
namespace Go.AM
variable {P : Program}
noncomputable section

/- ### a piece of code between two places at which only some registers are known -/
def badRegs : Regs := N16.all (N16.all (N16.all .bad))
def pickR : List (Nat × AVal) → Regs
  | [] => badRegs
  | p :: l => rput p.1 p.2 (pickR l)
def outT (ts : List Nat) (r : Regs) : AVal := .tuple (ts.map fun t => (opd (.tmp t)).get r)
def valsT (ts : List Nat) (a : Act) : List Value := ts.map fun t => a.tmps.getD t undef
theorem rget_badRegs (t : Nat) : rgetV badRegs t = .bad := by
  unfold rgetV badRegs
  generalize dig t = a; generalize dig (Nat.div t 16) = b; generalize dig (Nat.div t 256) = c
  have h1 : selQ c (N16.all (N16.all (N16.all AVal.bad))) = N16.all (N16.all AVal.bad) := by cases c <;> rfl
  have h2 : selR b (N16.all (N16.all AVal.bad)) = N16.all AVal.bad := by cases b <;> rfl
  rw [h1, h2]
  cases a <;> rfl
section
variable [Tok]
theorem pick_reg {φ : Phi} {a : Act} : ∀ {l : List (Nat × AVal)}, (∀ p, p ∈ l → p.1 < 4096 ∧ VRel φ p.2 (a.tmps.getD p.1 undef)) → ∀ t, t < 4096 → VRel φ (rgetV (pickR l) t) (a.tmps.getD t undef)
  | [], _, t, _ => by
    show VRel φ (rgetV badRegs t) _
    rw [rget_badRegs]; exact .bad _
  | p :: l, h, t, ht => by
    show VRel φ (rgetV (rput p.1 p.2 (pickR l)) t) _
    obtain ⟨h1, h2⟩ := h p (List.mem_cons_self ..)
    rw [rget_rput _ _ _ _ h1 ht]
    split
    · rename_i e; rw [e]; exact h2
    · exact pick_reg (fun q hq => h q (List.mem_cons_of_mem _ hq)) t ht
/-- the frame of an act -/
structure ActIs (nt : Nat) (a : Act) : Prop where
  size : a.tmps.size = nt
  defers : a.defers = []
theorem pick_rel {φ : Phi} {nt : Nat} {a : Act} (ha : ActIs nt a) (hnt : nt ≤ 4096) {l : List (Nat × AVal)} (h : ∀ p, p ∈ l → p.1 < 4096 ∧ VRel φ p.2 (a.tmps.getD p.1 undef)) : RRel φ nt (pickR l) a := by
  refine ⟨ha.size, hnt, ha.defers, fun t => ?_⟩
  rw [opd_tmp]
  by_cases ht : t < 4096
  · rw [if_pos ht]; exact pick_reg h t ht
  · rw [if_neg ht]
    have : a.tmps.getD t undef = undef := by
      have hs := ha.size
      have hs' : @LE.le Nat _ a.tmps.size t := by rw [hs]; exact Nat.le_trans hnt (Nat.le_of_not_lt ht)
      rw [Array.getD_eq_getD_getElem?, Array.getElem?_eq_none hs']; rfl
    rw [this]; exact undef_rel φ
theorem out_rel {φ : Phi} {nt : Nat} {r : Regs} {a : Act} (h : RRel φ nt r a) : ∀ (ts : List Nat), VsRel φ (ts.map fun t => (opd (.tmp t)).get r) (valsT ts a)
  | [] => .nil
  | t :: ts => .cons (h.reg t) (out_rel h ts)
theorem RRel.is {φ : Phi} {nt : Nat} {r : Regs} {a : Act} (h : RRel φ nt r a) : ActIs nt a := ⟨h.size, h.defers⟩
theorem vals_pick {φ : Phi} {a : Act} : ∀ {ts : List Nat} {vs : List AVal}, (ts.all fun t => Nat.blt t 4096) = true → VsRel φ vs (valsT ts a) → ∀ p, p ∈ ts.zip vs → p.1 < 4096 ∧ VRel φ p.2 (a.tmps.getD p.1 undef)
  | [], _, _, _, p, hp => by simp at hp
  | t :: ts, [], _, _, p, hp => by simp at hp
  | t :: ts, v :: vs, h, hv, p, hp => by
    rw [List.all_cons, Bool.and_eq_true, Nat.blt_eq] at h
    cases hv with
    | cons h1 h2 =>
      rcases List.mem_cons.1 hp with rfl | hp
      · exact ⟨h.1, h1⟩
      · exact vals_pick h.2 h2 p hp
omit [Tok] in
theorem put_get {nt : Nat} {a : Act} (ha : ActIs nt a) {d : Nat} (hd : d < nt) (c : Value) (t : Nat) : (a.put (some d) c).tmps.getD t undef = if t = d then c else a.tmps.getD t undef := by
  have hs := ha.size
  simp only [Act.put, Array.getD_eq_getD_getElem?, Array.getElem?_setIfInBounds]
  by_cases e : d = t
  · subst e; simp [hs, hd]
  · simp [e, Ne.symm e]
omit [Tok] in
theorem put_is {nt : Nat} {a : Act} (ha : ActIs nt a) (d : Option Nat) (c : Value) : ActIs nt (a.put d c) := by
  cases d with
  | none => exact ha
  | some d => exact ⟨by simp [Act.put, ha.size], ha.defers⟩
theorem vals_same {φ : Phi} {a a' : Act} : ∀ {ts : List Nat} {vs : List AVal}, (∀ t, t ∈ ts → a'.tmps.getD t undef = a.tmps.getD t undef) → VsRel φ vs (valsT ts a) → VsRel φ vs (valsT ts a')
  | [], _, _, h => h
  | t :: ts, vs, he, h => by
    cases h with
    | cons h1 h2 =>
      refine .cons ?_ (vals_same (fun t ht => he t (List.mem_cons_of_mem _ ht)) h2)
      show VRel φ _ (a'.tmps.getD t undef)
      rw [he t (List.mem_cons_self ..)]; exact h1
theorem vals_put {φ : Phi} {nt : Nat} {a : Act} (ha : ActIs nt a) {ts : List Nat} {vs : List AVal} (h : VsRel φ vs (valsT ts a)) {d : Nat} (hd : d < nt) (hnd : ts.contains d = false) {v : AVal} {c : Value} (hv : VRel φ v c) :
    VsRel φ (v :: vs) (valsT (d :: ts) (a.put (some d) c)) := by
  refine .cons ?_ (vals_same (fun t ht => ?_) h)
  · show VRel φ _ ((a.put (some d) c).tmps.getD d undef)
    rw [put_get ha hd, if_pos rfl]; exact hv
  · rw [put_get ha hd, if_neg]
    intro e
    subst e
    rw [List.contains_iff_mem.2 ht] at hnd; cases hnd
end
def seqsC : List Code → Code → Code
  | [], c => c
  | x :: l, c => .seq x (seqsC l c)
section
variable {T : Tok} {K : KH} (hK : KSound P K) (hD : DrawOk P K) {nt : Nat}
include hK hD
theorem seqs_ok {v : AVal} {mf : Mem} {rest : Code} : ∀ (cs : List Code), cs.all (gCode P.globals.size) = true → ∀ {e : Nat → Ct} {rt k : Ct} {r : Regs} {m : Mem}, (cCode P nt (seqsC cs .skip)).run K e rt k r m = .ok v mf →
    ∀ {φ : Phi} {w : World} {a : Act} {Q : Exit → Act → World → Prop}, Rel P φ m w → RRel φ nt r a →
    (∀ φ' r' m' a' w', Step P φ m w φ' m' w' → RRel φ' nt r' a' → k r' m' = .ok v mf → rest.wp P Q a' w') →
    (∀ i φ' r' m' a' w', Step P φ m w φ' m' w' → RRel φ' nt r' a' → e i r' m' = .ok v mf → Q (.exit i) a' w') →
    (∀ φ' r' m' a' w', Step P φ m w φ' m' w' → RRel φ' nt r' a' → rt r' m' = .ok v mf → Q .ret a' w') → (seqsC cs rest).wp P Q a w
  | [], _, e, rt, k, r, m, h, φ, w, a, Q, hr, ha, hn, _, _ => hn φ r m a w (Step.refl hr) ha h
  | c :: cs, hg, e, rt, k, r, m, h, φ, w, a, Q, hr, ha, hn, he, hrt => by
    rw [List.all_cons, Bool.and_eq_true] at hg
    refine wp_seq (cCode_ok hK hD c hg.1 h hr ha ?_ he hrt)
    intro φ' r' m' a' w' hst ha' h2
    exact seqs_ok cs hg.2 h2 hst.rel ha' (fun φ'' r'' m'' a'' w'' hst' ha'' h3 => hn φ'' r'' m'' a'' w'' (hst.trans hst') ha'' h3)
      (fun i φ'' r'' m'' a'' w'' hst' ha'' h3 => he i φ'' r'' m'' a'' w'' (hst.trans hst') ha'' h3)
      (fun φ'' r'' m'' a'' w'' hst' ha'' h3 => hrt φ'' r'' m'' a'' w'' (hst.trans hst') ha'' h3)
/-- how a piece may end: at its end, by these exits, by a return -/
structure Ways where
  nn : Bool
  ex : Nat → Bool
  rr : Bool
def pieceRun (P : Program) (nt : Nat) (K : KH) (cs : List Code) (W : Ways) (l : List (Nat × AVal)) (ts : List Nat) (m : Mem) : R :=
  (cCode P nt (seqsC cs .skip)).run K (fun i r m => cond' (.ok (outT ts r) m) (.fail 87) (W.ex i)) (fun r m => cond' (.ok (outT ts r) m) (.fail 87) W.rr) (fun r m => cond' (.ok (outT ts r) m) (.fail 87) W.nn) (pickR l) m
theorem piece_ok {cs : List Code} (hg : cs.all (gCode P.globals.size) = true) {W : Ways} {l : List (Nat × AVal)} {ts : List Nat} {vs : List AVal} {m mf : Mem} (h : pieceRun P nt K cs W l ts m = .ok (.tuple vs) mf)
    {φ : Phi} {w : World} {a : Act} {rest : Code} {Q : Exit → Act → World → Prop} (hr : Rel P φ m w) (ha : ActIs nt a) (hnt : nt ≤ 4096) (hl : ∀ p, p ∈ l → p.1 < 4096 ∧ VRel φ p.2 (a.tmps.getD p.1 undef))
    (hn : W.nn = true → ∀ φ' a' w', Step P φ m w φ' mf w' → ActIs nt a' → VsRel φ' vs (valsT ts a') → rest.wp P Q a' w')
    (he : ∀ i, W.ex i = true → ∀ φ' a' w', Step P φ m w φ' mf w' → ActIs nt a' → VsRel φ' vs (valsT ts a') → Q (.exit i) a' w')
    (hrt : W.rr = true → ∀ φ' a' w', Step P φ m w φ' mf w' → ActIs nt a' → VsRel φ' vs (valsT ts a') → Q .ret a' w') : (seqsC cs rest).wp P Q a w := by
  have inj : ∀ {b : Bool} {r' : Regs} {m' : Mem}, cond' (R.ok (outT ts r') m') (.fail 87) b = .ok (.tuple vs) mf → b = true ∧ m' = mf ∧ (ts.map fun t => (opd (.tmp t)).get r') = vs := by
    intro b r' m' h1
    obtain ⟨h2, h3⟩ := cond_t h1
    have h4 : R.ok (.tuple (ts.map fun t => (opd (.tmp t)).get r')) m' = .ok (.tuple vs) mf := h3
    injection h4 with h5 h6
    injection h5 with h5
    exact ⟨h2, h6, h5⟩
  refine seqs_ok hK hD cs hg h hr (pick_rel ha hnt hl) ?_ ?_ ?_
  · intro φ' r' m' a' w' hst ha' h1
    obtain ⟨h2, rfl, rfl⟩ := inj h1
    exact hn h2 φ' a' w' hst ha'.is (out_rel ha' ts)
  · intro i φ' r' m' a' w' hst ha' h1
    obtain ⟨h2, rfl, rfl⟩ := inj h1
    exact he i h2 φ' a' w' hst ha'.is (out_rel ha' ts)
  · intro φ' r' m' a' w' hst ha' h1
    obtain ⟨h2, rfl, rfl⟩ := inj h1
    exact hrt h2 φ' a' w' hst ha'.is (out_rel ha' ts)
theorem piece_then {x y : Code} (hg : gCode P.globals.size x = true ∧ gCode P.globals.size y = true) {W : Ways} {l : List (Nat × AVal)} {ts : List Nat} {vs : List AVal} {m mf : Mem} (h : pieceRun P nt K [x, y] W l ts m = .ok (.tuple vs) mf)
    {φ : Phi} {w : World} {a : Act} {Q : Exit → Act → World → Prop} (hr : Rel P φ m w) (ha : ActIs nt a) (hnt : nt ≤ 4096) (hl : ∀ p, p ∈ l → p.1 < 4096 ∧ VRel φ p.2 (a.tmps.getD p.1 undef))
    (hn : W.nn = true → ∀ φ' a' w', Step P φ m w φ' mf w' → ActIs nt a' → VsRel φ' vs (valsT ts a') → Q .normal a' w')
    (he : ∀ i, W.ex i = true → ∀ φ' a' w', Step P φ m w φ' mf w' → ActIs nt a' → VsRel φ' vs (valsT ts a') → Q (.exit i) a' w')
    (hrt : W.rr = true → ∀ φ' a' w', Step P φ m w φ' mf w' → ActIs nt a' → VsRel φ' vs (valsT ts a') → Q .ret a' w') : x.wp P (Exit.then (y.wp P Q) Q) a w := by
  have inj : ∀ {b : Bool} {r' : Regs} {m' : Mem}, cond' (R.ok (outT ts r') m') (.fail 87) b = .ok (.tuple vs) mf → b = true ∧ m' = mf ∧ (ts.map fun t => (opd (.tmp t)).get r') = vs := by
    intro b r' m' h1
    obtain ⟨h2, h3⟩ := cond_t h1
    have h4 : R.ok (.tuple (ts.map fun t => (opd (.tmp t)).get r')) m' = .ok (.tuple vs) mf := h3
    injection h4 with h5 h6
    injection h5 with h5
    exact ⟨h2, h6, h5⟩
  have he' : ∀ i φ' r' m' a' w', Step P φ m w φ' m' w' → RRel φ' nt r' a' → cond' (R.ok (outT ts r') m') (.fail 87) (W.ex i) = .ok (.tuple vs) mf → Q (.exit i) a' w' := by
    intro i φ' r' m' a' w' hst ha' h1
    obtain ⟨h2, rfl, rfl⟩ := inj h1
    exact he i h2 φ' a' w' hst ha'.is (out_rel ha' ts)
  have hrt' : ∀ φ' r' m' a' w', Step P φ m w φ' m' w' → RRel φ' nt r' a' → cond' (R.ok (outT ts r') m') (.fail 87) W.rr = .ok (.tuple vs) mf → Q .ret a' w' := by
    intro φ' r' m' a' w' hst ha' h1
    obtain ⟨h2, rfl, rfl⟩ := inj h1
    exact hrt h2 φ' a' w' hst ha'.is (out_rel ha' ts)
  refine cCode_ok hK hD x hg.1 h hr (pick_rel ha hnt hl) ?_ he' hrt'
  intro φ' r' m' a' w' hst ha' h1
  refine cCode_ok hK hD y hg.2 h1 hst.rel ha' ?_ (fun i φ'' r'' m'' a'' w'' hst' ha'' h3 => he' i φ'' r'' m'' a'' w'' (hst.trans hst') ha'' h3)
    (fun φ'' r'' m'' a'' w'' hst' ha'' h3 => hrt' φ'' r'' m'' a'' w'' (hst.trans hst') ha'' h3)
  intro φ'' r'' m'' a'' w'' hst' ha'' h3
  obtain ⟨h2, rfl, rfl⟩ := inj h3
  exact hn h2 φ'' a'' w'' (hst.trans hst') ha''.is (out_rel ha'' ts)
omit hD in
theorem cOps_some {ops : Array Oper} {Q : Exit → Act → World → Prop} {v : AVal} {mf : Mem} {k : Ct} {js : List Nat} : ∀ (l : List Oper) (i : Nat), (ops.toList.drop i).take l.length = l → l.all (gOper P.globals.size) = true → ∀ {r : Regs} {m : Mem},
    (cOps P nt ops l).run K r m k = .ok v mf → ∀ {φ : Phi} {w : World} {a : Act}, Rel P φ m w → RRel φ nt r a →
    (∀ φ' r' m' a' w', Step P φ m w φ' m' w' → RRel φ' nt r' a' → k r' m' = .ok v mf → wpOps P ops Q js a' w') → wpOps P ops Q (List.range' i l.length ++ js) a w
  | [], i, _, _, r, m, h, φ, w, a, hr, ha, hn => hn φ r m a w (Step.refl hr) ha h
  | o :: l, i, hd, hg, r, m, h, φ, w, a, hr, ha, hn => by
    rw [List.all_cons, Bool.and_eq_true] at hg
    rw [List.length_cons] at hd
    have hoi : ops[i]? = some o := by
      rw [← Array.getElem?_toList]
      have := congrArg (fun l => l[0]?) hd
      simpa [List.getElem?_take] using this
    have hd2 : (ops.toList.drop (i + 1)).take l.length = l := by
      rw [← List.drop_drop]
      have := congrArg (List.drop 1) hd
      rw [List.drop_take] at this
      simpa using this
    rw [List.length_cons, List.range'_succ, List.cons_append]
    unfold wpOps
    rw [hoi]
    simp only
    refine cStep_ok hK hg.1 h hr ha fun φ' r' m' a' w' hst ha' h2 => ?_
    exact cOps_some l (i + 1) hd2 hg.2 h2 hst.rel ha' fun φ'' r'' m'' a'' w'' hst' ha'' h3 => hn φ'' r'' m'' a'' w'' (hst.trans hst') ha'' h3
def opsRun (P : Program) (nt : Nat) (K : KH) (ops : Array Oper) (os : List Oper) (l : List (Nat × AVal)) (ts : List Nat) (m : Mem) : R :=
  (cOps P nt ops os).run K (pickR l) m fun r m => .ok (outT ts r) m
omit hD in
theorem ops_piece {ops : Array Oper} {Q : Exit → Act → World → Prop} {i : Nat} {os : List Oper} {js : List Nat} (hd : (ops.toList.drop i).take os.length = os) (hg : os.all (gOper P.globals.size) = true) {l : List (Nat × AVal)} {ts : List Nat} {vs : List AVal} {m mf : Mem}
    (h : opsRun P nt K ops os l ts m = .ok (.tuple vs) mf) {φ : Phi} {w : World} {a : Act} (hr : Rel P φ m w) (ha : ActIs nt a) (hnt : nt ≤ 4096) (hl : ∀ p, p ∈ l → p.1 < 4096 ∧ VRel φ p.2 (a.tmps.getD p.1 undef))
    (hn : ∀ φ' a' w', Step P φ m w φ' mf w' → ActIs nt a' → VsRel φ' vs (valsT ts a') → wpOps P ops Q js a' w') : wpOps P ops Q (List.range' i os.length ++ js) a w := by
  refine cOps_some hK os i hd hg h hr (pick_rel ha hnt hl) ?_
  intro φ' r' m' a' w' hst ha' h1
  have h4 : R.ok (.tuple (ts.map fun t => (opd (.tmp t)).get r')) m' = .ok (.tuple vs) mf := h1
  injection h4 with h5 h6
  injection h5 with h5
  subst h6 h5
  exact hn φ' a' w' hst ha'.is (out_rel ha' ts)
end
end
end Go.AM

namespace Go.AM
variable {P : Program}

section
variable [Tok]
variable {φ : Phi} {m : Mem} {w : World}
/-- a name dropped, a new name for its block of the heap or for a new one -/
theorem Step.repl (h : Rel P φ m w) {w' : World} {p b o s : Nat} (hp : p < m.next) (hwr : (m.get p).wr = true) (hφ : φ p = some (b, o, s)) {x' : Blk} {nb no ns : Nat} (hn : m.next < 65536)
    (hheap : ∀ q, q < w.heap.size → q ≠ b → w'.heap[q]? = w.heap[q]?) (hsz : w.heap.size ≤ w'.heap.size) (hos : w'.os = w.os) (hou : w'.output = w.output) (htp : w'.tape = w.tape)
    (hnb : nb = b ∨ w.heap.size ≤ nb) (hnl : nb < w'.heap.size) (hx : BRel (fun q => if q = m.next then some (nb, no, ns) else φ q) w' m.next x') :
    Step P φ m w (fun q => if q = m.next then some (nb, no, ns) else φ q) ((⟨m.next + 1, putT m.next x' m.t⟩ : Mem).put p .none) w' := by
  have hb := h.bound
  have hpG : p ≠ P.globals.size := by
    intro e; subst e; rw [h.nohandle] at hwr; cases hwr
  have hblt := h.heap p b o s hφ hpG
  have ext : Ext' φ (fun q => if q = m.next then some (nb, no, ns) else φ q) := by
    intro q y hq
    have := h.dom q y hq
    show (if q = m.next then _ else _) = _
    rw [if_neg (by omega)]; exact hq
  have get : ∀ q, q < m.next + 1 → ((⟨m.next + 1, putT m.next x' m.t⟩ : Mem).put p .none).get q = if q = p then .none else if q = m.next then x' else m.get q := by
    intro q hq
    rw [Mem.get_put _ _ _ _ (by omega) (by omega)]
    split
    · rfl
    · exact getT_putT m.next q x' m.t hn (by omega)
  have hh1 := h.dom _ _ h.handle
  have hold : ∀ q, q < m.next → q ≠ p → ((⟨m.next + 1, putT m.next x' m.t⟩ : Mem).put p .none).get q = m.get q := fun q hq hne => by
    rw [get q (by omega), if_neg hne, if_neg (by omega)]
  have hliv : ∀ q, q < m.next → (((⟨m.next + 1, putT m.next x' m.t⟩ : Mem).put p .none).get q).live = true → q ≠ p ∧ (m.get q).live = true := by
    intro q hq hl
    rw [get q (by omega)] at hl
    split at hl
    · cases hl
    · rw [if_neg (by omega)] at hl; exact ⟨‹_›, hl⟩
  have hwr' : ∀ q, q < m.next → (((⟨m.next + 1, putT m.next x' m.t⟩ : Mem).put p .none).get q).wr = true → (m.get q).wr = true := by
    intro q hq hl
    have := hliv q hq (Blk.live_of_wr hl)
    rwa [hold q hq this.1] at hl
  have hne : ∀ q b' o' s', q < m.next → q ≠ p → (m.get q).live = true → φ q = some (b', o', s') → b' ≠ nb ∧ b' ≠ b ∧ b' < w.heap.size := by
    intro q b' o' s' hq hqp hl hφq
    have h1 : b' < w.heap.size := h.heap q b' o' s' hφq (fun e => by rw [e, h.nohandle] at hl; cases hl)
    have h2 : b' ≠ b := fun e => by subst e; exact h.inj p q _ _ _ _ _ hp hq (Ne.symm hqp) hwr hl hφ hφq
    exact ⟨fun e => by rcases hnb with h3 | h3 <;> omega, h2, h1⟩
  refine ⟨⟨hn, ?_, ?_, ext _ _ h.handle, ?_, ?_, ?_, ?_, fun q h1 h2 => by
    change m.next + 1 ≤ q at h1
    rw [Mem.get_put _ _ _ _ (by omega) h2, if_neg (by omega)]
    exact (getT_putT m.next q x' m.t hn h2).trans (by rw [if_neg (by omega)]; exact h.clean q (by omega) h2),
    fun b' o' hb' => by rw [hheap b' (h.held_lt hb') (h.held_ne hp hwr hφ hb')]; exact h.held b' o' hb', fun q b' o' s' hq hw hφ' => by
      change q < m.next + 1 at hq
      by_cases e : q = m.next
      · simp [e] at hφ'
        rw [← hφ'.1]
        rcases hnb with rfl | h6
        · exact h.apart p _ o s hp hwr hφ
        · exact h.free h6
      · have hq' : φ q = some (b', o', s') := by simpa [e] using hφ'
        exact h.apart q b' o' s' (by omega) (hwr' q (by omega) hw) hq', fun hs => Blk.dead_of fun hl => by have := h.mode hs; rw [(hliv 0 h.pos hl).2] at this; cases this⟩, ext, Nat.le_succ _, ?_, fun q hq hl => (hliv q hq hl).2, hwr', ?_, ?_, hsz, hos, hou, htp⟩
  · intro q y hq
    show q < m.next + 1
    by_cases e : q = m.next
    · omega
    · have hq' : φ q = some y := by simpa [e] using hq
      have := h.dom q y hq'; omega
  · intro q b' o'' s' hq hne
    by_cases e : q = m.next
    · simp [e] at hq; omega
    · have hq' : φ q = some (b', o'', s') := by simpa [e] using hq
      exact Nat.lt_of_lt_of_le (h.heap q b' o'' s' hq' hne) hsz
  · rw [hold _ hh1 (Ne.symm hpG)]; exact h.nohandle
  · intro g hg
    obtain ⟨sz, hsz⟩ := h.glob g hg
    exact ⟨sz, ext _ _ hsz⟩
  · intro q hq
    change q < m.next + 1 at hq
    by_cases ep : q = p
    · rw [get q hq, if_pos ep]; trivial
    · by_cases e : q = m.next
      · subst e; rw [get _ (by omega), if_neg ep, if_pos rfl]; exact hx
      · have hq' : q < m.next := by omega
        rw [hold q hq' ep]
        cases hl : (m.get q).live with
        | false => rw [Blk.dead hl]; trivial
        | true =>
          refine ((h.blk q hq').mono ext).congr fun b' o'' s' hφ' => ?_
          have hφq : φ q = some (b', o'', s') := by simpa [e] using hφ'
          obtain ⟨_, g2, g3⟩ := hne q b' o'' s' hq' ep hl hφq
          exact hheap b' g3 g2
  · intro q q' b' o1 s1 o2 s2 hq hq' hqne hw hl h1 h2
    change q < m.next + 1 at hq
    change q' < m.next + 1 at hq'
    by_cases e1 : q = m.next
    · by_cases e2 : q' = m.next
      · omega
      · simp [e1] at h1
        simp [e2] at h2
        obtain ⟨h3, h4⟩ := hliv q' (by omega) hl
        obtain ⟨g1, _, _⟩ := hne q' _ _ _ (by omega) h3 h4 h2
        omega
    · simp [e1] at h1
      by_cases e2 : q' = m.next
      · simp [e2] at h2
        obtain ⟨h3, h4⟩ := hliv q (by omega) (Blk.live_of_wr hw)
        obtain ⟨g1, _, _⟩ := hne q _ _ _ (by omega) h3 h4 h1
        omega
      · simp [e2] at h2
        exact h.inj q q' b' o1 s1 o2 s2 (by omega) (by omega) hqne (hwr' q (by omega) hw) (hliv q' (by omega) hl).2 h1 h2
  · intro q y hq
    by_cases e : q = m.next
    · right; omega
    · left; simpa [e] using hq
  · intro q b' o1 s1 h1 h2 _ h4 h5
    change q < m.next + 1 at h2
    have e : q = m.next := by omega
    simp [e] at h4
    obtain ⟨rfl, rfl, rfl⟩ := h4
    rcases hnb with rfl | h6
    · exact ⟨p, o, _, hp, hwr, hφ⟩
    · omega
  · intro b' hb' hno
    refine hheap b' hb' ?_
    intro e; subst e
    exact hno p o s hp hwr hφ
end

/-- a memory of its own for some blocks -/
theorem own {T T' : Tok} {φ : Phi} {m : Mem} {w : World} {σ : Map} {g0 : Nat} {b0 : Blk} {l : List Blk} (hG : σ.G = P.globals.size) (h : @Rel T P φ m w) (c1 : g0 < σ.G) (c2 : σ.top ≤ 65536) (c3 : b0.wr = false)
    (hb0 : @BRel T' (absPhi σ φ) w g0 b0) (hl0 : b0.live = true → (m.get g0).live = true) (hnd : σ.ns.Nodup) (hlen : l.length = σ.ns.length)
    (hblk : ∀ (i : Nat) (b : Blk) (n : Nat), l[i]? = some b → σ.ns[i]? = some n → σ.G < n ∧ n < m.next ∧ @BRel T' (absPhi σ φ) w (σ.G + 1 + i) b ∧ (b.wr = true → (m.get n).wr = true) ∧ (b.live = true → (m.get n).live = true))
    (hH : ∀ b o, T'.hold b = some o → w.heap[b]? = some o ∧ ∀ p o' s', p < m.next → (m.get p).wr = true → φ p ≠ some (b, o', s')) (hM : T'.strong = true → b0.live = false) : @Rel T' P (absPhi σ φ) (mkMem σ.G g0 b0 l) w := by
  rw [top_eq] at c2
  have hphi : ∀ p, p < σ.top → absPhi σ φ p = φ (σ.nm p) := fun p hp => if_pos hp
  have hGm := @Rel.dom T P φ m w h _ _ (@Rel.handle T P φ m w h)
  have hmb := @Rel.bound T P φ m w h
  have hnx : (mkMem σ.G g0 b0 l).next = σ.top := by
    unfold mkMem
    rw [addL_next, top_eq, hlen]
  have get : ∀ p, p < 65536 → (mkMem σ.G g0 b0 l).get p = if σ.G + 1 ≤ p ∧ p < σ.G + 1 + l.length then (l[p - (σ.G + 1)]?).getD .none else if p = g0 then b0 else .none := fun p hp => mkMem_get c1 (by omega) hp
  have high : ∀ p, σ.G < p → p < σ.top → ∃ b n, l[p - (σ.G + 1)]? = some b ∧ σ.ns[p - (σ.G + 1)]? = some n ∧ (mkMem σ.G g0 b0 l).get p = b ∧ σ.nm p = n := by
    intro p h1 h2
    rw [top_eq] at h2
    have h3 : p - (σ.G + 1) < l.length := by omega
    have h4 : p - (σ.G + 1) < σ.ns.length := by omega
    refine ⟨l[p - (σ.G + 1)], σ.ns[p - (σ.G + 1)], List.getElem?_eq_getElem h3, List.getElem?_eq_getElem h4, ?_, ?_⟩
    · rw [get p (by omega), if_pos (by omega), List.getElem?_eq_getElem h3]; rfl
    · rw [nm_high h1, List.getElem?_eq_getElem h4]; rfl
  have low : ∀ p, p ≤ σ.G → (mkMem σ.G g0 b0 l).get p = if p = g0 then b0 else .none := by
    intro p hp
    rw [get p (by omega), if_neg (by omega)]
  have nmlt : ∀ p, p < σ.top → σ.nm p < m.next := by
    intro p hp
    rcases Nat.lt_or_ge σ.G p with h1 | h1
    · obtain ⟨b, n, h3, h4, _, h6⟩ := high p h1 hp
      rw [h6]; exact (hblk _ _ _ h3 h4).2.1
    · rw [nm_low h1]; omega
  have nminj : ∀ p q, p < σ.top → q < σ.top → σ.G < p → p ≠ q → σ.nm p ≠ σ.nm q := by
    intro p q hp hq hpG hne e
    obtain ⟨b, n, h3, h4, h5, h6⟩ := high p hpG hp
    rcases Nat.lt_or_ge σ.G q with h1 | h1
    · obtain ⟨b', n', g3, g4, g5, g6⟩ := high q h1 hq
      rw [h6, g6] at e
      subst e
      have h7 : p - (σ.G + 1) < σ.ns.length := by
        rcases Nat.lt_or_ge (p - (σ.G + 1)) σ.ns.length with h | h
        · exact h
        · rw [List.getElem?_eq_none h] at h4; cases h4
      have := (List.getElem?_inj h7 hnd).1 (h4.trans g4.symm)
      omega
    · rw [h6, nm_low h1] at e
      have := (hblk _ _ _ h3 h4).1
      omega
  refine @Rel.mk T' P (absPhi σ φ) (mkMem σ.G g0 b0 l) w (by rw [hnx, top_eq]; omega) ?_ ?_ ?_ ?_ ?_ ?_ ?_ ?_ (fun b o hb => (hH b o hb).1) ?_ (fun hs => by
    rw [low 0 (Nat.zero_le _)]
    split
    · exact hM hs
    · rfl)
  · intro p x hp
    rw [hnx]
    unfold absPhi at hp
    split at hp
    · assumption
    · cases hp
  · intro p b o s hp hne
    unfold absPhi at hp
    split at hp
    · rename_i hlt
      refine @Rel.heap T P φ m w h _ b o s hp ?_
      rcases Nat.lt_or_ge σ.G p with h1 | h1
      · obtain ⟨b', n, h3, h4, h5, h6⟩ := high p h1 hlt
        rw [h6, ← hG]
        have := (hblk _ _ _ h3 h4).1
        omega
      · rw [nm_low h1]; exact hne
    · cases hp
  · have : P.globals.size < σ.top := by rw [top_eq]; omega
    rw [hphi _ this, nm_low (by omega)]
    exact @Rel.handle T P φ m w h
  · rw [low _ (by omega), if_neg (by omega)]
  · intro g hg
    have : g < σ.top := by rw [top_eq]; omega
    rw [hphi _ this, nm_low (by omega)]
    exact @Rel.glob T P φ m w h g hg
  · intro p hp
    rw [hnx] at hp
    rcases Nat.lt_or_ge σ.G p with h1 | h1
    · obtain ⟨b, n, h3, h4, h5, h6⟩ := high p h1 hp
      rw [h5]
      have := (hblk _ _ _ h3 h4).2.2.1
      rwa [show σ.G + 1 + (p - (σ.G + 1)) = p by omega] at this
    · rw [low p h1]
      by_cases e : p = g0
      · rw [if_pos e, e]; exact hb0
      · rw [if_neg e]; trivial
  · intro p q b o s o' s' hp hq hne hw hl h1 h2
    rw [hnx] at hp hq
    rw [hphi p hp] at h1
    rw [hphi q hq] at h2
    have hpG : σ.G < p := by
      rcases Nat.lt_or_ge σ.G p with h3 | h3
      · exact h3
      · rw [low p h3] at hw
        split at hw
        · rw [c3] at hw; cases hw
        · cases hw
    obtain ⟨bp, np, h3, h4, h5, h6⟩ := high p hpG hp
    have hwp : (m.get (σ.nm p)).wr = true := by
      rw [h6]; rw [h5] at hw; exact (hblk _ _ _ h3 h4).2.2.2.1 hw
    have hlq : (m.get (σ.nm q)).live = true := by
      rcases Nat.lt_or_ge σ.G q with g1 | g1
      · obtain ⟨bq, nq, g3, g4, g5, g6⟩ := high q g1 hq
        rw [g6]; rw [g5] at hl; exact (hblk _ _ _ g3 g4).2.2.2.2 hl
      · rw [low q g1] at hl
        rw [nm_low g1]
        split at hl
        · rename_i e; rw [e]; exact hl0 hl
        · cases hl
    exact @Rel.inj T P φ m w h _ _ b o s o' s' (nmlt p hp) (nmlt q hq) (nminj p q hp hq hpG hne) hwp hlq h1 h2
  · intro p hp hlt
    rw [hnx, top_eq] at hp
    rw [get p hlt, if_neg (by omega), if_neg (by omega)]
  · intro p b o s hp hw hφ
    rw [hnx] at hp
    rw [hphi p hp] at hφ
    have hpG : σ.G < p := by
      rcases Nat.lt_or_ge σ.G p with h3 | h3
      · exact h3
      · rw [low p h3] at hw
        split at hw
        · rw [c3] at hw; cases hw
        · cases hw
    obtain ⟨bp, np, h3, h4, h5, h6⟩ := high p hpG hp
    have hwp : (m.get (σ.nm p)).wr = true := by
      rw [h6]; rw [h5] at hw; exact (hblk _ _ _ h3 h4).2.2.2.1 hw
    cases hh : T'.hold b with
    | none => rfl
    | some x => exact absurd hφ ((hH b x hh).2 _ _ _ (nmlt p hp) hwp)
end Go.AM

namespace Go.AM
variable {P : Program}

theorem run_stringish (w : World) (a : Addr) : ∃ t, (stringish a).run P w = .ok t w := by
  unfold stringish
  cases h : w.frozen? a with
  | true => exact ⟨true, by simp [h]⟩
  | false =>
    cases h2 : w.shape? a.block with
    | none => exact ⟨false, by simp [h, h2]⟩
    | some x => exact ⟨w.frozen? ⟨a.block, x.2, none⟩, by obtain ⟨x1, x2⟩ := x; simp [h, h2]⟩
/-- the model's entry for slices.overlaps, at slices of one element in two blocks of the heap: a truth value -/
theorem run_overlaps {tS tR e : TypeId} (ht : P.underlying tS = some (.slice e)) {size : Nat} (hz : ∀ w, (Go.sizeOf e).run P w = .ok size w) {w : World} {ab ao ac bb bo bc : Nat} (hne : ab ≠ bb)
    {ca cb : Array Value} {ea eb : TypeId} {fa fb : Nat × Nat} (hA : w.heap[ab]? = some (.cells ca ea fa)) (hB : w.heap[bb]? = some (.cells cb eb fb)) (hf : ¬ (fb.1 ≤ bo ∧ bo < fb.2)) :
    ∃ t w', (Extern.SlicesOverlaps.overlaps #[tS, tS] #[tR] #[.slice (some ⟨ab, ao, none⟩) 1 ac, .slice (some ⟨bb, bo, none⟩) 1 bc]).run P w = .ok (.bool t) w' ∧
      w'.heap = w.heap ∧ w'.os = w.os ∧ w'.output = w.output ∧ w'.tape = w.tape := by
  have hnb : (ab != bb) = true := by simpa using hne
  have hnb' : (ab == bb) = false := by simpa using hne
  have hfa : w.frozen? ⟨bb, bo, none⟩ = false := by
    simp only [World.frozen?, hB]
    cases h1 : (decide (fb.1 ≤ bo) && decide (bo < fb.2)) with
    | false => rfl
    | true => simp at h1; exact absurd h1 hf
  have hsa : w.shape? ab = some (ea, ca.size) := by simp [World.shape?, hA]
  have hsb : w.shape? bb = some (eb, cb.size) := by simp [World.shape?, hB]
  change ∃ t w', Sem.run P (α := Value) (do
    let some t := (#[tS, tS] : Array TypeId)[0]? | stuck "slices.overlaps: no parameter types"
    let .slice elem ← underlying t | stuck "slices.overlaps: slice type expected"
    let size ← sizeOf elem
    match (some ⟨ab, ao, none⟩ : Option Addr), (some ⟨bb, bo, none⟩ : Option Addr) with
    | some a, some b =>
      if 1 = 0 ∨ 1 = 0 ∨ size = 0 then pure (Value.bool false)
      else if a.block != b.block && (← frozen a) && (← frozen b) then unsupported .addressObserved
      else do
        if a.block != b.block then do
          noView a; noView b
          if ← mayBeOne a b then return Value.bool ((← choose _) == 1)
        pure (Value.bool (a.block == b.block && a.off < b.off + 1 * size && b.off < a.off + 1 * size))
    | _, _ => pure (Value.bool false)) w = _ ∧ _
  obtain ⟨sa, hsa'⟩ := run_stringish (P := P) w ⟨ab, ao, none⟩
  obtain ⟨sb, hsb'⟩ := run_stringish (P := P) w ⟨bb, bo, none⟩
  have hmb : ∃ t, (mayBeOne ⟨ab, ao, none⟩ ⟨bb, bo, none⟩).run P w = .ok t w := by simp [mayBeOne, hsa', hsb', hsa, hsb]
  obtain ⟨t, hmb⟩ := hmb
  cases size with
  | zero => exact ⟨false, w, by simp [run_underlying ht, hz], rfl, rfl, rfl, rfl⟩
  | succ size =>
    cases t with
    | true =>
      refine ⟨?_, w.drew, ?_, rfl, rfl, rfl, rfl⟩
      rotate_left
      · simp [run_underlying ht, hz, hnb, noView, viewAt, hsa, hsb, hfa, hmb, Question.forced]
        rfl
    | false => exact ⟨false, w, by simp [run_underlying ht, hz, hnb, hnb', noView, viewAt, hsa, hsb, hfa, hmb], rfl, rfl, rfl, rfl⟩
@[reducible] def tok0 : Tok where
  num _ := 0
  cnt := 0
  pos _ hj := absurd hj (Nat.not_lt_zero _)
  hi _ hj := absurd hj (Nat.not_lt_zero _)
  mono _ _ _ hj := absurd hj (Nat.not_lt_zero _)
  base := 0
  val _ := .nilIface
  cell _ := rfl
def extIs (P : Program) (f : FuncId) : Bool := match P.funcs[f]? with
  | some fn => !(fn.name == "runtime.NumGoroutine") && fn.body.isNone && (Extern.findNext fn).isNone
  | none => false
def elemT : Option TypeDesc → Option TypeId
  | some (.slice e) => some e
  | _ => none
theorem call_overlaps {f : FuncId} {tS tR : TypeId} (h : extIs P f = true) (h2 : (P.funcs[f]?).bind Extern.find = some (Extern.SlicesOverlaps.overlaps #[tS, tS] #[tR])) (ht : (elemT (P.underlying tS)).map (fun e => hasT P e) = some true)
    {w : World} {ab ao ac bb bo bc : Nat} (hne : ab ≠ bb) {ca cb : Array Value} {ea eb : TypeId} {fa fb : Nat × Nat} (hA : w.heap[ab]? = some (.cells ca ea fa)) (hB : w.heap[bb]? = some (.cells cb eb fb)) (hf : ¬ (fb.1 ≤ bo ∧ bo < fb.2)) :
    Ends P f #[.slice (some ⟨ab, ao, none⟩) 1 ac, .slice (some ⟨bb, bo, none⟩) 1 bc] w fun c w' => (∃ t, c = .bool t) ∧ w'.heap = w.heap ∧ w'.os = w.os ∧ w'.output = w.output ∧ w'.tape = w.tape := by
  unfold extIs at h
  cases hfn : P.funcs[f]? with
  | none => rw [hfn] at h; cases h
  | some fn =>
    rw [hfn] at h h2
    simp only [Bool.and_eq_true, Bool.not_eq_true'] at h
    cases hu : P.underlying tS with
    | none => rw [hu] at ht; cases ht
    | some d =>
      rw [hu] at ht
      cases d <;> first | (cases ht; done) | skip
      rename_i e
      have hte : hasT P e = true := by simpa [elemT] using ht
      obtain ⟨t, w', h3, h4⟩ := run_overlaps (tR := tR) hu (fun w => @run_sizeOf' tok0 P _ _ hte) hne hA hB hf (ao := ao) (ac := ac) (bc := bc)
      left
      refine ⟨.bool t, w', ?_, ⟨t, rfl⟩, h4⟩
      rw [run_callFunc_extern hfn h.1.1 h.1.2 (Option.isNone_iff_eq_none.1 h.2) h2, h3]; rfl
end Go.AM

namespace Go.AM
variable {P : Program}
noncomputable section

/- ### slices.overlaps at rows in two blocks, one of which is written: no -/
def blkLen : Blk → Nat
  | .cells _ cs => lenL cs
  | _ => 0
def ovX (args : List AVal) (m : Mem) : R :=
  arg2 args fun x y => x.onSlice fun a _ n _ _ _ => y.onSlice fun b _ n' _ _ _ =>
    cond' (.ok (.bool false) m) (.fail 190) (and (and (not (Nat.beq a b)) (and (Nat.ble 1 n) (Nat.ble 1 n'))) (and (and (Nat.ble 1 (blkLen (m.get a))) (Nat.ble 1 (blkLen (m.get b)))) (or (m.get a).wr (m.get b).wr)))
theorem run_stringish_no {w : World} {b o : Nat} {c : Array Value} {el : TypeId} {fz : Nat × Nat} (h : w.heap[b]? = some (.cells c el fz)) (h1 : ¬ (fz.1 ≤ o ∧ o < fz.2)) (h2 : ¬ (fz.1 ≤ c.size ∧ c.size < fz.2)) : (stringish ⟨b, o, none⟩).run P w = .ok false w := by
  have e : ∀ p : Nat, ¬ (fz.1 ≤ p ∧ p < fz.2) → w.frozen? ⟨b, p, none⟩ = false := by
    intro p hp
    simp only [World.frozen?, h]
    cases h3 : (decide (fz.1 ≤ p) && decide (p < fz.2)) with
    | false => rfl
    | true => simp at h3; exact absurd h3 hp
  unfold stringish
  have hs : w.shape? b = some (el, c.size) := by simp [World.shape?, h]
  simp [e o h1, hs, e _ h2]
theorem run_overlaps_no {tS tR e : TypeId} (ht : P.underlying tS = some (.slice e)) {size : Nat} (hz : ∀ w, (Go.sizeOf e).run P w = .ok size w) {w : World} {ab ao an ac bb bo bn bc : Nat} (hne : ab ≠ bb)
    {ca cb : Array Value} {ea eb : TypeId} {fa fb : Nat × Nat} (hA : w.heap[ab]? = some (.cells ca ea fa)) (hB : w.heap[bb]? = some (.cells cb eb fb)) (ha0 : ca.size ≠ 0) (hb0 : cb.size ≠ 0)
    (hs : (stringish ⟨ab, ao, none⟩).run P w = .ok false w ∨ (stringish ⟨bb, bo, none⟩).run P w = .ok false w) (hf : w.frozen? ⟨ab, ao, none⟩ = false ∨ w.frozen? ⟨bb, bo, none⟩ = false) :
    (Extern.SlicesOverlaps.overlaps #[tS, tS] #[tR] #[.slice (some ⟨ab, ao, none⟩) an ac, .slice (some ⟨bb, bo, none⟩) bn bc]).run P w = .ok (.bool false) w := by
  have hnb : (ab != bb) = true := by simpa using hne
  have hnb' : (ab == bb) = false := by simpa using hne
  have hsa : w.shape? ab = some (ea, ca.size) := by simp [World.shape?, hA]
  have hsb : w.shape? bb = some (eb, cb.size) := by simp [World.shape?, hB]
  change Sem.run P (α := Value) (do
    let some t := (#[tS, tS] : Array TypeId)[0]? | stuck "slices.overlaps: no parameter types"
    let .slice elem ← underlying t | stuck "slices.overlaps: slice type expected"
    let size ← sizeOf elem
    match (some ⟨ab, ao, none⟩ : Option Addr), (some ⟨bb, bo, none⟩ : Option Addr) with
    | some a, some b =>
      if an = 0 ∨ bn = 0 ∨ size = 0 then pure (Value.bool false)
      else if a.block != b.block && (← frozen a) && (← frozen b) then unsupported .addressObserved
      else do
        if a.block != b.block then do
          noView a; noView b
          if ← mayBeOne a b then return Value.bool ((← choose _) == 1)
        pure (Value.bool (a.block == b.block && a.off < b.off + bn * size && b.off < a.off + an * size))
    | _, _ => pure (Value.bool false)) w = _
  have hmb : (mayBeOne ⟨ab, ao, none⟩ ⟨bb, bo, none⟩).run P w = .ok false w := by
    obtain ⟨sa, hsa'⟩ := run_stringish (P := P) w ⟨ab, ao, none⟩
    obtain ⟨sb, hsb'⟩ := run_stringish (P := P) w ⟨bb, bo, none⟩
    unfold mayBeOne
    have hss : sa = false ∨ sb = false := by
      rcases hs with h | h
      · left; rw [hsa'] at h; injection h
      · right; rw [hsb'] at h; injection h
    rcases hss with rfl | rfl <;> simp [hsa', hsb', hsa, hsb] <;> (first | done | (split <;> simp_all))
  have hff : (w.frozen? ⟨ab, ao, none⟩ && w.frozen? ⟨bb, bo, none⟩) = false := by rcases hf with h | h <;> simp [h]
  by_cases hz0 : an = 0 ∨ bn = 0 ∨ size = 0
  · simp [run_underlying ht, hz, hz0]
  · rcases hf with h | h
    · simp [run_underlying ht, hz, hz0, hnb, hnb', noView, viewAt, hsa, hsb, h, hmb]
    · cases hfa : w.frozen? ⟨ab, ao, none⟩ <;> simp [run_underlying ht, hz, hz0, hnb, hnb', noView, viewAt, hsa, hsb, h, hfa, hmb]
theorem blk_cells {T : Tok} (hst : T.strong = true) {φ : Phi} {w : World} {p : Nat} {x : Blk} (hl : Nat.ble 1 (blkLen x) = true) (h : @BRel T φ w p x) : ∃ cb co c el fz, φ p = some (cb, co, c.size) ∧ w.heap[cb]? = some (.cells c el fz) ∧ c.size ≠ 0 ∧
    (x.wr = true → ∀ i, co ≤ i → i ≤ c.size → ¬ (fz.1 ≤ i ∧ i < fz.2)) := by
  cases x with
  | cells ro cs =>
    obtain ⟨cb, co, c, el, fz, h1, h2, h3, _, _, h6⟩ := h
    have : 1 ≤ cs.length := by
      have := ble_true.1 hl
      rwa [show blkLen (.cells ro cs) = lenL cs from rfl, lenL_eq] at this
    refine ⟨cb, co, c, el, fz, h1, h2, by omega, fun hw i g1 g2 => (h6 ?_ i g1 ((Nat.lt_or_eq_of_le g2).imp id fun e => ⟨e, hst⟩)).1⟩
    cases ro with
    | false => rfl
    | true => cases hw
  | none => cases hl
  | map es k => cases hl
  | iter s k => cases hl
theorem blk_live {x : Blk} (hl : Nat.ble 1 (blkLen x) = true) : x.live = true := by cases x <;> first | rfl | cases hl
theorem ovX_ok {T : Tok} (hst : T.strong = true) {f : FuncId} {tS tR : TypeId} (h : extIs P f = true) (h2 : (P.funcs[f]?).bind Extern.find = some (Extern.SlicesOverlaps.overlaps #[tS, tS] #[tR])) (ht : (elemT (P.underlying tS)).map (fun e => hasT P e) = some true) : @XSound T P f ovX := by
  intro args m v m' hx φ w cargs hr hv
  obtain ⟨x, y, rfl, h3⟩ := arg2_ok hx
  obtain ⟨a, o, n, c, ex, es, rfl, h4⟩ := onSlice_ok h3
  obtain ⟨b, o', n', c', ex', es', rfl, h5⟩ := onSlice_ok h4
  obtain ⟨h6, h7⟩ := cond_t h5
  cases h7
  simp only [Bool.and_eq_true, Bool.not_eq_true'] at h6
  obtain ⟨⟨g1, g2, g3⟩, ⟨g4, g5⟩, g6⟩ := h6
  have hab : a ≠ b := fun e => by rw [beq_true.2 e] at g1; cases g1
  have hn := ble_true.1 g2
  have hn' := ble_true.1 g3
  obtain ⟨cx, cy, hc, hcx, hcy⟩ := vs2 hv
  have hcargs : cargs = #[cx, cy] := hc
  subst hcargs
  have hia := @Rel.inj T P φ m w hr
  cases hcx with
  | slice _ _ _ _ _ _ cb co sz oc capc hφ q1 q2 q3 q4 q5 =>
  cases hcy with
  | slice _ _ _ _ _ _ cb2 co2 sz2 oc2 capc2 hφ2 p1 p2 p3 p4 p5 =>
  have ham := @Rel.dom T P φ m w hr _ _ hφ
  have hbm := @Rel.dom T P φ m w hr _ _ hφ2
  obtain ⟨b1, k1, ca, ea, fa, e1, e2, e3, e4⟩ := blk_cells hst g4 (@Rel.blk T P φ m w hr a ham)
  obtain ⟨b2, k2, cc, ec, fc, f1, f2, f3, f4⟩ := blk_cells hst g5 (@Rel.blk T P φ m w hr b hbm)
  rw [hφ] at e1
  cases e1
  rw [hφ2] at f1
  cases f1
  have ho := q4 (by omega)
  have ho2 := p4 (by omega)
  have hne : cb ≠ cb2 := by
    intro e
    subst e
    rw [Bool.or_eq_true] at g6
    rcases g6 with g6 | g6
    · exact hia a b _ _ _ _ _ ham hbm hab g6 (blk_live g5) hφ hφ2
    · exact hia b a _ _ _ _ _ hbm ham (Ne.symm hab) g6 (blk_live g4) hφ2 hφ
  have nofr : ∀ {bb off : Nat} {cv : Array Value} {el : TypeId} {fz : Nat × Nat}, w.heap[bb]? = some (.cells cv el fz) → ¬ (fz.1 ≤ off ∧ off < fz.2) → w.frozen? ⟨bb, off, none⟩ = false := by
    intro bb off cv el fz hh hp
    simp only [World.frozen?, hh]
    cases h3 : (decide (fz.1 ≤ off) && decide (off < fz.2)) with
    | false => rfl
    | true => simp at h3; exact absurd h3 hp
  have hz1 : co + 0 ≤ ca.size := by omega
  have main : (stringish ⟨cb, oc, none⟩).run P w = .ok false w ∧ w.frozen? ⟨cb, oc, none⟩ = false ∨ (stringish ⟨cb2, oc2, none⟩).run P w = .ok false w ∧ w.frozen? ⟨cb2, oc2, none⟩ = false := by
    rw [Bool.or_eq_true] at g6
    rcases g6 with g6 | g6
    · left
      have z1 := e4 g6 oc (by omega) (by omega)
      exact ⟨run_stringish_no e2 z1 (e4 g6 ca.size (by omega) (Nat.le_refl _)), nofr e2 z1⟩
    · right
      have z1 := f4 g6 oc2 (by omega) (by omega)
      exact ⟨run_stringish_no f2 z1 (f4 g6 cc.size (by omega) (Nat.le_refl _)), nofr f2 z1⟩
  unfold extIs at h
  cases hfn : P.funcs[f]? with
  | none => rw [hfn] at h; cases h
  | some fn =>
    rw [hfn] at h h2
    simp only [Bool.and_eq_true, Bool.not_eq_true'] at h
    cases hu : P.underlying tS with
    | none => rw [hu] at ht; cases ht
    | some d =>
      rw [hu] at ht
      cases d <;> first | (cases ht; done) | skip
      rename_i e
      have hte : hasT P e = true := by simpa [elemT] using ht
      have h3 := run_overlaps_no (tR := tR) (an := n) (bn := n') (ac := capc) (bc := capc2) hu (fun w => @run_sizeOf' tok0 P _ _ hte) hne e2 f2 e3 f3 (main.imp And.left And.left) (main.imp And.right And.right)
      left
      refine ⟨.bool false, w, ?_, φ, @Step.refl T P φ m w hr, @VRel.bool T φ false⟩
      rw [run_callFunc_extern hfn h.1.1 h.1.2 (Option.isNone_iff_eq_none.1 h.2) h2, h3]; rfl
end
end Go.AM

namespace Go.AM
variable {P : Program}
noncomputable section

/- ### slices.Insert of one element of two cells at the head of a row of one -/
def insMem (G : Nat) (sp : List AVal) : Mem := mkMem G 0 .none [.cells false (.opq 0 :: .opq 1 :: sp), .cells true [.opq 2, .opq 3]]
def insArgs (G : Nat) (c : Nat) (ex : Bool) : List AVal := [.slice (Nat.succ G) 0 1 c ex 2, .int .i64 (.ofNat 0), .slice (Nat.succ (Nat.succ G)) 0 1 1 false 2]
def isOpq (j : Nat) : AVal → Bool
  | .opq i => Nat.beq i j
  | _ => false
def on4 (l : List AVal) (f : AVal → AVal → AVal → AVal → Bool) : Bool :=
  onL false (fun a l => onL false (fun b l => onL false (fun c l => onL false (fun d _ => f a b c d) l) l) l) l
/-- what it must end in -/
def insChk (G : Nat) (v : AVal) (m : Mem) : Bool :=
  match v with
  | .slice b o n c _ es => match m.get b with
    | .cells false cs => and (and (and (Nat.beq o 0) (Nat.beq n 2)) (and (Nat.beq es 2) (Nat.ble 2 c))) (and (and (or (Nat.beq b (Nat.succ G)) (Nat.ble (Nat.add G 3) b)) (Nat.ble (Nat.succ b) m.next)) (on4 cs fun w x y z => and (and (isOpq 2 w) (isOpq 3 x)) (and (isOpq 0 y) (isOpq 1 z))))
    | _ => false
  | _ => false
def InsRuns (P : Program) (f : FuncId) (G : Nat) : Prop := ∀ (T : Tok) (φ : Phi) (w : World) (cargs : Array Value) (c : Nat) (ex : Bool) (sp : List AVal), (c = 1 ∧ ex = true ∧ sp = [] ∨ (∃ k, c = Nat.succ (Nat.succ k)) ∧ ex = true ∧ sp = [.any, .any]) →
  @Rel T P φ (insMem G sp) w → @VsRel T φ (insArgs G c ex) cargs.toList → Ends P f cargs w fun cv w' => ∃ φ' v mf, @Step T P φ (insMem G sp) w φ' mf w' ∧ @VRel T φ' v cv ∧ insChk G v mf = true
/-- what stands in for it -/
def insX (G : Nat) (args : List AVal) (m : Mem) : R :=
  onL (.fail 170) (fun s r => arg2 r fun i v => s.onSlice fun b o n c _ es => v.onSlice fun vb vo vn _ _ ves =>
    (m.get b).onCells fun ro cs => (m.get vb).onCells fun _ vcs =>
      cond' (.ok (.slice m.next 0 2 2 false 2) ((⟨Nat.succ m.next, putT m.next (.cells false (appL (takeL 2 cs) (takeL 2 vcs))) m.t⟩ : Mem).put b .none)) (.fail 171)
        (and (and (and (and (Nat.beq o 0) (Nat.beq n 1)) (and (Nat.beq es 2) (Nat.ble 1 c))) (and (and (Nat.beq vo 0) (Nat.beq vn 1)) (and (Nat.beq ves 2) (not ro))))
          (and (and (and (aeqN 2 i (.int .i64 (.ofNat 0))) (not (Nat.beq b vb))) (and (Nat.beq (lenL (takeL 2 cs)) 2) (Nat.beq (lenL (takeL 2 vcs)) 2))) (and (Nat.ble (Nat.succ m.next) 65536) (and (Nat.ble (Nat.succ G) b) (Nat.ble (Nat.succ G) vb)))))) args
@[reducible] def tok4 (st : Bool) (v : Nat → Value) (h : ∀ j, (v j).oneCell' = true) : Tok where
  strong := st
  num _ := 0
  cnt := 0
  pos _ hj := absurd hj (Nat.not_lt_zero _)
  hi _ hj := absurd hj (Nat.not_lt_zero _)
  mono _ _ _ hj := absurd hj (Nat.not_lt_zero _)
  base := 0
  val := v
  cell := h
theorem opq_inv {T : Tok} {φ : Phi} {x : AVal} {j : Nat} {c : Value} (h : isOpq j x = true) (hv : @VRel T φ x c) : c = T.val j := by
  cases x <;> first | (cases h; done) | skip
  have := beq_true.1 h
  subst this
  cases hv; rfl
theorem on4_ok {l : List AVal} {f : AVal → AVal → AVal → AVal → Bool} (h : on4 l f = true) : ∃ a b c d r, l = a :: b :: c :: d :: r ∧ f a b c d = true := by
  match l, h with
  | a :: b :: c :: d :: r, h => exact ⟨a, b, c, d, r, rfl, h⟩
theorem aeq_int {x : AVal} (h : aeqN 2 x (.int .i64 (.ofNat 0)) = true) : x = .int .i64 0 := by
  cases x <;> first | (cases h; done) | skip
  rename_i k z
  have h' : and (ikEq k .i64) (ieq z (.ofNat 0)) = true := h
  rw [Bool.and_eq_true] at h'
  cases k <;> first | (cases h'.1; done) | skip
  cases z with
  | negSucc n => cases h'.2
  | ofNat n =>
    have := beq_true.1 h'.2
    subst this; rfl
theorem insX_ok {T : Tok} {f : FuncId} {G : Nat} (hG : P.globals.size = G) (h0 : 0 < G) (hruns : InsRuns P f G) : @XSound T P f (insX G) := by
  intro args m v m' h φ w cargs hr hv
  obtain ⟨s, r, rfl, h1⟩ := onL_ok h
  obtain ⟨i, vv, rfl, h2⟩ := arg2_ok h1
  obtain ⟨b, o, n, c, ex, es, rfl, h3⟩ := onSlice_ok h2
  obtain ⟨vb, vo, vn, vc, vex, ves, rfl, h4⟩ := onSlice_ok h3
  obtain ⟨ro, cs, hb, h5⟩ := onCells_ok h4
  obtain ⟨vro, vcs, hvb, h6⟩ := onCells_ok h5
  obtain ⟨h7, h8⟩ := cond_t h6
  simp only [Bool.and_eq_true, beq_true, ble_true, lenL_eq, takeL_eq, Bool.not_eq_true'] at h7
  obtain ⟨⟨⟨⟨rfl, rfl⟩, rfl, hc1⟩, ⟨rfl, rfl⟩, rfl, rfl⟩, ⟨⟨hi, hne⟩, hl1, hl2⟩, hnx, hGb, hGv⟩ := h7
  have hi' := aeq_int hi
  subst hi'
  cases h8
  have hne' : b ≠ vb := fun e => by rw [e, beq_true.2 rfl] at hne; cases hne
  generalize hcl : cargs.toList = L at hv
  cases hv with
  | cons hs hv =>
  rename_i cS cargs1
  cases hv with
  | cons hi hv =>
  rename_i cI cargs2
  cases hv with
  | cons hvv hv =>
  rename_i cV cargs3
  cases hv
  cases hi
  cases hs with
  | slice _ _ _ _ _ _ cb co sz o' cap' hφ q1 q2 q3 q4 q5 =>
  cases hvv with
  | slice _ _ _ _ _ _ vcb vco vsz vo' vcap' vhφ v1 v2 v3 v4 v5 =>
  have q4' := q4 (by omega)
  have v4' := v4 (by omega)
  have hbm := @Rel.dom T P φ m w hr _ _ hφ
  have hvm := @Rel.dom T P φ m w hr _ _ vhφ
  have hB := @Rel.blk T P φ m w hr b hbm
  have hV := @Rel.blk T P φ m w hr vb hvm
  rw [hb] at hB
  rw [hvb] at hV
  obtain ⟨cb2, co2, ca, el, fz, r1, r2, r3, r4, r5, r6⟩ := hB
  obtain ⟨vcb2, vco2, va, vel, vfz, s1, s2, s3, s4, s5, s6⟩ := hV
  rw [hφ] at r1
  rw [vhφ] at s1
  cases r1
  cases s1
  -- the two rows' cells
  match cs, hl1, hb, r3, r4, r5 with
  | x0 :: x1 :: xr, _, hb, r3, r4, r5 =>
  match vcs, hl2, hvb, s3, s4, s5 with
  | y0 :: y1 :: yr, _, hvb, s3, s4, s5 =>
  simp only [List.length_cons] at r3 r4 s3 s4
  obtain ⟨c0, g0, hx0⟩ := @VsRel.get T φ _ _ r4 0 x0 rfl
  obtain ⟨c1, g1, hx1⟩ := @VsRel.get T φ _ _ r4 1 x1 rfl
  obtain ⟨d0, e0, hy0⟩ := @VsRel.get T φ _ _ s4 0 y0 rfl
  obtain ⟨d1, e1, hy1⟩ := @VsRel.get T φ _ _ s4 1 y1 rfl
  have pc0 := @VRel.plain T φ _ _ hx0 (r5 x0 (by simp))
  have pc1 := @VRel.plain T φ _ _ hx1 (r5 x1 (by simp))
  have pd0 := @VRel.plain T φ _ _ hy0 (s5 y0 (by simp))
  have pd1 := @VRel.plain T φ _ _ hy1 (s5 y1 (by simp))
  rw [List.getElem?_take, if_pos (by omega), List.getElem?_drop, Array.getElem?_toList] at g0 g1 e0 e1
  let vals : Nat → Value := fun j => match j with | 0 => c0 | 1 => c1 | 2 => d0 | 3 => d1 | _ => .nilIface
  have hvals : ∀ j, (vals j).oneCell' = true := fun j => by
    match j with
    | 0 => exact pc0
    | 1 => exact pc1
    | 2 => exact pd0
    | 3 => exact pd1
    | n + 4 => rfl
  let T' : Tok := tok4 T.strong vals hvals
  let σ : Map := ⟨G, [b, vb], [], fun _ => .bad, fun _ => .bad⟩
  have hφb : absPhi σ φ (G + 1) = some (cb, co, ca.size) := by
    unfold absPhi
    rw [if_pos (by rw [top_eq]; show G + 1 < G + 1 + 2; omega), nm_high (by show G < G + 1; omega)]
    show φ (([b, vb][G + 1 - (G + 1)]?).getD 0) = _
    rw [Nat.sub_self]; exact hφ
  have hφv : absPhi σ φ (G + 2) = some (vcb, vco, va.size) := by
    unfold absPhi
    rw [if_pos (by rw [top_eq]; show G + 2 < G + 1 + 2; omega), nm_high (by show G < G + 2; omega)]
    show φ (([b, vb][G + 2 - (G + 1)]?).getD 0) = _
    rw [show G + 2 - (G + 1) = 1 by omega]; exact vhφ
  have main : ∀ (c' : Nat) (sp : List AVal), (c' = 1 ∧ sp = [] ∨ (∃ k, c' = Nat.succ (Nat.succ k)) ∧ sp = [.any, .any]) → cap' = c' →
      Ends P f cargs w fun c w' => ∃ φ', @Step T P φ m w φ' ((⟨Nat.succ m.next, putT m.next (.cells false (appL (takeL 2 (x0 :: x1 :: xr)) (takeL 2 (y0 :: y1 :: yr)))) m.t⟩ : Mem).put b .none) w' ∧ @VRel T φ' (.slice m.next 0 2 2 false 2) c := by
    intro c' sp hsp hcap
    have hrel : @Rel T' P (absPhi σ φ) (insMem G sp) w := by
      refine own (T := T) (T' := T') (σ := σ) (φ := φ) (m := m) hG.symm hr h0 (by rw [top_eq]; show G + 1 + 2 ≤ 65536; omega) rfl trivial (fun h => by cases h) (by simp [σ, hne']) rfl ?_ (fun b o hb => by cases hb) (fun _ => rfl)
      intro i b' n' hi hn
      match i with
      | 0 =>
        simp only [List.getElem?_cons_zero, Option.some.injEq] at hi hn
        subst hi
        have hn' : b = n' := by simpa [σ] using hn
        subst hn'
        refine ⟨hGb, hbm, ?_, fun _ => by rw [hb]; rfl, fun _ => by rw [hb]; rfl⟩
        have h2l : sp.length = 0 ∧ sp = [] ∨ sp = [.any, .any] ∧ co + 4 ≤ ca.size := by
          rcases hsp with ⟨_, rfl⟩ | ⟨⟨k, hk⟩, rfl⟩
          · exact .inl ⟨rfl, rfl⟩
          · right; refine ⟨rfl, ?_⟩
            rw [hcap, hk] at q5; omega
        have cell : ∀ i, co ≤ i → i < ca.size → ∀ x, ca[i]? = some x → x.oneCell' = true := fun i g1 g2 => (r6 rfl i g1 (.inl g2)).2
        refine ⟨cb, co, ca, el, fz, hφb, r2, ?_, ?_, ?_, r6⟩
        · rcases h2l with ⟨_, rfl⟩ | ⟨rfl, h4⟩
          · show co + 2 ≤ _; omega
          · exact h4
        · rcases h2l with ⟨_, rfl⟩ | ⟨rfl, h4⟩
          · have : ((ca.toList.drop co).take [AVal.opq 0, AVal.opq 1].length) = [c0, c1] := by
              apply List.ext_getElem?
              intro j
              match j with
              | 0 => rw [List.getElem?_take, if_pos (by decide), List.getElem?_drop, Array.getElem?_toList]; exact g0
              | 1 => rw [List.getElem?_take, if_pos (by decide), List.getElem?_drop, Array.getElem?_toList]; exact g1
              | j + 2 => rw [List.getElem?_take, if_neg (by show ¬ (j + 2 < 2); omega)]; rfl
            rw [this]
            exact @VsRel.cons T' _ _ _ _ _ (@VRel.opq T' _ 0) (@VsRel.cons T' _ _ _ _ _ (@VRel.opq T' _ 1) (@VsRel.nil T' _))
          · have h2 : co + 2 < ca.size := by omega
            have h3 : co + 3 < ca.size := by omega
            have : ((ca.toList.drop co).take [AVal.opq 0, AVal.opq 1, AVal.any, AVal.any].length) = [c0, c1, ca[co + 2], ca[co + 3]] := by
              apply List.ext_getElem?
              intro j
              match j with
              | 0 => rw [List.getElem?_take, if_pos (by decide), List.getElem?_drop, Array.getElem?_toList]; exact g0
              | 1 => rw [List.getElem?_take, if_pos (by decide), List.getElem?_drop, Array.getElem?_toList]; exact g1
              | 2 => rw [List.getElem?_take, if_pos (by decide), List.getElem?_drop, Array.getElem?_toList, Array.getElem?_eq_getElem h2]; rfl
              | 3 => rw [List.getElem?_take, if_pos (by decide), List.getElem?_drop, Array.getElem?_toList, Array.getElem?_eq_getElem h3]; rfl
              | j + 4 => rw [List.getElem?_take, if_neg (by show ¬ (j + 4 < 4); omega)]; rfl
            have p2 := cell (co + 2) (by omega) h2 _ (Array.getElem?_eq_getElem h2)
            have p3 := cell (co + 3) (by omega) h3 _ (Array.getElem?_eq_getElem h3)
            show @VsRel T' _ [AVal.opq 0, AVal.opq 1, AVal.any, AVal.any] ((ca.toList.drop co).take [AVal.opq 0, AVal.opq 1, AVal.any, AVal.any].length)
            rw [this]
            exact @VsRel.cons T' _ _ _ _ _ (@VRel.opq T' _ 0) (@VsRel.cons T' _ _ _ _ _ (@VRel.opq T' _ 1) (@VsRel.cons T' _ _ _ _ _ (@VRel.any T' _ _ p2) (@VsRel.cons T' _ _ _ _ _ (@VRel.any T' _ _ p3) (@VsRel.nil T' _))))
        · intro v hv
          rcases h2l with ⟨_, rfl⟩ | ⟨rfl, _⟩ <;> simp at hv
          · rcases hv with rfl | rfl <;> rfl
          · rcases hv with rfl | rfl | rfl <;> rfl
      | 1 =>
        simp only [List.getElem?_cons_succ, List.getElem?_cons_zero, Option.some.injEq] at hi hn
        subst hi
        have hn' : vb = n' := by simpa [σ] using hn
        subst hn'
        refine ⟨hGv, hvm, ?_, fun h => (by cases h), fun _ => by rw [hvb]; rfl⟩
        refine ⟨vcb, vco, va, vel, vfz, hφv, s2, ?_, ?_, ?_, fun h => (by cases h)⟩
        · show vco + 2 ≤ _; omega
        · have : ((va.toList.drop vco).take [AVal.opq 2, AVal.opq 3].length) = [d0, d1] := by
            apply List.ext_getElem?
            intro j
            match j with
            | 0 => rw [List.getElem?_take, if_pos (by decide), List.getElem?_drop, Array.getElem?_toList]; exact e0
            | 1 => rw [List.getElem?_take, if_pos (by decide), List.getElem?_drop, Array.getElem?_toList]; exact e1
            | j + 2 => rw [List.getElem?_take, if_neg (by show ¬ (j + 2 < 2); omega)]; rfl
          rw [this]
          exact @VsRel.cons T' _ _ _ _ _ (@VRel.opq T' _ 2) (@VsRel.cons T' _ _ _ _ _ (@VRel.opq T' _ 3) (@VsRel.nil T' _))
        · intro v hv
          simp at hv
          rcases hv with rfl | rfl <;> rfl
      | i + 2 => simp at hi
    have hargs : @VsRel T' (absPhi σ φ) (insArgs G c' true) cargs.toList := by
      rw [hcl]
      refine @VsRel.cons T' _ _ _ _ _ ?_ (@VsRel.cons T' _ _ _ _ _ (@VRel.int T' _ _ _) (@VsRel.cons T' _ _ _ _ _ ?_ (@VsRel.nil T' _)))
      · exact @VRel.slice T' _ (G + 1) 0 1 c' true 2 cb co ca.size o' cap' hφb (by rcases hsp with ⟨rfl, _⟩ | ⟨⟨k, rfl⟩, _⟩ <;> omega) (by omega) (fun _ => hcap) (fun _ => q4') q5
      · exact @VRel.slice T' _ (G + 2) 0 1 1 false 2 vcb vco va.size vo' vcap' hφv (Nat.le_refl _) (by omega) (fun h => by cases h) (fun _ => v4') v5
    refine (hruns T' (absPhi σ φ) w cargs c' true sp (hsp.elim (fun h => .inl ⟨h.1, rfl, h.2⟩) (fun h => .inr ⟨h.1, rfl, h.2⟩)) hrel hargs).mono fun cv w' ⟨φ'', u, mf, hst, hu, hchk⟩ => ?_
    have hrf := @Step.rel T' P _ _ _ _ _ _ hst
    unfold insChk at hchk
    split at hchk
    · rename_i N oN nN cN exN esN
      split at hchk
      · rename_i csN hN
        simp only [Bool.and_eq_true, Bool.or_eq_true, beq_true, ble_true] at hchk
        obtain ⟨⟨⟨rfl, rfl⟩, rfl, hcN⟩, ⟨hNn, hNm⟩, h4⟩ := hchk
        obtain ⟨t0, t1, t2, t3, tr, rfl, h5⟩ := on4_ok h4
        simp only [Bool.and_eq_true] at h5
        obtain ⟨⟨o2, o3⟩, o0, o1⟩ := h5
        have hBN := @Rel.blk T' P _ _ _ hrf N hNm
        rw [hN] at hBN
        obtain ⟨nb, nco, na, nel, nfz, z1, z2, z3, z4, z5, z6⟩ := hBN
        simp only [List.length_cons] at z3 z4
        have gets : ∀ (W : Nat) (p : Nat), W < 65536 → (insMem G sp).next = G + 3 ∧ True := fun _ _ _ => ⟨by unfold insMem mkMem; rw [addL_next]; rfl, trivial⟩
        have hMn : (insMem G sp).next = G + 3 := (gets 0 0 (by omega)).1
        have hwrM : ∀ q, q < G + 3 → ((insMem G sp).get q).wr = true → q = G + 1 := by
          intro q hq hw
          unfold insMem at hw
          rw [mkMem_get h0 (by show G + 1 + 2 ≤ 65536; omega) (by omega)] at hw
          split at hw
          · rename_i h9
            have h9' : q < G + 1 + 2 := h9.2
            rcases (by omega : q = G + 1 ∨ q = G + 2) with e | e
            · exact e
            · subst e
              rw [show G + 2 - (G + 1) = 1 by omega] at hw
              cases hw
          · split at hw <;> cases hw
        have hnbcb : nb = cb ∨ w.heap.size ≤ nb := by
          rcases hNn with e | e
          · left
            subst e
            have := @Step.ext T' P _ _ _ _ _ _ hst _ _ hφb
            exact (congrArg Prod.fst (Option.some.inj (this.symm.trans z1))).symm
          · have e : G + 3 ≤ N := e
            rcases Nat.lt_or_ge nb w.heap.size with h9 | h9
            · obtain ⟨q, oq, sq, w1, w2, w3⟩ := @Step.img T' P _ _ _ _ _ _ hst N nb nco na.size (by rw [hMn]; exact e) hNm (by rw [hN]; rfl) z1 h9
              rw [hMn] at w1
              have := hwrM q w1 w2
              subst this
              rw [hφb] at w3; cases w3; exact .inl rfl
            · exact .inr h9
        have hNh : N ≠ P.globals.size := by
          rw [hG]
          rcases hNn with e | e
          · omega
          · have e : G + 3 ≤ N := e
            omega
        have hnl := @Rel.heap T' P _ _ _ hrf N nb nco na.size z1 hNh
        have hext : Ext' φ (fun q => if q = m.next then some (nb, nco, na.size) else φ q) := by
          intro q y hq
          have := @Rel.dom T P φ m w hr q y hq
          show (if q = m.next then _ else _) = _
          rw [if_neg (by omega)]; exact hq
        refine ⟨_, @Step.repl P T φ m w hr w' b cb co ca.size hbm (by rw [hb]; rfl) hφ (.cells false (appL (takeL 2 (x0 :: x1 :: xr)) (takeL 2 (y0 :: y1 :: yr)))) nb nco na.size (by omega) ?_ (@Step.size T' P _ _ _ _ _ _ hst) (@Step.os T' P _ _ _ _ _ _ hst) (@Step.out T' P _ _ _ _ _ _ hst) (@Step.tape T' P _ _ _ _ _ _ hst) hnbcb hnl ?_, ?_⟩
        · intro q hq hne2
          refine @Step.frame T' P _ _ _ _ _ _ hst q hq ?_
          intro p' o1' s1' hp' hw' he'
          rw [hMn] at hp'
          have := hwrM p' hp' hw'
          subst this
          rw [hφb] at he'; cases he'; exact hne2 rfl
        · have hlist : appL (takeL 2 (x0 :: x1 :: xr)) (takeL 2 (y0 :: y1 :: yr)) = [y0, y1, x0, x1] := rfl
          rw [hlist]
          refine ⟨nb, nco, na, nel, nfz, by simp, z2, by show nco + 4 ≤ _; omega, ?_, ?_, z6⟩
          · obtain ⟨u0, a0, b0⟩ := @VsRel.get T' _ _ _ z4 0 t0 rfl
            obtain ⟨u1, a1, b1⟩ := @VsRel.get T' _ _ _ z4 1 t1 rfl
            obtain ⟨u2, a2, b2⟩ := @VsRel.get T' _ _ _ z4 2 t2 rfl
            obtain ⟨u3, a3, b3⟩ := @VsRel.get T' _ _ _ z4 3 t3 rfl
            have k0 : u0 = d0 := opq_inv o2 b0
            have k1 : u1 = d1 := opq_inv o3 b1
            have k2 : u2 = c0 := opq_inv o0 b2
            have k3 : u3 = c1 := opq_inv o1 b3
            subst k0 k1 k2 k3
            rw [List.getElem?_take, if_pos (by omega), List.getElem?_drop] at a0 a1 a2 a3
            have : ((na.toList.drop nco).take [y0, y1, x0, x1].length) = [u0, u1, u2, u3] := by
              apply List.ext_getElem?
              intro j
              match j with
              | 0 => rw [List.getElem?_take, if_pos (by show 0 < 4; omega), List.getElem?_drop]; exact a0
              | 1 => rw [List.getElem?_take, if_pos (by show 1 < 4; omega), List.getElem?_drop]; exact a1
              | 2 => rw [List.getElem?_take, if_pos (by show 2 < 4; omega), List.getElem?_drop]; exact a2
              | 3 => rw [List.getElem?_take, if_pos (by show 3 < 4; omega), List.getElem?_drop]; exact a3
              | j + 4 => rw [List.getElem?_take, if_neg (by show ¬ (j + 4 < 4); omega)]; rfl
            rw [this]
            exact @VsRel.mono T φ _ hext _ _ (@VsRel.cons T _ _ _ _ _ hy0 (@VsRel.cons T _ _ _ _ _ hy1 (@VsRel.cons T _ _ _ _ _ hx0 (@VsRel.cons T _ _ _ _ _ hx1 (@VsRel.nil T _)))))
          · intro v hv
            simp at hv
            rcases hv with rfl | rfl | rfl | rfl
            · exact s5 _ (by simp)
            · exact s5 _ (by simp)
            · exact r5 _ (by simp)
            · exact r5 _ (by simp)
        · generalize hcv : cv = cc at hu
          cases hu with
          | slice _ _ _ _ _ _ nb2 nco2 nsz2 no' ncap' w1 w2 w3 w4 w5 w6 =>
            rw [z1] at w1; cases w1
            exact @VRel.slice T _ m.next 0 2 2 false 2 nb nco na.size no' ncap' (by simp) (Nat.le_refl _) (by omega) (fun h => by cases h) (fun _ => w5 (by omega)) w6
      · cases hchk
    · cases hchk
  rcases Nat.lt_or_ge cap' 2 with h9 | h9
  · exact main 1 [] (.inl ⟨rfl, rfl⟩) (by omega)
  · exact main cap' [.any, .any] (.inr ⟨⟨cap' - 2, by omega⟩, rfl⟩) rfl
end
end Go.AM

namespace Go.AM
variable {P : Program}
noncomputable section

/- ### a row is edited: slices.Insert, slices.Replace, whatever the capacity -/
def opqL : List Nat → List AVal
  | [] => []
  | j :: l => .opq j :: opqL l
def anyL : Nat → List AVal
  | 0 => []
  | n + 1 => .any :: anyL n
def edMem (G N M : Nat) (sp : List AVal) : Mem := mkMem G 0 .none [.cells false (appL sp (opqL (natL N 0))), .cells true (opqL (natL M 100))]
def edArgs (G n z c : Nat) (ex : Bool) (ints : List AVal) (mv : Nat) : List AVal := .slice (Nat.succ G) 0 n c ex z :: appL [.slice (Nat.succ (Nat.succ G)) 0 mv mv false z] ints
def edSel : List Nat → List AVal → Bool
  | [], _ => true
  | j :: l, x :: xs => cond' (edSel l xs) false (isOpq j x)
  | _ :: _, [] => false
def edChk (G q z : Nat) (sel : List Nat) (v : AVal) (m : Mem) : Bool :=
  match v with
  | .slice b o n c _ es => match m.get b with
    | .cells false cs => and (and (and (Nat.beq o 0) (Nat.beq n q)) (and (Nat.beq es z) (Nat.ble q c))) (and (and (or (Nat.beq b (Nat.succ G)) (Nat.ble (Nat.add G 3) b)) (Nat.ble (Nat.succ b) m.next)) (edSel sel cs))
    | _ => false
  | _ => false
def EdRuns (P : Program) (f : FuncId) (G n z mv q : Nat) (ints : List AVal) (sel : List Nat) : Prop := ∀ (T : Tok) (φ : Phi) (w : World) (cargs : Array Value) (c : Nat) (ex : Bool) (sp : List AVal), T.strong = true → (c = n ∧ ex = true ∧ sp = [] ∨ (∃ k, c = Nat.add k (Nat.succ n)) ∧ ex = true ∧ sp = anyL z) →
  @Rel T P φ (edMem G (n * z) (mv * z) sp) w → @VsRel T φ (edArgs G n z c ex ints mv) cargs.toList → Ends P f cargs w fun cv w' => ∃ φ' v mf, @Step T P φ (edMem G (n * z) (mv * z) sp) w φ' mf w' ∧ @VRel T φ' v cv ∧ edChk G q z sel v mf = true
def nthA (j : Nat) (l : List AVal) : AVal := onL .bad (fun x _ => x) (dropL j l)
def selA : List Nat → List AVal → List AVal → List AVal
  | [], _, _ => []
  | j :: l, cs, vs => cond' (nthA j cs) (nthA (Nat.sub j 100) vs) (Nat.ble (Nat.succ j) 100) :: selA l cs vs
theorem nthA_eq (j : Nat) (l : List AVal) : nthA j l = (l[j]?).getD .bad := by
  unfold nthA
  rw [dropL_eq]
  cases h : l.drop j with
  | nil =>
    have : l[j]? = none := by
      rw [List.getElem?_eq_none_iff]
      have := congrArg List.length h
      simp at this; omega
    rw [this]; rfl
  | cons x r =>
    have : l[j]? = some x := by
      have := congrArg (fun l => l[0]?) h
      simpa using this
    rw [this]; rfl
theorem opqL_len : ∀ l : List Nat, (opqL l).length = l.length
  | [] => rfl
  | _ :: l => by show (opqL l).length + 1 = l.length + 1; rw [opqL_len l]
theorem natL_len : ∀ n a : Nat, (natL n a).length = n
  | 0, _ => rfl
  | n + 1, a => by show (natL n (a + 1)).length + 1 = n + 1; rw [natL_len]
theorem anyL_len : ∀ n : Nat, (anyL n).length = n
  | 0 => rfl
  | n + 1 => by show (anyL n).length + 1 = n + 1; rw [anyL_len]
theorem opqL_cell : ∀ {l : List Nat} {v : AVal}, v ∈ opqL l → v.isCell = true
  | [], _, h => by cases h
  | j :: l, v, h => by
    rcases List.mem_cons.1 h with rfl | h
    · rfl
    · exact opqL_cell h
theorem anyL_cell : ∀ {n : Nat} {v : AVal}, v ∈ anyL n → v.isCell = true
  | 0, _, h => by cases h
  | n + 1, v, h => by
    rcases List.mem_cons.1 h with rfl | h
    · rfl
    · exact anyL_cell h
theorem opqL_rel {T : Tok} {φ : Phi} : ∀ (n k : Nat) (l : List Value), l.length = n → (∀ j, j < n → l[j]? = some (T.val (k + j))) → @VsRel T φ (opqL (natL n k)) l
  | 0, _, [], _, _ => @VsRel.nil T φ
  | 0, _, _ :: _, h, _ => by cases h
  | n + 1, k, [], h, _ => by cases h
  | n + 1, k, x :: l, h, hj => by
    have h0 := hj 0 (Nat.succ_pos _)
    simp at h0
    subst h0
    refine @VsRel.cons T φ _ _ _ _ (@VRel.opq T φ k) (opqL_rel n (k + 1) l (by simpa using h) fun j hjn => ?_)
    have := hj (j + 1) (by omega)
    rw [List.getElem?_cons_succ] at this
    rw [this]; congr 2; omega
theorem anyL_rel {T : Tok} {φ : Phi} : ∀ (l : List Value), (∀ v, v ∈ l → v.oneCell' = true) → @VsRel T φ (anyL l.length) l
  | [], _ => @VsRel.nil T φ
  | x :: l, h => @VsRel.cons T φ _ _ _ _ (@VRel.any T φ x (h x (List.mem_cons_self ..))) (anyL_rel l fun v hv => h v (List.mem_cons_of_mem _ hv))
theorem edSel_ok {T : Tok} {φ : Phi} : ∀ {sel : List Nat} {cs : List AVal} {l : List Value}, edSel sel cs = true → @VsRel T φ cs l → l.take sel.length = sel.map T.val
  | [], _, l, _, _ => by simp
  | j :: s, [], _, h, _ => by cases h
  | j :: s, x :: cs, l, h, hv => by
    have h' : cond' (edSel s cs) false (isOpq j x) = true := h
    cases hb : isOpq j x with
    | false => rw [hb] at h'; cases h'
    | true =>
      rw [hb] at h'
      cases hv with
      | cons h1 h2 =>
        have e := opq_inv hb h1
        have := edSel_ok h' h2
        simp only [List.length_cons, List.take_succ_cons, List.map_cons, this, e]
theorem selA_len : ∀ (sel : List Nat) (cs vs : List AVal), (selA sel cs vs).length = sel.length
  | [], _, _ => rfl
  | _ :: l, cs, vs => by show (selA l cs vs).length + 1 = l.length + 1; rw [selA_len l]
theorem selA_rel {T : Tok} {φ : Phi} {cs vs : List AVal} {V : Nat → Value} : ∀ (sel : List Nat), (∀ j, j ∈ sel → (j < 100 → ∃ x, cs[j]? = some x ∧ @VRel T φ x (V j)) ∧ (¬ j < 100 → ∃ x, vs[j - 100]? = some x ∧ @VRel T φ x (V j))) → @VsRel T φ (selA sel cs vs) (sel.map V)
  | [], _ => @VsRel.nil T φ
  | j :: l, h => by
    refine @VsRel.cons T φ _ _ _ _ ?_ (selA_rel l fun i hi => h i (List.mem_cons_of_mem _ hi))
    obtain ⟨h1, h2⟩ := h j (List.mem_cons_self ..)
    by_cases hj : j < 100
    · obtain ⟨x, hx, hv⟩ := h1 hj
      rw [ble_true.2 hj]
      show @VRel T φ (nthA j cs) (V j)
      rw [nthA_eq, hx]; exact hv
    · obtain ⟨x, hx, hv⟩ := h2 hj
      rw [ble_false.2 (by omega)]
      show @VRel T φ (nthA (j - 100) vs) (V j)
      rw [nthA_eq, hx]; exact hv
theorem selA_cell {cs vs : List AVal} : ∀ (sel : List Nat), (∀ j, j ∈ sel → (j < 100 → ∃ x, cs[j]? = some x ∧ x.isCell = true) ∧ (¬ j < 100 → ∃ x, vs[j - 100]? = some x ∧ x.isCell = true)) → ∀ v, v ∈ selA sel cs vs → v.isCell = true
  | [], _, v, hv => by cases hv
  | j :: l, h, v, hv => by
    rcases List.mem_cons.1 hv with rfl | hv
    · obtain ⟨h1, h2⟩ := h j (List.mem_cons_self ..)
      by_cases hj : j < 100
      · obtain ⟨x, hx, hc⟩ := h1 hj
        rw [ble_true.2 hj]
        show (nthA j cs).isCell = true
        rw [nthA_eq, hx]; exact hc
      · obtain ⟨x, hx, hc⟩ := h2 hj
        rw [ble_false.2 (by omega)]
        show (nthA (j - 100) vs).isCell = true
        rw [nthA_eq, hx]; exact hc
    · exact selA_cell l (fun i hi => h i (List.mem_cons_of_mem _ hi)) v hv
end
end Go.AM

namespace Go.AM
variable {P : Program}

theorem VsRel.snoc_inv {T : Tok} {φ : Phi} {x : AVal} : ∀ {l : List AVal} {L : List Value}, @VsRel T φ (l ++ [x]) L → ∃ li c, L = li ++ [c] ∧ @VsRel T φ l li ∧ @VRel T φ x c
  | [], L, h => by
    cases h with
    | @cons _ c _ cs h1 h2 =>
      cases h2
      exact ⟨[], c, rfl, @VsRel.nil T φ, h1⟩
  | y :: l, L, h => by
    cases h with
    | @cons _ c _ cs h1 h2 =>
      obtain ⟨li, d, rfl, h3, h4⟩ := VsRel.snoc_inv h2
      exact ⟨c :: li, d, rfl, @VsRel.cons T φ _ _ _ _ h1 h3, h4⟩
theorem ints_rel {T T' : Tok} {φ φ' : Phi} : ∀ {l : List AVal} {L : List Value}, (∀ v, v ∈ l → ∃ k i, v = .int k i) → @VsRel T φ l L → @VsRel T' φ' l L
  | [], _, _, h => by cases h; exact @VsRel.nil T' φ'
  | x :: l, _, hi, h => by
    cases h with
    | cons h1 h2 =>
      obtain ⟨k, i, rfl⟩ := hi x (List.mem_cons_self ..)
      cases h1
      exact @VsRel.cons T' φ' _ _ _ _ (@VRel.int T' φ' k i) (ints_rel (fun v hv => hi v (List.mem_cons_of_mem _ hv)) h2)
theorem ed_ok {T : Tok} (hst : T.strong = true) {f : FuncId} {G : Nat} (hG : P.globals.size = G) (h0 : 0 < G) {n z mv q : Nat} {ints : List AVal} {sel : List Nat} (hz : 0 < z) (hn : 0 < n) (hmv : 0 < mv) (hN : n * z ≤ 100)
    (hsel : ∀ j, j ∈ sel → j < n * z ∨ 100 ≤ j ∧ j < 100 + mv * z) (hq : sel.length = q * z) (hq0 : 0 < q) (hints : ∀ v, v ∈ ints → ∃ k i, v = .int k i) (hruns : EdRuns P f G n z mv q ints sel)
    {φ : Phi} {m : Mem} {w : World} {cargs : Array Value} {b vb c vc : Nat} {ex vex : Bool} {cs vcs : List AVal} {vro : Bool} (hr : @Rel T P φ m w) (hb : m.get b = .cells false cs) (hvb : m.get vb = .cells vro vcs) (hne : b ≠ vb) (hGb : G < b) (hGv : G < vb)
    (hl1 : n * z ≤ cs.length) (hl2 : mv * z ≤ vcs.length) (hnx : m.next + 1 ≤ 65536) (hv : @VsRel T φ (.slice b 0 n c ex z :: (ints ++ [.slice vb 0 mv vc vex z])) cargs.toList) :
    Ends P f cargs w fun cv w' => ∃ φ', @Step T P φ m w φ' ((⟨m.next + 1, putT m.next (.cells false (selA sel cs vcs)) m.t⟩ : Mem).put b .none) w' ∧ @VRel T φ' (.slice m.next 0 q q false z) cv := by
  generalize hcl : cargs.toList = L at hv
  cases hv with
  | cons hs hv' =>
  obtain ⟨li, cV, rfl, hli, hvv⟩ := VsRel.snoc_inv hv'
  cases hs with
  | slice _ _ _ _ _ _ cb co sz o' cap' hφ q1 q2 q3 q4 q5 =>
  cases hvv with
  | slice _ _ _ _ _ _ vcb vco vsz vo' vcap' vhφ v1 v2 v3 v4 v5 =>
  have q4' := q4 (by omega)
  have v4' := v4 (by omega)
  have hbm := @Rel.dom T P φ m w hr _ _ hφ
  have hvm := @Rel.dom T P φ m w hr _ _ vhφ
  have hB := @Rel.blk T P φ m w hr b hbm
  have hV := @Rel.blk T P φ m w hr vb hvm
  rw [hb] at hB
  rw [hvb] at hV
  obtain ⟨cb2, co2, ca, el, fz, r1, r2, r3, r4, r5, r6⟩ := hB
  obtain ⟨vcb2, vco2, va, vel, vfz, s1, s2, s3, s4, s5, s6⟩ := hV
  rw [hφ] at r1
  rw [vhφ] at s1
  cases r1
  cases s1
  have hnz : n * z + z ≤ cap' * z ∨ cap' = n := by
    rcases Nat.lt_or_ge n cap' with h | h
    · left
      have := Nat.mul_le_mul_right z h
      rw [Nat.succ_mul] at this; exact this
    · right; omega
  generalize hCL : ca.toList.drop co = cl at r4
  generalize hVL : va.toList.drop vco = vl at s4
  have hcell : ∀ j, j < n * z → ∃ x cv, cs[j]? = some x ∧ cl[j]? = some cv ∧ @VRel T φ x cv ∧ x.isCell = true ∧ cv.oneCell' = true := by
    intro j hj
    have hjc : j < cs.length := by omega
    obtain ⟨cv, h1, h2⟩ := @VsRel.get T φ _ _ r4 j cs[j] (List.getElem?_eq_getElem hjc)
    rw [List.getElem?_take, if_pos hjc] at h1
    have hc := r5 _ (List.getElem_mem hjc)
    exact ⟨_, cv, List.getElem?_eq_getElem hjc, h1, h2, hc, @VRel.plain T φ _ _ h2 hc⟩
  have vcell : ∀ j, j < mv * z → ∃ x cv, vcs[j]? = some x ∧ vl[j]? = some cv ∧ @VRel T φ x cv ∧ x.isCell = true ∧ cv.oneCell' = true := by
    intro j hj
    have hjc : j < vcs.length := by omega
    obtain ⟨cv, h1, h2⟩ := @VsRel.get T φ _ _ s4 j vcs[j] (List.getElem?_eq_getElem hjc)
    rw [List.getElem?_take, if_pos hjc] at h1
    have hc := s5 _ (List.getElem_mem hjc)
    exact ⟨_, cv, List.getElem?_eq_getElem hjc, h1, h2, hc, @VRel.plain T φ _ _ h2 hc⟩
  let vals : Nat → Value := fun j => if j < n * z then (cl[j]?).getD .nilIface else if 100 ≤ j ∧ j < 100 + mv * z then (vl[j - 100]?).getD .nilIface else .nilIface
  have vlo : ∀ j, j < n * z → vals j = (cl[j]?).getD .nilIface := fun j hj => if_pos hj
  have vhi : ∀ j, 100 ≤ j → j < 100 + mv * z → vals j = (vl[j - 100]?).getD .nilIface := fun j h1 h2 => by
    show (if j < n * z then _ else _) = _
    rw [if_neg (by omega), if_pos ⟨h1, h2⟩]
  have hvals : ∀ j, (vals j).oneCell' = true := fun j => by
    by_cases h1 : j < n * z
    · obtain ⟨x, cv, _, h3, _, _, h4⟩ := hcell j h1
      rw [vlo j h1, h3]; exact h4
    · by_cases h2 : 100 ≤ j ∧ j < 100 + mv * z
      · obtain ⟨x, cv, _, h3, _, _, h4⟩ := vcell (j - 100) (by omega)
        rw [vhi j h2.1 h2.2, h3]; exact h4
      · show (if j < n * z then _ else _ : Value).oneCell' = true
        rw [if_neg h1, if_neg h2]; rfl
  let T' : Tok := tok4 T.strong vals hvals
  let σ : Map := ⟨G, [b, vb], [], fun _ => .bad, fun _ => .bad⟩
  have hφb : absPhi σ φ (G + 1) = some (cb, co, ca.size) := by
    unfold absPhi
    rw [if_pos (by rw [top_eq]; show G + 1 < G + 1 + 2; omega), nm_high (by show G < G + 1; omega)]
    show φ (([b, vb][G + 1 - (G + 1)]?).getD 0) = _
    rw [Nat.sub_self]; exact hφ
  have hφv : absPhi σ φ (G + 2) = some (vcb, vco, va.size) := by
    unfold absPhi
    rw [if_pos (by rw [top_eq]; show G + 2 < G + 1 + 2; omega), nm_high (by show G < G + 2; omega)]
    show φ (([b, vb][G + 2 - (G + 1)]?).getD 0) = _
    rw [show G + 2 - (G + 1) = 1 by omega]; exact vhφ
  have hcll : cl.length = ca.size - co := by rw [← hCL]; simp
  have hvll : vl.length = va.size - vco := by rw [← hVL]; simp
  have main : ∀ (c' : Nat) (sp : List AVal), (c' = n ∧ sp = [] ∨ (∃ k, c' = Nat.add k (Nat.succ n)) ∧ sp = anyL z) → cap' = c' →
      Ends P f cargs w fun c w' => ∃ φ', @Step T P φ m w φ' ((⟨m.next + 1, putT m.next (.cells false (selA sel cs vcs)) m.t⟩ : Mem).put b .none) w' ∧ @VRel T φ' (.slice m.next 0 q q false z) c := by
    intro c' sp hsp hcap
    have hspl : n * z + sp.length ≤ cl.length ∧ ∀ v, v ∈ sp → v.isCell = true := by
      rcases hsp with ⟨_, rfl⟩ | ⟨⟨k, hk⟩, rfl⟩
      · refine ⟨?_, fun v hv => by cases hv⟩
        rw [hcll]; simp; omega
      · rw [anyL_len]
        refine ⟨?_, fun v hv => anyL_cell hv⟩
        rcases hnz with h | h
        · rw [hcll]; omega
        · have hk' : c' = k + (n + 1) := hk
          omega
    have hrel : @Rel T' P (absPhi σ φ) (edMem G (n * z) (mv * z) sp) w := by
      refine own (T := T) (T' := T') (σ := σ) (φ := φ) (m := m) hG.symm hr h0 (by rw [top_eq]; show G + 1 + 2 ≤ 65536; omega) rfl trivial (fun h => by cases h) (by simp [σ, hne]) rfl ?_ (fun b o hb => by cases hb) (fun _ => rfl)
      intro i b' n' hi hn
      match i with
      | 0 =>
        simp only [List.getElem?_cons_zero, Option.some.injEq] at hi hn
        subst hi
        have hn' : b = n' := by simpa [σ] using hn
        subst hn'
        refine ⟨hGb, hbm, ?_, fun _ => by rw [hb]; rfl, fun _ => by rw [hb]; rfl⟩
        rw [appL_eq]
        refine ⟨cb, co, ca, el, fz, hφb, r2, ?_, ?_, ?_, r6⟩
        · rw [List.length_append, opqL_len, natL_len]
          have := hspl.1
          omega
        · rw [List.length_append, opqL_len, natL_len, hCL, List.take_add]
          refine @VsRel.append T' _ _ _ _ _ (opqL_rel (T := T') (n * z) 0 _ (by rw [List.length_take]; omega) fun j hj => ?_) ?_
          · obtain ⟨x, cv, _, h3, _⟩ := hcell j hj
            rw [List.getElem?_take, if_pos hj, h3]
            show some cv = some (vals (0 + j))
            rw [Nat.zero_add, vlo j hj, h3]; rfl
          · rcases hsp with ⟨_, rfl⟩ | ⟨_, rfl⟩
            · simp; exact @VsRel.nil T' _
            · have hl : ((cl.drop (n * z)).take (anyL z).length).length = z := by
                have := hspl.1
                rw [anyL_len] at this ⊢
                rw [List.length_take, List.length_drop]; omega
              have := anyL_rel (T := T') (φ := absPhi σ φ) ((cl.drop (n * z)).take (anyL z).length) (fun v hv => by
                obtain ⟨i, hi, he⟩ := List.getElem_of_mem (List.mem_of_mem_take hv)
                have h5 := (List.getElem?_eq_getElem hi).trans (congrArg some he)
                rw [List.getElem?_drop, ← hCL, List.getElem?_drop, Array.getElem?_toList] at h5
                have hlt : co + (n * z + i) < ca.size := by
                  rcases Nat.lt_or_ge (co + (n * z + i)) ca.size with h | h
                  · exact h
                  · rw [Array.getElem?_eq_none h] at h5; cases h5
                exact (r6 rfl _ (by omega) (.inl hlt)).2 v h5)
              rw [hl] at this; exact this
        · intro v hv
          rcases List.mem_append.1 hv with hv | hv
          · exact opqL_cell hv
          · exact hspl.2 v hv
      | 1 =>
        simp only [List.getElem?_cons_succ, List.getElem?_cons_zero, Option.some.injEq] at hi hn
        subst hi
        have hn' : vb = n' := by simpa [σ] using hn
        subst hn'
        refine ⟨hGv, hvm, ?_, fun h => (by cases h), fun _ => by rw [hvb]; rfl⟩
        refine ⟨vcb, vco, va, vel, vfz, hφv, s2, ?_, ?_, fun v hv => opqL_cell hv, fun h => (by cases h)⟩
        · rw [opqL_len, natL_len]; omega
        · rw [opqL_len, natL_len, hVL]
          refine opqL_rel (T := T') (mv * z) 100 _ (by rw [List.length_take]; omega) fun j hj => ?_
          obtain ⟨x, cv, _, h3, _⟩ := vcell j hj
          rw [List.getElem?_take, if_pos hj, h3]
          show some cv = some (vals (100 + j))
          rw [vhi (100 + j) (by omega) (by omega), show 100 + j - 100 = j by omega, h3]; rfl
      | i + 2 => simp at hi
    have hargs : @VsRel T' (absPhi σ φ) (edArgs G n z c' true ints mv) cargs.toList := by
      rw [hcl]
      unfold edArgs
      rw [appL_eq]
      refine @VsRel.cons T' _ _ _ _ _ ?_ (@VsRel.append T' _ _ _ _ _ (ints_rel hints hli) (@VsRel.cons T' _ _ _ _ _ ?_ (@VsRel.nil T' _)))
      · exact @VRel.slice T' _ (G + 1) 0 n c' true z cb co ca.size o' cap' hφb (by omega) (by omega) (fun _ => hcap) (fun _ => q4') q5
      · exact @VRel.slice T' _ (G + 2) 0 mv mv false z vcb vco va.size vo' vcap' hφv (Nat.le_refl _) (by omega) (fun h => by cases h) (fun _ => v4') v5
    refine (hruns T' (absPhi σ φ) w cargs c' true sp hst (hsp.elim (fun h => .inl ⟨h.1, rfl, h.2⟩) (fun h => .inr ⟨h.1, rfl, h.2⟩)) hrel hargs).mono fun cv w' ⟨φ'', u, mf, hstp, hu, hchk⟩ => ?_
    have hrf := @Step.rel T' P _ _ _ _ _ _ hstp
    unfold edChk at hchk
    split at hchk
    · rename_i N oN nN cN exN esN
      split at hchk
      · rename_i csN hNb
        simp only [Bool.and_eq_true, Bool.or_eq_true, beq_true, ble_true] at hchk
        obtain ⟨⟨⟨rfl, rfl⟩, rfl, hcN⟩, ⟨hNn, hNm⟩, h4⟩ := hchk
        have hBN := @Rel.blk T' P _ _ _ hrf N hNm
        rw [hNb] at hBN
        obtain ⟨nb, nco, na, nel, nfz, z1, z2, z3, z4, z5, z6⟩ := hBN
        have hMn : (edMem G (n * esN) (mv * esN) sp).next = G + 3 := by unfold edMem mkMem; rw [addL_next]; rfl
        have hwrM : ∀ q, q < G + 3 → ((edMem G (n * esN) (mv * esN) sp).get q).wr = true → q = G + 1 := by
          intro q hq hw
          unfold edMem at hw
          rw [mkMem_get h0 (by show G + 1 + 2 ≤ 65536; omega) (by omega)] at hw
          split at hw
          · rename_i h9
            have h9' : q < G + 1 + 2 := h9.2
            rcases (by omega : q = G + 1 ∨ q = G + 2) with e | e
            · exact e
            · subst e
              rw [show G + 2 - (G + 1) = 1 by omega] at hw
              cases hw
          · split at hw <;> cases hw
        have hnbcb : nb = cb ∨ w.heap.size ≤ nb := by
          rcases hNn with e | e
          · left
            subst e
            have := @Step.ext T' P _ _ _ _ _ _ hstp _ _ hφb
            exact (congrArg Prod.fst (Option.some.inj (this.symm.trans z1))).symm
          · have e : G + 3 ≤ N := e
            rcases Nat.lt_or_ge nb w.heap.size with h9 | h9
            · obtain ⟨q, oq, sq, w1, w2, w3⟩ := @Step.img T' P _ _ _ _ _ _ hstp N nb nco na.size (by rw [hMn]; exact e) hNm (by rw [hNb]; rfl) z1 h9
              rw [hMn] at w1
              have := hwrM q w1 w2
              subst this
              rw [hφb] at w3; cases w3; exact .inl rfl
            · exact .inr h9
        have hNh : N ≠ P.globals.size := by
          rw [hG]
          rcases hNn with e | e
          · omega
          · have e : G + 3 ≤ N := e
            omega
        have hnl := @Rel.heap T' P _ _ _ hrf N nb nco na.size z1 hNh
        have hext : Ext' φ (fun q => if q = m.next then some (nb, nco, na.size) else φ q) := by
          intro q y hq
          have := @Rel.dom T P φ m w hr q y hq
          show (if q = m.next then _ else _) = _
          rw [if_neg (by omega)]; exact hq
        have hpre := edSel_ok h4 z4
        generalize hcv : cv = cc at hu
        cases hu with
        | slice _ _ _ _ _ _ nb2 nco2 nsz2 no' ncap' w1 w2 w3 w4 w5 w6 =>
        rw [z1] at w1; cases w1
        have w5' := w5 (by omega)
        have hlen : (selA sel cs vcs).length = nN * esN := by rw [selA_len, hq]
        have hnN : nco + nN * esN ≤ na.size := by
          have := Nat.mul_le_mul_right esN (Nat.le_trans w2 w3)
          omega
        refine ⟨_, @Step.repl P T φ m w hr w' b cb co ca.size hbm (by rw [hb]; rfl) hφ (.cells false (selA sel cs vcs)) nb nco na.size (by omega) ?_ (@Step.size T' P _ _ _ _ _ _ hstp) (@Step.os T' P _ _ _ _ _ _ hstp) (@Step.out T' P _ _ _ _ _ _ hstp) (@Step.tape T' P _ _ _ _ _ _ hstp) hnbcb hnl ?_, ?_⟩
        · intro q hq hne2
          refine @Step.frame T' P _ _ _ _ _ _ hstp q hq ?_
          intro p' o1' s1' hp' hw' he'
          rw [hMn] at hp'
          have := hwrM p' hp' hw'
          subst this
          rw [hφb] at he'; cases he'; exact hne2 rfl
        · refine ⟨nb, nco, na, nel, nfz, by simp, z2, by rw [hlen]; exact hnN, ?_, ?_, z6⟩
          · have e1 : (na.toList.drop nco).take (selA sel cs vcs).length = sel.map vals := by
              rw [selA_len]
              rw [List.take_take] at hpre
              have hcsN : sel.length ≤ csN.length := by
                have h6 : ∀ (s : List Nat) (l : List AVal), edSel s l = true → s.length ≤ l.length := by
                  intro s
                  induction s with
                  | nil => intro l _; simp
                  | cons a s ih =>
                    intro l h
                    cases l with
                    | nil => cases h
                    | cons x l =>
                      have h' : cond' (edSel s l) false (isOpq a x) = true := h
                      cases hb : isOpq a x with
                      | false => rw [hb] at h'; cases h'
                      | true => rw [hb] at h'; have := ih l h'; simp; omega
                exact h6 _ _ h4
              rw [Nat.min_eq_left hcsN] at hpre
              exact hpre
            rw [e1]
            refine @VsRel.mono T φ _ hext _ _ (selA_rel sel fun j hj => ⟨fun hj1 => ?_, fun hj1 => ?_⟩)
            · have hj2 : j < n * esN := by rcases hsel j hj with h | h <;> omega
              obtain ⟨x, cv, k1, k2, k3, _⟩ := hcell j hj2
              refine ⟨x, k1, ?_⟩
              rw [vlo j hj2, k2]; exact k3
            · have hj2 : 100 ≤ j ∧ j < 100 + mv * esN := by rcases hsel j hj with h | h <;> omega
              obtain ⟨x, cv, k1, k2, k3, _⟩ := vcell (j - 100) (by omega)
              refine ⟨x, k1, ?_⟩
              rw [vhi j hj2.1 hj2.2, k2]; exact k3
          · refine selA_cell sel fun j hj => ⟨fun hj1 => ?_, fun hj1 => ?_⟩
            · have hj2 : j < n * esN := by rcases hsel j hj with h | h <;> omega
              obtain ⟨x, cv, k1, _, _, k4, _⟩ := hcell j hj2
              exact ⟨x, k1, k4⟩
            · have hj2 : 100 ≤ j ∧ j < 100 + mv * esN := by rcases hsel j hj with h | h <;> omega
              obtain ⟨x, cv, k1, _, _, k4, _⟩ := vcell (j - 100) (by omega)
              exact ⟨x, k1, k4⟩
        · exact @VRel.slice T _ m.next 0 nN nN false esN nb nco na.size no' ncap' (by simp) (Nat.le_refl _) (by omega) (fun h => by cases h) (fun _ => w5') w6
      · cases hchk
    · cases hchk
  rcases Nat.lt_or_ge n cap' with h9 | h9
  · exact main cap' (anyL z) (.inr ⟨⟨cap' - (n + 1), by show cap' = cap' - (n + 1) + (n + 1); omega⟩, rfl⟩) rfl
  · exact main n [] (.inl ⟨rfl, rfl⟩) (by omega)
end Go.AM

namespace Go.AM
variable {P : Program}
noncomputable section

/- ### slices.Insert of one pair, slices.Replace of one child by one or two, as stand-ins -/
def appN : List Nat → List Nat → List Nat
  | [], y => y
  | x :: l, y => x :: appN l y
def selIns (n i : Nat) : List Nat := appN (natL (Nat.mul i 2) 0) (100 :: 101 :: natL (Nat.mul (Nat.sub n i) 2) (Nat.mul i 2))
def selRep (n i mv : Nat) : List Nat := appN (natL i 0) (appN (natL mv 100) (natL (Nat.sub n (Nat.succ i)) (Nat.succ i)))
/-- the row and what it gets, given the places -/
def edCore (G z mv : Nat) (sel : List Nat) (q : Nat) (s v : AVal) (m : Mem) : R :=
  s.onSlice fun b o n _ _ es => v.onSlice fun vb vo vn _ _ ves => (m.get b).onCells fun ro cs => (m.get vb).onCells fun _ vcs =>
    cond' (.ok (.slice m.next 0 q q false z) ((⟨Nat.succ m.next, putT m.next (.cells false (selA sel cs vcs)) m.t⟩ : Mem).put b .none)) (.fail 171)
      (and (and (and (and (Nat.beq o 0) (Nat.beq es z)) (and (Nat.beq vo 0) (Nat.beq ves z))) (and (Nat.beq vn mv) (not ro)))
        (and (and (not (Nat.beq b vb)) (and (Nat.ble (Nat.mul n z) (lenL cs)) (Nat.ble (Nat.mul mv z) (lenL vcs)))) (and (Nat.ble (Nat.succ m.next) 65536) (and (Nat.ble (Nat.succ G) b) (Nat.ble (Nat.succ G) vb)))))
def lenOf : AVal → Nat
  | .slice _ _ n _ _ _ => n
  | _ => 0
def insG (G : Nat) (args : List AVal) (m : Mem) : R :=
  onL (.fail 170) (fun s r => arg2 r fun iv v => iv.onNat fun i => cond' (cond' (edCore G 2 1 (selIns (lenOf s) i) (Nat.succ (lenOf s)) s v m) (.fail 172) (aeqN 2 iv (.int .i64 (.ofNat i)))) (.fail 173) (and (Nat.ble (lenOf s) 16) (Nat.ble (Nat.succ i) (lenOf s)))) args
def repG (G : Nat) (args : List AVal) (m : Mem) : R :=
  onL (.fail 174) (fun s r => onL (.fail 175) (fun iv r => arg2 r fun jv v => iv.onNat fun i => cond' (cond' (edCore G 1 (lenOf v) (selRep (lenOf s) i (lenOf v)) (Nat.pred (Nat.add (lenOf s) (lenOf v))) s v m) (.fail 176) (and (aeqN 2 iv (.int .i64 (.ofNat i))) (aeqN 2 jv (.int .i64 (.ofNat (Nat.succ i)))))) (.fail 177)
    (and (and (Nat.ble (lenOf s) 6) (Nat.ble (Nat.succ i) (lenOf s))) (and (Nat.ble 1 (lenOf v)) (Nat.ble (lenOf v) 2)))) r) args
theorem edCore_ok {T : Tok} (hst : T.strong = true) {f : FuncId} {G : Nat} (hG : P.globals.size = G) (h0 : 0 < G) {z mv q : Nat} {ints : List AVal} {sel : List Nat} {s vv : AVal} (hz : 0 < z) (hn : 0 < lenOf s) (hmv : 0 < mv) (hN : lenOf s * z ≤ 100)
    (hsel : ∀ j, j ∈ sel → j < lenOf s * z ∨ 100 ≤ j ∧ j < 100 + mv * z) (hq : sel.length = q * z) (hq0 : 0 < q) (hints : ∀ v, v ∈ ints → ∃ k i, v = .int k i) (hruns : EdRuns P f G (lenOf s) z mv q ints sel)
    {φ : Phi} {m m' : Mem} {w : World} {cargs : Array Value} {v : AVal} (h : edCore G z mv sel q s vv m = .ok v m') (hr : @Rel T P φ m w) (hv : @VsRel T φ (s :: (ints ++ [vv])) cargs.toList) :
    Ends P f cargs w fun cv w' => ∃ φ', @Step T P φ m w φ' m' w' ∧ @VRel T φ' v cv := by
  obtain ⟨b, o, n, c, ex, es, rfl, h3⟩ := onSlice_ok h
  obtain ⟨vb, vo, vn, vc, vex, ves, rfl, h4⟩ := onSlice_ok h3
  obtain ⟨ro, cs, hb, h5⟩ := onCells_ok h4
  obtain ⟨vro, vcs, hvb, h6⟩ := onCells_ok h5
  obtain ⟨h7, h8⟩ := cond_t h6
  simp only [Bool.and_eq_true, beq_true, ble_true, lenL_eq, Bool.not_eq_true'] at h7
  obtain ⟨⟨⟨⟨rfl, rfl⟩, rfl, rfl⟩, rfl, rfl⟩, ⟨hne, hl1, hl2⟩, hnx, hGb, hGv⟩ := h7
  cases h8
  exact ed_ok hst hG h0 hz hn hmv hN hsel hq hq0 hints hruns hr hb hvb (fun e => by rw [beq_true.2 e] at hne; cases hne) hGb hGv hl1 hl2 hnx hv
theorem appN_len : ∀ (x y : List Nat), (appN x y).length = x.length + y.length
  | [], y => by show y.length = 0 + y.length; omega
  | a :: x, y => by show (appN x y).length + 1 = x.length + 1 + y.length; rw [appN_len x y]; omega
theorem appN_mem : ∀ {x y : List Nat} {j : Nat}, j ∈ appN x y → j ∈ x ∨ j ∈ y
  | [], y, j, h => .inr h
  | a :: x, y, j, h => by
    rcases List.mem_cons.1 h with rfl | h
    · exact .inl (List.mem_cons_self ..)
    · rcases appN_mem h with h | h
      · exact .inl (List.mem_cons_of_mem _ h)
      · exact .inr h
theorem natL_rng : ∀ {n a j : Nat}, j ∈ natL n a → a ≤ j ∧ j < a + n
  | 0, _, _, h => by cases h
  | n + 1, a, j, h => by
    rcases List.mem_cons.1 h with rfl | h
    · omega
    · have := natL_rng h; simp only [Nat.succ_eq_add_one] at this; omega
theorem aeq_num {x : AVal} {i : Nat} (h : aeqN 2 x (.int .i64 (.ofNat i)) = true) : x = .int .i64 (i : Int) := @aeqN_eq tok0 2 _ _ h
theorem insG_ok {T : Tok} (hst : T.strong = true) {f : FuncId} {G : Nat} (hG : P.globals.size = G) (h0 : 0 < G) (hruns : ∀ n i, n ≤ 16 → i < n → EdRuns P f G n 2 1 (n + 1) [.int .i64 (.ofNat i)] (selIns n i)) : @XSound T P f (insG G) := by
  intro args m v m' h φ w cargs hr hv
  obtain ⟨s, r, rfl, h1⟩ := onL_ok h
  obtain ⟨iv, vv, rfl, h2⟩ := arg2_ok h1
  obtain ⟨j, i, hiv, h3⟩ := onNat_ok h2
  obtain ⟨h4, h5⟩ := cond_t h3
  obtain ⟨h6, h7⟩ := cond_t h5
  simp only [Bool.and_eq_true, ble_true] at h4
  obtain ⟨g1, g2⟩ := h4
  have hi := aeq_num h6
  refine edCore_ok hst hG h0 (ints := [iv]) (by decide) (by omega) (by decide) (by omega) (fun j hj => ?_) ?_ (by omega) (fun v hv => ?_) (by rw [hi]; exact hruns _ _ g1 g2) h7 hr hv
  · unfold selIns at hj
    rcases appN_mem hj with hj | hj
    · have := natL_rng hj
      left
      have e : Nat.mul i 2 = i * 2 := rfl
      omega
    · rcases List.mem_cons.1 hj with rfl | hj
      · right; omega
      · rcases List.mem_cons.1 hj with rfl | hj
        · right; omega
        · have := natL_rng hj
          left
          have e : Nat.mul i 2 = i * 2 := rfl
          have e2 : Nat.mul (Nat.sub (lenOf s) i) 2 = (lenOf s - i) * 2 := rfl
          omega
  · unfold selIns
    rw [appN_len, natL_len]
    simp only [List.length_cons, natL_len]
    have e : Nat.mul i 2 = i * 2 := rfl
    have e2 : Nat.mul (Nat.sub (lenOf s) i) 2 = (lenOf s - i) * 2 := rfl
    omega
  · rw [List.mem_singleton] at hv; subst hv; exact ⟨_, _, hi⟩
theorem repG_ok {T : Tok} (hst : T.strong = true) {f : FuncId} {G : Nat} (hG : P.globals.size = G) (h0 : 0 < G) (hruns : ∀ n i mv, n ≤ 6 → i < n → 1 ≤ mv → mv ≤ 2 → EdRuns P f G n 1 mv (n + mv - 1) [.int .i64 (.ofNat i), .int .i64 (.ofNat (i + 1))] (selRep n i mv)) : @XSound T P f (repG G) := by
  intro args m v m' h φ w cargs hr hv
  obtain ⟨s, r, rfl, h1⟩ := onL_ok h
  obtain ⟨iv, r', rfl, h1'⟩ := onL_ok h1
  obtain ⟨jv, vv, rfl, h2⟩ := arg2_ok h1'
  obtain ⟨j, i, hiv, h3⟩ := onNat_ok h2
  obtain ⟨h4, h5⟩ := cond_t h3
  obtain ⟨h6, h7⟩ := cond_t h5
  simp only [Bool.and_eq_true, ble_true] at h4 h6
  obtain ⟨⟨g1, g2⟩, g3, g4⟩ := h4
  have hi := aeq_num h6.1
  have hj := aeq_num h6.2
  refine edCore_ok hst hG h0 (ints := [iv, jv]) (by decide) (by omega) (by omega) (by omega) (fun j hj => ?_) ?_ ?_ (fun v hv => ?_) (by rw [hi, hj]; exact hruns _ _ _ g1 g2 g3 g4) h7 hr hv
  · unfold selRep at hj
    rcases appN_mem hj with hj | hj
    · have := natL_rng hj
      left; omega
    · rcases appN_mem hj with hj | hj
      · have := natL_rng hj
        right; omega
      · have := natL_rng hj
        left
        have e2 : Nat.sub (lenOf s) (Nat.succ i) = lenOf s - (i + 1) := rfl
        omega
  · unfold selRep
    rw [appN_len, natL_len, appN_len, natL_len, natL_len]
    have e2 : Nat.sub (lenOf s) (Nat.succ i) = lenOf s - (i + 1) := rfl
    show _ = (lenOf s + lenOf vv - 1) * 1
    omega
  · show 0 < lenOf s + lenOf vv - 1
    omega
  · simp only [List.mem_cons, List.not_mem_nil, or_false] at hv
    rcases hv with rfl | rfl
    · exact ⟨_, _, hi⟩
    · exact ⟨_, _, hj⟩
end
end Go.AM

namespace Go.AM
variable {P : Program}
section
variable [Tok]
variable {φ : Phi} {m : Mem} {w : World}
/-- a new name, for a block of the heap that is new -/
theorem Step.add (h : Rel P φ m w) {w' : World} {x' : Blk} {nb no ns : Nat} (hn : m.next < 65536)
    (hheap : ∀ q, q < w.heap.size → w'.heap[q]? = w.heap[q]?) (hsz : w.heap.size ≤ w'.heap.size) (hos : w'.os = w.os) (hou : w'.output = w.output) (htp : w'.tape = w.tape)
    (hnb : w.heap.size ≤ nb) (hnl : nb < w'.heap.size) (hx : BRel (fun q => if q = m.next then some (nb, no, ns) else φ q) w' m.next x') :
    Step P φ m w (fun q => if q = m.next then some (nb, no, ns) else φ q) ⟨m.next + 1, putT m.next x' m.t⟩ w' := by
  have hb := h.bound
  have ext : Ext' φ (fun q => if q = m.next then some (nb, no, ns) else φ q) := by
    intro q y hq
    have := h.dom q y hq
    show (if q = m.next then _ else _) = _
    rw [if_neg (by omega)]; exact hq
  have get : ∀ q, q < 65536 → (⟨m.next + 1, putT m.next x' m.t⟩ : Mem).get q = if q = m.next then x' else m.get q := fun q hq => getT_putT m.next q x' m.t hn hq
  have hh1 := h.dom _ _ h.handle
  have hold : ∀ q, q < m.next → (⟨m.next + 1, putT m.next x' m.t⟩ : Mem).get q = m.get q := fun q hq => by
    rw [get q (by omega), if_neg (by omega)]
  have hne : ∀ q b' o' s', q < m.next → (m.get q).live = true → φ q = some (b', o', s') → b' ≠ nb ∧ b' < w.heap.size := by
    intro q b' o' s' hq hl hφq
    have h1 : b' < w.heap.size := h.heap q b' o' s' hφq (fun e => by rw [e, h.nohandle] at hl; cases hl)
    exact ⟨by omega, h1⟩
  refine ⟨⟨hn, ?_, ?_, ext _ _ h.handle, ?_, ?_, ?_, ?_, fun q h1 h2 => by
    change m.next + 1 ≤ q at h1
    rw [get q h2, if_neg (by omega)]; exact h.clean q (by omega) h2,
    fun b' o' hb' => by rw [hheap b' (h.held_lt hb')]; exact h.held b' o' hb', fun q b' o' s' hq hw hφ' => by
      change q < m.next + 1 at hq
      by_cases e : q = m.next
      · simp [e] at hφ'
        rw [← hφ'.1]
        exact h.free hnb
      · have hq' : φ q = some (b', o', s') := by simpa [e] using hφ'
        exact h.apart q b' o' s' (by omega) (by rw [hold q (by omega)] at hw; exact hw) hq', fun hs => by rw [hold 0 h.pos]; exact h.mode hs⟩, ext, Nat.le_succ _, ?_, fun q hq hl => by rw [hold q hq] at hl; exact hl, fun q hq hl => by rw [hold q hq] at hl; exact hl, ?_, fun b' hb' _ => hheap b' hb', hsz, hos, hou, htp⟩
  · intro q y hq
    show q < m.next + 1
    by_cases e : q = m.next
    · omega
    · have hq' : φ q = some y := by simpa [e] using hq
      have := h.dom q y hq'; omega
  · intro q b' o'' s' hq hne
    by_cases e : q = m.next
    · simp [e] at hq; omega
    · have hq' : φ q = some (b', o'', s') := by simpa [e] using hq
      exact Nat.lt_of_lt_of_le (h.heap q b' o'' s' hq' hne) hsz
  · rw [hold _ hh1]; exact h.nohandle
  · intro g hg
    obtain ⟨sz, hsz⟩ := h.glob g hg
    exact ⟨sz, ext _ _ hsz⟩
  · intro q hq
    change q < m.next + 1 at hq
    by_cases e : q = m.next
    · subst e; rw [get _ (by omega), if_pos rfl]; exact hx
    · have hq' : q < m.next := by omega
      rw [hold q hq']
      cases hl : (m.get q).live with
      | false => rw [Blk.dead hl]; trivial
      | true =>
        refine ((h.blk q hq').mono ext).congr fun b' o'' s' hφ' => ?_
        have hφq : φ q = some (b', o'', s') := by simpa [e] using hφ'
        exact hheap b' (hne q b' o'' s' hq' hl hφq).2
  · intro q q' b' o1 s1 o2 s2 hq hq' hqne hw hl h1 h2
    change q < m.next + 1 at hq
    change q' < m.next + 1 at hq'
    by_cases e1 : q = m.next
    · by_cases e2 : q' = m.next
      · omega
      · simp [e1] at h1
        simp [e2] at h2
        rw [hold q' (by omega)] at hl
        have := hne q' _ _ _ (by omega) hl h2
        omega
    · simp [e1] at h1
      rw [hold q (by omega)] at hw
      by_cases e2 : q' = m.next
      · simp [e2] at h2
        have := hne q _ _ _ (by omega) (Blk.live_of_wr hw) h1
        omega
      · simp [e2] at h2
        rw [hold q' (by omega)] at hl
        exact h.inj q q' b' o1 s1 o2 s2 (by omega) (by omega) hqne hw hl h1 h2
  · intro q y hq
    by_cases e : q = m.next
    · right; omega
    · left; simpa [e] using hq
  · intro q b' o1 s1 h1 h2 _ h4 h5
    change q < m.next + 1 at h2
    have e : q = m.next := by omega
    simp [e] at h4
    omega
end
end Go.AM

namespace Go.AM
variable {P : Program}
noncomputable section
def rowS (G k n : Nat) : AVal := .slice (Nat.succ G) 0 n (Nat.succ (Nat.succ k)) true 2
def argV (G : Nat) : AVal := .slice (Nat.succ (Nat.succ G)) 0 1 1 false 2
def vb1 (G k : Nat) : List AVal := [rowS G k 2, .int .i64 (.ofNat 0), argV G, .int .i64 (.ofNat 1), .int .i64 (.ofNat 1)]
def vb2 (G k : Nat) : List AVal := [argV G, .slice (Nat.succ G) 2 1 (Nat.succ k) true 2, rowS G k 2, .int .i64 (.ofNat 0), argV G, .int .i64 (.ofNat 1), .int .i64 (.ofNat 1)]
def vb3 (G k : Nat) (b : Bool) : List AVal := [.bool (not b), argV G, .slice (Nat.succ G) 2 1 (Nat.succ k) true 2, rowS G k 2, .int .i64 (.ofNat 0), argV G, .int .i64 (.ofNat 1), .int .i64 (.ofNat 1)]
def insM (G : Nat) : Mem := insMem G [.any, .any]
def callOf : Op → Option (Callee × List Operand)
  | .call c => some (c.callee, c.args.toList)
  | _ => none
def insFin (G : Nat) : R → Bool
  | .ok (.tuple [v]) m => insChk G v m
  | _ => false
theorem results_one {fn : Func} {t : Nat} (h : fn.results.toList = [.tmp t]) (tmps : Array Value) (w : World) : (results fn tmps).run P w = .ok (tmps.getD t undef) w := by
  rw [@results_eq tok0]
  have e : fn.results = #[.tmp t] := by rw [← Array.toList_inj]; exact h
  rw [e]
  simp [resOne]
theorem ins_room {T : Tok} {K : KH} {G : Nat} (hK : @KSound T P K) (hD : @DrawOk T P K) (hg0 : 0 < G) (hG2 : G + 3 ≤ 65536) {f g : FuncId} {fn : Func} {B X Y : Code} {Ps : List Code} {ops : Array Oper} {id : Nat} {o6 o7 : Oper}
    (hf : P.funcs[f]? = some fn) (hname : fn.name ≠ "runtime.NumGoroutine") (hb : fn.body = some B) (hnt : fn.ntmps = 95) (hres : fn.results.toList = [.tmp 6]) (hB : B = seqsC Ps (.seq (.seq (.region id ops false) X) Y))
    (hgp : Ps.all (gCode P.globals.size) = true) (hgx : gCode P.globals.size X = true ∧ gCode P.globals.size Y = true) (hgo : ops.toList.all (gOper P.globals.size) = true)
    (hsz : ops.size = 8) (h6 : ops[6]? = some o6) (h7 : ops[7]? = some o7) (hop6 : o6.guard = none ∧ o6.dst = some 67 ∧ callOf o6.op = some (.value (.func g), [.tmp 61, .tmp 66]))
    (hov : ∀ {w : World} {ab ao ac bb bo bc : Nat}, ab ≠ bb → ∀ {ca cb : Array Value} {ea eb : TypeId} {fa fb : Nat × Nat}, w.heap[ab]? = some (.cells ca ea fa) → w.heap[bb]? = some (.cells cb eb fb) → ¬ (fb.1 ≤ bo ∧ bo < fb.2) →
      Ends P g #[.slice (some ⟨ab, ao, none⟩) 1 ac, .slice (some ⟨bb, bo, none⟩) 1 bc] w fun c w' => (∃ t, c = .bool t) ∧ w'.heap = w.heap ∧ w'.os = w.os ∧ w'.output = w.output ∧ w'.tape = w.tape)
    {k : Nat}
    (r1 : pieceRun P 95 K Ps ⟨true, fun _ => false, false⟩ [(0, rowS G k 1), (1, .int .i64 (.ofNat 0)), (2, argV G)] [0, 1, 2, 7, 8] (insM G) = .ok (.tuple (vb1 G k)) (insM G))
    (r2 : opsRun P 95 K ops (ops.toList.take 6) ([0, 1, 2, 7, 8].zip (vb1 G k)) [61, 66, 0, 1, 2, 7, 8] (insM G) = .ok (.tuple (vb2 G k)) (insM G))
    (r3 : ∀ b, opsRun P 95 K ops [o7] ([67, 61, 66, 0, 1, 2, 7, 8].zip (.bool b :: vb2 G k)) [68, 61, 66, 0, 1, 2, 7, 8] (insM G) = .ok (.tuple (vb3 G k b)) (insM G))
    (r4 : ∀ b, insFin G (pieceRun P 95 K [X, Y] ⟨false, fun _ => false, true⟩ ([68, 61, 66, 0, 1, 2, 7, 8].zip (vb3 G k b)) [6] (insM G)) = true)
    {φ : Phi} {w : World} {cargs : Array Value} (hr : @Rel T P φ (insM G) w) (hv : @VsRel T φ (insArgs G (Nat.succ (Nat.succ k)) true) cargs.toList) :
    Ends P f cargs w fun cv w' => ∃ φ' v mf, @Step T P φ (insM G) w φ' mf w' ∧ @VRel T φ' v cv ∧ insChk G v mf = true := by
  right
  refine ⟨by simp [callFunc, hf, hname, hb], ?_⟩
  refine calls_of_wp hf hb ?_
  rw [hB]
  have hl3 : cargs.size = 3 := by have := @VsRel.length T _ _ _ hv; rw [Array.length_toList] at this; exact this
  have ha0 : ActIs 95 { tmps := cargs ++ Array.replicate (fn.ntmps - cargs.size) undef, defers := [] } := ⟨by simp [hl3, hnt], rfl⟩
  have hget : ∀ (t : Nat) (v : AVal), (insArgs G (Nat.succ (Nat.succ k)) true)[t]? = some v → @VRel T φ v ((cargs ++ Array.replicate (fn.ntmps - cargs.size) undef).getD t undef) := by
    intro t v ht
    obtain ⟨c, h1, h2⟩ := @VsRel.get T φ _ _ hv t v ht
    rw [Array.getElem?_toList] at h1
    have h3 : t < cargs.size := by
      rcases Nat.lt_or_ge t cargs.size with h | h
      · exact h
      · rw [Array.getElem?_eq_none h] at h1; cases h1
    rw [Array.getD_eq_getD_getElem?, Array.getElem?_append_left h3, h1]
    exact h2
  refine @piece_ok P T K hK hD 95 Ps hgp _ _ _ _ _ _ r1 _ _ _ _ _ hr ha0 (by decide) ?_ ?_ (fun i h => by cases h) (fun h => by cases h)
  · intro p hp
    simp only [List.mem_cons, List.not_mem_nil, or_false] at hp
    rcases hp with rfl | rfl | rfl
    · exact ⟨(by decide : 0 < 4096), hget 0 _ rfl⟩
    · exact ⟨(by decide : 1 < 4096), hget 1 _ rfl⟩
    · exact ⟨(by decide : 2 < 4096), hget 2 _ rfl⟩
  intro _ φ1 a1 w1 hst1 ha1 hv1
  refine wp_seq (wp_seq (wp_region ?_))
  rw [hsz]
  have hos : (ops.toList.take 6).length = 6 := by simp [hsz]
  have hrange : List.range 8 = List.range' 0 (ops.toList.take 6).length ++ [6, 7] := by rw [hos]; decide
  rw [hrange]
  refine @ops_piece P T K hK 95 ops _ 0 (ops.toList.take 6) [6, 7] (by simp) ?_ _ _ _ _ _ r2 _ _ _ (@Step.rel T P _ _ _ _ _ _ hst1) ha1 (by decide) (@vals_pick T φ1 a1 _ _ (by decide) hv1) ?_
  · rw [List.all_eq_true] at hgo ⊢
    exact fun x hx => hgo x (List.mem_of_mem_take hx)
  intro φ2 a2 w2 hst2 ha2 hv2
  have hr2 := @Step.rel T P _ _ _ _ _ _ hst2
  -- slices.overlaps
  unfold wpOps
  rw [h6]
  simp only
  have hwant : Region.wanted o6 (yielded ops a2.tmps) = true := by unfold Region.wanted; rw [hop6.1]
  rw [if_pos hwant]
  left
  obtain ⟨hop6a, hop6b, hop6c⟩ := hop6
  cases ho : o6.op <;> first | (rw [ho] at hop6c; cases hop6c; done) | skip
  rename_i cc
  rw [ho] at hop6c
  have hcal : cc.callee = .value (.func g) ∧ cc.args.toList = [.tmp 61, .tmp 66] := by
    simp only [callOf, Option.some.injEq, Prod.mk.injEq] at hop6c
    exact hop6c
  have hcargs : cc.args = #[.tmp 61, .tmp 66] := by rw [← Array.toList_inj]; exact hcal.2
  have g61 : @VRel T φ2 (argV G) (a2.tmps.getD 61 undef) := by
    have := @VsRel.get T φ2 _ _ hv2 0 (argV G) rfl
    obtain ⟨c, h1, h2⟩ := this
    simp only [valsT, List.map_cons, List.getElem?_cons_zero, Option.some.injEq] at h1
    rw [h1]; exact h2
  have g66 : @VRel T φ2 (.slice (Nat.succ G) 2 1 (Nat.succ k) true 2) (a2.tmps.getD 66 undef) := by
    obtain ⟨c, h1, h2⟩ := @VsRel.get T φ2 _ _ hv2 1 _ rfl
    simp only [valsT, List.map_cons, List.getElem?_cons_succ, List.getElem?_cons_zero, Option.some.injEq] at h1
    rw [h1]; exact h2
  generalize hc61 : a2.tmps.getD 61 undef = c61 at g61
  generalize hc66 : a2.tmps.getD 66 undef = c66 at g66
  cases g61 with
  | slice _ _ _ _ _ _ vcb vco vsz vo' vcap' vφ v1 v2 v3 v4 v5 =>
  cases g66 with
  | slice _ _ _ _ _ _ scb sco ssz so' scap' sφ s1 s2 s3 s4 s5 =>
  have hMn : (insM G).next = G + 3 := by unfold insM insMem mkMem; rw [addL_next]; rfl
  have hget1 : (insM G).get (G + 1) = .cells false [.opq 0, .opq 1, .any, .any] := by
    unfold insM insMem
    rw [mkMem_get hg0 (by show G + 1 + 2 ≤ 65536; omega) (show G + 1 < 65536 by omega), if_pos ⟨by omega, by show G + 1 < G + 1 + 2; omega⟩]
    rw [Nat.sub_self]; rfl
  have hget2 : (insM G).get (G + 2) = .cells true [.opq 2, .opq 3] := by
    unfold insM insMem
    rw [mkMem_get hg0 (by show G + 1 + 2 ≤ 65536; omega) (show G + 2 < 65536 by omega), if_pos ⟨by omega, by show G + 2 < G + 1 + 2; omega⟩]
    rw [show G + 2 - (G + 1) = 1 by omega]; rfl
  have hBs := @Rel.blk T P _ _ _ hr2 (G + 1) (by rw [hMn]; omega)
  have hBv := @Rel.blk T P _ _ _ hr2 (G + 2) (by rw [hMn]; omega)
  rw [hget1] at hBs
  rw [hget2] at hBv
  obtain ⟨cb, co, ca, el, fz, z1, z2, z3, z4, z5, z6⟩ := hBs
  obtain ⟨vcb2, vco2, va, vel, vfz, y1, y2, y3, y4, y5, y6⟩ := hBv
  have sφ' : φ2 (G + 1) = some (scb, sco, ssz) := sφ
  have vφ' : φ2 (G + 2) = some (vcb, vco, vsz) := vφ
  rw [sφ'] at z1
  rw [vφ'] at y1
  cases z1
  cases y1
  have hneb : vcb ≠ scb := fun e => by
    subst e
    exact @Rel.inj T P _ _ _ hr2 (G + 1) (G + 2) vcb sco _ vco _ (by rw [hMn]; omega) (by rw [hMn]; omega) (by omega) (by rw [hget1]; rfl) (by rw [hget2]; rfl) sφ' vφ'
  have s4' := s4 (by omega)
  have hfrz : ¬ (fz.1 ≤ so' ∧ so' < fz.2) := by
    have z3' : sco + 4 ≤ ca.size := z3
    exact (z6 rfl so' (by omega) (.inl (by omega))).1
  refine ends_wp (cargs := #[.slice (some ⟨vcb, vo', none⟩) 1 vcap', .slice (some ⟨scb, so', none⟩) 1 scap']) ?_ (hov hneb y2 z2 hfrz) ?_
  · simp [execOp, ho, resolve, hcal.1, hcargs, Act.eval, Deferred.ofValue, invoke, hc61, hc66]
  rintro c w3 ⟨⟨b, rfl⟩, k1, k2, k3, k4⟩
  have hr3 : @Rel T P φ2 (insM G) w3 := @Rel.congr T P _ _ _ w3 hr2 k1
  rw [hop6b]
  have hv3 := @vals_put T φ2 95 a2 ha2 _ _ hv2 67 (by decide) (by decide) (.bool b) (.bool b) (@VRel.bool T φ2 b)
  have hrange2 : [7] = List.range' 7 [o7].length ++ [] := by rfl
  rw [hrange2]
  have h7l : ops.toList[7]? = some o7 := by rw [Array.getElem?_toList]; exact h7
  refine @ops_piece P T K hK 95 ops _ 7 [o7] [] ?_ ?_ _ _ _ _ _ (r3 b) _ _ _ hr3 (put_is ha2 _ _) (by decide) (@vals_pick T φ2 _ _ _ (by decide) hv3) ?_
  · show (ops.toList.drop 7).take 1 = [o7]
    rw [List.take_one, List.head?_drop, h7l]; rfl
  · rw [List.all_eq_true] at hgo ⊢
    intro x hx
    rw [List.mem_singleton] at hx
    subst hx
    exact hgo _ (List.mem_of_getElem? h7l)
  intro φ4 a4 w4 hst4 ha4 hv4
  have h4 := r4 b
  generalize hq : pieceRun P 95 K [X, Y] ⟨false, fun _ => false, true⟩ ([68, 61, 66, 0, 1, 2, 7, 8].zip (vb3 G k b)) [6] (insM G) = q at h4
  cases q with
  | fail c => cases h4
  | ok v m5 =>
    cases v <;> first | (cases h4; done) | skip
    rename_i l5
    match l5, h4, hq with
    | [v5], h4, hq =>
    show Code.wp P X (Exit.then (Code.wp P Y (bodyPost P fn _)) (bodyPost P fn _)) a4 w4
    refine @piece_then P T K hK hD 95 X Y hgx _ _ _ _ _ _ hq φ4 w4 a4 _ (@Step.rel T P _ _ _ _ _ _ hst4) ha4 (by decide) (@vals_pick T φ4 a4 _ _ (by decide) hv4) (fun h => by cases h) (fun i h => by cases h) ?_
    intro _ φ5 a5 w5 hst5 ha5 hv5
    refine ⟨ha5.defers, _, results_one hres a5.tmps w5, _, rfl, φ5, v5, m5, ?_, ?_, h4⟩
    · exact @Step.trans T P _ _ _ _ _ _ _ _ _ (@Step.trans T P _ _ _ _ _ _ _ _ _ (@Step.trans T P _ _ _ _ _ _ _ _ _ hst1 (@Step.congr T P _ _ _ _ _ _ w3 hst2 k1 k2 k3 k4)) hst4) hst5
    · cases hv5 with
      | cons h1 h2 => exact h1
end
end Go.AM
