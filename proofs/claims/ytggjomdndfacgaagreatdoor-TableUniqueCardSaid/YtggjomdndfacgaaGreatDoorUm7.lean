/- Operations by hand; loops; a store in the memory. -/
import Derived.Test.YtggjomdndfacgaaGreatDoorUm6
import Derived.Deep.LoopGhost
set_option linter.unusedSectionVars false
set_option linter.unusedVariables false
set_option linter.unusedSimpArgs false
namespace Go.AM
variable {P : Program}
noncomputable section

/- ### the store of the law, with n rows -/
def symsL : List Nat → List AVal
  | [] => []
  | j :: l => .sym .u64 j :: symsL l
def snocL {α : Type} : List α → α → List α
  | [], y => [y]
  | x :: l, y => x :: snocL l y
def entL (G : Nat) : List Nat → List MEnt
  | [] => []
  | j :: l => ⟨.sym .u64 j, .slice (Nat.add (Nat.add G 11) j) 0 2 2 false 3, j⟩ :: entL G l
def stoT (G n : Nat) : List Blk :=
  match n with
  | 0 => []
  | k + 1 => .cells true (symsL (natL (Nat.succ k) 0)) :: valsB :: iterN [] (fun l => valsB :: l) k
def idsS (G n : Nat) : AVal :=
  match n with
  | 0 => .nilslice
  | k + 1 => .slice (Nat.add G 10) 0 (Nat.succ k) (Nat.succ k) false 1
def stoL (G n : Nat) : List Blk :=
  .cells true [.slice (Nat.add G 2) 0 1 1 false 3, .slice (Nat.add G 3) 0 1 1 false 4] ::
  .cells true [.str [116], .slice (Nat.add G 4) 0 2 2 false 3, .slice (Nat.add G 5) 0 2 2 false 4] ::
  .cells false [.map (Nat.add G 6), idsS G n, .nx .u64 0, .slice (Nat.add G 7) 0 2 2 false 1] ::
  .cells true [.str [97], .int .i64 (.ofNat 2), .bool false, .str [98], .int .i64 (.ofNat 2), .bool false] ::
  .cells true [.str [105], .slice (Nat.add G 8) 0 2 2 false 1, .bool false, .bool false, .str [106], .slice (Nat.add G 9) 0 1 1 false 1, .bool false, .bool false] ::
  .map (entL G (natL n 0)) n ::
  .cells true [.any, .any] ::
  .cells true [.int .i64 (.ofNat 0), .int .i64 (.ofNat 1)] ::
  .cells true [.int .i64 (.ofNat 1)] ::
  stoT G n
def stoM (G g0 : Nat) (b0 : Blk) (n : Nat) : Mem := mkMem G g0 b0 (stoL G n)
/- where it lies in another memory -/
def nmOf : AVal → Nat
  | .slice b _ _ _ _ _ => b
  | .ptr b _ => b
  | .map b => b
  | _ => 0
def cellN (m : Mem) (b i : Nat) : AVal :=
  match m.get b with
  | .cells _ cs => onL .bad (fun x _ => x) (dropL i cs)
  | _ => .bad
def valNs : List MEnt → List Nat
  | [] => []
  | e :: l => nmOf e.val :: valNs l
def entNs (m : Mem) (b : Nat) : List Nat :=
  match m.get b with
  | .map es _ => valNs es
  | _ => []
def stoNT (m : Mem) (a2 a5 n : Nat) : List Nat :=
  match n with
  | 0 => []
  | _ + 1 => nmOf (cellN m a2 1) :: entNs m a5
def stoN5 (m : Mem) (a0 a1 a2 a3 a4 a5 n : Nat) : List Nat :=
  a0 :: a1 :: a2 :: a3 :: a4 :: a5 :: nmOf (cellN m a2 3) :: nmOf (cellN m a4 1) :: nmOf (cellN m a4 5) :: stoNT m a2 a5 n
def stoN2 (m : Mem) (a0 a1 a2 n : Nat) : List Nat := stoN5 m a0 a1 a2 (nmOf (cellN m a1 1)) (nmOf (cellN m a1 2)) (nmOf (cellN m a2 0)) n
def stoNs (m : Mem) (a0 n : Nat) : List Nat := stoN2 m a0 (nmOf (cellN m a0 0)) (nmOf (cellN m a0 1)) n
def stoTs (n b : Nat) : List AVal :=
  match b with
  | 0 => symsL (natL n 0)
  | _ + 1 => snocL (symsL (natL (Nat.pred n) 0)) (.nx .u64 0)
def stoMap (G : Nat) (m : Mem) (a0 n b : Nat) : Map := ⟨G, stoNs m a0 n, stoTs n b, fun d => .nx .u64 (Nat.add d b), fun _ => .bad⟩
/-- it ends in the store of n rows, the next number raised by b -/
def stoEnd (G g0 : Nat) (b0 : Blk) (n b : Nat) (σ : Map) (x3 x4 : AVal) (m : Mem) : Bool :=
  and (and (absN σ 2 (.ptr (Nat.succ G) 0) x3) (absN σ 2 (.nx .u64 0) x4)) (and (and (incrB (snocL σ.ts (.nx .u64 b))) (Nat.beq (lenL σ.ts) n)) (absMem σ g0 b0 (stoL G n) m))
def stoChk (G g0 : Nat) (b0 : Blk) (n b : Nat) (v : AVal) (m : Mem) : Bool :=
  match v with
  | .tuple l => on4 l fun x0 x3 x4 x5 => and (and (isOpq 0 x0) (isOpq 1 x5)) (stoEnd G g0 b0 n b (stoMap G m (nmOf x3) n b) x3 x4 m)
  | _ => false
end
end Go.AM

namespace Go.AM
variable {P : Program}

theorem snoc_eq {α : Type} : ∀ (l : List α) (y : α), snocL l y = l ++ [y]
  | [], _ => rfl
  | x :: l, y => by show x :: snocL l y = _; rw [snoc_eq l y]; rfl
theorem absMem_wr {σ : Map} {g0 : Nat} {b0 : Blk} {l : List Blk} {m : Mem} (hc : absMem σ g0 b0 l m = true) {p : Nat} (hp : p < (mkMem σ.G g0 b0 l).next) (hw : ((mkMem σ.G g0 b0 l).get p).wr = true) :
    p < σ.top ∧ σ.nm p < m.next ∧ (m.get (σ.nm p)).wr = true := by
  unfold absMem at hc
  simp only [Bool.and_eq_true, ble_true] at hc
  obtain ⟨⟨⟨c1, c2⟩, c3, c4⟩, c5, c6⟩ := hc
  obtain ⟨hlen, hblk⟩ := chkL_ok c6
  rw [top_eq] at c2
  have hnx : (mkMem σ.G g0 b0 l).next = σ.top := by
    unfold mkMem
    rw [addL_next, top_eq, hlen]
  rw [hnx] at hp
  have hp' := hp
  rw [top_eq] at hp
  rw [mkMem_get c1 (by omega) (by omega)] at hw
  split at hw
  · rename_i h1
    have h3 : p - (σ.G + 1) < l.length := by omega
    have h4 : p - (σ.G + 1) < σ.ns.length := by omega
    rw [List.getElem?_eq_getElem h3] at hw
    obtain ⟨g1, g2, g3⟩ := hblk _ _ _ (List.getElem?_eq_getElem h3) (List.getElem?_eq_getElem h4)
    refine ⟨hp', ?_⟩
    rw [nm_high (by omega), List.getElem?_eq_getElem h4]
    exact ⟨g2, (absB_wr g3).1 hw⟩
  · split at hw
    · cases b0 with
      | cells ro cs => cases ro with
        | true => cases hw
        | false => cases c3
      | none => cases hw
      | map es k => cases c3
      | iter s k => cases c3
    · cases hw
@[reducible] def nextTok (T : Tok) (ts : List AVal) (h1 : ∀ x, x ∈ ts → 1 ≤ evT T x ∧ evT T x ≤ 127) (h2 : ts.Pairwise (fun a b => evT T a < evT T b)) (b : Nat) (v : Nat → Value) (hv : ∀ j, (v j).oneCell' = true) : Tok :=
  { tokOf T ts h1 h2 with base := T.base + (b : Int), val := v, cell := hv }
theorem nx_val {T : Tok} {φ : Phi} {k : IntKind} {d : Nat} {c : Value} (h : @VRel T φ (.nx k d) c) : d ≤ 7 ∧ c = .int k (T.base + (d : Int)) := by
  cases h with | nx _ _ h hn => exact ⟨h, rfl⟩
theorem sto_end {T : Tok} {φ : Phi} {m : Mem} {w : World} {G g0 : Nat} {b0 : Blk} {n b : Nat} {σ : Map} {x3 x4 : AVal} (hG : P.globals.size = G) (hr : @Rel T P φ m w) (hσ : σ.G = G) (hnx : σ.nx = fun d => .nx .u64 (Nat.add d b)) (hop : σ.op = fun _ => .bad) (hb7 : b ≤ 7)
    (hT : ∀ x, x ∈ σ.ts → ∃ c, @VRel T φ x c) (hok : @Tok.nxok T) (hb : T.base + (b : Int) ≤ 100) (h : stoEnd G g0 b0 n b σ x3 x4 m = true) {c3 c4 : Value} (h3 : @VRel T φ x3 c3) (h4 : @VRel T φ x4 c4) (v : Nat → Value) (hv : ∀ j, (v j).oneCell' = true) :
    ∃ T' : Tok, T'.val = v ∧ T'.cnt = n ∧ T'.base = T.base + (b : Int) ∧ @Tok.nxok T' ∧ ∃ φ', @Rel T' P φ' (stoM G g0 b0 n) w ∧ @VRel T' φ' (.ptr (Nat.succ G) 0) c3 ∧ @VRel T' φ' (.nx .u64 0) c4 ∧
      ∀ p c o s, p < (stoM G g0 b0 n).next → ((stoM G g0 b0 n).get p).wr = true → φ' p = some (c, o, s) → ∃ q, q < m.next ∧ (m.get q).wr = true ∧ φ q = some (c, o, s) := by
  unfold stoEnd at h
  simp only [Bool.and_eq_true, beq_true, lenL_eq, snoc_eq] at h
  obtain ⟨⟨a3, a4⟩, ⟨a5, a6⟩, a7⟩ := h
  have hT' : ∀ x, x ∈ σ.ts ++ [.nx .u64 b] → ∃ c, @VRel T φ x c := by
    intro x hx
    rcases List.mem_append.1 hx with hx | hx
    · exact hT x hx
    · rw [List.mem_singleton] at hx
      subst hx
      exact ⟨_, @VRel.nx T φ .u64 b hb7 hok⟩
  obtain ⟨k1, k2⟩ := incr_ok a5 hT'
  have k1' : ∀ x, x ∈ σ.ts → x.isTok = true := fun x hx => k1 x (List.mem_append.2 (.inl hx))
  obtain ⟨p1, p2, p3⟩ := List.pairwise_append.1 k2
  have hrange : ∀ x, x ∈ σ.ts → 1 ≤ evT T x ∧ evT T x ≤ 127 := fun x hx => by
    obtain ⟨c, hc⟩ := hT x hx
    exact (tok_ev (k1' x hx) hc).2
  have hlow : ∀ x, x ∈ σ.ts → evT T x < T.base + (b : Int) := fun x hx => p3 x hx (.nx .u64 b) (List.mem_singleton.2 rfl)
  let T' := nextTok T σ.ts hrange p1 b v hv
  obtain ⟨n1, n2, n3⟩ := hok
  have hok' : @Tok.nxok T' := by
    refine ⟨by show 1 ≤ T.base + (b : Int); omega, by show T.base + (b : Int) ≤ 120; omega, fun j hj => ?_⟩
    have hj' : j < σ.ts.length := hj
    show evT T ((σ.ts[j]?).getD .bad) < T.base + (b : Int)
    rw [List.getElem?_eq_getElem hj']
    exact hlow _ (List.getElem_mem hj')
  have habs := absorb (T := T) (T' := T') (σ := σ) (hσ.trans hG.symm) hr a7 (fun kk j c hj hc => by
      have hm : σ.tok j ∈ σ.ts := by rw [tok_eq, List.getElem?_eq_getElem hj]; exact List.getElem_mem hj
      have := retag_ev (k1' _ hm) hc
      rw [this]
      have e : evT T (σ.tok j) = T'.num j := by rw [tok_eq]; rfl
      rw [e]
      exact @VRel.sym T' _ kk j hj) (fun kk d s c hs hc => by
      rw [hnx] at hs
      have hs' := aeqN_eq 2 _ _ hs
      subst hs'
      obtain ⟨q1, q2⟩ := nx_val (show @VRel T φ (.nx kk (Nat.add d b)) c from hc)
      have q1' : d + b ≤ 7 := q1
      subst q2
      have e : T.base + ((Nat.add d b : Nat) : Int) = T'.base + (d : Int) := by
        show T.base + ((d + b : Nat) : Int) = T.base + (b : Int) + (d : Int)
        omega
      rw [e]
      exact @VRel.nx T' _ kk d (by omega) hok') (fun i s c hs _ => by rw [hop] at hs; exact (aeq_bad hs).elim) (fun b o hb => by cases hb) (fun h => by cases h)
  rw [hσ] at habs
  have m3 : ∀ (t s : AVal), absN σ 2 t s = true → (t = .ptr (Nat.succ G) 0 ∨ t = .nx .u64 0) → absN σ 4 t s = true := by
    intro t s hts ht
    rcases ht with rfl | rfl
    · cases s <;> exact hts
    · cases s <;> exact hts
  refine ⟨T', rfl, a6, rfl, hok', absPhi σ φ, habs.1, habs.2 _ _ (m3 _ _ a3 (.inl rfl)) c3 h3, habs.2 _ _ (m3 _ _ a4 (.inr rfl)) c4 h4, ?_⟩
  intro p c o s hp hw hφ
  have hM : stoM G g0 b0 n = mkMem σ.G g0 b0 (stoL G n) := by rw [hσ]; rfl
  rw [hM] at hp hw
  obtain ⟨t1, t2, t3⟩ := absMem_wr a7 hp hw
  unfold absPhi at hφ
  rw [if_pos t1] at hφ
  exact ⟨_, t2, t3, hφ⟩
theorem symsL_mem : ∀ {l : List Nat} {x : AVal}, x ∈ symsL l → ∃ j, j ∈ l ∧ x = .sym .u64 j
  | [], _, h => by cases h
  | j :: l, x, h => by
    rcases List.mem_cons.1 h with rfl | h
    · exact ⟨j, List.mem_cons_self .., rfl⟩
    · obtain ⟨i, h1, h2⟩ := symsL_mem h
      exact ⟨i, List.mem_cons_of_mem _ h1, h2⟩
theorem natL_mem : ∀ {n a j : Nat}, j ∈ natL n a → j < a + n
  | 0, _, _, h => by cases h
  | n + 1, a, j, h => by
    rcases List.mem_cons.1 h with rfl | h
    · omega
    · have := natL_mem h; simp only [Nat.succ_eq_add_one] at this; omega
theorem stoTs_ok {T : Tok} {φ : Phi} {n n' b : Nat} (hok : @Tok.nxok T) (hc : T.cnt = n) (h : b = 0 ∧ n' ≤ n ∨ b = 1 ∧ n' = n + 1) : ∀ x, x ∈ stoTs n' b → ∃ c, @VRel T φ x c := by
  intro x hx
  rcases h with ⟨rfl, h⟩ | ⟨rfl, rfl⟩
  · obtain ⟨j, h1, rfl⟩ := symsL_mem (show x ∈ symsL (natL n' 0) from hx)
    have := natL_mem h1
    exact ⟨_, @VRel.sym T φ .u64 j (by omega)⟩
  · have hx' : x ∈ snocL (symsL (natL n 0)) (.nx .u64 0) := hx
    rw [snoc_eq] at hx'
    rcases List.mem_append.1 hx' with hx' | hx'
    · obtain ⟨j, h1, rfl⟩ := symsL_mem hx'
      have := natL_mem h1
      exact ⟨_, @VRel.sym T φ .u64 j (by omega)⟩
    · rw [List.mem_singleton] at hx'
      subst hx'
      exact ⟨_, @VRel.nx T φ .u64 0 (by omega) hok⟩
end Go.AM

namespace Go.AM
variable {P : Program}

/- ### operations of the law's own loop, by hand -/
structure OpAt (ops : Array Oper) (i d : Nat) (op : Op) : Prop where
  is : ∃ o, ops[i]? = some o ∧ o.guard = none ∧ o.dst = some d ∧ o.op = op
theorem wpOps_val {ops : Array Oper} {Q : Exit → Act → World → Prop} {i d : Nat} {op : Op} (h : OpAt ops i d op) {js : List Nat} {a : Act} {w : World} {v : Value} (hr : ∀ o : Oper, o.op = op → (execOp a.eval o).run P w = .ok (.value v) w)
    (hn : wpOps P ops Q js (a.put (some d) v) w) : wpOps P ops Q (i :: js) a w := by
  obtain ⟨o, h1, h2, h3, h4⟩ := h.is
  unfold wpOps
  rw [h1]
  simp only
  have hwant : Region.wanted o (yielded ops a.tmps) = true := by unfold Region.wanted; rw [h2]
  rw [if_pos hwant]
  left
  unfold Oper.wp
  rw [hr o h4, Oper.upon_value, h3]
  exact hn
section
variable {a : Act} {w : World} {o : Oper}
theorem run_mv {t : Nat} (h : o.op = .move (.tmp t)) : (execOp a.eval o).run P w = .ok (.value (a.tmps.getD t undef)) w := by simp [execOp, h, Act.eval]
theorem run_as {t : Nat} (h : o.op = .assign (.tmp t)) : (execOp a.eval o).run P w = .ok (.value (a.tmps.getD t undef)) w := by simp [execOp, h, Act.eval]
theorem run_asc {v : Value} (h : o.op = .assign (.const v)) : (execOp a.eval o).run P w = .ok (.value v) w := by simp [execOp, h, Act.eval]
theorem run_ln {t tt e : Nat} (hu : P.underlying tt = some (.slice e)) (h : o.op = .call ⟨.builtin .len, #[.tmp t], #[tt]⟩) {b : Option Addr} {n c : Nat} (ht : a.tmps.getD t undef = .slice b n c) :
    (execOp a.eval o).run P w = .ok (.value (.int .i64 (n : Int))) w := by
  simp [execOp, h, resolve, Act.eval, ht, invoke, builtin, Builtin.len_, run_underlying hu, goInt]
theorem run_lt {x y t t2 : Nat} (h : o.op = .binOp .lss t (.tmp x) (.tmp y) t2) {i j : Int} (hx : a.tmps.getD x undef = .int .i64 i) (hy : a.tmps.getD y undef = .int .i64 j) :
    (execOp a.eval o).run P w = .ok (.value (.bool (decide (i < j)))) w := by
  simp [execOp, h, Act.eval, hx, hy, eqGuard, binOp, Op.intCmp]
theorem run_gt {x t t2 : Nat} {j : Int} (h : o.op = .binOp .gtr t (.tmp x) (.const (.int .i64 j)) t2) {i : Int} (hx : a.tmps.getD x undef = .int .i64 i) :
    (execOp a.eval o).run P w = .ok (.value (.bool (decide (j < i)))) w := by
  simp [execOp, h, Act.eval, hx, eqGuard, binOp, Op.intCmp]
theorem run_inc {x t t2 : Nat} (h : o.op = .binOp .add t (.tmp x) (.const (.int .i64 1)) t2) {i : Nat} (hi : i < 1000) (hx : a.tmps.getD x undef = .int .i64 (i : Int)) :
    (execOp a.eval o).run P w = .ok (.value (.int .i64 ((i + 1 : Nat) : Int))) w := by
  have e : IntKind.wrap .i64 ((i : Int) + 1) = ((i + 1 : Nat) : Int) := by
    simp [IntKind.wrap, IntKind.signed, IntKind.bits]
    omega
  simp [execOp, h, Act.eval, hx, eqGuard, binOp, Op.intArith, e]
theorem run_rem {x t t2 : Nat} (h : o.op = .binOp .rem t (.tmp x) (.const (.int .u8 3)) t2) {z : Nat} (hx : a.tmps.getD x undef = .int .u8 (z : Int)) :
    (execOp a.eval o).run P w = .ok (.value (.int .u8 ((z % 3 : Nat) : Int))) w := by
  have e : Int.tmod (z : Int) 3 = (z : Int) % 3 := Int.tmod_eq_emod_of_nonneg (Int.natCast_nonneg z)
  simp [execOp, h, Act.eval, hx, eqGuard, binOp, Op.intDiv, e]
theorem run_ix {x y tt e : Nat} (hu : P.underlying tt = some (.slice e)) (hs : ∀ w : World, (sizeOf e).run P w = .ok 1 w) (h : o.op = .indexAddr tt (.tmp x) (.tmp y)) {ad : Addr} {n c i : Nat} (hi : i < n) (hx : a.tmps.getD x undef = .slice (some ad) n c) (hy : a.tmps.getD y undef = .int .i64 (i : Int)) :
    (execOp a.eval o).run P w = .ok (.value (.pointer (some (ad.add i)))) w := by
  have h1 : (0 ≤ (i : Int) ∧ (i : Int) < (n : Int)) := ⟨Int.natCast_nonneg i, by omega⟩
  simp [execOp, h, Act.eval, hx, hy, Instr.indexAt, run_underlying hu, asIntOf, hs, h1, hi]
theorem run_ld {x e : Nat} (ha : ∀ w : World, (isAgg e).run P w = .ok false w) (h : o.op = .load e (.tmp x)) {ad : Addr} {v : Value} (hx : a.tmps.getD x undef = .pointer (some ad)) (hc : w.cell? ad = some v) :
    (execOp a.eval o).run P w = .ok (.value v) w := by
  simp [execOp, h, Act.eval, hx, Instr.loadAt, Instr.sureAddr, loadVar, ha, hc]
end
theorem get_same {nt : Nat} {a : Act} (ha : ActIs nt a) {d : Nat} (hd : d < nt) (c : Value) : (a.put (some d) c).tmps.getD d undef = c := by rw [put_get ha hd, if_pos rfl]
theorem get_other {nt : Nat} {a : Act} (ha : ActIs nt a) {d : Nat} (hd : d < nt) (c : Value) {t : Nat} (h : t ≠ d) : (a.put (some d) c).tmps.getD t undef = a.tmps.getD t undef := by rw [put_get ha hd, if_neg h]
section
variable {ops : Array Oper} {Q : Exit → Act → World → Prop} {a : Act} {w : World}
theorem reg10 {tt e t3 t4 : Nat} (hu : P.underlying tt = some (.slice e)) (h0 : OpAt ops 0 17 (.move (.tmp 5))) (h1 : OpAt ops 1 18 (.move (.tmp 0))) (h2 : OpAt ops 2 19 (.call ⟨.builtin .len, #[.tmp 18], #[tt]⟩))
    (h3 : OpAt ops 3 20 (.binOp .lss t3 (.tmp 17) (.tmp 19) t4)) (ha : ActIs 143 a) {b : Option Addr} {n c : Nat} {i : Int} (g0 : a.tmps.getD 0 undef = .slice b n c) (g5 : a.tmps.getD 5 undef = .int .i64 i)
    (hn : ∀ a', ActIs 143 a' → (∀ t, t < 11 → a'.tmps.getD t undef = a.tmps.getD t undef) → a'.tmps.getD 20 undef = .bool (decide (i < (n : Int))) → Q .normal a' w) : wpOps P ops Q [0, 1, 2, 3] a w := by
  refine wpOps_val h0 (fun o ho => run_mv ho) ?_
  have a1 := put_is ha (some 17) (a.tmps.getD 5 undef)
  refine wpOps_val h1 (fun o ho => run_mv ho) ?_
  rw [get_other ha (by decide) _ (by decide : 0 ≠ 17)]
  have a2 := put_is a1 (some 18) (a.tmps.getD 0 undef)
  refine wpOps_val h2 (fun o ho => run_ln hu ho (by rw [get_same a1 (by decide)]; exact g0)) ?_
  have a3 := put_is a2 (some 19) (.int .i64 (n : Int))
  refine wpOps_val h3 (fun o ho => run_lt (i := i) (j := n) ho (by rw [get_other a2 (by decide) _ (by decide : 17 ≠ 19), get_other a1 (by decide) _ (by decide : 17 ≠ 18), get_same ha (by decide)]; exact g5) (by rw [get_same a2 (by decide)])) ?_
  refine hn _ (put_is a3 _ _) (fun t ht => ?_) (by rw [get_same a3 (by decide)])
  rw [get_other a3 (by decide) _ (by omega), get_other a2 (by decide) _ (by omega), get_other a1 (by decide) _ (by omega), get_other ha (by decide) _ (by omega)]
theorem reg3 {tt e t3 t4 : Nat} (hu : P.underlying tt = some (.slice e)) (h0 : OpAt ops 0 11 (.move (.tmp 0))) (h1 : OpAt ops 1 12 (.call ⟨.builtin .len, #[.tmp 11], #[tt]⟩))
    (h2 : OpAt ops 2 13 (.binOp .gtr t3 (.tmp 12) (.const (.int .i64 60)) t4)) (ha : ActIs 143 a) {b : Option Addr} {n c : Nat} (g0 : a.tmps.getD 0 undef = .slice b n c)
    (hn : ∀ a', ActIs 143 a' → (∀ t, t < 11 → a'.tmps.getD t undef = a.tmps.getD t undef) → a'.tmps.getD 13 undef = .bool (decide ((60 : Int) < (n : Int))) → Q .normal a' w) : wpOps P ops Q [0, 1, 2] a w := by
  refine wpOps_val h0 (fun o ho => run_mv ho) ?_
  have a1 := put_is ha (some 11) (a.tmps.getD 0 undef)
  refine wpOps_val h1 (fun o ho => run_ln hu ho (by rw [get_same ha (by decide)]; exact g0)) ?_
  have a2 := put_is a1 (some 12) (.int .i64 (n : Int))
  refine wpOps_val h2 (fun o ho => run_gt (i := n) ho (by rw [get_same a1 (by decide)])) ?_
  refine hn _ (put_is a2 _ _) (fun t ht => ?_) (by rw [get_same a2 (by decide)])
  rw [get_other a2 (by decide) _ (by omega), get_other a1 (by decide) _ (by omega), get_other ha (by decide) _ (by omega)]
theorem reg11 {t3 t4 : Nat} (h0 : OpAt ops 0 21 (.move (.tmp 5))) (h1 : OpAt ops 1 22 (.binOp .add t3 (.tmp 21) (.const (.int .i64 1)) t4)) (h2 : OpAt ops 2 5 (.assign (.tmp 22))) (ha : ActIs 143 a) {i : Nat} (hi : i < 1000) (g5 : a.tmps.getD 5 undef = .int .i64 (i : Int))
    (hn : ∀ a', ActIs 143 a' → (∀ t, t < 5 → a'.tmps.getD t undef = a.tmps.getD t undef) → a'.tmps.getD 5 undef = .int .i64 ((i + 1 : Nat) : Int) → Q .normal a' w) : wpOps P ops Q [0, 1, 2] a w := by
  refine wpOps_val h0 (fun o ho => run_mv ho) ?_
  have a1 := put_is ha (some 21) (a.tmps.getD 5 undef)
  refine wpOps_val h1 (fun o ho => run_inc (i := i) ho hi (by rw [get_same ha (by decide)]; exact g5)) ?_
  have a2 := put_is a1 (some 22) (.int .i64 ((i + 1 : Nat) : Int))
  refine wpOps_val h2 (fun o ho => run_as ho) ?_
  refine hn _ (put_is a2 _ _) (fun t ht => ?_) (by rw [get_same a2 (by decide), get_same a1 (by decide)])
  rw [get_other a2 (by decide) _ (by omega), get_other a1 (by decide) _ (by omega), get_other ha (by decide) _ (by omega)]
theorem reg12 {tt e t4 : Nat} (hu : P.underlying tt = some (.slice e)) (hs : ∀ w : World, (sizeOf e).run P w = .ok 1 w) (hg : ∀ w : World, (isAgg e).run P w = .ok false w) (h0 : OpAt ops 0 23 (.move (.tmp 0))) (h1 : OpAt ops 1 24 (.move (.tmp 5)))
    (h2 : OpAt ops 2 25 (.indexAddr tt (.tmp 23) (.tmp 24))) (h3 : OpAt ops 3 26 (.load e (.tmp 25))) (h4 : OpAt ops 4 27 (.binOp .rem e (.tmp 26) (.const (.int .u8 3)) t4)) (ha : ActIs 143 a) {ad : Addr} {n c i z : Nat} (hi : i < n)
    (g0 : a.tmps.getD 0 undef = .slice (some ad) n c) (g5 : a.tmps.getD 5 undef = .int .i64 (i : Int)) (hc : w.cell? (ad.add i) = some (.int .u8 (z : Int)))
    (hn : ∀ a', ActIs 143 a' → (∀ t, t < 11 → a'.tmps.getD t undef = a.tmps.getD t undef) → a'.tmps.getD 27 undef = .int .u8 ((z % 3 : Nat) : Int) → Q .normal a' w) : wpOps P ops Q [0, 1, 2, 3, 4] a w := by
  refine wpOps_val h0 (fun o ho => run_mv ho) ?_
  have a1 := put_is ha (some 23) (a.tmps.getD 0 undef)
  refine wpOps_val h1 (fun o ho => run_mv ho) ?_
  rw [get_other ha (by decide) _ (by decide : 5 ≠ 23)]
  have a2 := put_is a1 (some 24) (a.tmps.getD 5 undef)
  refine wpOps_val h2 (fun o ho => run_ix hu hs ho hi (by rw [get_other a1 (by decide) _ (by decide : 23 ≠ 24), get_same ha (by decide)]; exact g0) (by rw [get_same a1 (by decide)]; exact g5)) ?_
  have a3 := put_is a2 (some 25) (.pointer (some (ad.add i)))
  refine wpOps_val h3 (fun o ho => run_ld hg ho (by rw [get_same a2 (by decide)]) hc) ?_
  have a4 := put_is a3 (some 26) (.int .u8 (z : Int))
  refine wpOps_val h4 (fun o ho => run_rem (z := z) ho (by rw [get_same a3 (by decide)])) ?_
  refine hn _ (put_is a4 _ _) (fun t ht => ?_) (by rw [get_same a4 (by decide)])
  rw [get_other a4 (by decide) _ (by omega), get_other a3 (by decide) _ (by omega), get_other a2 (by decide) _ (by omega), get_other a1 (by decide) _ (by omega), get_other ha (by decide) _ (by omega)]
end
end Go.AM

namespace Go.AM
variable {P : Program}
noncomputable section

/- ### one round of the law's loop -/
def nextN (n c : Nat) : Nat := match c with | 0 => Nat.succ n | 1 => n | _ + 2 => Nat.pred n
def nextB (c : Nat) : Nat := match c with | 0 => 1 | _ + 1 => 0
def roundL (G c : Nat) : List (Nat × AVal) := [(0, .opq 0), (3, .ptr (Nat.succ G) 0), (4, .nx .u64 0), (5, .opq 1), (27, .int .u8 (.ofNat c))]
def roundW : Ways := ⟨true, fun i => Nat.beq i 1, false⟩
def roundRun (P : Program) (K : KH) (G g0 : Nat) (b0 : Blk) (X Y : Code) (n c : Nat) : Bool :=
  match pieceRun P 143 K [X, Y] roundW (roundL G c) [0, 3, 4, 5] (stoM G g0 b0 n) with
  | .ok v m => stoChk G g0 b0 (nextN n c) (nextB c) v m
  | .fail _ => false
def lawVals (cl : Value) (i : Nat) : Nat → Value
  | 0 => cl
  | 1 => .int .i64 (i : Int)
  | _ => .nilIface
/-- at the loop's head: i rounds are done, the store has n rows -/
structure LawAt (P : Program) (G g0 : Nat) (b0 : Blk) (cl : Value) (hs : Nat) (w0 : World) (i n : Nat) (a : Act) (w : World) : Prop where
  act : ActIs 143 a
  t0 : a.tmps.getD 0 undef = cl
  t5 : a.tmps.getD 5 undef = .int .i64 (i : Int)
  le : n ≤ i
  rel : ∃ T : Tok, T.val = lawVals cl i ∧ T.cnt = n ∧ T.base ≤ (i : Int) + 1 ∧ @Tok.nxok T ∧ ∃ φ, @Rel T P φ (stoM G g0 b0 n) w ∧ @VRel T φ (.ptr (Nat.succ G) 0) (a.tmps.getD 3 undef) ∧ @VRel T φ (.nx .u64 0) (a.tmps.getD 4 undef) ∧
    ∀ p c o s, p < (stoM G g0 b0 n).next → ((stoM G g0 b0 n).get p).wr = true → φ p = some (c, o, s) → hs ≤ c
  heap : ∀ b, b < hs → w.heap[b]? = w0.heap[b]?
  size : hs ≤ w.heap.size
  os : w.os = w0.os
  out : w.output = w0.output
  tape : w.tape = w0.tape
/-- what lay below stays, what is written lies above -/
theorem step_keeps {T : Tok} {φ φ' : Phi} {m m' : Mem} {w w' : World} (hst : @Step T P φ m w φ' m' w') {hs : Nat} (hw : hs ≤ w.heap.size) (h : ∀ p c o s, p < m.next → (m.get p).wr = true → φ p = some (c, o, s) → hs ≤ c) :
    (∀ b, b < hs → w'.heap[b]? = w.heap[b]?) ∧ ∀ p c o s, p < m'.next → (m'.get p).wr = true → φ' p = some (c, o, s) → hs ≤ c := by
  refine ⟨fun b hb => @Step.frame T P φ m w φ' m' w' hst b (by omega) fun q o s hq hwr hφ => ?_, fun p c o s hp hwr hφ => ?_⟩
  · have := h q b o s hq hwr hφ
    omega
  · rcases Nat.lt_or_ge p m.next with h1 | h1
    · rcases @Step.fresh T P φ m w φ' m' w' hst p _ hφ with h2 | h2
      · exact h p c o s h1 (@Step.wr T P φ m w φ' m' w' hst p h1 hwr) h2
      · omega
    · rcases Nat.lt_or_ge c hs with h2 | h2
      · obtain ⟨q, o', s', hq, hqw, hqφ⟩ := @Step.img T P φ m w φ' m' w' hst p c o s h1 hp (Blk.live_of_wr hwr) hφ (by omega)
        have := h q c o' s' hq hqw hqφ
        omega
      · exact h2
theorem roundRun_ok {K : KH} {G g0 : Nat} {b0 : Blk} {X Y : Code} {n c : Nat} (h : roundRun P K G g0 b0 X Y n c = true) : ∃ x0 x3 x4 x5 r m, pieceRun P 143 K [X, Y] roundW (roundL G c) [0, 3, 4, 5] (stoM G g0 b0 n) = .ok (.tuple (x0 :: x3 :: x4 :: x5 :: r)) m ∧
    isOpq 0 x0 = true ∧ isOpq 1 x5 = true ∧ stoEnd G g0 b0 (nextN n c) (nextB c) (stoMap G m (nmOf x3) (nextN n c) (nextB c)) x3 x4 m = true := by
  unfold roundRun at h
  cases hq : pieceRun P 143 K [X, Y] roundW (roundL G c) [0, 3, 4, 5] (stoM G g0 b0 n) with
  | fail e => rw [hq] at h; cases h
  | ok v m =>
    rw [hq] at h
    have h1 : stoChk G g0 b0 (nextN n c) (nextB c) v m = true := h
    unfold stoChk at h1
    split at h1
    · obtain ⟨x0, x3, x4, x5, r, rfl, h2⟩ := on4_ok h1
      simp only [Bool.and_eq_true] at h2
      exact ⟨x0, x3, x4, x5, r, m, rfl, h2.1.1, h2.1.2, h2.2⟩
    · cases h1
theorem law_mid {K : KH} (hK : ∀ T : Tok, @KSound T P K) (hD : ∀ T : Tok, @DrawOk T P K) {G g0 : Nat} {b0 : Blk} (hG : P.globals.size = G) {X Y : Code} (hX : gCode P.globals.size X = true) (hY : gCode P.globals.size Y = true)
    {cl : Value} (hcl : cl.oneCell' = true) {hs : Nat} {w0 : World} {i n : Nat} {c : Nat} (hi : i < 60) (hc : c < 3) (hrun : roundRun P K G g0 b0 X Y n c = true) {a : Act} {w : World} (h : LawAt P G g0 b0 cl hs w0 i n a w)
    {a1 : Act} (ha1 : ActIs 143 a1) (hsame : ∀ t, t < 11 → a1.tmps.getD t undef = a.tmps.getD t undef) (h27 : a1.tmps.getD 27 undef = .int .u8 (c : Int)) {Q : Exit → Act → World → Prop}
    (hn : ∀ a' w', ActIs 143 a' → a'.tmps.getD 0 undef = cl → a'.tmps.getD 5 undef = .int .i64 (i : Int) →
      (∀ a2 : Act, ActIs 143 a2 → (∀ t, t < 5 → a2.tmps.getD t undef = a'.tmps.getD t undef) → a2.tmps.getD 5 undef = .int .i64 ((i + 1 : Nat) : Int) → LawAt P G g0 b0 cl hs w0 (i + 1) (nextN n c) a2 w') → Q .normal a' w' ∧ Q (.exit 1) a' w') :
    X.wp P (Exit.then (Y.wp P Q) Q) a1 w := by
  obtain ⟨x0, x3, x4, x5, r, mf, hq, hx0, hx5, hend⟩ := roundRun_ok hrun
  obtain ⟨T, hval, hcnt, hbase, hok, φ, hr, h3, h4, himg⟩ := h.rel
  have hl : ∀ p, p ∈ roundL G c → p.1 < 4096 ∧ @VRel T φ p.2 (a1.tmps.getD p.1 undef) := by
    intro p hp
    unfold roundL at hp
    simp only [List.mem_cons, List.not_mem_nil, or_false] at hp
    rcases hp with rfl | rfl | rfl | rfl | rfl
    · refine ⟨(by decide : 0 < 4096), ?_⟩
      show @VRel T φ (.opq 0) (a1.tmps.getD 0 undef)
      rw [hsame 0 (by decide), h.t0]
      have : cl = T.val 0 := by rw [hval]; rfl
      rw [this]; exact @VRel.opq T φ 0
    · refine ⟨(by decide : 3 < 4096), ?_⟩
      show @VRel T φ _ (a1.tmps.getD 3 undef)
      rw [hsame 3 (by decide)]; exact h3
    · refine ⟨(by decide : 4 < 4096), ?_⟩
      show @VRel T φ _ (a1.tmps.getD 4 undef)
      rw [hsame 4 (by decide)]; exact h4
    · refine ⟨(by decide : 5 < 4096), ?_⟩
      show @VRel T φ (.opq 1) (a1.tmps.getD 5 undef)
      rw [hsame 5 (by decide), h.t5]
      have : Value.int .i64 (i : Int) = T.val 1 := by rw [hval]; rfl
      rw [this]; exact @VRel.opq T φ 1
    · refine ⟨(by decide : 27 < 4096), ?_⟩
      show @VRel T φ (.int .u8 (.ofNat c)) (a1.tmps.getD 27 undef)
      rw [h27]; exact @VRel.int T φ .u8 (c : Int)
  have fin : ∀ φ' a' w', @Step T P φ (stoM G g0 b0 n) w φ' mf w' → ActIs 143 a' → @VsRel T φ' (x0 :: x3 :: x4 :: x5 :: r) (valsT [0, 3, 4, 5] a') → Q .normal a' w' ∧ Q (.exit 1) a' w' := by
    intro φ' a' w' hst ha' hv
    cases hv with
    | cons v0 hv =>
    cases hv with
    | cons v3 hv =>
    cases hv with
    | cons v4 hv =>
    cases hv with
    | cons v5 hv =>
    have e0 := opq_inv hx0 v0
    have e5 := opq_inv hx5 v5
    rw [hval] at e0 e5
    obtain ⟨k1, k2⟩ := step_keeps hst h.size himg
    have hbb : nextB c = 0 ∧ nextN n c ≤ n ∨ nextB c = 1 ∧ nextN n c = n + 1 := by
      match c, hc with
      | 0, _ => exact .inr ⟨rfl, rfl⟩
      | 1, _ => exact .inl ⟨rfl, Nat.le_refl _⟩
      | 2, _ => exact .inl ⟨rfl, Nat.pred_le n⟩
    have hle := h.le
    have hb1 : nextB c ≤ 1 := by rcases hbb with ⟨e, _⟩ | ⟨e, _⟩ <;> omega
    obtain ⟨T', q1, q2, q3, q4, φ2, q5, q6, q7, q8⟩ := sto_end (T := T) (σ := stoMap G mf (nmOf x3) (nextN n c) (nextB c)) hG (@Step.rel T P _ _ _ _ _ _ hst) rfl rfl rfl (by omega) (stoTs_ok hok hcnt hbb) hok (by omega) hend v3 v4 (lawVals cl (i + 1)) (fun j => by
      match j with
      | 0 => exact hcl
      | 1 => rfl
      | j + 2 => rfl)
    refine hn a' w' ha' e0 e5 (fun a2 ha2 hs2 h52 => ?_)
    refine ⟨ha2, by rw [hs2 0 (by decide)]; exact e0, h52, by rcases hbb with ⟨_, e⟩ | ⟨_, e⟩ <;> omega, ⟨T', q1, q2, by rw [q3]; omega, q4, φ2, q5, by rw [hs2 3 (by decide)]; exact q6, by rw [hs2 4 (by decide)]; exact q7, fun p cc o s hp hwr hφ => ?_⟩,
      fun b hb => (k1 b hb).trans (h.heap b hb), Nat.le_trans h.size (@Step.size T P _ _ _ _ _ _ hst), (@Step.os T P _ _ _ _ _ _ hst).trans h.os, (@Step.out T P _ _ _ _ _ _ hst).trans h.out, (@Step.tape T P _ _ _ _ _ _ hst).trans h.tape⟩
    obtain ⟨q, s1, s2, s3⟩ := q8 p cc o s hp hwr hφ
    exact k2 q cc o s s1 s2 s3
  refine @piece_then P T K (hK T) (hD T) 143 X Y ⟨hX, hY⟩ _ _ _ _ _ _ hq _ _ _ _ hr ha1 (by decide) hl ?_ ?_ (fun e => by cases e)
  · intro _ φ' a' w' hst ha' hv
    exact (fin φ' a' w' hst ha' hv).1
  · intro j hj φ' a' w' hst ha' hv
    have : j = 1 := beq_true.1 hj
    subst this
    exact (fin φ' a' w' hst ha' hv).2
end
end Go.AM

namespace Go.AM
variable {P : Program}
noncomputable section

theorem inBlock_here {id : Nat} {Q : Exit → Act → World → Prop} {a : Act} {w : World} (h : Q .normal a w) : Exit.inBlock id Q (.exit id) a w := by
  simp only [Exit.inBlock, if_true]
  exact h
theorem cell_congr {w w' : World} {ad : Addr} (h : w'.heap[ad.block]? = w.heap[ad.block]?) : w'.cell? ad = w.cell? ad := by
  unfold World.cell?
  rw [h]
/-- the code of the law, as far as it is taken by hand -/
structure LawOps (P : Program) (O3 O10 O12 O11 : Array Oper) : Prop where
  ty : ∃ tt e t1 t2 t3 t4 t5 t6 t7, P.underlying tt = some (.slice e) ∧ (∀ w : World, (sizeOf e).run P w = .ok 1 w) ∧ (∀ w : World, (isAgg e).run P w = .ok false w) ∧
    (O3.size = 3 ∧ OpAt O3 0 11 (.move (.tmp 0)) ∧ OpAt O3 1 12 (.call ⟨.builtin .len, #[.tmp 11], #[tt]⟩) ∧ OpAt O3 2 13 (.binOp .gtr t1 (.tmp 12) (.const (.int .i64 60)) t2)) ∧
    (O10.size = 4 ∧ OpAt O10 0 17 (.move (.tmp 5)) ∧ OpAt O10 1 18 (.move (.tmp 0)) ∧ OpAt O10 2 19 (.call ⟨.builtin .len, #[.tmp 18], #[tt]⟩) ∧ OpAt O10 3 20 (.binOp .lss t3 (.tmp 17) (.tmp 19) t4)) ∧
    (O12.size = 5 ∧ OpAt O12 0 23 (.move (.tmp 0)) ∧ OpAt O12 1 24 (.move (.tmp 5)) ∧ OpAt O12 2 25 (.indexAddr tt (.tmp 23) (.tmp 24)) ∧ OpAt O12 3 26 (.load e (.tmp 25)) ∧ OpAt O12 4 27 (.binOp .rem e (.tmp 26) (.const (.int .u8 3)) t5)) ∧
    (O11.size = 3 ∧ OpAt O11 0 21 (.move (.tmp 5)) ∧ OpAt O11 1 22 (.binOp .add t6 (.tmp 21) (.const (.int .i64 1)) t7) ∧ OpAt O11 2 5 (.assign (.tmp 22)))
def lawBody (i10 i12 i11 : Nat) (O10 O12 O11 : Array Oper) (X Y : Code) : Code :=
  .seq (.seq (.region i10 O10 false) (.cond (.tmp 20) .skip (.exit 0))) (.seq (.block 1 (.seq (.seq (.region i12 O12 false) X) Y)) (.region i11 O11 false))
theorem evTmp (a : Act) (t : Nat) : a.eval (.tmp t) = a.tmps.getD t undef := rfl
theorem law_round {K : KH} (hK : ∀ T : Tok, @KSound T P K) (hD : ∀ T : Tok, @DrawOk T P K) {G g0 : Nat} {b0 : Blk} (hG : P.globals.size = G) {X Y : Code} (hX : gCode P.globals.size X = true) (hY : gCode P.globals.size Y = true)
    {O3 O10 O12 O11 : Array Oper} (ho : LawOps P O3 O10 O12 O11) {i10 i12 i11 : Nat} {L cp hs : Nat} {b : Option Addr} {w0 : World} (hL : L ≤ 60)
    (hel : ∀ i, i < L → ∃ (ad : Addr) (z : Nat), b = some ad ∧ (ad.add i).block < hs ∧ w0.cell? (ad.add i) = some (.int .u8 (z : Int)))
    (hruns : ∀ n c, n < 60 → c < 3 → roundRun P K G g0 b0 X Y n c = true) {i n : Nat} {a : Act} {w : World} (hi : i ≤ L) (h : LawAt P G g0 b0 (.slice b L cp) hs w0 i n a w) {Q : Exit → Act → World → Prop}
    (hgo : i < L → ∀ a' w' n', LawAt P G g0 b0 (.slice b L cp) hs w0 (i + 1) n' a' w' → Q .normal a' w') (hend : i = L → ∀ a', (∀ t, t < 11 → a'.tmps.getD t undef = a.tmps.getD t undef) → ActIs 143 a' → Q (.exit 0) a' w) :
    (lawBody i10 i12 i11 O10 O12 O11 X Y).wp P Q a w := by
  obtain ⟨tt, e, t1, t2, t3, t4, t5, t6, t7, hu, hsz, hag, _, ⟨s10, p0, p1, p2, p3⟩, ⟨s12, q0, q1, q2, q3, q4⟩, ⟨s11, r0, r1, r2⟩⟩ := ho.ty
  unfold lawBody
  refine wp_seq (wp_seq (wp_region ?_))
  rw [s10]
  show wpOps P O10 _ [0, 1, 2, 3] a w
  refine reg10 hu p0 p1 p2 p3 h.act h.t0 h.t5 fun a1 ha1 hs1 h20 => ?_
  show (Code.cond (.tmp 20) .skip (.exit 0)).wp P _ a1 w
  by_cases hlt : i < L
  · have hd : decide ((i : Int) < (L : Int)) = true := decide_eq_true (by omega)
    rw [hd] at h20
    refine wp_cond_true (by rw [evTmp]; exact h20) (Go.wp_skip ?_)
    show (Code.seq _ _).wp P Q a1 w
    refine wp_seq (wp_block (wp_seq (wp_seq (wp_region ?_))))
    rw [s12]
    show wpOps P O12 _ [0, 1, 2, 3, 4] a1 w
    obtain ⟨ad, z, hb, hbk, hcell⟩ := hel i hlt
    have hcell' : w.cell? (ad.add i) = some (.int .u8 (z : Int)) := by
      rw [← hcell]
      exact cell_congr (h.heap _ hbk)
    refine reg12 hu hsz hag q0 q1 q2 q3 q4 ha1 hlt (by rw [hs1 0 (by decide), h.t0, hb]) (by rw [hs1 5 (by decide)]; exact h.t5) hcell' fun a2 ha2 hs2 h27 => ?_
    show X.wp P _ a2 w
    have hle := h.le
    refine law_mid hK hD hG hX hY rfl (i := i) (n := n) (c := z % 3) (by omega) (by omega) (hruns n (z % 3) (by omega) (by omega)) h ha2 (fun t ht => by rw [hs2 t ht, hs1 t ht]) h27 fun a' w' ha' g0 g5 hnext => ?_
    have fin : (Code.region i11 O11 false).wp P Q a' w' := by
      refine wp_region ?_
      rw [s11]
      show wpOps P O11 _ [0, 1, 2] a' w'
      refine reg11 r0 r1 r2 ha' (by omega) g5 fun a3 ha3 hs3 h53 => ?_
      exact hgo hlt a3 w' _ (hnext a3 ha3 hs3 h53)
    exact ⟨fin, inBlock_here fin⟩
  · have hd : decide ((i : Int) < (L : Int)) = false := decide_eq_false (by omega)
    rw [hd] at h20
    refine wp_cond_false (by rw [evTmp]; exact h20) (Go.wp_exit ?_)
    exact hend (by omega) a1 hs1 ha1
theorem law_loop {K : KH} (hK : ∀ T : Tok, @KSound T P K) (hD : ∀ T : Tok, @DrawOk T P K) {G g0 : Nat} {b0 : Blk} (hG : P.globals.size = G) {X Y : Code} (hX : gCode P.globals.size X = true) (hY : gCode P.globals.size Y = true)
    {O3 O10 O12 O11 : Array Oper} (ho : LawOps P O3 O10 O12 O11) {i10 i12 i11 : Nat} {L cp hs : Nat} {b : Option Addr} {w0 : World} (hL : L ≤ 60)
    (hel : ∀ i, i < L → ∃ (ad : Addr) (z : Nat), b = some ad ∧ (ad.add i).block < hs ∧ w0.cell? (ad.add i) = some (.int .u8 (z : Int)))
    (hruns : ∀ n c, n < 60 → c < 3 → roundRun P K G g0 b0 X Y n c = true) {a : Act} {w : World} (h : LawAt P G g0 b0 (.slice b L cp) hs w0 0 0 a w) {Q : Exit → Act → World → Prop}
    (hend : ∀ a' w', ActIs 143 a' → (∀ b, b < hs → w'.heap[b]? = w0.heap[b]?) → hs ≤ w'.heap.size → w'.os = w0.os → w'.output = w0.output → w'.tape = w0.tape → Q .normal a' w') :
    (Code.block 0 (.loop (lawBody i10 i12 i11 O10 O12 O11 X Y))).wp P Q a w := by
  refine wp_block ?_
  refine wp_loop_ghost (fun k a w => k ≤ L ∧ ∃ n, LawAt P G g0 b0 (.slice b L cp) hs w0 (L - k) n a w) L ⟨Nat.le_refl _, 0, by rw [Nat.sub_self]; exact h⟩ ?_
  rintro k a1 w1 ⟨hk, n, h1⟩
  refine law_round hK hD hG hX hY ho hL hel hruns (by omega) h1 (fun hlt a' w' n' h2 => ?_) (fun he a' hs' ha' => ?_)
  · refine ⟨k - 1, by omega, by omega, n', ?_⟩
    have : L - (k - 1) = L - k + 1 := by omega
    rw [this]; exact h2
  · exact inBlock_here (id := 0) (Q := Q) (hend a' w1 ha' h1.heap h1.size h1.os h1.out h1.tape)
end
end Go.AM

namespace Go.AM
variable {P : Program}
noncomputable section

/- ### the law as a whole -/
def m00 (G g0 : Nat) (b0 : Blk) : Mem := mkMem G g0 b0 []
def onlyN : Ways := ⟨true, fun _ => false, false⟩
def knownChk (G g0 : Nat) (b0 : Blk) : R → Bool
  | .ok (.tuple [x]) m => and (isOpq 0 x) (absMem ⟨G, [], [], fun _ => .bad, fun _ => .bad⟩ g0 b0 [] m)
  | _ => false
def nx1 : Nat → AVal
  | 0 => .int .u64 (.ofNat 1)
  | _ + 1 => .bad
def madeChk (G g0 : Nat) (b0 : Blk) : R → Bool
  | .ok (.tuple [x0, x3, x4]) m => and (isOpq 0 x0) (and (absN ⟨G, stoNs m (nmOf x3) 0, [], nx1, fun _ => .bad⟩ 2 (.ptr (Nat.succ G) 0) x3) (and (absN ⟨G, stoNs m (nmOf x3) 0, [], nx1, fun _ => .bad⟩ 2 (.nx .u64 0) x4) (absMem ⟨G, stoNs m (nmOf x3) 0, [], nx1, fun _ => .bad⟩ g0 b0 (stoL G 0) m)))
  | _ => false
def knownRun (P : Program) (K : KH) (G g0 : Nat) (b0 : Blk) (R0 S1 : Code) : Bool := knownChk G g0 b0 (pieceRun P 143 K [R0, S1] onlyN [(0, .opq 0)] [0] (m00 G g0 b0))
def madeRun (P : Program) (K : KH) (G g0 : Nat) (b0 : Blk) (R5 S6 R8 : Code) : Bool := madeChk G g0 b0 (pieceRun P 143 K [R5, S6, R8] onlyN [(0, .opq 0)] [0, 3, 4] (m00 G g0 b0))
def lawCode (R0 S1 : Code) (i3 : Nat) (O3 : Array Oper) (i4 : Nat) (O4 : Array Oper) (R5 S6 R8 : Code) (i9 : Nat) (O9 : Array Oper) (loop : Code) (i32 : Nat) (O32 : Array Oper) : Code :=
  seqsC [R0, S1] (.seq (.seq (.region i3 O3 false) (.cond (.tmp 13) (.seq (.region i4 O4 false) .ret) .skip)) (seqsC [R5, S6, R8] (.seq (.seq (.region i9 O9 false) loop) (.seq (.region i32 O32 false) .ret))))
/-- the world that the law leaves -/
def Left' (w w' : World) : Prop := (∀ b, b < w.heap.size → w'.heap[b]? = w.heap[b]?) ∧ w.heap.size ≤ w'.heap.size ∧ w'.os = w.os ∧ w'.output = w.output ∧ w'.tape = w.tape
theorem Left'.of {T : Tok} {φ φ' : Phi} {m m' : Mem} {w w' : World} (hst : @Step T P φ m w φ' m' w') (h : ∀ q, q < m.next → (m.get q).wr = false) : Left' w w' :=
  ⟨fun b hb => @Step.frame T P φ m w φ' m' w' hst b hb fun q o s hq hw _ => (by rw [h q hq] at hw; cases hw), @Step.size T P φ m w φ' m' w' hst, @Step.os T P φ m w φ' m' w' hst, @Step.out T P φ m w φ' m' w' hst, @Step.tape T P φ m w φ' m' w' hst⟩
theorem Left'.trans {w w' w'' : World} (h : Left' w w') (h' : Left' w' w'') : Left' w w'' :=
  ⟨fun b hb => (h'.1 b (Nat.lt_of_lt_of_le hb h.2.1)).trans (h.1 b hb), Nat.le_trans h.2.1 h'.2.1, h'.2.2.1.trans h.2.2.1, h'.2.2.2.1.trans h.2.2.2.1, h'.2.2.2.2.trans h.2.2.2.2⟩
theorem m00_ro {G g0 : Nat} {b0 : Blk} (hg : g0 < G) (hG : G + 1 ≤ 65536) (h0 : b0.wr = false) : ∀ q, q < (m00 G g0 b0).next → ((m00 G g0 b0).get q).wr = false :=
  mkMem_ro hg hG h0 fun b hb => by cases hb
theorem b0_ro {b0 : Blk} (h : roB b0 = true) : b0.wr = false := by
  cases b0 with
  | cells ro cs => cases ro with
    | true => rfl
    | false => cases h
  | none => rfl
  | map es k => cases h
  | iter s k => cases h
theorem known_back {T : Tok} (hT : T.strong = false) {G g0 : Nat} {b0 : Blk} (hG : P.globals.size = G) {φ : Phi} {m : Mem} {w : World} (hr : @Rel T P φ m w) (h : absMem ⟨G, [], [], fun _ => .bad, fun _ => .bad⟩ g0 b0 [] m = true) : ∃ φ', @Rel T P φ' (m00 G g0 b0) w :=
  ⟨_, (absorb (T := T) (T' := T) (σ := ⟨G, [], [], fun _ => .bad, fun _ => .bad⟩) hG.symm hr h (fun _ j c hj _ => absurd hj (Nat.not_lt_zero _)) (fun kk d s c hs _ => by
    have e : aeqN 2 s AVal.bad = true := hs
    cases s <;> cases e) (fun i s c hs _ => (aeq_bad hs).elim) (fun _ _ h => h) (fun h => by rw [hT] at h; cases h)).1⟩
@[reducible] def tok1 (v : Nat → Value) (h : ∀ j, (v j).oneCell' = true) : Tok where
  num _ := 0
  cnt := 0
  pos _ hj := absurd hj (Nat.not_lt_zero _)
  hi _ hj := absurd hj (Nat.not_lt_zero _)
  mono _ _ _ hj := absurd hj (Nat.not_lt_zero _)
  base := 1
  val := v
  cell := h
theorem lawVals_cell {cl : Value} (h : cl.oneCell' = true) (i : Nat) : ∀ j, (lawVals cl i j).oneCell' = true
  | 0 => h
  | 1 => rfl
  | _ + 2 => rfl
theorem wp_setTrue {ops : Array Oper} {id : Nat} (hs : ops.size = 1) (h : OpAt ops 0 2 (.assign (.const (.bool true)))) {a : Act} (ha : ActIs 143 a) {w : World} {Q : Exit → Act → World → Prop} (hQ : ∀ a' : Act, a'.defers = [] → a'.tmps.getD 2 undef = .bool true → Q .ret a' w) :
    (Code.seq (.region id ops false) .ret).wp P Q a w := by
  refine wp_seq (wp_region ?_)
  rw [hs]
  show wpOps P ops _ [0] a w
  refine wpOps_val h (fun o ho => run_asc ho) ?_
  show Code.ret.wp P _ _ w
  exact wp_ret (hQ _ (put_is ha (some 2) (.bool true)).defers (get_same ha (by decide) _))
theorem body_ret {fn : Func} (hres : fn.results.toList = [.tmp 2]) {R : Ending → World → Prop} {a : Act} {w : World} (hd : a.defers = []) (h2 : a.tmps.getD 2 undef = .bool true) (hR : R (.returned (.bool true)) w) : bodyPost P fn R .ret a w :=
  ⟨hd, _, results_one hres _ w, by rw [h2]; exact hR⟩
theorem madeChk_ok {G g0 : Nat} {b0 : Blk} {r : R} (h : madeChk G g0 b0 r = true) : ∃ x0 x3 x4 m, r = .ok (.tuple [x0, x3, x4]) m ∧ isOpq 0 x0 = true ∧ absN ⟨G, stoNs m (nmOf x3) 0, [], nx1, fun _ => .bad⟩ 2 (.ptr (Nat.succ G) 0) x3 = true ∧ absN ⟨G, stoNs m (nmOf x3) 0, [], nx1, fun _ => .bad⟩ 2 (.nx .u64 0) x4 = true ∧
    absMem ⟨G, stoNs m (nmOf x3) 0, [], nx1, fun _ => .bad⟩ g0 b0 (stoL G 0) m = true := by
  unfold madeChk at h
  split at h
  · rename_i x0 x3 x4 m
    simp only [Bool.and_eq_true] at h
    exact ⟨x0, x3, x4, m, rfl, h.1, h.2.1, h.2.2.1, h.2.2.2⟩
  · cases h
theorem knownChk_ok {G g0 : Nat} {b0 : Blk} {r : R} (h : knownChk G g0 b0 r = true) : ∃ x m, r = .ok (.tuple [x]) m ∧ isOpq 0 x = true ∧ absMem ⟨G, [], [], fun _ => .bad, fun _ => .bad⟩ g0 b0 [] m = true := by
  unfold knownChk at h
  split at h
  · rename_i x m
    simp only [Bool.and_eq_true] at h
    exact ⟨x, m, rfl, h.1, h.2⟩
  · cases h
theorem absN_lift {σ : Map} {t s : AVal} {G : Nat} (hts : absN σ 2 t s = true) (ht : t = .ptr (Nat.succ G) 0 ∨ t = .nx .u64 0) : absN σ 4 t s = true := by
  rcases ht with rfl | rfl
  · cases s <;> exact hts
  · cases s <;> exact hts
/-- the store, empty: what made() ends in -/
theorem made_at {T : Tok} {G g0 : Nat} {b0 : Blk} (hG : P.globals.size = G) {cl : Value} (hcl : cl.oneCell' = true) {φ : Phi} {m : Mem} {w : World} (hr : @Rel T P φ m w) {x3 x4 : AVal}
    (h3 : absN ⟨G, stoNs m (nmOf x3) 0, [], nx1, fun _ => .bad⟩ 2 (.ptr (Nat.succ G) 0) x3 = true) (h4 : absN ⟨G, stoNs m (nmOf x3) 0, [], nx1, fun _ => .bad⟩ 2 (.nx .u64 0) x4 = true) (hm : absMem ⟨G, stoNs m (nmOf x3) 0, [], nx1, fun _ => .bad⟩ g0 b0 (stoL G 0) m = true)
    {hs : Nat} (himg : ∀ p c o s, p < m.next → (m.get p).wr = true → φ p = some (c, o, s) → hs ≤ c) (hsz : hs ≤ w.heap.size) {a : Act} (ha : ActIs 143 a) (g0' : a.tmps.getD 0 undef = cl) (g5 : a.tmps.getD 5 undef = .int .i64 0)
    (g3 : @VRel T φ x3 (a.tmps.getD 3 undef)) (g4 : @VRel T φ x4 (a.tmps.getD 4 undef)) : LawAt P G g0 b0 cl hs w 0 0 a w := by
  let T' : Tok := tok1 (lawVals cl 0) (lawVals_cell hcl 0)
  have hok : @Tok.nxok T' := ⟨by show (1 : Int) ≤ 1; omega, by show (1 : Int) ≤ 120; omega, fun j hj => absurd hj (Nat.not_lt_zero _)⟩
  have habs := absorb (T := T) (T' := T') (σ := ⟨G, stoNs m (nmOf x3) 0, [], nx1, fun _ => .bad⟩) hG.symm hr hm (fun _ j c hj _ => absurd hj (Nat.not_lt_zero _)) (fun kk d s c hs hc => by
    match d, hs with
    | 0, hs =>
      have hs' := aeqN_eq 2 _ _ hs
      subst hs'
      have hc' : @VRel T φ (.int kk (1 : Int)) c := hc
      cases hc'
      have e : Value.int kk (1 : Int) = .int kk (T'.base + ((0 : Nat) : Int)) := rfl
      rw [e]
      exact @VRel.nx T' _ kk 0 (by omega) hok
    | d + 1, hs =>
      have e : aeqN 2 s AVal.bad = true := hs
      cases s <;> cases e) (fun i s c hs _ => (aeq_bad hs).elim) (fun b o hb => by cases hb) (fun h => by cases h)
  refine ⟨ha, g0', g5, Nat.le_refl _, ⟨T', rfl, rfl, by show (1 : Int) ≤ _; omega, hok, _, habs.1, habs.2 _ _ (absN_lift h3 (.inl rfl)) _ g3, habs.2 _ _ (absN_lift (G := G) h4 (.inr rfl)) _ g4, fun p c o s hp hw hφ => ?_⟩, fun _ _ => rfl, hsz, rfl, rfl, rfl⟩
  obtain ⟨t1, t2, t3⟩ := absMem_wr hm hp hw
  unfold absPhi at hφ
  rw [if_pos t1] at hφ
  exact himg _ c o s t2 t3 hφ
end
end Go.AM

namespace Go.AM
variable {P : Program}
noncomputable section

/-- THE LAW AT ANY LIST: true; what was there stays -/
theorem law_calls {K K' : KH} (hK : ∀ T : Tok, @KSound T P K) (hD : ∀ T : Tok, @DrawOk T P K) (hK' : ∀ T : Tok, @KSound T P K') (hD' : ∀ T : Tok, @DrawOk T P K') {G g0 : Nat} {b0 : Blk} (hG : P.globals.size = G) (hg : g0 < G) (hG2 : G + 1 ≤ 65536) (hb0 : roB b0 = true)
    {R0 S1 R5 S6 R8 X Y : Code} (gR0 : [R0, S1].all (gCode P.globals.size) = true) (gR5 : [R5, S6, R8].all (gCode P.globals.size) = true) (hX : gCode P.globals.size X = true) (hY : gCode P.globals.size Y = true)
    {O3 O10 O12 O11 O4 O9 O32 : Array Oper} (ho : LawOps P O3 O10 O12 O11) (h4 : O4.size = 1 ∧ OpAt O4 0 2 (.assign (.const (.bool true)))) (h9 : O9.size = 1 ∧ OpAt O9 0 5 (.assign (.const (.int .i64 0)))) (h32 : O32.size = 1 ∧ OpAt O32 0 2 (.assign (.const (.bool true))))
    {i3 i4 i9 i32 i10 i12 i11 : Nat} {f : FuncId} {fn : Func} (hf : P.funcs[f]? = some fn)
    (hb : fn.body = some (lawCode R0 S1 i3 O3 i4 O4 R5 S6 R8 i9 O9 (.block 0 (.loop (lawBody i10 i12 i11 O10 O12 O11 X Y))) i32 O32)) (hnt : fn.ntmps = 143) (hres : fn.results.toList = [.tmp 2])
    (known : knownRun P K G g0 b0 R0 S1 = true) (made : madeRun P K G g0 b0 R5 S6 R8 = true) (rounds : ∀ n c, n < 60 → c < 3 → roundRun P K' G g0 b0 X Y n c = true)
    {L cp : Nat} {b : Option Addr} {w : World} {T0 : Tok} {φ0 : Phi} (hr : @Rel T0 P φ0 (m00 G g0 b0) w) (hT0 : T0.val = lawVals (.slice b L cp) 0) (hS0 : T0.strong = false)
    (hel : ∀ i, i < L → ∃ (ad : Addr) (z : Nat), b = some ad ∧ (ad.add i).block < w.heap.size ∧ w.cell? (ad.add i) = some (.int .u8 (z : Int))) :
    Calls P f #[.slice b L cp] w fun e w' => e = .returned (.bool true) ∧ Left' w w' := by
  obtain ⟨tt, e, t1, t2, t3, t4, t5, t6, t7, hu, hsz, hag, ⟨s3, p0, p1, p2⟩, _, _, _⟩ := ho.ty
  refine calls_of_wp hf hb ?_
  generalize hcl : Value.slice b L cp = cl
  have hcl1 : cl.oneCell' = true := by rw [← hcl]; rfl
  have ha0 : ActIs 143 { tmps := #[cl] ++ Array.replicate (fn.ntmps - #[cl].size) undef, defers := [] } := ⟨by simp [hnt], rfl⟩
  have hz0 : ({ tmps := #[cl] ++ Array.replicate (fn.ntmps - #[cl].size) undef, defers := [] } : Act).tmps.getD 0 undef = cl := by
    show (#[cl] ++ Array.replicate (fn.ntmps - #[cl].size) undef).getD 0 undef = cl
    rw [Array.getD_eq_getD_getElem?, Array.getElem?_append_left (by simp)]
    rfl
  generalize ({ tmps := #[cl] ++ Array.replicate (fn.ntmps - #[cl].size) undef, defers := [] } : Act) = a0 at ha0 hz0
  unfold lawCode
  -- known
  obtain ⟨x, mk, hk1, hk2, hk3⟩ := knownChk_ok known
  have hro := m00_ro hg hG2 (b0_ro hb0)
  have hval0 : T0.val 0 = cl := by rw [hT0, ← hcl]; rfl
  refine @piece_ok P T0 K (hK T0) (hD T0) 143 [R0, S1] gR0 _ _ _ _ _ _ hk1 φ0 w a0 _ _ hr ha0 (by decide) (fun p hp => ?_) ?_ (fun i h => by cases h) (fun h => by cases h)
  · rw [List.mem_singleton] at hp
    subst hp
    refine ⟨(by decide : 0 < 4096), ?_⟩
    show @VRel T0 φ0 (.opq 0) (a0.tmps.getD 0 undef)
    rw [hz0, ← hval0]; exact @VRel.opq T0 φ0 0
  intro _ φ1 a1 w1 hst1 ha1 hv1
  have hl1 := Left'.of hst1 hro
  have g10 : a1.tmps.getD 0 undef = cl := by
    cases hv1 with
    | cons v0 _ => rw [← hval0]; exact opq_inv hk2 v0
  obtain ⟨φ1', hr1⟩ := known_back (T := T0) hS0 hG (@Step.rel T0 P _ _ _ _ _ _ hst1) hk3
  -- the list's length
  refine wp_seq (wp_seq (wp_region ?_))
  rw [s3]
  show wpOps P O3 _ [0, 1, 2] a1 w1
  refine reg3 hu p0 p1 p2 ha1 (b := b) (n := L) (c := cp) (by rw [g10, hcl]) fun a2 ha2 hs2 h13 => ?_
  show (Code.cond (.tmp 13) _ .skip).wp P _ a2 w1
  by_cases hlt : (60 : Int) < (L : Int)
  · rw [decide_eq_true hlt] at h13
    refine wp_cond_true (by rw [evTmp]; exact h13) ?_
    exact wp_setTrue h4.1 h4.2 ha2 fun a' hd h2 => (body_ret hres hd h2 ⟨rfl, hl1⟩ : bodyPost P fn (fun e w' => e = .returned (.bool true) ∧ Left' w w') .ret a' w1)
  · rw [decide_eq_false hlt] at h13
    refine wp_cond_false (by rw [evTmp]; exact h13) (Go.wp_skip ?_)
    show (seqsC [R5, S6, R8] _).wp P (bodyPost P fn _) a2 w1
    -- made
    obtain ⟨x0, x3, x4, mm, hm1, hm2, hm3, hm4, hm5⟩ := madeChk_ok made
    refine @piece_ok P T0 K (hK T0) (hD T0) 143 [R5, S6, R8] gR5 _ _ _ _ _ _ hm1 φ1' w1 a2 _ _ hr1 ha2 (by decide) (fun p hp => ?_) ?_ (fun i h => by cases h) (fun h => by cases h)
    · rw [List.mem_singleton] at hp
      subst hp
      refine ⟨(by decide : 0 < 4096), ?_⟩
      show @VRel T0 φ1' (.opq 0) (a2.tmps.getD 0 undef)
      rw [hs2 0 (by decide), g10, ← hval0]; exact @VRel.opq T0 φ1' 0
    intro _ φ3 a3 w3 hst3 ha3 hv3
    have hl3 := Left'.of hst3 hro
    have hl13 := hl1.trans hl3
    cases hv3 with
    | cons v0 hv3 =>
    cases hv3 with
    | cons v3 hv3 =>
    cases hv3 with
    | cons v4 hv3 =>
    have g30 : a3.tmps.getD 0 undef = cl := by rw [← hval0]; exact opq_inv hm2 v0
    obtain ⟨_, kimg⟩ := step_keeps hst3 (hs := w1.heap.size) (Nat.le_refl _) (fun p c o s hp hw _ => by rw [hro p hp] at hw; cases hw)
    refine wp_seq (wp_seq (wp_region ?_))
    rw [h9.1]
    show wpOps P O9 _ [0] a3 w3
    refine wpOps_val h9.2 (fun o ho => run_asc ho) ?_
    have ha4 := put_is ha3 (some 5) (.int .i64 0)
    have g45 : (a3.put (some 5) (.int .i64 0)).tmps.getD 5 undef = .int .i64 0 := get_same ha3 (by decide) _
    have hat : LawAt P G g0 b0 cl w1.heap.size w3 0 0 (a3.put (some 5) (.int .i64 0)) w3 :=
      made_at hG hcl1 (@Step.rel T0 P _ _ _ _ _ _ hst3) hm3 hm4 hm5 kimg hl3.2.1 ha4 (by rw [get_other ha3 (by decide) _ (by decide)]; exact g30) g45
        (by rw [get_other ha3 (by decide) _ (by decide)]; exact v3) (by rw [get_other ha3 (by decide) _ (by decide)]; exact v4)
    generalize a3.put (some 5) (.int .i64 0) = a4 at ha4 g45 hat
    subst hcl
    refine law_loop hK' hD' hG hX hY ho (by omega) (fun i hi => ?_) rounds hat fun a5 w5 ha5 k1 k2 k3 k4 k5 => ?_
    · obtain ⟨ad, z, e1, e2, e3⟩ := hel i hi
      refine ⟨ad, z, e1, Nat.lt_of_lt_of_le e2 hl1.2.1, ?_⟩
      rw [← e3]
      exact cell_congr (hl13.1 _ e2)
    · show (Code.seq (.region i32 O32 false) .ret).wp P (bodyPost P fn _) a5 w5
      refine wp_setTrue h32.1 h32.2 ha5 fun a' hd h2 => body_ret hres hd h2 ⟨rfl, ?_⟩
      refine ⟨fun b' hb' => ?_, Nat.le_trans hl1.2.1 k2, k3.trans hl13.2.2.1, k4.trans hl13.2.2.2.1, k5.trans hl13.2.2.2.2⟩
      have hb1 := Nat.lt_of_lt_of_le hb' hl1.2.1
      rw [k1 b' hb1]
      exact hl13.1 b' hb'
end
end Go.AM
