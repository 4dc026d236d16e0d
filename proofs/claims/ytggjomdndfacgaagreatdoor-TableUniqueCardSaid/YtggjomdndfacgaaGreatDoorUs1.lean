/- The stores of the law, a stand-in for the indexing, and what the closed runs of the law are. -/
import Derived.Test.YtggjomdndfacgaaGreatDoorUp3
import Derived.Test.YtggjomdndfacgaaGreatDoorUt1
import Derived.OrdersHeld
set_option linter.unusedSectionVars false
set_option linter.unusedVariables false
set_option linter.unusedSimpArgs false
namespace Go.AM
open Go.Proofs

/- ### the stores of TableUnique: t with a unique key on (a, b) (κ), u with no key; n rows, their numbers 1 to n, their values tokens -/
def entU (A : Nat) : List Nat → List MEnt
  | [] => []
  | j :: l => ⟨.int .u64 (.ofNat (Nat.succ j)), .slice (Nat.add A j) 0 2 2 false 3, j⟩ :: entU A l
def opqR : Nat → Nat → List AVal
  | 0, _ => []
  | n + 1, a => .opq a :: opqR n (Nat.succ a)
def valsUL : List Nat → List Blk
  | [] => []
  | j :: l => .cells true (opqR 6 (Nat.add 1000 (Nat.mul 6 j))) :: valsUL l
def idU : List Nat → List AVal
  | [] => []
  | j :: l => .int .u64 (.ofNat (Nat.succ j)) :: idU l
def utT (n : Nat) : List Blk :=
  match n with
  | 0 => []
  | k + 1 => .cells true (idU (natL (Nat.succ k) 0)) :: valsUL (natL (Nat.succ k) 0)
def idsU (A n : Nat) : AVal :=
  match n with
  | 0 => .nilslice
  | k + 1 => .slice A 0 (Nat.succ k) (Nat.succ k) false 1
noncomputable def treesU (κ : Bool) : AVal := cond' (.slice 9 0 1 1 false 1) .nilslice κ
noncomputable def utL (κ : Bool) (n : Nat) (l : List Blk) : List Blk :=
  .cells false [.slice 4 0 1 1 false 3, .slice 5 0 1 1 false 4] ::
  .cells true [.str [116], .slice 6 0 2 2 false 3, .slice 7 0 (cond' 1 0 κ) (cond' 1 0 κ) false 4] ::
  .cells false [.map 8, idsU (cond' 11 9 κ) n, .int .u64 (.ofNat (Nat.succ n)), treesU κ] ::
  .cells true [.str [97], .int .i64 (.ofNat 2), .bool false, .str [98], .int .i64 (.ofNat 2), .bool false] ::
  .cells true (cond' [.str [], .slice 10 0 2 2 false 1, .bool true, .bool false] [] κ) ::
  .map (entU (cond' 12 10 κ) (natL n 0)) n ::
  cond' (.cells true [.any] :: .cells true [.int .i64 (.ofNat 0), .int .i64 (.ofNat 1)] :: appBs (utT n) l) (appBs (utT n) l) κ
/-- the values of the new row: x, y tell which are NULL -/
noncomputable def valU (i : Nat) (x : Bool) : List AVal := cond' [.int .i64 (.ofNat 0), .int .i64 (.ofNat 0), .str []] [.int .i64 (.ofNat 2), .opq i, .str []] x
noncomputable def newU (x y : Bool) : List AVal := appV (valU 500 x) (valU 501 y)
/-- where the new row's values lie -/
noncomputable def vAt (κ : Bool) (n : Nat) : Nat := Nat.add (cond' 11 9 κ) (cond' 0 (Nat.succ n) (Nat.beq n 0))
/- ### what stands in for indexed: n rows that are tokens, and those of l; N rows in all -/
noncomputable def colsU (sw : Bool) : Blk := .cells true (cond' [.int .i64 (.ofNat 1), .int .i64 (.ofNat 0)] [.int .i64 (.ofNat 0), .int .i64 (.ofNat 1)] sw)
def rowsUL : List Nat → List AVal
  | [] => []
  | j :: l => .int .u64 (.ofNat (Nat.succ j)) :: .slice (Nat.add 5 j) 0 2 2 false 3 :: rowsUL l
noncomputable def preU (sw : Bool) (n N : Nat) (l : List Blk) : List Blk :=
  match N with
  | 0 => [colsU sw]
  | k + 1 => colsU sw :: .cells true (rowsUL (natL (Nat.succ k) 0)) :: appBs (valsUL (natL n 0)) l
def keyPat : AVal := .agg [.any, .slice 3 0 2 2 false 1, .bool true, .any]
def rowsPat (N : Nat) : AVal :=
  match N with
  | 0 => .nilslice
  | k + 1 => .slice 4 0 (Nat.succ k) (Nat.succ k) false 2
noncomputable def uMap (cb N : Nat) (rows : AVal) (m : Mem) (k : Map → R) : R :=
  match N, rows with
  | 0, _ => k ⟨2, [cb], [], fun _ => .bad, fun i => .opq i⟩
  | _ + 1, .slice rb _ _ _ _ _ => (m.get rb).onCells fun _ cs => k ⟨2, cb :: rb :: oddBs (takeL (Nat.mul 2 N) cs), [], fun _ => .bad, fun i => .opq i⟩
  | _, _ => .fail 160
noncomputable def resU (bad : Bool) (m : Mem) : R :=
  cond' (cond' (.ok (.tuple [.nilptr, .iface 118 (.ptr m.next 0)]) ⟨Nat.succ m.next, putT m.next (.cells true errA) m.t⟩) (.fail 164) (Nat.ble (Nat.succ m.next) 65536)) (.ok (.tuple [.any, .niliface]) m) bad
noncomputable def idxU (sw bad : Bool) (n N : Nat) (l : List Blk) (args : List AVal) (m : Mem) : R :=
  arg2 args fun k rows => k.onAgg fun kc => onL (.fail 161) (fun _ l1 => onL (.fail 162) (fun cs _ => cs.onSlice fun cb _ _ _ _ _ => uMap cb N rows m fun σ =>
    cond' (resU bad m) (.fail 163) (and (absMem σ 0 b00 (preU sw n N l) m) (and (absN σ 4 keyPat k) (absN σ 4 (rowsPat N) rows)))) l1) kc
/- ### the runs of Write -/
def nthU : Nat → List AVal → AVal
  | _, [] => .bad
  | 0, x :: _ => x
  | i + 1, _ :: l => nthU i l
noncomputable def opU (n : Nat) (l : List AVal) (i : Nat) : AVal :=
  cond' .bad (cond' (.opq i) (nthU (Nat.sub i (Nat.add 1000 (Nat.mul 6 n))) l) (Nat.ble (Nat.succ i) (Nat.add 1000 (Nat.mul 6 n)))) (Nat.ble (Nat.succ i) 1000)
def appNs : List Nat → List Nat → List Nat
  | [], y => y
  | x :: l, y => x :: appNs l y
noncomputable def idNs (m : Mem) (kp mp n : Nat) (l : List Nat) : List Nat :=
  match n with
  | 0 => l
  | _ + 1 => nmOf (cellN m kp 1) :: appNs (entNs m mp) l
noncomputable def utNs2 (κ : Bool) (m : Mem) (a0 tb kp ky mp n : Nat) (l : List Nat) : List Nat :=
  a0 :: tb :: kp :: nmOf (cellN m tb 1) :: ky :: mp :: cond' (nmOf (cellN m kp 3) :: nmOf (cellN m ky 1) :: idNs m kp mp n l) (idNs m kp mp n l) κ
noncomputable def utNs1 (κ : Bool) (m : Mem) (a0 tb kp n : Nat) (l : List Nat) : List Nat := utNs2 κ m a0 tb kp (nmOf (cellN m tb 2)) (nmOf (cellN m kp 0)) n l
/-- where a store's blocks lie -/
noncomputable def utNs (κ : Bool) (m : Mem) (a0 n : Nat) (l : List Nat) : List Nat := utNs1 κ m a0 (nmOf (cellN m a0 0)) (nmOf (cellN m a0 1)) n l
noncomputable def XU (sw bad : Bool) (n N : Nat) (l : List Blk) : Stand := fun f => match f with
  | 53 => some ⟨idxU sw bad n N l⟩
  | _ => none
noncomputable def KU (sw bad : Bool) (n N : Nat) (l : List Blk) : KH := callX TZ E1 (XU sw bad n N l) 100
noncomputable def wMem (κ : Bool) (n : Nat) (x y : Bool) : Mem := mkMem 2 0 b00 (utL κ n [.cells true (newU x y)])
noncomputable def wOk (κ : Bool) (n : Nat) (x y : Bool) (e : AVal) (m : Mem) : Bool :=
  and (aeqN 2 e .niliface) (absMem ⟨2, utNs κ m 3 (Nat.succ n) [], [], fun _ => .bad, opU n (newU x y)⟩ 0 b00 (utL κ (Nat.succ n) []) m)
def ifOf : AVal → Nat
  | .iface _ (.ptr q _) => q
  | _ => 0
/-- the error of a write, from the block A on -/
def errU (A : Nat) : List Blk := [.cells true [.str [116], .iface 118 (.ptr (Nat.succ A) 0)], .cells true errA]
noncomputable def wBad (κ : Bool) (n : Nat) (e : AVal) (m : Mem) : Bool :=
  match e with
  | .iface 118 (.ptr q 0) => and (absMem ⟨2, utNs κ m 3 n [], [], fun _ => .bad, opU n []⟩ 0 b00 (utL κ n []) m) (absMem ⟨2, [q, ifOf (cellN m q 1)], [], fun _ => .bad, fun _ => .bad⟩ 0 b00 (errU 3) m)
  | _ => false
/-- the law's registers: tokens but for the store that is written and the row's values -/
def tRegs (V : Nat) : List (Nat × AVal) := [(0, .opq 0), (3, .ptr 3 0), (4, .opq 1), (5, .opq 2), (6, .opq 3), (7, .opq 4), (8, .slice V 0 2 2 true 3), (9, .opq 5)]
def tOut (V : Nat) : List AVal := [.opq 0, .ptr 3 0, .opq 1, .opq 2, .opq 3, .opq 4, .slice V 0 2 2 true 3, .opq 5]
def uRegs (V : Nat) : List (Nat × AVal) := [(0, .opq 0), (3, .opq 1), (4, .ptr 3 0), (5, .opq 2), (6, .opq 3), (7, .opq 4), (8, .slice V 0 2 2 true 3), (9, .opq 5), (10, .opq 6)]
def uOut : List AVal := [.opq 0, .opq 1, .ptr 3 0, .opq 2, .opq 3, .opq 4, .opq 5, .opq 6]
noncomputable def sameL (l l' : List AVal) : Bool := and (Nat.beq (lenL l) (lenL l')) (zipB (aeqN 2) l l')
/-- t.Write of a row -/
noncomputable def tRun (K : KH) (R17 : Code) (bad : Bool) (n : Nat) (x y : Bool) : Bool :=
  match pieceRun TZ 129 K [R17] ⟨true, fun _ => false, false⟩ (tRegs (vAt true n)) [10, 0, 3, 4, 5, 6, 7, 8, 9] (wMem true n x y) with
  | .ok (.tuple (e :: l)) m => and (sameL (tOut (vAt true n)) l) (cond' (wBad true n e m) (wOk true n x y e m) bad)
  | _ => false
/-- u.Write of a row -/
noncomputable def uRun (K : KH) (S18 : Code) (n : Nat) (x y : Bool) : Bool :=
  match pieceRun TZ 129 K [S18] ⟨true, fun _ => false, false⟩ (uRegs (vAt false n)) [0, 3, 4, 5, 6, 7, 9, 10] (wMem false n x y) with
  | .ok (.tuple l) m => and (sameL uOut l) (wOk false n x y .niliface m)
  | _ => false
end Go.AM

namespace Go.AM
open Go.Proofs

/- ### the stand-in for indexed is sound -/
theorem mkMem_at0 {b0 : Blk} {l : List Blk} (hb : 2 + 1 + l.length ≤ 65536) {i : Nat} {b : Blk} (hi : l[i]? = some b) : 3 + i < (mkMem 2 0 b0 l).next ∧ (mkMem 2 0 b0 l).get (3 + i) = b := by
  have hn : (mkMem 2 0 b0 l).next = 2 + 1 + l.length := addL_next l _
  have hlt := getElem?_lt hi
  refine ⟨by rw [hn]; omega, ?_⟩
  rw [mkMem_get (by decide) hb (by omega), if_pos ⟨by omega, by omega⟩, show 3 + i - (2 + 1) = i by omega, hi]
  rfl
theorem tellsAll {φ : Phi} {m : Mem} {w : World} : Tells φ m (heapOf w) w := fun _ _ _ _ => rfl
theorem CellsAt.part {H : Heap} {b o s : Nat} {vs : List Value} (h : CellsAt H (b, o, s) vs) {i k : Nat} (hk : i + k ≤ vs.length) : CellsAt H (b, o + i, s) ((vs.drop i).take k) := by
  obtain ⟨c, el, fz, h1, h2, h3, h4⟩ := h
  have hl : ((vs.drop i).take k).length = k := by rw [List.length_take, List.length_drop]; omega
  refine ⟨c, el, fz, h1, h2, by rw [hl]; show o + i + k ≤ c.size; have : o + vs.length ≤ c.size := h3; omega, ?_⟩
  rw [hl]
  show (c.toList.drop (o + i)).take k = _
  rw [← h4]
  show _ = (((c.toList.drop o).take vs.length).drop i).take k
  rw [List.drop_take, List.take_take, List.drop_drop, Nat.min_eq_left (by omega)]
theorem rowsUL_get : ∀ (n k i : Nat), i < n → (rowsUL (natL n k))[2 * i]? = some (.int .u64 (.ofNat (k + i + 1))) ∧ (rowsUL (natL n k))[2 * i + 1]? = some (.slice (5 + (k + i)) 0 2 2 false 3)
  | 0, _, i, h => by omega
  | n + 1, k, 0, _ => ⟨rfl, rfl⟩
  | n + 1, k, i + 1, h => by
    obtain ⟨h1, h2⟩ := rowsUL_get n (k + 1) i (by omega)
    have e1 : 2 * (i + 1) = 2 * i + 1 + 1 := by omega
    refine ⟨?_, ?_⟩
    · rw [e1]
      show (_ :: _ :: rowsUL (natL n (Nat.succ k)))[2 * i + 1 + 1]? = _
      rw [List.getElem?_cons_succ, List.getElem?_cons_succ]
      rw [show k + (i + 1) + 1 = k + 1 + i + 1 by omega]
      exact h1
    · rw [e1]
      show (_ :: _ :: rowsUL (natL n (Nat.succ k)))[2 * i + 1 + 1 + 1]? = _
      rw [List.getElem?_cons_succ, List.getElem?_cons_succ]
      rw [show k + (i + 1) = k + 1 + i by omega]
      exact h2
theorem rowsUL_len : ∀ n k : Nat, (rowsUL (natL n k)).length = 2 * n
  | 0, _ => rfl
  | n + 1, k => by
    show (rowsUL (natL n (k + 1))).length + 1 + 1 = _
    rw [rowsUL_len n (k + 1)]; omega
theorem colsU_rel {T : Tok} {φ : Phi} {sw : Bool} {us : List Value} (h : @VsRel T φ (cond' [.int .i64 1, .int .i64 0] [.int .i64 0, .int .i64 1] sw) us) : us = colsV sw := by
  cases sw
  · have h' : @VsRel T φ [.int .i64 0, .int .i64 1] us := h
    cases h' with
    | cons h1 h' =>
    cases h' with
    | cons h2 h' =>
    cases h'
    cases h1
    cases h2
    rfl
  · have h' : @VsRel T φ [.int .i64 1, .int .i64 0] us := h
    cases h' with
    | cons h1 h' =>
    cases h' with
    | cons h2 h' =>
    cases h'
    cases h1
    cases h2
    rfl
theorem pair_at {vs : List Value} {i : Nat} {x y : Value} (h1 : vs[2 * i]? = some x) (h2 : vs[2 * i + 1]? = some y) : (vs.drop (2 * i)).take 2 = [x, y] := by
  have l1 := getElem?_lt h2
  have e1 : vs.drop (2 * i) = x :: y :: vs.drop (2 * i + 2) := by
    rw [List.drop_eq_getElem_cons (by omega), List.drop_eq_getElem_cons l1]
    rw [List.getElem?_eq_getElem (by omega)] at h1
    rw [List.getElem?_eq_getElem l1] at h2
    cases h1
    cases h2
    rfl
  rw [e1]; rfl
theorem preU_rows {sw : Bool} {n N : Nat} {l : List Blk} (hN : 0 < N) : (preU sw n N l)[1]? = some (.cells true (rowsUL (natL N 0))) := by
  cases N with
  | zero => omega
  | succ k => rfl
theorem preU_cols {sw : Bool} {n N : Nat} {l : List Blk} : (preU sw n N l)[0]? = some (colsU sw) := by
  cases N <;> rfl
/-- what a canonical memory shows of the key and the rows -/
theorem preU_at {T : Tok} {φ : Phi} {w : World} {sw : Bool} {n N : Nat} {l : List Blk} {rows : List RowD} (hlen : rows.length = N) (hb : 2 + 1 + (preU sw n N l).length ≤ 65536) (hid : ∀ i r, rows[i]? = some r → r.id = i + 1)
    (hvals : ∀ j r, rows[j]? = some r → ∃ cs, (preU sw n N l)[2 + j]? = some (.cells true cs) ∧ ∀ φ vs, @VsRel T φ cs vs → vs = cellsV r.a ++ cellsV r.b)
    (hr : @Rel T TZ φ (mkMem 2 0 b00 (preU sw n N l)) w) {kv rv : Value} (hk : @VRel T φ keyPat kv) (hrv : @VRel T φ (rowsPat N) rv) : KeyAt (heapOf w) sw kv ∧ ∃ b cap, rv = .slice b N cap ∧ RowsAt (heapOf w) b rows := by
  obtain ⟨c1, c2⟩ := mkMem_at0 (b0 := b00) hb (preU_cols (sw := sw) (n := n) (N := N) (l := l))
  refine ⟨?_, ?_⟩
  · unfold keyPat at hk
    cases hk with
    | agg _ cs hcs hcc =>
      generalize hcl : cs.toList = L at hcs
      cases hcs with
      | cons q1 hcs =>
      cases hcs with
      | cons q2 hcs =>
      cases hcs with
      | cons q3 hcs =>
      cases hcs with
      | cons q4 hcs =>
      cases hcs
      have c2' : (mkMem 2 0 b00 (preU sw n N l)).get 3 = .cells true (cond' [.int .i64 1, .int .i64 0] [.int .i64 0, .int .i64 1] sw) := c2
      have hcols := row_back (P := TZ) (vs := colsV sw) tellsAll hr (by decide : 0 < 2) c1 c2' (by cases sw <;> rfl) (fun us hus => colsU_rel hus) q2
      cases q3
      cases q1 with
      | any x1 o1 =>
      cases q4 with
      | any x4 o4 =>
      exact ⟨_, _, _, by rw [← hcl], hcols, o1, o4⟩
  · cases N with
    | zero =>
      have hrv' : @VRel T φ .nilslice rv := hrv
      cases hrv'
      refine ⟨none, 0, rfl, fun i r hi => ?_⟩
      have := getElem?_lt hi
      omega
    | succ k =>
      have hrv' : @VRel T φ (.slice 4 0 (k + 1) (k + 1) false 2) rv := hrv
      obtain ⟨d1, d2⟩ := mkMem_at0 (b0 := b00) hb (preU_rows (sw := sw) (n := n) (N := k + 1) (l := l) (by omega))
      have d2' : (mkMem 2 0 b00 (preU sw n (k + 1) l)).get 4 = .cells true (rowsUL (natL (k + 1) 0)) := d2
      obtain ⟨x, vs, g1, g2, g3⟩ := of_brel (P := TZ) tellsAll hr d1 d2'
      have g1' : φ 4 = some x := g1
      have hvl := @VsRel.length T φ _ _ g3
      rw [rowsUL_len] at hvl
      cases hrv' with
      | slice _ _ _ _ _ _ cb co sz o' cap' q1 q2 q3 q4 q5 q6 =>
        rw [g1'] at q1
        cases q1
        have ho := q5 (by omega)
        rw [Nat.add_zero] at ho
        subst ho
        refine ⟨_, _, rfl, fun i r hi => ?_⟩
        have hik := getElem?_lt hi
        obtain ⟨e1, e2⟩ := rowsUL_get (k + 1) 0 i (by omega)
        rw [Nat.zero_add] at e1 e2
        obtain ⟨idv, f1, f2⟩ := @VsRel.get T φ _ _ g3 _ _ e1
        obtain ⟨vv, f3, f4⟩ := @VsRel.get T φ _ _ g3 _ _ e2
        cases f2
        obtain ⟨cs, s1, s2⟩ := hvals i r hi
        obtain ⟨t1, t2⟩ := mkMem_at0 (b0 := b00) hb s1
        rw [show 3 + (2 + i) = 5 + i by omega] at t1 t2
        have hs := g2.part (i := 2 * i) (k := 2) (by omega)
        rw [pair_at f1 f3] at hs
        refine ⟨cb, _, sz, vv, rfl, ?_, ?_⟩
        · rw [hid i r hi]
          rw [show i * 2 = 2 * i by omega]
          exact hs
        · have hcl : ∀ a, (cellsV a).length = 3 := fun a => by unfold cellsV; split <;> rfl
          exact row_back (P := TZ) (vs := cellsV r.a ++ cellsV r.b) tellsAll hr (by decide : 0 < 2) t1 t2 (by rw [List.length_append, hcl, hcl]) (fun us hus => s2 φ us hus) f4
theorem idxU_ok {T : Tok} (hst : T.strong = false) {sw bad : Bool} {n N : Nat} {l : List Blk} (hN : N ≤ 40) {rows : List RowD} (hlen : rows.length = N) (hok : ∀ r, r ∈ rows → RowOk r) (hid : ∀ i r, rows[i]? = some r → r.id = i + 1)
    (hvals : ∀ j r, rows[j]? = some r → ∃ cs, (preU sw n N l)[2 + j]? = some (.cells true cs) ∧ ∀ φ vs, @VsRel T φ cs vs → vs = cellsV r.a ++ cellsV r.b)
    (hg : bad = false → NoDup rows) (hb : bad = true → ¬ NoDup rows) : @XSound T TZ 53 (idxU sw bad n N l) := by
  intro args m v m' h φ w cargs hr hv
  obtain ⟨k, rws, rfl, h1⟩ := arg2_ok h
  obtain ⟨kc, rfl, h2⟩ := onAgg_ok h1
  obtain ⟨x1, l1, rfl, h3⟩ := onL_ok h2
  obtain ⟨x2, l2, rfl, h4⟩ := onL_ok h3
  obtain ⟨cb, co, cl, cp, ce, cs, rfl, h5⟩ := onSlice_ok h4
  obtain ⟨cv, rv, hcargs, hcv, hrv⟩ := vs2 hv
  have hids : rows.Pairwise fun r s => r.id ≠ s.id := by
    rw [List.pairwise_iff_getElem]
    intro i j hi hj hij e
    have e1 := hid i _ (List.getElem?_eq_getElem hi)
    have e2 := hid j _ (List.getElem?_eq_getElem hj)
    omega
  have main : ∀ σ : Map, σ.G = 2 → σ.ts.length = 0 → (∀ d, σ.nx d = .bad) → (∀ i, σ.op i = .opq i) →
      cond' (resU bad m) (.fail 163) (and (absMem σ 0 b00 (preU sw n N l) m) (and (absN σ 4 keyPat (.agg (x1 :: .slice cb co cl cp ce cs :: l2))) (absN σ 4 (rowsPat N) rws))) = .ok v m' →
      Ends TZ 53 cargs w fun c w' => ∃ φ', @Step T TZ φ m w φ' m' w' ∧ @VRel T φ' v c := by
    intro σ hσ hts hnx hop h6
    obtain ⟨h7, h8⟩ := cond_t h6
    simp only [Bool.and_eq_true] at h7
    obtain ⟨g4, g5, g6⟩ := h7
    have habs := absorb (T := T) (T' := T) (σ := σ) (hσ.trans tz_glob.symm) hr g4 (fun kk j c hj hc => absurd hj (by omega)) (fun kk d s c hs _ => by
      rw [hnx d] at hs
      have e : retag kk AVal.bad = .bad := rfl
      rw [e] at hs
      exact (aeq_bad hs).elim) (fun i s c hs hc => by
      rw [hop i] at hs
      have e := @aeqN_eq tok0 2 _ _ hs
      subst e
      cases hc
      exact @VRel.opq T _ i) (fun _ _ h => h) (fun h => by rw [hst] at h; cases h)
    rw [hσ] at habs
    have hlb : 2 + 1 + (preU sw n N l).length ≤ 65536 := by
      have hc := g4
      unfold absMem at hc
      simp only [Bool.and_eq_true, ble_true] at hc
      obtain ⟨⟨⟨c1, c2⟩, _, _⟩, _, c6⟩ := hc
      rw [top_eq, hσ] at c2
      rw [(chkL_ok c6).1]
      exact c2
    obtain ⟨hkey, b, cap, rfl, hrows⟩ := preU_at hlen hlb hid hvals habs.1 (habs.2 _ _ g5 cv hcv) (habs.2 _ _ g6 rv hrv)
    rw [hcargs, ← hlen]
    refine (indexed_ok (rel_two hr) hok hids (by omega) hkey hrows).mono fun c w' ⟨hleft, hcase⟩ => ?_
    unfold resU at h8
    cases bad with
    | false =>
      have h9 : R.ok (.tuple [.any, .niliface]) m = .ok v m' := h8
      cases h9
      rcases hcase with ⟨_, p, rfl⟩ | ⟨hnd, _⟩
      · exact ⟨φ, @Step.grow TZ T _ _ _ _ hr hleft.1 hleft.2.1 hleft.2.2.1 hleft.2.2.2.1 hleft.2.2.2.2, @VRel.tuple T φ _ _ (@VsRel.cons T φ _ _ _ _ (@VRel.any T φ _ rfl) (@VsRel.cons T φ _ _ _ _ (@VRel.niliface T φ) (@VsRel.nil T φ)))⟩
      · exact absurd (hg rfl) hnd
    | true =>
      obtain ⟨h9, h10⟩ := cond_t (show cond' (R.ok (.tuple [.nilptr, .iface 118 (.ptr m.next 0)]) ⟨Nat.succ m.next, putT m.next (.cells true errA) m.t⟩) (.fail 164) (Nat.ble (Nat.succ m.next) 65536) = .ok v m' from h8)
      rw [ble_true] at h9
      cases h10
      rcases hcase with ⟨hnd, _⟩ | ⟨_, x, vs, rfl, hc, hvs⟩
      · exact absurd hnd (hb rfl)
      · obtain ⟨c, el, fz, z1, z2, z3, z4⟩ := hc
        unfold upd at z1
        split at z1
        · cases z1
        rename_i hge
        have hlt : x.1 < w'.heap.size := @lt_of_some tok0 w' x.1 _ z1
        have hl2 := @VsRel.length T φ _ _ (hvs T φ)
        refine ⟨_, @Step.add TZ T φ m w hr w' (.cells true errA) x.1 x.2.1 x.2.2 (by show m.next + 1 ≤ 65536; omega) hleft.1 hleft.2.1 hleft.2.2.1 hleft.2.2.2.1 hleft.2.2.2.2 (by omega) hlt ?_, ?_⟩
        · refine ⟨x.1, x.2.1, c, el, fz, (if_pos rfl).trans (by rw [← z2]), z1, by omega, ?_, fun v hv => ?_, fun h => by cases h⟩
          · rw [← hl2, z4]; exact hvs T _
          · simp only [errA, List.mem_cons, List.not_mem_nil, or_false] at hv
            rcases hv with rfl | rfl <;> rfl
        · refine @VRel.tuple T _ _ _ (@VsRel.cons T _ _ _ _ _ (@VRel.nilptr T _) (@VsRel.cons T _ _ _ _ _ (@VRel.iface T _ 118 _ _ ?_) (@VsRel.nil T _)))
          have := @VRel.ptr T (fun q => if q = m.next then some (x.1, x.2.1, x.2.2) else φ q) m.next 0 x.1 x.2.1 x.2.2 (if_pos rfl)
          rwa [Nat.add_zero] at this
  unfold uMap at h5
  split at h5
  · exact main _ rfl rfl (fun _ => rfl) (fun _ => rfl) h5
  · obtain ⟨ro', cells, hb', h6⟩ := onCells_ok h5
    exact main _ rfl rfl (fun _ => rfl) (fun _ => rfl) h6
  · cases h5
end Go.AM

namespace Go.AM
open Go.Proofs

/- ### stores in a world -/
section
variable [Tok] {P : Program} {φ : Phi} {m : Mem} {w : World}
theorem Rel.move (h : Rel P φ m w) (hh : ∀ b, Tok.hold b = none) {w' : World} (hs : w.heap.size ≤ w'.heap.size) (hl : ∀ p b o s, p < m.next → (m.get p).live = true → φ p = some (b, o, s) → w'.heap[b]? = w.heap[b]?) : Rel P φ m w' := by
  refine ⟨h.bound, h.dom, fun p b o s hp hn => Nat.lt_of_lt_of_le (h.heap p b o s hp hn) hs, h.handle, h.nohandle, h.glob, fun p hp => ?_, h.inj, h.clean, fun b o hb => (by rw [hh b] at hb; cases hb), h.apart, h.mode⟩
  cases hlv : (m.get p).live with
  | false => rw [Blk.dead hlv]; trivial
  | true => exact (h.blk p hp).congr fun b o s hφ => hl p b o s hp hlv hφ
theorem Rel.also (h : Rel P φ m w) (hh : ∀ b, Tok.hold b = none) {x' : Blk} {nb no ns : Nat} (hn : m.next < 65536) (hro : x'.wr = false) (hlt : nb < w.heap.size) (hw : ∀ q b o s, q < m.next → (m.get q).wr = true → φ q = some (b, o, s) → b ≠ nb)
    (hx : BRel (fun q => if q = m.next then some (nb, no, ns) else φ q) w m.next x') : Rel P (fun q => if q = m.next then some (nb, no, ns) else φ q) ⟨m.next + 1, putT m.next x' m.t⟩ w := by
  have ext : Ext' φ (fun q => if q = m.next then some (nb, no, ns) else φ q) := by
    intro q y hq
    have := h.dom q y hq
    show (if q = m.next then _ else _) = _
    rw [if_neg (by omega)]; exact hq
  have get : ∀ q, q < 65536 → (⟨m.next + 1, putT m.next x' m.t⟩ : Mem).get q = if q = m.next then x' else m.get q := fun q hq => getT_putT m.next q x' m.t hn hq
  have hh1 := h.dom _ _ h.handle
  have hold : ∀ q, q < m.next → (⟨m.next + 1, putT m.next x' m.t⟩ : Mem).get q = m.get q := fun q hq => by
    rw [get q (by omega), if_neg (by omega)]
  refine ⟨hn, ?_, ?_, ext _ _ h.handle, ?_, ?_, ?_, ?_, fun q h1 h2 => by
    change m.next + 1 ≤ q at h1
    rw [get q h2, if_neg (by omega)]; exact h.clean q (by omega) h2, fun b o hb => (by rw [hh b] at hb; cases hb), fun q b' o' s' _ _ _ => hh b', fun hs => by rw [hold 0 h.pos]; exact h.mode hs⟩
  · intro q y hq
    show q < m.next + 1
    by_cases e : q = m.next
    · omega
    · have hq' : φ q = some y := by simpa [e] using hq
      have := h.dom q y hq'; omega
  · intro q b' o'' s' hq hne
    by_cases e : q = m.next
    · simp [e] at hq; omega
    · have hq' : φ q = some (b', o'', s') := by simpa [e] using hq
      exact h.heap q b' o'' s' hq' hne
  · rw [hold _ hh1]; exact h.nohandle
  · intro g hg
    obtain ⟨sz, hsz⟩ := h.glob g hg
    exact ⟨sz, ext _ _ hsz⟩
  · intro q hq
    change q < m.next + 1 at hq
    by_cases e : q = m.next
    · subst e; rw [get _ (by omega), if_pos rfl]; exact hx
    · have hq' : q < m.next := by omega
      rw [hold q hq']
      exact (h.blk q hq').mono ext
  · intro q q' b' o1 s1 o2 s2 hq hq' hqne hwr hl h1 h2
    change q < m.next + 1 at hq
    change q' < m.next + 1 at hq'
    by_cases e1 : q = m.next
    · subst e1
      rw [get _ (by omega), if_pos rfl, hro] at hwr; cases hwr
    · simp [e1] at h1
      rw [hold q (by omega)] at hwr
      by_cases e2 : q' = m.next
      · simp [e2] at h2
        exact hw q b' o1 s1 (by omega) hwr h1 h2.1.symm
      · simp [e2] at h2
        rw [hold q' (by omega)] at hl
        exact h.inj q q' b' o1 s1 o2 s2 (by omega) (by omega) hqne hwr hl h1 h2
end
theorem addL_snoc : ∀ (l : List Blk) (b : Blk) (m : Mem), addL (l ++ [b]) m = ⟨(addL l m).next + 1, putT (addL l m).next b (addL l m).t⟩
  | [], b, m => rfl
  | x :: l, b, m => addL_snoc l b _
theorem mkMem_snoc (b0 : Blk) (l : List Blk) (b : Blk) : mkMem 2 0 b0 (l ++ [b]) = ⟨(mkMem 2 0 b0 l).next + 1, putT (mkMem 2 0 b0 l).next b (mkMem 2 0 b0 l).t⟩ := addL_snoc l b _
/- tokens of a store -/
def cells2 (r : RowD) : List Value := cellsV r.a ++ cellsV r.b
def valsOf : List RowD → List Value
  | [] => []
  | r :: l => cells2 r ++ valsOf l
theorem cells2_len (r : RowD) : (cells2 r).length = 6 := by
  have h : ∀ a, (cellsV a).length = 3 := fun a => by unfold cellsV; split <;> rfl
  unfold cells2
  rw [List.length_append, h, h]
theorem cells2_cell {r : RowD} {v : Value} (h : v ∈ cells2 r) : v.oneCell' = true := by
  have h1 : ∀ a, v ∈ cellsV a → v.oneCell' = true := fun a h => by
    unfold cellsV at h
    split at h <;> (simp only [List.mem_cons, List.not_mem_nil, or_false] at h; rcases h with rfl | rfl | rfl <;> rfl)
  rcases List.mem_append.1 h with h | h
  · exact h1 _ h
  · exact h1 _ h
theorem valsOf_len : ∀ rows : List RowD, (valsOf rows).length = 6 * rows.length
  | [] => rfl
  | r :: l => by
    show (cells2 r ++ valsOf l).length = _
    rw [List.length_append, cells2_len, valsOf_len l, List.length_cons]; omega
theorem valsOf_cell : ∀ {rows : List RowD} {v : Value}, v ∈ valsOf rows → v.oneCell' = true
  | [], v, h => by cases h
  | r :: l, v, h => by
    rcases List.mem_append.1 h with h | h
    · exact cells2_cell h
    · exact valsOf_cell h
theorem valsOf_app : ∀ (rows : List RowD) (r : RowD), valsOf (rows ++ [r]) = valsOf rows ++ cells2 r
  | [], r => by show cells2 r ++ [] = _; rw [List.append_nil]; rfl
  | s :: l, r => by
    show cells2 s ++ valsOf (l ++ [r]) = (cells2 s ++ valsOf l) ++ cells2 r
    rw [valsOf_app l r, List.append_assoc]
theorem valsOf_get : ∀ {rows : List RowD} {j : Nat} {r : RowD}, rows[j]? = some r → ∀ i, i < 6 → (valsOf rows)[6 * j + i]? = (cells2 r)[i]?
  | s :: l, 0, r, h, i, hi => by
    simp only [List.getElem?_cons_zero, Option.some.injEq] at h
    subst h
    show (cells2 s ++ valsOf l)[6 * 0 + i]? = _
    rw [Nat.mul_zero, Nat.zero_add, List.getElem?_append_left (by rw [cells2_len]; exact hi)]
  | s :: l, j + 1, r, h, i, hi => by
    rw [List.getElem?_cons_succ] at h
    show (cells2 s ++ valsOf l)[6 * (j + 1) + i]? = _
    rw [List.getElem?_append_right (by rw [cells2_len]; omega), cells2_len, show 6 * (j + 1) + i - 6 = 6 * j + i by omega]
    exact valsOf_get h i hi
@[reducible] def tokS (f : Nat → Value) (hf : ∀ j, (f j).oneCell' = true) (rows : List RowD) : Tok where
  num _ := 0
  cnt := 0
  pos _ hj := absurd hj (Nat.not_lt_zero _)
  hi _ hj := absurd hj (Nat.not_lt_zero _)
  mono _ _ _ hj := absurd hj (Nat.not_lt_zero _)
  base := 0
  val j := if j < 1000 then f j else ((valsOf rows)[j - 1000]?).getD nilS
  cell j := by
    split
    · exact hf j
    · cases h : (valsOf rows)[j - 1000]? with
      | none => rfl
      | some v => exact valsOf_cell (List.mem_of_getElem? h)
theorem tokS_row {f : Nat → Value} {hf : ∀ j, (f j).oneCell' = true} {rows : List RowD} {j : Nat} {r : RowD} (h : rows[j]? = some r) {i : Nat} (hi : i < 6) : some ((tokS f hf rows).val (1000 + 6 * j + i)) = (cells2 r)[i]? := by
  show some (if 1000 + 6 * j + i < 1000 then _ else _) = _
  rw [if_neg (by omega), show 1000 + 6 * j + i - 1000 = 6 * j + i by omega, valsOf_get h i hi, List.getElem?_eq_getElem (by rw [cells2_len]; exact hi)]
  rfl
theorem opqR_get {T : Tok} {φ : Phi} : ∀ {n a : Nat} {vs : List Value}, @VsRel T φ (opqR n a) vs → ∀ i, i < n → vs[i]? = some (T.val (a + i))
  | 0, a, vs, _, i, hi => by omega
  | n + 1, a, vs, h, i, hi => by
    have h' : @VsRel T φ (.opq a :: opqR n (a + 1)) vs := h
    cases h' with
    | cons h1 h2 =>
      cases h1
      cases i with
      | zero => rfl
      | succ i =>
        rw [List.getElem?_cons_succ, opqR_get h2 i (by omega), show a + 1 + i = a + (i + 1) by omega]
theorem opqR_len : ∀ n a : Nat, (opqR n a).length = n
  | 0, _ => rfl
  | n + 1, a => by show (opqR n (a + 1)).length + 1 = _; rw [opqR_len n (a + 1)]
theorem old_un {f : Nat → Value} {hf : ∀ j, (f j).oneCell' = true} {rows : List RowD} {j : Nat} {r : RowD} (h : rows[j]? = some r) {φ : Phi} {vs : List Value} (hv : @VsRel (tokS f hf rows) φ (opqR 6 (1000 + 6 * j)) vs) : vs = cells2 r := by
  have hl := @VsRel.length (tokS f hf rows) φ _ _ hv
  rw [opqR_len] at hl
  refine List.ext_getElem? fun i => ?_
  rcases Nat.lt_or_ge i 6 with hi | hi
  · rw [opqR_get hv i hi, tokS_row h hi]
  · rw [List.getElem?_eq_none (by omega), List.getElem?_eq_none (by rw [cells2_len]; exact hi)]
theorem str_un {T : Tok} {φ : Phi} {c : Value} (h : @VRel T φ (.str []) c) : c = .string ByteArray.empty := by
  cases h with
  | str _ t ht =>
    have : t.data = #[] := by
      have h2 : t.data.toList = [] := by
        cases hl : t.data.toList with
        | nil => rfl
        | cons x l => rw [hl] at ht; cases ht
      exact Array.toList_eq_nil_iff.1 h2
    have e : t = ⟨#[]⟩ := by
      cases t
      simp only at this
      subst this
      rfl
    rw [e]; rfl
theorem val_un {T : Tok} {φ : Phi} {i a : Nat} (hT : T.val i = .int .i64 (a : Int)) {vs : List Value} (h : @VsRel T φ (valU i (Nat.beq a 4)) vs) : vs = cellsV a := by
  unfold valU at h
  rw [cond_if] at h
  unfold cellsV
  by_cases e : a = 4
  · rw [if_pos (beq_true.2 e)] at h
    rw [if_pos e]
    cases h with
    | cons h1 h =>
    cases h with
    | cons h2 h =>
    cases h with
    | cons h3 h =>
    cases h
    cases h1
    cases h2
    rw [str_un h3]
    rfl
  · rw [if_neg (fun hb => e (beq_true.1 hb))] at h
    rw [if_neg e]
    cases h with
    | cons h1 h =>
    cases h with
    | cons h2 h =>
    cases h with
    | cons h3 h =>
    cases h
    cases h1
    rw [str_un h3, opq_is h2, hT]
    rfl
theorem valU_len (i : Nat) (x : Bool) : (valU i x).length = 3 := by cases x <;> rfl
theorem new_un {T : Tok} {φ : Phi} {r : RowD} (h5 : T.val 500 = .int .i64 (r.a : Int)) (h6 : T.val 501 = .int .i64 (r.b : Int)) {vs : List Value} (h : @VsRel T φ (newU (Nat.beq r.a 4) (Nat.beq r.b 4)) vs) : vs = cells2 r := by
  unfold newU at h
  rw [appV_eq] at h
  have h1 := vsrel_take (T := T) 3 h
  have e1 : (valU 500 (Nat.beq r.a 4) ++ valU 501 (Nat.beq r.b 4)).take 3 = valU 500 (Nat.beq r.a 4) := by
    rw [← valU_len 500 (Nat.beq r.a 4), List.take_left]
  rw [e1] at h1
  have hd : ∀ (l l' : List AVal) (vs : List Value), @VsRel T φ (l ++ l') vs → @VsRel T φ l' (vs.drop l.length) := by
    intro l
    induction l with
    | nil => intro l' vs h; exact h
    | cons x l ih =>
      intro l' vs h
      cases h with
      | cons h1 h2 => exact ih l' _ h2
  have h2 := hd _ _ _ h
  rw [valU_len] at h2
  rw [← List.take_append_drop 3 vs, val_un h5 h1, val_un h6 h2]
  rfl
end Go.AM

namespace Go.AM
open Go.Proofs

/- ### a store's memory -/
theorem appBs_app : ∀ a b : List Blk, appBs a b = a ++ b
  | [], _ => rfl
  | x :: a, b => by show x :: appBs a b = _; rw [appBs_app a b]; rfl
theorem utL_app (κ : Bool) (n : Nat) (l : List Blk) : utL κ n l = utL κ n [] ++ l := by
  unfold utL
  cases κ
  · show _ :: _ :: _ :: _ :: _ :: _ :: appBs (utT n) l = (_ :: _ :: _ :: _ :: _ :: _ :: appBs (utT n) []) ++ l
    rw [appBs_app, appBs_app, List.append_nil]; rfl
  · show _ :: _ :: _ :: _ :: _ :: _ :: _ :: _ :: appBs (utT n) l = (_ :: _ :: _ :: _ :: _ :: _ :: _ :: _ :: appBs (utT n) []) ++ l
    rw [appBs_app, appBs_app, List.append_nil]; rfl
theorem valsUL_len : ∀ n k : Nat, (valsUL (natL n k)).length = n
  | 0, _ => rfl
  | n + 1, k => by show (valsUL (natL n (k + 1))).length + 1 = _; rw [valsUL_len n (k + 1)]
theorem utL_next (κ : Bool) (n : Nat) : (mkMem 2 0 b00 (utL κ n [])).next = vAt κ n := by
  have h : (mkMem 2 0 b00 (utL κ n [])).next = 2 + 1 + (utL κ n []).length := addL_next _ _
  rw [h]
  have ht : (utT n).length = cond' 0 (n + 1) (Nat.beq n 0) := by
    cases n with
    | zero => rfl
    | succ k => show (valsUL (natL (k + 1) 0)).length + 1 = k + 1 + 1; rw [valsUL_len]
  unfold vAt utL
  cases κ
  · show 2 + 1 + ((appBs (utT n) []).length + 1 + 1 + 1 + 1 + 1 + 1) = 9 + cond' 0 (n + 1) (Nat.beq n 0)
    rw [appBs_app, List.append_nil, ht]; omega
  · show 2 + 1 + ((appBs (utT n) []).length + 1 + 1 + 1 + 1 + 1 + 1 + 1 + 1) = 11 + cond' 0 (n + 1) (Nat.beq n 0)
    rw [appBs_app, List.append_nil, ht]; omega
theorem vAt_le (κ : Bool) {n : Nat} (h : n ≤ 41) : vAt κ n < 100 := by
  show (cond' 11 9 κ) + (cond' 0 (n + 1) (Nat.beq n 0)) < 100
  rw [cond_if, cond_if]
  split <;> split <;> omega
theorem valsUL_get : ∀ (n k i : Nat), i < n → (valsUL (natL n k))[i]? = some (.cells true (opqR 6 (1000 + 6 * (k + i))))
  | 0, _, i, h => by omega
  | n + 1, k, 0, _ => rfl
  | n + 1, k, i + 1, h => by
    show (_ :: valsUL (natL n (k + 1)))[i + 1]? = _
    rw [List.getElem?_cons_succ, valsUL_get n (k + 1) i (by omega), show k + 1 + i = k + (i + 1) by omega]
theorem preU_vals {sw : Bool} {n N : Nat} {l : List Blk} (hN : 0 < N) (j : Nat) : (preU sw n N l)[2 + j]? = (valsUL (natL n 0) ++ l)[j]? := by
  cases N with
  | zero => omega
  | succ k =>
    show (_ :: _ :: appBs (valsUL (natL n 0)) l)[2 + j]? = _
    rw [show 2 + j = j + 1 + 1 by omega, List.getElem?_cons_succ, List.getElem?_cons_succ, appBs_app]
/- ### whose blocks -/
structure OwnAt (φ : Phi) (m : Mem) (own : Nat → Nat) (tag : Nat) : Prop where
  live : ∀ p b o s, p < m.next → (m.get p).live = true → φ p = some (b, o, s) → own b = 0 ∨ own b = tag
  wr : ∀ p b o s, p < m.next → (m.get p).wr = true → φ p = some (b, o, s) → own b = tag
def extO (own : Nat → Nat) (w : World) (tag : Nat) : Nat → Nat := fun b => if b < w.heap.size then own b else tag
theorem extO_lt {own : Nat → Nat} {w : World} {tag b : Nat} (h : b < w.heap.size) : extO own w tag b = own b := if_pos h
theorem extO_ge {own : Nat → Nat} {w : World} {tag b : Nat} (h : w.heap.size ≤ b) : extO own w tag b = tag := if_neg (by omega)
/-- what stays but for one owner's blocks -/
def LeftO (own : Nat → Nat) (tag : Nat) (w w' : World) : Prop := (∀ b, b < w.heap.size → own b ≠ tag → w'.heap[b]? = w.heap[b]?) ∧ w.heap.size ≤ w'.heap.size ∧ w'.os = w.os ∧ w'.output = w.output ∧ w'.tape = w.tape
theorem own_step {T : Tok} {φ φ' : Phi} {m m' : Mem} {w w' : World} {own : Nat → Nat} {tag : Nat} (hst : @Step T TZ φ m w φ' m' w') (h : OwnAt φ m own tag) : OwnAt φ' m' (extO own w tag) tag ∧ LeftO own tag w w' := by
  refine ⟨⟨fun p b o s hp hl hφ => ?_, fun p b o s hp hl hφ => ?_⟩, fun b hb hne => @Step.frame T TZ _ _ _ _ _ _ hst b hb fun q o s hq hw hφ => hne (h.wr q b o s hq hw hφ), @Step.size T TZ _ _ _ _ _ _ hst, @Step.os T TZ _ _ _ _ _ _ hst, @Step.out T TZ _ _ _ _ _ _ hst, @Step.tape T TZ _ _ _ _ _ _ hst⟩
  · rcases Nat.lt_or_ge b w.heap.size with hb | hb
    · rw [extO_lt hb]
      rcases Nat.lt_or_ge p m.next with hp' | hp'
      · rcases @Step.fresh T TZ _ _ _ _ _ _ hst p _ hφ with h1 | h1
        · exact h.live p b o s hp' (@Step.live T TZ _ _ _ _ _ _ hst p hp' hl) h1
        · omega
      · obtain ⟨q, o', s', g1, g2, g3⟩ := @Step.img T TZ _ _ _ _ _ _ hst p b o s hp' hp hl hφ hb
        exact .inr (h.wr q b o' s' g1 g2 g3)
    · exact .inr (extO_ge hb)
  · rcases Nat.lt_or_ge b w.heap.size with hb | hb
    · rw [extO_lt hb]
      rcases Nat.lt_or_ge p m.next with hp' | hp'
      · rcases @Step.fresh T TZ _ _ _ _ _ _ hst p _ hφ with h1 | h1
        · exact h.wr p b o s hp' (@Step.wr T TZ _ _ _ _ _ _ hst p hp' hl) h1
        · omega
      · obtain ⟨q, o', s', g1, g2, g3⟩ := @Step.img T TZ _ _ _ _ _ _ hst p b o s hp' hp (Blk.live_of_wr hl) hφ hb
        exact h.wr q b o' s' g1 g2 g3
    · exact extO_ge hb
/-- what a memory absorbs into is owned alike -/
theorem own_abs {T : Tok} {φ : Phi} {m : Mem} {w : World} {own : Nat → Nat} {tag : Nat} (hr : @Rel T TZ φ m w) (h : OwnAt φ m own tag) (h0 : own 0 = 0) {σ : Map} (hG : σ.G = 2) {l : List Blk} (habs : absMem σ 0 b00 l m = true) : OwnAt (absPhi σ φ) (mkMem 2 0 b00 l) own tag := by
  refine ⟨fun p b o s hp hl hφ => ?_, fun p b o s hp hl hφ => ?_⟩
  · have hc := habs
    unfold absMem at hc
    simp only [Bool.and_eq_true, ble_true] at hc
    obtain ⟨⟨⟨c1, c2⟩, c3, c4⟩, c5, c6⟩ := hc
    obtain ⟨hlen, hblk⟩ := chkL_ok c6
    rw [top_eq] at c2
    have hn : (mkMem 2 0 b00 l).next = 2 + 1 + l.length := addL_next l _
    rw [hn] at hp
    have c1' : 0 < 2 := by decide
    rw [mkMem_get c1' (by rw [hlen, ← hG]; omega) (by rw [← hG, hlen] at hp; omega)] at hl
    unfold absPhi at hφ
    split at hφ
    rotate_left
    · cases hφ
    rename_i htop
    split at hl
    · rename_i h1
      have h3 : p - (2 + 1) < l.length := by omega
      have h4 : p - (2 + 1) < σ.ns.length := by omega
      have e3 := List.getElem?_eq_getElem h3
      have e4 := List.getElem?_eq_getElem h4
      rw [e3] at hl
      have hnm : σ.nm p = σ.ns[p - (2 + 1)] := by
        rw [nm_high (by rw [hG]; omega)]
        have : p - (σ.G + 1) = p - (2 + 1) := by rw [hG]
        rw [this, e4]; rfl
      obtain ⟨_, g2, g3⟩ := hblk _ _ _ e3 e4
      rw [hnm] at hφ
      refine h.live _ b o s g2 ?_ hφ
      generalize m.get (σ.ns[p - (2 + 1)]) = bl at g3
      generalize l[p - (2 + 1)] = t at g3 hl
      cases t <;> cases bl <;> first | rfl | (cases g3; done) | (cases hl; done)
    · split at hl
      · rename_i hp0
        subst hp0
        have hnm : σ.nm 0 = 0 := rfl
        rw [hnm] at hφ
        obtain ⟨sz, hg⟩ := @Rel.glob T TZ _ _ _ hr 0 (by rw [tz_glob]; decide)
        rw [hg] at hφ
        cases hφ
        exact .inl h0
      · cases hl
  · have hp' : p < (mkMem σ.G 0 b00 l).next := by rw [hG]; exact hp
    have hl' : ((mkMem σ.G 0 b00 l).get p).wr = true := by rw [hG]; exact hl
    obtain ⟨t1, t2, t3⟩ := absMem_wr habs hp' hl'
    unfold absPhi at hφ
    rw [if_pos t1] at hφ
    exact h.wr _ b o s t2 t3 hφ
/-- a store in a world -/
def StoAt (κ : Bool) (rows : List RowD) (sp : Value) (tag : Nat) (own : Nat → Nat) (w : World) : Prop :=
  ∃ (φ : Phi) (x3 : Img), (∀ f hf, @Rel (tokS f hf rows) TZ φ (mkMem 2 0 b00 (utL κ rows.length [])) w) ∧ φ 3 = some x3 ∧ sp = ptrV x3 ∧ OwnAt φ (mkMem 2 0 b00 (utL κ rows.length [])) own tag
theorem StoAt.move {κ : Bool} {rows : List RowD} {sp : Value} {tag : Nat} {own own' : Nat → Nat} {w w' : World} (h : StoAt κ rows sp tag own w) (hs : w.heap.size ≤ w'.heap.size) (ho : ∀ b, b < w.heap.size → own' b = own b) (hl : ∀ b, b < w.heap.size → own b = 0 ∨ own b = tag → w'.heap[b]? = w.heap[b]?) : StoAt κ rows sp tag own' w' := by
  obtain ⟨φ, x3, h1, h2, h3, h4⟩ := h
  have lt : ∀ p b o s, ((mkMem 2 0 b00 (utL κ rows.length [])).get p).live = true → φ p = some (b, o, s) → b < w.heap.size := fun p b o s hl hφ =>
    @Rel.heap (tokS (fun _ => nilS) (fun _ => rfl) rows) TZ _ _ _ (h1 (fun _ => nilS) (fun _ => rfl)) p b o s hφ (fun e => by
      have := @Rel.nohandle (tokS (fun _ => nilS) (fun _ => rfl) rows) TZ _ _ _ (h1 (fun _ => nilS) (fun _ => rfl))
      rw [e, this] at hl; cases hl)
  exact ⟨φ, x3, fun f hf => @Rel.move (tokS f hf rows) TZ _ _ _ (h1 f hf) (fun _ => rfl) w' hs fun p b o s hp hlv hφ => hl b (lt p b o s hlv hφ) (h4.live p b o s hp hlv hφ), h2, h3, fun p b o s hp hlv hφ => by rw [ho b (lt p b o s hlv hφ)]; exact h4.live p b o s hp hlv hφ, fun p b o s hp hlv hφ => by rw [ho b (lt p b o s (@Blk.live_of_wr tok0 _ hlv) hφ)]; exact h4.wr p b o s hp hlv hφ⟩
end Go.AM

namespace Go.AM
open Go.Proofs

/- ### a write of a row -/
theorem pre_vals {f : Nat → Value} {hf : ∀ j, (f j).oneCell' = true} {sw : Bool} {rows : List RowD} {r : RowD} (h5 : f 500 = .int .i64 (r.a : Int)) (h6 : f 501 = .int .i64 (r.b : Int)) (j : Nat) (s : RowD) (hj : (rows ++ [r])[j]? = some s) :
    ∃ cs, (preU sw rows.length (rows.length + 1) [.cells true (newU (Nat.beq r.a 4) (Nat.beq r.b 4))])[2 + j]? = some (.cells true cs) ∧ ∀ φ vs, @VsRel (tokS f hf rows) φ cs vs → vs = cellsV s.a ++ cellsV s.b := by
  rw [preU_vals (by omega)]
  have hjl := getElem?_lt hj
  rw [List.length_append] at hjl
  have hjl' : j < rows.length + 1 := hjl
  rcases Nat.lt_or_ge j rows.length with hlt | hge
  · rw [List.getElem?_append_left hlt] at hj
    refine ⟨_, by rw [List.getElem?_append_left (by rw [valsUL_len]; exact hlt)]; exact valsUL_get rows.length 0 j hlt, fun φ vs hv => ?_⟩
    rw [Nat.zero_add] at hv
    exact old_un hj hv
  · have e : j = rows.length := by omega
    subst e
    rw [List.getElem?_append_right (Nat.le_refl _), Nat.sub_self] at hj
    simp only [List.getElem?_cons_zero, Option.some.injEq] at hj
    subst hj
    refine ⟨_, by rw [List.getElem?_append_right (by rw [valsUL_len]; exact Nat.le_refl _), valsUL_len, Nat.sub_self]; rfl, fun φ vs hv => ?_⟩
    exact new_un (T := tokS f hf rows) h5 h6 hv
theorem ids_app {rows : List RowD} {r : RowD} (hid : ∀ i s, rows[i]? = some s → s.id = i + 1) (hrid : r.id = rows.length + 1) (i : Nat) (s : RowD) (h : (rows ++ [r])[i]? = some s) : s.id = i + 1 := by
  have hl := getElem?_lt h
  rw [List.length_append] at hl
  have hl' : i < rows.length + 1 := hl
  rcases Nat.lt_or_ge i rows.length with hlt | hge
  · rw [List.getElem?_append_left hlt] at h
    exact hid i s h
  · have e : i = rows.length := by omega
    subst e
    rw [List.getElem?_append_right (Nat.le_refl _), Nat.sub_self] at h
    simp only [List.getElem?_cons_zero, Option.some.injEq] at h
    subst h
    exact hrid
theorem xu_ok {T : Tok} (hst : T.strong = false) {sw bad : Bool} {n N : Nat} {l : List Blk} (hN : N ≤ 40) {rows : List RowD} (hlen : rows.length = N) (hok : ∀ r, r ∈ rows → RowOk r) (hid : ∀ i r, rows[i]? = some r → r.id = i + 1)
    (hvals : ∀ j r, rows[j]? = some r → ∃ cs, (preU sw n N l)[2 + j]? = some (.cells true cs) ∧ ∀ φ vs, @VsRel T φ cs vs → vs = cellsV r.a ++ cellsV r.b) (hg : bad = false → NoDup rows) (hb : bad = true → ¬ NoDup rows) : @KSound T TZ (KU sw bad n N l) := by
  refine callX_ok tz_mixed tz_gprog tz_ext (fun f g h => ?_) 100
  unfold XU at h
  split at h
  · cases h
    exact idxU_ok hst hN hlen hok hid hvals hg hb
  · cases h
theorem b00_ro : b00.wr = false := rfl
theorem ku_ok {rows : List RowD} {r : RowD} {bad : Bool} (hn : rows.length ≤ 39) (hok : ∀ s, s ∈ rows → RowOk s) (hr : RowOk r) (hid : ∀ i s, rows[i]? = some s → s.id = i + 1) (hrid : r.id = rows.length + 1) (hg : bad = false → NoDup (rows ++ [r])) (hb : bad = true → ¬ NoDup (rows ++ [r])) {f : Nat → Value} {hf : ∀ j, (f j).oneCell' = true} (h5 : f 500 = .int .i64 (r.a : Int)) (h6 : f 501 = .int .i64 (r.b : Int)) :
    @KSound (tokS f hf rows) TZ (KU false bad rows.length (rows.length + 1) [.cells true (newU (Nat.beq r.a 4) (Nat.beq r.b 4))]) :=
  xu_ok (T := tokS f hf rows) rfl (sw := false) (bad := bad) (n := rows.length) (N := rows.length + 1) (l := [.cells true (newU (Nat.beq r.a 4) (Nat.beq r.b 4))]) (by omega) (rows := rows ++ [r]) (by simp) (fun s hs => by
    rcases List.mem_append.1 hs with hs | hs
    · exact hok s hs
    · rw [List.mem_singleton] at hs; subst hs; exact hr) (ids_app hid hrid) (fun j s hj => pre_vals h5 h6 j s hj) hg hb
theorem write_core {κ : Bool} {rows : List RowD} {r : RowD} (hn : rows.length ≤ 39)
    {sp : Value} {tag : Nat} {own : Nat → Nat} {w : World} (htag : tag ≠ 0) (hS : StoAt κ rows sp tag own w) {xv : Img} (hc : CellsAt (heapOf w) xv (cells2 r)) (hvo : own xv.1 = 0) {f : Nat → Value} {hf : ∀ j, (f j).oneCell' = true} (h5 : f 500 = .int .i64 (r.a : Int)) (h6 : f 501 = .int .i64 (r.b : Int))
    {K : KH} (hK : @KSound (tokS f hf rows) TZ K) {cs : List Code} (hgc : cs.all (gCode TZ.globals.size) = true) {l : List (Nat × AVal)} {ts : List Nat} {vs : List AVal} {mf : Mem}
    (hrun : pieceRun TZ 129 K cs ⟨true, fun _ => false, false⟩ l ts (wMem κ rows.length (Nat.beq r.a 4) (Nat.beq r.b 4)) = .ok (.tuple vs) mf)
    {a : Act} (ha : ActIs 129 a) (hl : ∀ φ x3, φ 3 = some x3 → sp = ptrV x3 → φ (vAt κ rows.length) = some xv → ∀ p, p ∈ l → p.1 < 4096 ∧ @VRel (tokS f hf rows) φ p.2 (a.tmps.getD p.1 undef)) {rest : Code} {Q : Exit → Act → World → Prop}
    (hgo : ∀ φ x3 a' w', ActIs 129 a' → sp = ptrV x3 → φ 3 = some x3 → φ (vAt κ rows.length) = some xv → @VsRel (tokS f hf rows) φ vs (valsT ts a') → LeftO own tag w w' → @Rel (tokS f hf rows) TZ φ mf w' → OwnAt φ mf (extO own w tag) tag → rest.wp TZ Q a' w') : (seqsC cs rest).wp TZ Q a w := by
  let T : Tok := tokS f hf rows
  obtain ⟨φ0, x3, q1, q2, q3, q4⟩ := hS
  have q1' := q1 f hf
  have hnx := utL_next κ rows.length
  have hvl := vAt_le κ (n := rows.length) (by omega)
  have hxl : xv.1 < w.heap.size := hc.lt (fun b o h => h)
  have hm : wMem κ rows.length (Nat.beq r.a 4) (Nat.beq r.b 4) = ⟨(mkMem 2 0 b00 (utL κ rows.length [])).next + 1, putT (mkMem 2 0 b00 (utL κ rows.length [])).next (.cells true (newU (Nat.beq r.a 4) (Nat.beq r.b 4))) (mkMem 2 0 b00 (utL κ rows.length [])).t⟩ := by
    unfold wMem
    rw [utL_app]
    exact mkMem_snoc b00 _ _
  have hnew : ∀ φ, @VsRel T φ (newU (Nat.beq r.a 4) (Nat.beq r.b 4)) (cells2 r) := fun φ => by
    have hv : ∀ (i a : Nat), T.val i = .int .i64 (a : Int) → @VsRel T φ (valU i (Nat.beq a 4)) (cellsV a) := fun i a hT => by
      have hs : @VRel T φ (.str []) (.string ByteArray.empty) := @VRel.str T φ [] ByteArray.empty rfl
      unfold valU cellsV
      rw [cond_if]
      by_cases e : a = 4
      · rw [if_pos (beq_true.2 e), if_pos e]
        exact @VsRel.cons T φ _ _ _ _ (@VRel.int T φ .i64 0) (@VsRel.cons T φ _ _ _ _ (@VRel.int T φ .i64 0) (@VsRel.cons T φ _ _ _ _ hs (@VsRel.nil T φ)))
      · rw [if_neg (fun hb => e (beq_true.1 hb)), if_neg e]
        refine @VsRel.cons T φ _ _ _ _ (@VRel.int T φ .i64 2) (@VsRel.cons T φ _ _ _ _ ?_ (@VsRel.cons T φ _ _ _ _ hs (@VsRel.nil T φ)))
        rw [← hT]; exact @VRel.opq T φ i
    unfold newU
    rw [appV_eq]
    exact vsrel_app (hv 500 r.a h5) (hv 501 r.b h6)
  have hcell : ∀ v, v ∈ newU (Nat.beq r.a 4) (Nat.beq r.b 4) → v.isCell = true := by
    cases Nat.beq r.a 4 <;> cases Nat.beq r.b 4 <;> decide
  have hrel : @Rel T TZ (fun q => if q = (mkMem 2 0 b00 (utL κ rows.length [])).next then some (xv.1, xv.2.1, xv.2.2) else φ0 q) (wMem κ rows.length (Nat.beq r.a 4) (Nat.beq r.b 4)) w := by
    rw [hm]
    exact @Rel.also T TZ _ _ _ q1' (fun _ => rfl) _ _ _ _ (by rw [hnx]; omega) rfl hxl (fun q b o s hq hw hφ e => by
      have := q4.wr q b o s hq hw hφ
      rw [e, hvo] at this
      exact htag this.symm) (brel_of (fun b o h => h) hc (if_pos rfl) (hnew _) hcell)
  have hown : OwnAt (fun q => if q = (mkMem 2 0 b00 (utL κ rows.length [])).next then some (xv.1, xv.2.1, xv.2.2) else φ0 q) (wMem κ rows.length (Nat.beq r.a 4) (Nat.beq r.b 4)) own tag := by
    rw [hm]
    have get : ∀ q, q < (mkMem 2 0 b00 (utL κ rows.length [])).next + 1 → (⟨(mkMem 2 0 b00 (utL κ rows.length [])).next + 1, putT (mkMem 2 0 b00 (utL κ rows.length [])).next (.cells true (newU (Nat.beq r.a 4) (Nat.beq r.b 4))) (mkMem 2 0 b00 (utL κ rows.length [])).t⟩ : Mem).get q = if q = (mkMem 2 0 b00 (utL κ rows.length [])).next then .cells true (newU (Nat.beq r.a 4) (Nat.beq r.b 4)) else (mkMem 2 0 b00 (utL κ rows.length [])).get q := fun q hq => getT_putT _ q _ _ (by rw [hnx]; omega) (by rw [hnx] at hq; omega)
    refine ⟨fun p b o s hp hlv hφ => ?_, fun p b o s hp hlv hφ => ?_⟩
    · by_cases e : p = (mkMem 2 0 b00 (utL κ rows.length [])).next
      · simp [e] at hφ
        rw [← hφ.1]; exact .inl hvo
      · rw [get p hp, if_neg e] at hlv
        have hφ' : φ0 p = some (b, o, s) := by simpa [e] using hφ
        have hp' : p < (mkMem 2 0 b00 (utL κ rows.length [])).next + 1 := hp
        exact q4.live p b o s (by omega) hlv hφ'
    · by_cases e : p = (mkMem 2 0 b00 (utL κ rows.length [])).next
      · rw [get p hp, if_pos e] at hlv; cases hlv
      · rw [get p hp, if_neg e] at hlv
        have hφ' : φ0 p = some (b, o, s) := by simpa [e] using hφ
        have hp' : p < (mkMem 2 0 b00 (utL κ rows.length [])).next + 1 := hp
        exact q4.wr p b o s (by omega) hlv hφ'
  have hf3 : (fun q => if q = (mkMem 2 0 b00 (utL κ rows.length [])).next then some (xv.1, xv.2.1, xv.2.2) else φ0 q) 3 = some x3 := by
    show (if 3 = (mkMem 2 0 b00 (utL κ rows.length [])).next then _ else _) = _
    have := @Rel.dom T TZ _ _ _ q1' 3 x3 q2
    rw [if_neg (by omega)]; exact q2
  have hfv : (fun q => if q = (mkMem 2 0 b00 (utL κ rows.length [])).next then some (xv.1, xv.2.1, xv.2.2) else φ0 q) (vAt κ rows.length) = some xv := by
    show (if vAt κ rows.length = (mkMem 2 0 b00 (utL κ rows.length [])).next then _ else _) = _
    rw [if_pos hnx.symm]
  have hD := @draw_ok T TZ tz_mixed _ hK
  refine @piece_ok TZ T _ hK hD 129 cs hgc _ _ _ _ _ _ hrun _ w a rest Q hrel ha (by decide) (hl _ x3 hf3 q3 hfv) (fun _ φ1 a1 w1 hst ha1 hv1 => ?_) (fun i h => by cases h) (fun h => by cases h)
  obtain ⟨o1, o2⟩ := own_step hst hown
  have ext : ∀ q x, (fun q => if q = (mkMem 2 0 b00 (utL κ rows.length [])).next then some (xv.1, xv.2.1, xv.2.2) else φ0 q) q = some x → φ1 q = some x := @Step.ext T TZ _ _ _ _ _ _ hst
  exact hgo φ1 x3 a1 w1 ha1 q3 (ext _ _ hf3) (ext _ _ hfv) hv1 o2 (@Step.rel T TZ _ _ _ _ _ _ hst) o1
end Go.AM

namespace Go.AM
open Go.Proofs

/- ### the law's code, and its runs of Write -/
noncomputable def B3 : Code := bodyOf TZ 3
noncomputable def L3 : Code := loopOf' (sr (sl (sr (sr (sr (sr (sr (sr (sr B3)))))))))
noncomputable def D3 : Code := blkOf' (sl (sr L3))
noncomputable def R17 : Code := sl (sr (sr (sr D3)))
noncomputable def S18 : Code := sl (sr (sr (sr (sr D3))))
noncomputable def runT (bad : Bool) (n : Nat) (x y : Bool) : Bool := tRun (KU false bad n (Nat.succ n) [.cells true (newU x y)]) R17 bad n x y
noncomputable def runU (n : Nat) (x y : Bool) : Bool := uRun K0 S18 n x y
noncomputable def tRow (n : Nat) : Bool := and (and (runT false n false false) (runT true n false false)) (and (runT false n true false) (runT false n false true))
noncomputable def uRow (n : Nat) : Bool := and (runU n false false) (and (runU n true false) (runU n false true))
end Go.AM

namespace Go.AM
open Go.Proofs

/- ### the law's end: the unique index is made, or not -/
noncomputable def X28 : Code := sr (sr (sr (sr (sr (sr (sr (sr B3)))))))
noncomputable def fMem (n : Nat) : Mem := mkMem 2 0 b00 (utL false n [])
noncomputable def fRun (P : Program) (K : KH) (X : Code) (bad : Bool) (n : Nat) : Bool :=
  match oneRun P 129 K X ⟨false, fun _ => false, true⟩ [(4, .ptr 3 0), (6, .bool bad)] [2] (fMem n) with
  | .ok (.tuple [x]) _ => aeqN 2 x (.bool true)
  | _ => false
noncomputable def fRow (n : Nat) : Bool := and (fRun TZ (KU true false n n []) X28 false n) (fRun TZ (KU true true n n []) X28 true n)
end Go.AM

namespace Go.AM
open Go.Proofs

/- ### the front of a round: the values of the row, by hand -/
noncomputable def O13 : Array Oper := opsOf (sl D3)
noncomputable def O14 : Array Oper := opsOf (sl (sr D3))
noncomputable def O15 : Array Oper := opsOf (sl (sl (sr (sr D3))))
noncomputable def O16 : Array Oper := opsOf (match sr (sl (sr (sr D3))) with | .cond _ x _ => x | c => c)
noncomputable def D17 : Code := sr (sr (sr D3))
theorem d3_is : D3 = .seq (.region 13 O13 true) (.seq (.region 14 O14 false) (.seq (.seq (.region 15 O15 false) (.cond (.tmp 57) (.region 16 O16 false) .skip)) D17)) := by kernel_rfl
theorem s13 : O13.size = 17 := by kernel_rfl
theorem s14 : O14.size = 6 := by kernel_rfl
theorem s15 : O15.size = 1 := by kernel_rfl
theorem s16 : O16.size = 9 := by kernel_rfl
theorem ns13 : Region.noSelect O13 = true := by kernel_rfl
noncomputable def LH : Nat → Array Bool
  | 0 => Array.replicate O13.size false
  | k + 1 => (LH k).setIfInBounds k true
theorem fr13 : (List.range 15).all (fun k => Region.free .any O13 (LH k) k && (Region.ready .any O13 (LH k)).contains k) = true := by kernel_rfl
theorem rd15 : Region.ready .any O13 (LH 15) = [15] := by kernel_rfl
theorem rd16 : Region.ready .any O13 (LH 16) = [16] := by kernel_rfl
theorem rd17 : Region.ready .any O13 (LH 17) = [] := by kernel_rfl
theorem o13_0 : OpAt O13 0 36 (.move (.tmp 0)) := opAtB (by kernel_rfl) (by kernel_rfl) (by kernel_rfl) (by kernel_rfl)
theorem o13_1 : OpAt O13 1 37 (.move (.tmp 7)) := opAtB (by kernel_rfl) (by kernel_rfl) (by kernel_rfl) (by kernel_rfl)
theorem o13_2 : OpAt O13 2 38 (.indexAddr 22 (.tmp 36) (.tmp 37)) := opAtB (by kernel_rfl) (by kernel_rfl) (by kernel_rfl) (by kernel_rfl)
theorem o13_3 : OpAt O13 3 39 (.load 5 (.tmp 38)) := opAtB (by kernel_rfl) (by kernel_rfl) (by kernel_rfl) (by kernel_rfl)
theorem o13_4 : OpAt O13 4 40 (.binOp .rem 5 (.tmp 39) (.const (.int .u8 4)) 5) := opAtB (by kernel_rfl) (by kernel_rfl) (by kernel_rfl) (by kernel_rfl)
theorem o13_5 : OpAt O13 5 41 (.convert 5 2 (.tmp 40)) := opAtB (by kernel_rfl) (by kernel_rfl) (by kernel_rfl) (by kernel_rfl)
theorem o13_6 : OpAt O13 6 42 (.build 38 #[(0, .const (.int .i64 2)), (1, .tmp 41)]) := opAtB (by kernel_rfl) (by kernel_rfl) (by kernel_rfl) (by kernel_rfl)
theorem o13_7 : OpAt O13 7 43 (.move (.tmp 0)) := opAtB (by kernel_rfl) (by kernel_rfl) (by kernel_rfl) (by kernel_rfl)
theorem o13_8 : OpAt O13 8 44 (.move (.tmp 7)) := opAtB (by kernel_rfl) (by kernel_rfl) (by kernel_rfl) (by kernel_rfl)
theorem o13_9 : OpAt O13 9 45 (.indexAddr 22 (.tmp 43) (.tmp 44)) := opAtB (by kernel_rfl) (by kernel_rfl) (by kernel_rfl) (by kernel_rfl)
theorem o13_10 : OpAt O13 10 46 (.load 5 (.tmp 45)) := opAtB (by kernel_rfl) (by kernel_rfl) (by kernel_rfl) (by kernel_rfl)
theorem o13_11 : OpAt O13 11 47 (.binOp .quo 5 (.tmp 46) (.const (.int .u8 4)) 5) := opAtB (by kernel_rfl) (by kernel_rfl) (by kernel_rfl) (by kernel_rfl)
theorem o13_12 : OpAt O13 12 48 (.binOp .rem 5 (.tmp 47) (.const (.int .u8 4)) 5) := opAtB (by kernel_rfl) (by kernel_rfl) (by kernel_rfl) (by kernel_rfl)
theorem o13_13 : OpAt O13 13 49 (.convert 5 2 (.tmp 48)) := opAtB (by kernel_rfl) (by kernel_rfl) (by kernel_rfl) (by kernel_rfl)
theorem o13_14 : OpAt O13 14 50 (.build 38 #[(0, .const (.int .i64 2)), (1, .tmp 49)]) := opAtB (by kernel_rfl) (by kernel_rfl) (by kernel_rfl) (by kernel_rfl)
theorem o13_15 : OpAt O13 15 51 (.buildSlice 49 2 #[(0, .tmp 42), (1, .tmp 50)]) := opAtB (by kernel_rfl) (by kernel_rfl) (by kernel_rfl) (by kernel_rfl)
theorem o13_16 : OpAt O13 16 8 (.assign (.tmp 51)) := opAtB (by kernel_rfl) (by kernel_rfl) (by kernel_rfl) (by kernel_rfl)
theorem o14_0 : OpAt O14 0 52 (.move (.tmp 0)) := opAtB (by kernel_rfl) (by kernel_rfl) (by kernel_rfl) (by kernel_rfl)
theorem o14_1 : OpAt O14 1 53 (.move (.tmp 7)) := opAtB (by kernel_rfl) (by kernel_rfl) (by kernel_rfl) (by kernel_rfl)
theorem o14_2 : OpAt O14 2 54 (.indexAddr 22 (.tmp 52) (.tmp 53)) := opAtB (by kernel_rfl) (by kernel_rfl) (by kernel_rfl) (by kernel_rfl)
theorem o14_3 : OpAt O14 3 55 (.load 5 (.tmp 54)) := opAtB (by kernel_rfl) (by kernel_rfl) (by kernel_rfl) (by kernel_rfl)
theorem o14_4 : OpAt O14 4 56 (.binOp .geq 5 (.tmp 55) (.const (.int .u8 200)) 5) := opAtB (by kernel_rfl) (by kernel_rfl) (by kernel_rfl) (by kernel_rfl)
theorem o14_5 : OpAt O14 5 9 (.assign (.tmp 56)) := opAtB (by kernel_rfl) (by kernel_rfl) (by kernel_rfl) (by kernel_rfl)
theorem o15_0 : OpAt O15 0 57 (.move (.tmp 9)) := opAtB (by kernel_rfl) (by kernel_rfl) (by kernel_rfl) (by kernel_rfl)
theorem o16_0 : OpAt O16 0 58 (.move (.tmp 8)) := opAtB (by kernel_rfl) (by kernel_rfl) (by kernel_rfl) (by kernel_rfl)
theorem o16_1 : OpAt O16 1 59 (.move (.tmp 0)) := opAtB (by kernel_rfl) (by kernel_rfl) (by kernel_rfl) (by kernel_rfl)
theorem o16_2 : OpAt O16 2 60 (.move (.tmp 7)) := opAtB (by kernel_rfl) (by kernel_rfl) (by kernel_rfl) (by kernel_rfl)
theorem o16_3 : OpAt O16 3 61 (.indexAddr 22 (.tmp 59) (.tmp 60)) := opAtB (by kernel_rfl) (by kernel_rfl) (by kernel_rfl) (by kernel_rfl)
theorem o16_4 : OpAt O16 4 62 (.load 5 (.tmp 61)) := opAtB (by kernel_rfl) (by kernel_rfl) (by kernel_rfl) (by kernel_rfl)
theorem o16_5 : OpAt O16 5 63 (.binOp .rem 5 (.tmp 62) (.const (.int .u8 2)) 5) := opAtB (by kernel_rfl) (by kernel_rfl) (by kernel_rfl) (by kernel_rfl)
end Go.AM
