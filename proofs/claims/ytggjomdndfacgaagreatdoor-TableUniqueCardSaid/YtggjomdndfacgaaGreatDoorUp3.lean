/- The indexing of rows by a unique key, for all rows: a tree, or the error where two rows are alike. -/
import Derived.Test.YtggjomdndfacgaaGreatDoorRunJ0
import Derived.Test.YtggjomdndfacgaaGreatDoorRunJ1
import Derived.Test.YtggjomdndfacgaaGreatDoorRunJ2
import Derived.Test.YtggjomdndfacgaaGreatDoorRunJ3
import Derived.Test.YtggjomdndfacgaaGreatDoorUp2
set_option linter.unusedSectionVars false
set_option linter.unusedVariables false
set_option linter.unusedSimpArgs false
namespace Go.AM
theorem irow_all (sw : Bool) (x y : Nat) (hx : x ≤ 4) (hy : y ≤ 4) (h : ¬ (x = 4 ∧ y = 4)) : iRow sw x y = true := by
  match sw, x, y, hx, hy, h with
  | false, 0, 0, _, _, _ => exact irow_f00
  | false, 0, 1, _, _, _ => exact irow_f01
  | false, 0, 2, _, _, _ => exact irow_f02
  | false, 0, 3, _, _, _ => exact irow_f03
  | false, 0, 4, _, _, _ => exact irow_f04
  | false, 1, 0, _, _, _ => exact irow_f10
  | false, 1, 1, _, _, _ => exact irow_f11
  | false, 1, 2, _, _, _ => exact irow_f12
  | false, 1, 3, _, _, _ => exact irow_f13
  | false, 1, 4, _, _, _ => exact irow_f14
  | false, 2, 0, _, _, _ => exact irow_f20
  | false, 2, 1, _, _, _ => exact irow_f21
  | false, 2, 2, _, _, _ => exact irow_f22
  | false, 2, 3, _, _, _ => exact irow_f23
  | false, 2, 4, _, _, _ => exact irow_f24
  | false, 3, 0, _, _, _ => exact irow_f30
  | false, 3, 1, _, _, _ => exact irow_f31
  | false, 3, 2, _, _, _ => exact irow_f32
  | false, 3, 3, _, _, _ => exact irow_f33
  | false, 3, 4, _, _, _ => exact irow_f34
  | false, 4, 0, _, _, _ => exact irow_f40
  | false, 4, 1, _, _, _ => exact irow_f41
  | false, 4, 2, _, _, _ => exact irow_f42
  | false, 4, 3, _, _, _ => exact irow_f43
  | false, 4, 4, _, _, h => exact absurd ⟨rfl, rfl⟩ h
  | true, 0, 0, _, _, _ => exact irow_t00
  | true, 0, 1, _, _, _ => exact irow_t01
  | true, 0, 2, _, _, _ => exact irow_t02
  | true, 0, 3, _, _, _ => exact irow_t03
  | true, 0, 4, _, _, _ => exact irow_t04
  | true, 1, 0, _, _, _ => exact irow_t10
  | true, 1, 1, _, _, _ => exact irow_t11
  | true, 1, 2, _, _, _ => exact irow_t12
  | true, 1, 3, _, _, _ => exact irow_t13
  | true, 1, 4, _, _, _ => exact irow_t14
  | true, 2, 0, _, _, _ => exact irow_t20
  | true, 2, 1, _, _, _ => exact irow_t21
  | true, 2, 2, _, _, _ => exact irow_t22
  | true, 2, 3, _, _, _ => exact irow_t23
  | true, 2, 4, _, _, _ => exact irow_t24
  | true, 3, 0, _, _, _ => exact irow_t30
  | true, 3, 1, _, _, _ => exact irow_t31
  | true, 3, 2, _, _, _ => exact irow_t32
  | true, 3, 3, _, _, _ => exact irow_t33
  | true, 3, 4, _, _, _ => exact irow_t34
  | true, 4, 0, _, _, _ => exact irow_t40
  | true, 4, 1, _, _, _ => exact irow_t41
  | true, 4, 2, _, _, _ => exact irow_t42
  | true, 4, 3, _, _, _ => exact irow_t43
  | true, 4, 4, _, _, h => exact absurd ⟨rfl, rfl⟩ h
  | false, 0, y + 5, _, hy, _ => omega
  | false, 1, y + 5, _, hy, _ => omega
  | false, 2, y + 5, _, hy, _ => omega
  | false, 3, y + 5, _, hy, _ => omega
  | false, 4, y + 5, _, hy, _ => omega
  | false, x + 5, y, hx, _, _ => omega
  | true, 0, y + 5, _, hy, _ => omega
  | true, 1, y + 5, _, hy, _ => omega
  | true, 2, y + 5, _, hy, _ => omega
  | true, 3, y + 5, _, hy, _ => omega
  | true, 4, y + 5, _, hy, _ => omega
  | true, x + 5, y, hx, _, _ => omega
end Go.AM

namespace Go.AM
open Go.Proofs

/- ### a round of indexed: from the row's address to the call of Put, or to the error -/
noncomputable def R53_13 : Code := .region 13 O53_13 true
theorem bd53_is : BD53 = .seq (.region 4 O53_4 false) (seqsC C53 (.region 13 O53_13 true)) := by kernel_rfl
theorem z53_4 : O53_4.size = 4 := by kernel_rfl
theorem z53_13 : O53_13.size = 10 := by kernel_rfl
theorem o53_40 : OpAt O53_4 0 22 (.indexAddr 67 (.tmp 18) (.tmp 20)) := opAtB (by kernel_rfl) (by kernel_rfl) (by kernel_rfl) (by kernel_rfl)
theorem tz_u67 : TZ.underlying 67 = some (.slice 69) := by kernel_rfl
theorem tz_has69 : hasT TZ 69 = true := by kernel_rfl
theorem tz_sz69 : szOf TZ 69 = 2 := by kernel_rfl
theorem tz_s69 (w : World) : (sizeOf 69).run TZ w = .ok 2 w := by have := @run_sizeOf' tok0 TZ w 69 tz_has69; rwa [tz_sz69] at this
theorem g53_4 : (O53_4.toList.drop 1).all (gOper TZ.globals.size) = true := by kernel_rfl
theorem g53 : C53.all (gCode TZ.globals.size) = true := by kernel_rfl
theorem g53_13 : Pre53.toList.all (gOper TZ.globals.size) = true := by kernel_rfl
theorem c53 : cutOk O53_13 Pre53 9 = true := by kernel_rfl
theorem o53_9 : CallAt O53_13 9 83 98 [74, 79, 82] := callAtB (by kernel_rfl) (by kernel_rfl) (by kernel_rfl) (by kernel_rfl)
noncomputable def L53 : Array Bool := Array.replicate 9 true ++ Array.replicate (O53_13.size - 9) false
theorem r53_9 : Region.ready .any O53_13 L53 = [9] := by kernel_rfl
theorem r53_10 : Region.ready .any O53_13 (L53.setIfInBounds 9 true) = [] := by kernel_rfl
theorem pre53 : ∀ i, i < 9 → Pre53[i]? = O53_13[i]? := fun i hi => by
  unfold Pre53
  rw [List.getElem?_toArray, List.getElem?_take, if_pos hi, Array.getElem?_toList]
theorem run_ix2 {P : Program} {a : Act} {w : World} {o : Oper} {x y tt e z : Nat} (hu : P.underlying tt = some (.slice e)) (hs : ∀ w : World, (sizeOf e).run P w = .ok z w) (h : o.op = .indexAddr tt (.tmp x) (.tmp y)) {ad : Addr} {n c i : Nat} (hi : i < n) (hx : a.tmps.getD x undef = .slice (some ad) n c) (hy : a.tmps.getD y undef = .int .i64 (i : Int)) :
    (execOp a.eval o).run P w = .ok (.value (.pointer (some (ad.add (i * z))))) w := by
  have h1 : (0 ≤ (i : Int) ∧ (i : Int) < (n : Int)) := ⟨Int.natCast_nonneg i, by omega⟩
  simp [execOp, h, Act.eval, hx, hy, Instr.indexAt, run_underlying hu, asIntOf, hs, h1, hi]
@[reducible] def tokR (H : Heap) (id : Nat) (h1 : 1 ≤ id) (h2 : id ≤ 127) (v : Nat → Value) (h : ∀ j, (v j).oneCell' = true) : Tok where
  num _ := (id : Int)
  cnt := 1
  pos _ _ := by omega
  hi _ _ := by omega
  mono i j h1 h2 := by omega
  base := 0
  val := v
  cell := h
  hold := H
  strong := true
def cellsV (c : Nat) : List Value := if c = 4 then [.int .i64 0, .int .i64 0, .string ByteArray.empty] else [.int .i64 2, .int .i64 (c : Int), .string ByteArray.empty]
theorem valA_rel {T : Tok} {φ : Phi} {c : Nat} (h : c ≤ 4) : @VsRel T φ (valA c) (cellsV c) := by
  have s : @VRel T φ (.str []) (.string ByteArray.empty) := @VRel.str T φ [] ByteArray.empty rfl
  match c, h with
  | 0, _ => exact @VsRel.cons T φ _ _ _ _ (@VRel.int T φ .i64 2) (@VsRel.cons T φ _ _ _ _ (@VRel.int T φ .i64 0) (@VsRel.cons T φ _ _ _ _ s (@VsRel.nil T φ)))
  | 1, _ => exact @VsRel.cons T φ _ _ _ _ (@VRel.int T φ .i64 2) (@VsRel.cons T φ _ _ _ _ (@VRel.int T φ .i64 1) (@VsRel.cons T φ _ _ _ _ s (@VsRel.nil T φ)))
  | 2, _ => exact @VsRel.cons T φ _ _ _ _ (@VRel.int T φ .i64 2) (@VsRel.cons T φ _ _ _ _ (@VRel.int T φ .i64 2) (@VsRel.cons T φ _ _ _ _ s (@VsRel.nil T φ)))
  | 3, _ => exact @VsRel.cons T φ _ _ _ _ (@VRel.int T φ .i64 2) (@VsRel.cons T φ _ _ _ _ (@VRel.int T φ .i64 3) (@VsRel.cons T φ _ _ _ _ s (@VsRel.nil T φ)))
  | 4, _ => exact @VsRel.cons T φ _ _ _ _ (@VRel.int T φ .i64 0) (@VsRel.cons T φ _ _ _ _ (@VRel.int T φ .i64 0) (@VsRel.cons T φ _ _ _ _ s (@VsRel.nil T φ)))
theorem valA_cell {c : Nat} (h : c ≤ 4) : ∀ v, v ∈ valA c → v.isCell = true := by
  match c, h with
  | 0, _ => decide
  | 1, _ => decide
  | 2, _ => decide
  | 3, _ => decide
  | 4, _ => decide
def colsV (sw : Bool) : List Value := if sw then [.int .i64 1, .int .i64 0] else [.int .i64 0, .int .i64 1]
end Go.AM

namespace Go.AM
open Go.Proofs

/-- what a round looks at -/
structure RoundAt (w : World) (sw : Bool) (r : RowD) (p : Nat) (root nv : Value) (box rowI : Img) : Prop where
  S : StructAt w p [root, nv]
  box : ∃ name cols prim, CellsAt (heapOf w) box [name, cols, .bool true, prim] ∧ RowAt (heapOf w) 1 cols 2 (colsV sw) ∧ name.oneCell' = true ∧ prim.oneCell' = true
  row : ∃ v, CellsAt (heapOf w) rowI [.int .u64 (r.id : Int), v] ∧ RowAt (heapOf w) 3 v 2 (cellsV r.a ++ cellsV r.b)
def roundVals (root sl : Value) (n i : Nat) (k v : Value) (j : Nat) : Value :=
  if j = 0 then root else if j = 1 then sl else if j = 2 then .int .i64 (n : Int) else if j = 3 then .int .i64 (i : Int) else if j = 4 then k else if j = 5 then v else nilS
theorem roundVals_cell {root sl k v : Value} {n i : Nat} (h1 : root.oneCell' = true) (h2 : sl.oneCell' = true) (h3 : k.oneCell' = true) (h4 : v.oneCell' = true) (j : Nat) : (roundVals root sl n i k v j).oneCell' = true := by
  unfold roundVals
  repeat' split
  all_goals first
    | exact h1
    | exact h2
    | exact h3
    | exact h4
    | rfl
theorem idxL_ro {sw : Bool} {x y : Nat} : ∀ b, b ∈ idxL sw x y → b.wr = false := fun b hb => by
  simp only [idxL, List.mem_cons, List.not_mem_nil, or_false] at hb
  rcases hb with rfl | rfl | rfl | rfl | rfl <;> rfl
theorem idx_last (sw : Bool) (r : RowD) : cond' (appV (valA (ky sw r)) (valA (kx sw r))) (appV (valA (kx sw r)) (valA (ky sw r))) sw = valA r.a ++ valA r.b := by
  rw [appV_eq, appV_eq]
  cases sw <;> rfl
theorem idx_rel {T : Tok} {w : World} (hgs : 2 ≤ w.heap.size) {sw : Bool} {r : RowD} (hr : RowOk r) {p : Nat} {root nv : Value} {box rowI : Img} (h : RoundAt w sw r p root nv box rowI) (h0 : T.val 0 = root) (hid : ∀ φ : Phi, @VRel T φ (.sym .u64 0) (.int .u64 (r.id : Int))) (hheld : ∀ b o, T.hold b = some o → w.heap[b]? = some o) :
    ∃ φ, @Rel T TZ φ (mkMem 2 0 .none (idxL sw (kx sw r) (ky sw r))) w ∧ φ 3 = some (p, 0, 2) ∧ φ 4 = some box ∧ φ 6 = some rowI := by
  obtain ⟨name, cols, prim, b1, b2, b3, b4⟩ := h.box
  obtain ⟨v, v1, v2⟩ := h.row
  have hIn : In (heapOf w) w := fun b o h => h
  obtain ⟨xc, hxc, vc⟩ := row_rel (T := T) (by decide) b2
  obtain ⟨xv, hxv, vv⟩ := row_rel (T := T) (by decide) v2
  let φ0 : Phi := phiOf 2 [(p, 0, 2), box, xc, rowI, xv]
  have hnv : nv.oneCell' = true := by
    obtain ⟨_, _, _, _, _, g, _⟩ := h.S
    exact g _ (by simp)
  refine ⟨φ0, ?_, rfl, rfl, rfl⟩
  refine mkRel tz_glob (by decide) hgs rfl (by show 2 + 1 + 5 ≤ 65536; decide) idxL_ro (fun z hz => ?_) (fun i b hb => ?_) hheld
  · simp only [List.mem_cons, List.not_mem_nil, or_false] at hz
    rcases hz with rfl | rfl | rfl | rfl | rfl
    · exact h.S.lt
    · exact b1.lt hIn
    · exact hxc.lt hIn
    · exact v1.lt hIn
    · exact hxv.lt hIn
  · match i, hb with
    | 0, hb =>
      simp only [idxL, List.getElem?_cons_zero, Option.some.injEq] at hb
      subst hb
      exact h.S.brel (show φ0 3 = some (p, 0, 2) from rfl) (@VsRel.cons T _ _ _ _ _ (by rw [← h0]; exact @VRel.opq T _ 0) (@VsRel.cons T _ _ _ _ _ (@VRel.any T _ _ hnv) (@VsRel.nil T _))) (fun v hv => by
        simp only [List.mem_cons, List.not_mem_nil, or_false] at hv
        rcases hv with rfl | rfl <;> rfl)
    | 1, hb =>
      simp only [idxL, List.getElem?_cons_succ, List.getElem?_cons_zero, Option.some.injEq] at hb
      subst hb
      exact brel_of hIn b1 (show φ0 4 = some box from rfl) (@VsRel.cons T _ _ _ _ _ (@VRel.any T _ _ b3) (@VsRel.cons T _ _ _ _ _ (vc φ0 5 rfl) (@VsRel.cons T _ _ _ _ _ (@VRel.bool T _ true) (@VsRel.cons T _ _ _ _ _ (@VRel.any T _ _ b4) (@VsRel.nil T _))))) fun v hv => by
        simp only [List.mem_cons, List.not_mem_nil, or_false] at hv
        rcases hv with rfl | rfl | rfl | rfl <;> rfl
    | 2, hb =>
      simp only [idxL, List.getElem?_cons_succ, List.getElem?_cons_zero, Option.some.injEq] at hb
      subst hb
      have hcv : @VsRel T φ0 (cond' [.int .i64 1, .int .i64 0] [.int .i64 0, .int .i64 1] sw) (colsV sw) := by
        cases sw
        · exact @VsRel.cons T _ _ _ _ _ (@VRel.int T _ .i64 0) (@VsRel.cons T _ _ _ _ _ (@VRel.int T _ .i64 1) (@VsRel.nil T _))
        · exact @VsRel.cons T _ _ _ _ _ (@VRel.int T _ .i64 1) (@VsRel.cons T _ _ _ _ _ (@VRel.int T _ .i64 0) (@VsRel.nil T _))
      exact brel_of hIn hxc (show φ0 5 = some xc from rfl) hcv fun v hv => by
        cases sw <;> (simp only [cond_if, Bool.false_eq_true, if_false, if_true, List.mem_cons, List.not_mem_nil, or_false] at hv; rcases hv with rfl | rfl <;> rfl)
    | 3, hb =>
      simp only [idxL, List.getElem?_cons_succ, List.getElem?_cons_zero, Option.some.injEq] at hb
      subst hb
      exact brel_of hIn v1 (show φ0 6 = some rowI from rfl) (@VsRel.cons T _ _ _ _ _ (hid _) (@VsRel.cons T _ _ _ _ _ (vv φ0 7 rfl) (@VsRel.nil T _))) fun v hv => by
        simp only [List.mem_cons, List.not_mem_nil, or_false] at hv
        rcases hv with rfl | rfl <;> rfl
    | 4, hb =>
      simp only [idxL, List.getElem?_cons_succ, List.getElem?_cons_zero, Option.some.injEq] at hb
      rw [idx_last] at hb
      subst hb
      refine brel_of hIn hxv (show φ0 7 = some xv from rfl) (vsrel_app (valA_rel hr.a) (valA_rel hr.b)) fun v hv => ?_
      rcases List.mem_append.1 hv with hv | hv
      · exact valA_cell hr.a v hv
      · exact valA_cell hr.b v hv
    | i + 5, hb => simp [idxL] at hb
end Go.AM

namespace Go.AM
open Go.Proofs

/- ### what a look for a row's key tells -/
theorem Lt.irr {a : List UInt8} (h : Lt a a) : False := by
  have h' : lexC a a = -1 := h
  rw [lexC_refl] at h'
  cases h'
theorem Lt.ne2 {a b : List UInt8} (h : Lt a b) (h' : Lt b a) : False := (h.trans h').irr
theorem next_unique {b : List UInt8} {l : List Ent} : ∀ {o o' : Option Ent}, IsNext b l o → IsNext b l o' → o = o'
  | none, none, _, _ => rfl
  | none, some x, h, h' => by
    obtain ⟨h1, h2, _⟩ := h'
    exact (Lt.ne2 h2 (h x h1)).elim
  | some x, none, h, h' => by
    obtain ⟨h1, h2, _⟩ := h
    exact (Lt.ne2 h2 (h' x h1)).elim
  | some x, some y, ⟨h1, h2, h3⟩, ⟨g1, g2, g3⟩ => by
    rcases h3 y g1 g2 with e | e
    · rw [e]
    · rcases g3 x h1 h2 with e' | e'
      · rw [e']
      · exact (Lt.ne2 e e').elim
/-- what the outcome of a look says of the pair -/
structure FndIs (g : Fnd) (e : Ent) : Prop where
  rel : ∀ (T : Tok) (φ : Phi), @VsRel T φ (fndA g) (bytesV e.kb)
  cell : ∀ x, x ∈ fndA g → x.isCell = true
  n : (fndA g).length = 18 ∨ (fndA g).length = 26
theorem bytes_one {bs : List UInt8} : ∀ v, v ∈ bytesV bs → v.oneCell' = true := fun v hv => bytesV_cell hv
theorem anyV_len : ∀ n : Nat, (anyV n).length = n
  | 0 => rfl
  | n + 1 => by show (anyV n).length + 1 = _; rw [anyV_len n]
theorem anyV_cell : ∀ {n : Nat} {x : AVal}, x ∈ anyV n → x.isCell = true
  | n + 1, x, h => by
    rcases List.mem_cons.1 h with rfl | h
    · rfl
    · exact anyV_cell h
theorem bytesA_cell {bs : List UInt8} {x : AVal} (h : x ∈ bytesA bs) : x.isCell = true := by
  obtain ⟨b, _, rfl⟩ := List.mem_map.1 h; rfl
theorem fnd_len {n : Nat} {e : Ent} (h : e.kb.length = n) (hn : n = 18 ∨ n = 26) : FndIs (.len n) e :=
  ⟨fun T φ => anyV_rel (by rw [bytesV_len]; exact h) bytes_one, fun x hx => anyV_cell hx, by show (anyV n).length = 18 ∨ (anyV n).length = 26; rw [anyV_len]; exact hn⟩
theorem keyF_rel {c : Nat} (h : c < 4) (d : Nat) (hd : d = 5 ∨ d = c) (T : Tok) (φ : Phi) : @VsRel T φ (keyF d) (bytesV (keyB c)) ∧ (∀ x, x ∈ keyF d → x.isCell = true) ∧ (keyF d).length = 9 := by
  have hl : (keyB c).length = 9 := by rw [keyB_lt h]; rfl
  rcases hd with rfl | rfl
  · exact ⟨anyV_rel (by rw [bytesV_len]; exact hl) bytes_one, fun x hx => anyV_cell hx, anyV_len 9⟩
  · have e : keyF d = bytesA (keyB d) := by
      rw [← keyA_eq (by omega)]
      unfold keyF
      rw [cond_if, if_neg]
      intro hb
      rw [beq_true] at hb; omega
    rw [e]
    exact ⟨bytesA_rel _, fun x hx => bytesA_cell hx, by rw [bytesA, List.length_map]; exact hl⟩
theorem fnd_kinds {a b c d id : Nat} {e : Ent} (ha : a < 4) (hb : b < 4) (hk : e.kb = keyB a ++ keyB b ++ idB id) (hc : c = 5 ∨ c = a) (hd : d = 5 ∨ d = b) : FndIs (.kinds c d) e := by
  obtain ⟨_, a2, a3⟩ := keyF_rel ha c hc tok0 (fun _ => none)
  obtain ⟨_, b2, b3⟩ := keyF_rel hb d hd tok0 (fun _ => none)
  have e1 : fndA (.kinds c d) = keyF c ++ (keyF d ++ anyV 8) := by
    show appV (keyF c) (appV (keyF d) (anyV 8)) = _
    rw [appV_eq, appV_eq]
  refine ⟨fun T φ => ?_, fun x hx => ?_, ?_⟩
  · rw [e1, hk, List.append_assoc, bytesV_app, bytesV_app]
    exact vsrel_app (keyF_rel ha c hc T φ).1 (vsrel_app (keyF_rel hb d hd T φ).1 (anyV_rel rfl bytes_one))
  · rw [e1] at hx
    rcases List.mem_append.1 hx with hx | hx
    · exact a2 x hx
    · rcases List.mem_append.1 hx with hx | hx
      · exact b2 x hx
      · exact anyV_cell hx
  · rw [e1, List.length_append, List.length_append, a3, b3, anyV_len]
    exact .inr rfl
theorem bytesV_inv {T : Tok} {φ : Phi} {g : Fnd} {e : Ent} (h : FndIs g e) : (fndA g).length = e.kb.length := by
  have := @VsRel.length T φ _ _ (h.rel T φ)
  rw [bytesV_len] at this
  exact this.symm
theorem xa_ok {T : Tok} {sg : Sigs} {x y : Nat} (hx : x ≤ 4) (hy : y ≤ 4) {g : Fnd} (htree : TreeIs T.hold (T.val 0) sg) (hI : TInv sg) (hN : (allOf sg).length ≤ 39) (hnew : ∀ e, e ∈ allOf sg → e.kb ≠ keyB x ++ keyB y)
    (hres : ∀ o, IsNext (keyB x ++ keyB y) (allOf sg) o → (fndB g = false → o = none) ∧ (fndB g = true → ∃ e, o = some e ∧ T.val 4 = e.k ∧ T.val 5 = e.v))
    (hfnd : g = .none ∨ ∃ e, FndIs g e ∧ EntRow T.hold e ∧ T.val 4 = e.k ∧ T.val 5 = e.v) : ∀ f k, XA x y g f = some k → @XSound T TZ f k.run := by
  intro f k h
  unfold XA at h
  split at h
  · cases h
    have hkb : keyB x ++ keyB y ≠ [] := by
      intro e
      have := congrArg List.length e
      rw [List.length_append, List.length_nil] at this
      have h2 : 0 < (keyB x).length := by unfold keyB; split <;> simp

      omega
    exact nextX_ok tz_bruns (by decide) hkb htree hI hN hnew (by rw [appV_eq, keyA_eq hx, keyA_eq hy, bytesA_app]) hres
  · cases h
    rcases hfnd with rfl | ⟨e, h1, h2, h3, h4⟩
    · exact cloneX_ok (vs := []) (vs5 := [.int .u8 0]) (fun h => absurd h (by decide)) (fun h => absurd h (by decide)) (fun u hu => by cases hu) (fun φ => @VsRel.nil T φ) (fun x hx => by cases hx) (fun h => absurd h (by decide)) (fun u hu => by
        rw [List.mem_singleton] at hu; subst hu; rfl)
    · obtain ⟨hk, vb, hvl, hv⟩ := h2
      have hlen := bytesV_inv (T := T) (φ := fun _ => none) h1
      refine cloneX_ok (vs := bytesV e.kb) (vs5 := bytesV vb) (fun _ => ?_) (fun _ => by rw [h3, hlen]; exact hk) bytes_one (fun φ => h1.rel T φ) h1.cell (fun _ => by rw [h4]; rw [hvl] at hv; exact hv) bytes_one
      rcases h1.n with hn | hn <;> rw [hn]
      · exact clone18
      · exact clone26
  · cases h
/-- a memory that is absorbed with the number's token and all values' -/
theorem symRel {T : Tok} (hst : T.strong = true) {ns : List Nat} {φ : Phi} {m : Mem} {w : World} {E : List Blk} (hr : @Rel T TZ φ m w) (h : absMem (symMap ns) 0 .none E m = true) :
    @Rel T TZ (absPhi (symMap ns) φ) (mkMem 2 0 .none E) w ∧ ∀ t s, absN (symMap ns) 4 t s = true → ∀ c, @VRel T φ s c → @VRel T (absPhi (symMap ns) φ) t c :=
  absorb (T := T) (T' := T) (σ := symMap ns) (g0 := 0) (b0 := .none) tz_glob.symm hr h (fun kk j c hj hc => by
    have hj' : j < 1 := hj
    have e : j = 0 := by omega
    subst e
    have hc' : @VRel T φ (.sym kk 0) c := hc
    cases hc' with
    | sym _ _ hj => exact @VRel.sym T _ kk 0 hj) (fun kk d s c hs _ => (aeq_bad hs).elim)
    (fun i s c hs hc => by
      have e := @aeqN_eq tok0 2 _ _ (show aeqN 2 s (.opq i) = true from hs)
      subst e
      cases hc; exact @VRel.opq T _ i) (fun _ _ h => h) (fun _ => ⟨hst, rfl⟩)
theorem idA_un {T : Tok} {φ : Phi} {id : Nat} (hnum : T.num 0 = (id : Int)) (h : id ≤ 127) {us : List Value} (hu : @VsRel T φ idA us) : us = bytesV (idB id) := by
  have h' : @VsRel T φ (bytesA [0, 0, 0, 0, 0, 0, 0] ++ [.sym .u8 0]) us := hu
  have hl : us.length = 8 := @VsRel.length T φ _ _ h'
  have h1 := vsrel_take (T := T) 7 h'
  have h2 := vals_bytes (T := T) (bs := [0, 0, 0, 0, 0, 0, 0]) h1
  obtain ⟨c, g1, g2⟩ := @VsRel.get T φ _ _ h' 7 (.sym .u8 0) rfl
  have g3 : c = .int .u8 (id : Int) := by
    cases g2 with
    | sym _ _ hj => rw [hnum]
  subst g3
  have e : us = us.take 7 ++ [.int .u8 (id : Int)] := by
    match us, hl, g1 with
    | [_, _, _, _, _, _, _, z], _, g1 =>
      simp only [List.getElem?_cons_succ, List.getElem?_cons_zero, Option.some.injEq] at g1
      subst g1; rfl
  rw [e, h2]
  have e2 : (UInt8.ofNat id).toNat = id := by simp; omega
  simp only [bytesV, idB, List.map_cons, List.map_nil, List.cons_append, List.nil_append, e2]
theorem full_un {T : Tok} {φ : Phi} {sw : Bool} {r : RowD} (hr : RowOk r) (hnum : T.num 0 = (r.id : Int)) {us : List Value} (hu : @VsRel T φ (appV (keyA (kx sw r)) (appV (keyA (ky sw r)) idA)) us) : us = bytesV (fullK sw r) := by
  obtain ⟨a1, a2, _⟩ := hr.x sw
  rw [appV_eq, appV_eq, keyA_eq a1, keyA_eq a2, ← List.append_assoc, ← bytesA_app] at hu
  have hlen : (bytesA (keyB (kx sw r) ++ keyB (ky sw r))).length = (keyB (kx sw r) ++ keyB (ky sw r)).length := List.length_map _
  have h1 := vsrel_take (T := T) (keyB (kx sw r) ++ keyB (ky sw r)).length hu
  rw [← hlen, List.take_left] at h1
  have h2 := vals_bytes h1
  have hd : ∀ (l l' : List AVal) (vs : List Value), @VsRel T φ (l ++ l') vs → @VsRel T φ l' (vs.drop l.length) := by
    intro l
    induction l with
    | nil => intro l' vs h; exact h
    | cons x l ih =>
      intro l' vs h
      cases h with
      | cons h1 h2 => exact ih l' _ h2
  have h3 := idA_un hnum hr.hi (hd _ _ _ hu)
  have e := List.take_append_drop (bytesA (keyB (kx sw r) ++ keyB (ky sw r))).length us
  rw [h2, h3] at e
  rw [← e]
  unfold fullK preK
  rw [bytesV_app (keyB (kx sw r) ++ keyB (ky sw r))]
end Go.AM

namespace Go.AM
open Go.Proofs

/- ### what a round's look finds -/
structure TreeInv (sw : Bool) (prev : List RowD) (H : Heap) (root : Value) (sg : Sigs) : Prop where
  tree : TreeIs H root sg
  inv : TInv sg
  len : (allOf sg).length = prev.length
  row : ∀ e, e ∈ allOf sg → EntRow H e ∧ ∃ s, s ∈ prev ∧ e.kb = fullK sw s
  all : ∀ s, s ∈ prev → ∃ e, e ∈ allOf sg ∧ e.kb = fullK sw s
theorem next_ex {b : List UInt8} : ∀ {l : List Ent}, Sorted l → (∀ e, e ∈ l → e.kb ≠ b) → ∃ o, IsNext b l o
  | [], _, _ => ⟨none, fun x hx => by cases hx⟩
  | a :: l, hs, hne => by
    obtain ⟨h1, h2⟩ := List.pairwise_cons.1 hs
    rcases Lt.tri a.kb b with h | h | h
    · obtain ⟨o, ho⟩ := next_ex h2 fun e he => hne e (List.mem_cons_of_mem _ he)
      refine ⟨o, ?_⟩
      cases o with
      | none =>
        intro x hx
        rcases List.mem_cons.1 hx with rfl | hx
        · exact h
        · exact ho x hx
      | some x =>
        obtain ⟨g1, g2, g3⟩ := ho
        refine ⟨List.mem_cons_of_mem _ g1, g2, fun y hy hb => ?_⟩
        rcases List.mem_cons.1 hy with rfl | hy
        · exact (Lt.ne2 h hb).elim
        · exact g3 y hy hb
    · exact absurd h (hne a (List.mem_cons_self ..))
    · refine ⟨some a, List.mem_cons_self .., h, fun y hy _ => ?_⟩
      rcases List.mem_cons.1 hy with rfl | hy
      · exact .inl rfl
      · exact .inr (h1 y hy)
theorem same_k {sw : Bool} {r s : RowD} : Same r s ↔ kx sw r < 4 ∧ ky sw r < 4 ∧ kx sw r = kx sw s ∧ ky sw r = ky sw s := by
  unfold Same kx ky
  cases sw
  · exact Iff.rfl
  · exact ⟨fun ⟨a, b, c, d⟩ => ⟨b, a, d, c⟩, fun ⟨a, b, c, d⟩ => ⟨b, a, d, c⟩⟩
theorem irow_null {sw : Bool} {x y : Nat} (hx : x ≤ 4) (hy : y ≤ 4) (h : ¬ (x = 4 ∧ y = 4)) (hn : x = 4 ∨ y = 4) : iOk sw x y .none = true ∧ iOk sw x y (.len 18) = true ∧ iOk sw x y (.len 26) = true := by
  have hr := irow_all sw x y hx hy h
  unfold iRow at hr
  rw [cond_if, if_pos (by
    rw [Bool.or_eq_true, beq_true, beq_true]; exact hn)] at hr
  simp only [Bool.and_eq_true] at hr
  exact hr
theorem irow_full {sw : Bool} {x y : Nat} (hx : x < 4) (hy : y < 4) : iOk sw x y .none = true ∧ iOk sw x y (.len 18) = true ∧ (∀ j, j < 4 → j ≠ x → iOk sw x y (.kinds j 5) = true) ∧ (∀ j, j < 4 → j ≠ y → iOk sw x y (.kinds x j) = true) ∧ iErr sw x y = true := by
  have hr := irow_all sw x y (by omega) (by omega) (by omega)
  unfold iRow at hr
  rw [cond_if, if_neg (by
    rw [Bool.or_eq_true, beq_true, beq_true]; omega)] at hr
  simp only [Bool.and_eq_true] at hr
  obtain ⟨⟨h1, h2⟩, ⟨h3, h4⟩, h5⟩ := hr
  refine ⟨h1, h2, fun j hj hne => ?_, fun j hj hne => ?_, h5⟩
  · have := allLt_ok h3 j hj
    rw [Bool.or_eq_true, beq_true] at this
    exact this.resolve_left hne
  · have := allLt_ok h4 j hj
    rw [Bool.or_eq_true, beq_true] at this
    exact this.resolve_left hne
/-- what is found, and what the round then does -/
structure LookIs (sw : Bool) (prev : List RowD) (r : RowD) (sg : Sigs) (g : Fnd) (o : Option Ent) : Prop where
  next : ∀ o', IsNext (preK sw r) (allOf sg) o' → o' = o
  fnd : g = .none ∧ o = none ∨ ∃ e, o = some e ∧ e ∈ allOf sg ∧ FndIs g e ∧ fndB g = true
  run : iOk sw (kx sw r) (ky sw r) g = true ∧ (∀ s, s ∈ prev → ¬ Same s r) ∨ g = .kinds (kx sw r) (ky sw r) ∧ iErr sw (kx sw r) (ky sw r) = true ∧ ∃ s, s ∈ prev ∧ Same s r
theorem look_cases {sw : Bool} {prev : List RowD} {r : RowD} (hr : RowOk r) (hp : ∀ s, s ∈ prev → RowOk s) {H : Heap} {root : Value} {sg : Sigs} (hT : TreeInv sw prev H root sg) : ∃ g o, LookIs sw prev r sg g o := by
  have hne : ∀ e, e ∈ allOf sg → e.kb ≠ preK sw r := fun e he => by
    obtain ⟨_, s, hs, hk⟩ := hT.row e he
    rw [hk]; exact pre_ne_full hr (hp s hs)
  obtain ⟨o, ho⟩ := next_ex hT.inv.sorted hne
  obtain ⟨x4, y4, xy⟩ := hr.x sw
  have same : ∀ s, s ∈ prev → Same s r → kx sw r < 4 ∧ ky sw r < 4 ∧ ∃ e t, o = some e ∧ e.kb = preK sw r ++ t := by
    intro s hs hS
    obtain ⟨h1, h2, h3, h4⟩ := (same_k (sw := sw)).1 hS
    refine ⟨by omega, by omega, ?_⟩
    obtain ⟨e0, he0, hk0⟩ := hT.all s hs
    have hpre : e0.kb = preK sw r ++ idB s.id := by
      rw [hk0]; unfold fullK preK; rw [h3, h4]
    have hlt : Lt (preK sw r) e0.kb := by rw [hpre]; exact lt_app (by simp [idB])
    cases o with
    | none => exact (Lt.ne2 hlt (ho e0 he0)).elim
    | some e =>
      obtain ⟨g1, g2, g3⟩ := ho
      obtain ⟨t, ht⟩ := lt_pre (s := idB s.id) g2 (by
        rcases g3 e0 he0 hlt with e' | e'
        · exact .inl (by rw [← e', hpre])
        · exact .inr (by rw [← hpre]; exact e'))
      exact ⟨e, t, rfl, ht⟩
  cases o with
  | none =>
    have no : ∀ s, s ∈ prev → ¬ Same s r := fun s hs hS => by
      obtain ⟨_, _, e, t, h, _⟩ := same s hs hS
      cases h
    refine ⟨.none, none, fun o' h => next_unique h ho, .inl ⟨rfl, rfl⟩, .inl ⟨?_, no⟩⟩
    by_cases hn : kx sw r = 4 ∨ ky sw r = 4
    · exact (irow_null x4 y4 xy hn).1
    · exact (irow_full (by omega) (by omega)).1
  | some e =>
    have hmem := ho.1
    obtain ⟨_, s, hs, hk⟩ := hT.row e hmem
    have hsok := hp s hs
    obtain ⟨sx4, sy4, sxy⟩ := hsok.x sw
    have hlen := full_len (sw := sw) hsok
    rw [← hk] at hlen
    have kinds : ∀ s', s' ∈ prev → Same s' r → kx sw r < 4 ∧ ky sw r < 4 ∧ kx sw s = kx sw r ∧ ky sw s = ky sw r := fun s' hs' hS => by
      obtain ⟨q1, q2, e', t, h1, h2⟩ := same s' hs' hS
      cases h1
      rw [hk] at h2
      unfold fullK preK at h2
      rw [List.append_assoc, List.append_assoc] at h2
      obtain ⟨k1, k2⟩ := keyB_pre sx4 x4 h2
      obtain ⟨k3, _⟩ := keyB_pre sy4 y4 k2
      exact ⟨q1, q2, k1, k3⟩
    by_cases hn : kx sw r = 4 ∨ ky sw r = 4
    · obtain ⟨_, r18, r26⟩ := irow_null (sw := sw) x4 y4 xy hn
      have no : ∀ s', s' ∈ prev → ¬ Same s' r := fun s' hs' hS => by
        obtain ⟨q1, q2, _⟩ := kinds s' hs' hS
        omega
      by_cases h18 : kx sw s = 4 ∨ ky sw s = 4
      · rw [if_pos h18] at hlen
        exact ⟨.len 18, some e, fun o' h => next_unique h ho, .inr ⟨e, rfl, hmem, fnd_len hlen (.inl rfl), rfl⟩, .inl ⟨r18, no⟩⟩
      · rw [if_neg h18] at hlen
        exact ⟨.len 26, some e, fun o' h => next_unique h ho, .inr ⟨e, rfl, hmem, fnd_len hlen (.inr rfl), rfl⟩, .inl ⟨r26, no⟩⟩
    · obtain ⟨_, r18, rx, ry, re⟩ := irow_full (sw := sw) (x := kx sw r) (y := ky sw r) (by omega) (by omega)
      by_cases h18 : kx sw s = 4 ∨ ky sw s = 4
      · rw [if_pos h18] at hlen
        exact ⟨.len 18, some e, fun o' h => next_unique h ho, .inr ⟨e, rfl, hmem, fnd_len hlen (.inl rfl), rfl⟩, .inl ⟨r18, fun s' hs' hS => by
          obtain ⟨q1, q2, q3, q4⟩ := kinds s' hs' hS
          omega⟩⟩
      · have hkb : e.kb = keyB (kx sw s) ++ keyB (ky sw s) ++ idB s.id := hk
        have a1 : kx sw s < 4 := by omega
        have a2 : ky sw s < 4 := by omega
        by_cases ex : kx sw s = kx sw r
        · by_cases ey : ky sw s = ky sw r
          · rw [ex, ey] at hkb
            exact ⟨.kinds (kx sw r) (ky sw r), some e, fun o' h => next_unique h ho, .inr ⟨e, rfl, hmem, fnd_kinds (by omega) (by omega) hkb (.inr rfl) (.inr rfl), rfl⟩, .inr ⟨rfl, re, s, hs, (same_k (sw := sw)).2 ⟨a1, a2, ex, ey⟩⟩⟩
          · rw [ex] at hkb
            exact ⟨.kinds (kx sw r) (ky sw s), some e, fun o' h => next_unique h ho, .inr ⟨e, rfl, hmem, fnd_kinds (by omega) a2 hkb (.inr rfl) (.inr rfl), rfl⟩, .inl ⟨ry _ a2 ey, fun s' hs' hS => by
              obtain ⟨q1, q2, q3, q4⟩ := kinds s' hs' hS
              omega⟩⟩
        · exact ⟨.kinds (kx sw s) 5, some e, fun o' h => next_unique h ho, .inr ⟨e, rfl, hmem, fnd_kinds a1 a2 hkb (.inr rfl) (.inl rfl), rfl⟩, .inl ⟨rx _ a1 ex, fun s' hs' hS => by
            obtain ⟨q1, q2, q3, q4⟩ := kinds s' hs' hS
            omega⟩⟩
end Go.AM

namespace Go.AM
open Go.Proofs

/- ### one round of indexed -/
def errA : List AVal := [.str [107, 101, 121], .iface 101 (.int .i64 5)]
theorem errA_any {T T' : Tok} {φ φ' : Phi} {vs : List Value} (h : @VsRel T φ errA vs) : @VsRel T' φ' errA vs := by
  cases h with
  | cons h1 h2 =>
  cases h2 with
  | cons h3 h4 =>
  cases h4
  cases h1 with
  | str _ t ht =>
  cases h3 with
  | iface _ _ c hc =>
  cases hc
  exact @VsRel.cons T' φ' _ _ _ _ (@VRel.str T' φ' _ t ht) (@VsRel.cons T' φ' _ _ _ _ (@VRel.iface T' φ' 101 _ _ (@VRel.int T' φ' .i64 5)) (@VsRel.nil T' φ'))
theorem len53 : (O53_4.toList.drop 1).length = 3 := by kernel_rfl
theorem left_in {H : Heap} {w w' : World} (hH : In H w) (hl : Left' w w') : In H w' := fun b o h => by
  rw [hl.1 b (@lt_of_some tok0 w b _ (hH b o h))]; exact hH b o h
theorem StructAt.left {w w' : World} {p : Nat} {vs : List Value} (h : StructAt w p vs) (hl : Left' w w') : StructAt w' p vs := by
  obtain ⟨c, el, fz, h1, h2⟩ := h
  exact ⟨c, el, fz, by rw [hl.1 p (@lt_of_some tok0 w p _ h1)]; exact h1, h2⟩
theorem ptr_is {T : Tok} {φ : Phi} {q : Nat} {c : Value} {x : Img} (h : @VRel T φ (.ptr q 0) c) (hφ : φ q = some x) : c = ptrV x := by
  cases h with
  | ptr _ _ cb co sz h1 =>
    rw [hφ] at h1
    cases h1
    rfl
theorem opq_is {T : Tok} {φ : Phi} {j : Nat} {c : Value} (h : @VRel T φ (.opq j) c) : c = T.val j := by
  cases h; rfl
theorem tells_sym {T : Tok} {ns : List Nat} {φ φ' : Phi} {m m' : Mem} {w w' : World} {E : List Blk} (hst : @Step T TZ φ m w φ' m' w') (hro : ∀ q, q < m.next → (m.get q).wr = false) (hf : freshNs m.next ns = true) (h : absMem (symMap ns) 0 .none E m' = true) :
    Tells (absPhi (symMap ns) φ') (mkMem 2 0 .none E) (upd noH w w') w' := by
  intro p x hp hl
  unfold absPhi at hp
  split at hp
  · rename_i hlt
    obtain ⟨h1, h2⟩ := absMem_live (@Rel.bound T TZ _ _ _ (@Step.rel T TZ _ _ _ _ _ _ hst)) h rfl hlt hl
    unfold upd
    split
    · rename_i hx
      have hpG : 2 < p := by
        rcases Nat.lt_or_ge 2 p with hg | hg
        · exact hg
        · exfalso
          have hb : (symMap ns).top ≤ 65536 := by
            unfold absMem at h
            simp only [Bool.and_eq_true, ble_true] at h
            exact h.1.1.2
          have hlen : E.length = ns.length := by
            unfold absMem at h
            simp only [Bool.and_eq_true, ble_true] at h
            exact (chkL_ok h.2.2).1
          rw [top_eq] at hb
          have hb' : 2 + 1 + ns.length ≤ 65536 := hb
          rw [mkMem_get (by decide) (by rw [hlen]; exact hb') (by omega), if_neg (by omega)] at hl
          split at hl <;> cases hl
      have hq : m.next ≤ (symMap ns).nm p := by
        rw [nm_high (show (symMap ns).G < p from hpG)]
        rw [top_eq] at hlt
        have hlt' : p < 2 + 1 + ns.length := hlt
        have h4 : p - (2 + 1) < ns.length := by omega
        show m.next ≤ (ns[p - (2 + 1)]?).getD 0
        rw [List.getElem?_eq_getElem h4]
        exact freshNs_ok hf _ (List.getElem_mem h4)
      obtain ⟨q, o', s', g1, g2, _⟩ := @Step.img T TZ _ _ _ _ _ _ hst _ x.1 x.2.1 x.2.2 hq h1 h2 hp hx
      rw [hro q g1] at g2; cases g2
    · rfl
  · cases hp
attribute [local irreducible] O53_4 O53_13 C53 in
/-- the row's address and the rest of the region -/
theorem round_a {T : Tok} {K : KH} (hK : @KSound T TZ K) {m0 m1 : Mem} {v1 : List AVal} (hq : opsRun TZ 86 K O53_4 (O53_4.toList.drop 1) idxR0 [2, 6, 8, 18, 19, 20] m0 = .ok (.tuple v1) m1) {φ0 : Phi} {w : World} (hrel : @Rel T TZ φ0 m0 w)
    {p : Nat} {box : Img} {rb ro rs n cap i : Nat} (hi : i < n) (f3 : φ0 3 = some (p, 0, 2)) (f4 : φ0 4 = some box) (f6 : φ0 6 = some (rb, ro + i * 2, rs)) {a : Act} (ha : ActIs 86 a) (g2 : a.tmps.getD 2 undef = ptrV box) (g6 : a.tmps.getD 6 undef = .pointer (some ⟨p, 0, none⟩))
    (g18 : a.tmps.getD 18 undef = .slice (some ⟨rb, ro, none⟩) n cap) (g19 : a.tmps.getD 19 undef = .int .i64 (n : Int)) (g20 : a.tmps.getD 20 undef = .int .i64 (i : Int)) (t1 : T.val 1 = .slice (some ⟨rb, ro, none⟩) n cap) (t2 : T.val 2 = .int .i64 (n : Int)) (t3 : T.val 3 = .int .i64 (i : Int)) {Q : Exit → Act → World → Prop}
    (hn : ∀ φ1 a1 w1, @Step T TZ φ0 m0 w φ1 m1 w1 → ActIs 86 a1 → @VsRel T φ1 v1 (valsT [2, 6, 8, 18, 19, 20] a1) → (seqsC C53 (.region 13 O53_13 true)).wp TZ Q a1 w1) : BD53.wp TZ Q a w := by
  rw [bd53_is]
  refine wp_seq (wp_region ?_)
  rw [z53_4]
  have hrange : List.range 4 = 0 :: (List.range' 1 (O53_4.toList.drop 1).length ++ []) := by rw [len53]; rfl
  rw [hrange]
  have hix : ∀ o : Oper, o.op = .indexAddr 67 (.tmp 18) (.tmp 20) → (execOp a.eval o).run TZ w = .ok (.value (.pointer (some ((⟨rb, ro, none⟩ : Addr).add (i * 2))))) w := by
    intro o ho
    exact run_ix2 tz_u67 tz_s69 ho hi g18 g20
  refine wpOps_val o53_40 hix ?_
  have ha1 := put_is ha (some 22) (.pointer (some ((⟨rb, ro, none⟩ : Addr).add (i * 2))))
  have e22 := get_same ha (by decide : 22 < 86) (.pointer (some ((⟨rb, ro, none⟩ : Addr).add (i * 2))))
  have oth : ∀ t, t ≠ 22 → (a.put (some 22) (.pointer (some ((⟨rb, ro, none⟩ : Addr).add (i * 2))))).tmps.getD t undef = a.tmps.getD t undef := fun t ht => get_other ha (by decide : 22 < 86) _ ht
  generalize a.put (some 22) (.pointer (some ((⟨rb, ro, none⟩ : Addr).add (i * 2)))) = a1 at ha1 e22 oth
  refine @ops_piece TZ T K hK 86 O53_4 _ 1 (O53_4.toList.drop 1) [] List.take_length g53_4 _ _ _ _ _ hq φ0 w a1 hrel ha1 (by decide) (fun q hq => ?_) (fun φ1 a2 w1 hst ha2 hv => ?_)
  rotate_left
  · have h := hn φ1 a2 w1 hst ha2 hv
    unfold wpOps
    exact h
  simp only [idxR0, List.mem_cons, List.not_mem_nil, or_false] at hq
  rcases hq with rfl | rfl | rfl | rfl | rfl | rfl
  · refine ⟨(by decide : 2 < 4096), ?_⟩
    show @VRel T φ0 (.ptr 4 0) (a1.tmps.getD 2 undef)
    rw [oth 2 (by decide), g2]; exact @VRel.ptr T φ0 4 0 box.1 box.2.1 box.2.2 f4
  · refine ⟨(by decide : 6 < 4096), ?_⟩
    show @VRel T φ0 (.ptr 3 0) (a1.tmps.getD 6 undef)
    rw [oth 6 (by decide), g6]; exact @VRel.ptr T φ0 3 0 p 0 2 f3
  · refine ⟨(by decide : 22 < 4096), ?_⟩
    show @VRel T φ0 (.ptr 6 0) (a1.tmps.getD 22 undef)
    rw [e22]
    have e : ∀ o k : Nat, ({ block := rb, off := o } : Addr).add k = ⟨rb, o + k, none⟩ := fun o k => by
      unfold Addr.add
      split
      · rename_i h; subst h; rfl
      · rfl
    rw [e]
    exact @VRel.ptr T φ0 6 0 rb (ro + i * 2) rs f6
  · refine ⟨(by decide : 18 < 4096), ?_⟩
    show @VRel T φ0 (.opq 1) (a1.tmps.getD 18 undef)
    rw [oth 18 (by decide), g18, ← t1]; exact @VRel.opq T φ0 1
  · refine ⟨(by decide : 19 < 4096), ?_⟩
    show @VRel T φ0 (.opq 2) (a1.tmps.getD 19 undef)
    rw [oth 19 (by decide), g19, ← t2]; exact @VRel.opq T φ0 2
  · refine ⟨(by decide : 20 < 4096), ?_⟩
    show @VRel T φ0 (.opq 3) (a1.tmps.getD 20 undef)
    rw [oth 20 (by decide), g20, ← t3]; exact @VRel.opq T φ0 3
theorem keyfull_len {sw : Bool} {r : RowD} (hr : RowOk r) : lenL (appV (keyA (kx sw r)) (appV (keyA (ky sw r)) idA)) = (fullK sw r).length := by
  obtain ⟨a1, a2, _⟩ := hr.x sw
  rw [lenL_eq, appV_eq, appV_eq, keyA_eq a1, keyA_eq a2]
  unfold fullK preK bytesA
  simp only [List.length_append, List.length_map]
  have e1 : idA.length = 8 := rfl
  have e2 : (idB r.id).length = 8 := rfl
  omega
end Go.AM

namespace Go.AM
open Go.Proofs

theorem idxL_mem_ro {sw : Bool} {x y : Nat} : ∀ q, q < (mkMem 2 0 .none (idxL sw x y)).next → ((mkMem 2 0 .none (idxL sw x y)).get q).wr = false :=
  mkMem_ro (by decide) (by show 2 + 1 + 5 ≤ 65536; decide) rfl idxL_ro
theorem vals8 {T : Tok} {φ : Phi} {a : Act} {x2 x6 x18 x19 x20 x74 x79 x82 : AVal} (h : @VsRel T φ [x2, x6, x18, x19, x20, x74, x79, x82] (valsT [2, 6, 18, 19, 20, 74, 79, 82] a)) :
    @VRel T φ x2 (a.tmps.getD 2 undef) ∧ @VRel T φ x6 (a.tmps.getD 6 undef) ∧ @VRel T φ x18 (a.tmps.getD 18 undef) ∧ @VRel T φ x19 (a.tmps.getD 19 undef) ∧ @VRel T φ x20 (a.tmps.getD 20 undef) ∧ @VRel T φ x74 (a.tmps.getD 74 undef) ∧ @VRel T φ x79 (a.tmps.getD 79 undef) ∧ @VRel T φ x82 (a.tmps.getD 82 undef) := by
  cases h with
  | cons h1 h =>
  cases h with
  | cons h2 h =>
  cases h with
  | cons h3 h =>
  cases h with
  | cons h4 h =>
  cases h with
  | cons h5 h =>
  cases h with
  | cons h6 h =>
  cases h with
  | cons h7 h =>
  cases h with
  | cons h8 h =>
  exact ⟨h1, h2, h3, h4, h5, h6, h7, h8⟩
theorem put_inv {sw : Bool} {prev : List RowD} {r : RowD} {H H' : Heap} {root root' : Value} {sg sg' : Sigs} (hT : TreeInv sw prev H root sg) (hH : ∀ b o, H b = some o → H' b = some o) {e : Ent} (h1 : TreeIs H' root' sg') (h2 : TInv sg') (h3 : e.kb = fullK sw r) (h4 : EntRow H' e)
    (h5 : ∀ x, x ∈ allOf sg' ↔ x = e ∨ x ∈ allOf sg) (h6 : (allOf sg').length = (allOf sg).length + 1) : TreeInv sw (prev ++ [r]) H' root' sg' where
  tree := h1
  inv := h2
  len := by rw [h6, hT.len, List.length_append]; rfl
  row x hx := by
    rcases (h5 x).1 hx with rfl | hx
    · exact ⟨h4, r, by simp, h3⟩
    · obtain ⟨q1, s, q2, q3⟩ := hT.row x hx
      exact ⟨q1.mono hH, s, by simp [q2], q3⟩
  all s hs := by
    rcases List.mem_append.1 hs with hs | hs
    · obtain ⟨x, q1, q2⟩ := hT.all s hs
      exact ⟨x, (h5 x).2 (.inr q1), q2⟩
    · rw [List.mem_singleton] at hs
      subst hs
      exact ⟨e, (h5 e).2 (.inl rfl), h3⟩
theorem idx_round {w : World} (hgs : 2 ≤ w.heap.size) {sw : Bool} {prev : List RowD} {r : RowD} (hr : RowOk r) (hp : ∀ s, s ∈ prev → RowOk s ∧ s.id ≠ r.id) (hn : prev.length ≤ 39) {H : Heap} (hH : In H w) {p : Nat} (hpn : H p = none) {root : Value} {sg : Sigs} (hT : TreeInv sw prev H root sg)
    {box : Img} {rb ro rs n cap i : Nat} (hi : i < n) (hR : RoundAt w sw r p root (.int .i64 (prev.length : Int)) box (rb, ro + i * 2, rs)) {a : Act} (ha : ActIs 86 a) (g2 : a.tmps.getD 2 undef = ptrV box) (g6 : a.tmps.getD 6 undef = .pointer (some ⟨p, 0, none⟩))
    (g18 : a.tmps.getD 18 undef = .slice (some ⟨rb, ro, none⟩) n cap) (g19 : a.tmps.getD 19 undef = .int .i64 (n : Int)) (g20 : a.tmps.getD 20 undef = .int .i64 (i : Int)) {Q : Exit → Act → World → Prop}
    (hgo : ∀ a' w' root' sg' H', ActIs 86 a' → a'.tmps.getD 2 undef = ptrV box → a'.tmps.getD 6 undef = .pointer (some ⟨p, 0, none⟩) → a'.tmps.getD 18 undef = .slice (some ⟨rb, ro, none⟩) n cap → a'.tmps.getD 19 undef = .int .i64 (n : Int) → a'.tmps.getD 20 undef = .int .i64 (i : Int) →
      LeftX p w w' → In H' w' → H' p = none → (∀ b o, H b = some o → H' b = some o) → StructAt w' p [root', .int .i64 ((prev.length + 1 : Nat) : Int)] → TreeInv sw (prev ++ [r]) H' root' sg' → (∀ s, s ∈ prev → ¬ Same s r) → Q .normal a' w')
    (hdup : ∀ a' w' x vs, ActIs 86 a' → Left' w w' → a'.tmps.getD 4 undef = .pointer none → a'.tmps.getD 5 undef = .iface 118 (ptrV x) → CellsAt (upd noH w w') x vs → (∀ T φ, @VsRel T φ errA vs) → (∃ s, s ∈ prev ∧ Same s r) → Q .ret a' w') : BD53.wp TZ Q a w := by
  obtain ⟨x4, y4, xy⟩ := hr.x sw
  obtain ⟨g, o, hl⟩ := look_cases hr (fun s hs => (hp s hs).1) hT
  have hroot : root.oneCell' = true := by
    obtain ⟨_, _, _, _, _, h, _⟩ := hR.S
    exact h _ (by simp)
  have hne : ∀ e, e ∈ allOf sg → e.kb ≠ keyB (kx sw r) ++ keyB (ky sw r) := fun e he => by
    obtain ⟨_, s, hs, hk⟩ := hT.row e he
    rw [hk]; exact pre_ne_full hr (hp s hs).1
  let kv : Value := (o.map Ent.k).getD nilS
  let vv : Value := (o.map Ent.v).getD nilS
  have hcell : kv.oneCell' = true ∧ vv.oneCell' = true := by
    rcases hl.fnd with ⟨_, rfl⟩ | ⟨e, rfl, he, _⟩
    · exact ⟨rfl, rfl⟩
    · obtain ⟨⟨q1, vb, _, q2⟩, _⟩ := hT.row e he
      exact ⟨(bytes_of_row q1).cell, (bytes_of_row q2).cell⟩
  let T : Tok := tokR H r.id hr.pos hr.hi (roundVals root (.slice (some ⟨rb, ro, none⟩) n cap) n i kv vv) (roundVals_cell hroot rfl hcell.1 hcell.2)
  have hres : ∀ o', IsNext (keyB (kx sw r) ++ keyB (ky sw r)) (allOf sg) o' → (fndB g = false → o' = none) ∧ (fndB g = true → ∃ e, o' = some e ∧ T.val 4 = e.k ∧ T.val 5 = e.v) := fun o' ho' => by
    have e := hl.next o' ho'
    subst e
    rcases hl.fnd with ⟨rfl, rfl⟩ | ⟨e, rfl, he, _, hb⟩
    · exact ⟨fun _ => rfl, fun h => by cases h⟩
    · refine ⟨fun h => ?_, fun _ => ⟨e, rfl, rfl, rfl⟩⟩
      rw [hb] at h; cases h
  have hfnd : g = .none ∨ ∃ e, FndIs g e ∧ EntRow T.hold e ∧ T.val 4 = e.k ∧ T.val 5 = e.v := by
    rcases hl.fnd with ⟨rfl, _⟩ | ⟨e, rfl, he, h1, _⟩
    · exact .inl rfl
    · exact .inr ⟨e, h1, (hT.row e he).1, rfl, rfl⟩
  have hK : @KSound T TZ (KA (kx sw r) (ky sw r) g) := callX_ok tz_mixed tz_gprog tz_ext (xa_ok (T := T) x4 y4 (sg := sg) hT.tree hT.inv (by rw [hT.len]; omega) hne hres hfnd) 60
  have hD : @DrawOk T TZ (KA (kx sw r) (ky sw r) g) := @draw_ok T TZ tz_mixed _ hK
  obtain ⟨φ0, hrel, f3, f4, f6⟩ := idx_rel (T := T) hgs hr hR rfl (fun φ => @VRel.sym T φ .u64 0 (show 0 < 1 by decide)) hH
  rcases hl.run with ⟨hrun, hno⟩ | ⟨rfl, hrun, hsame⟩
  · unfold iOk idxOk at hrun
    split at hrun
    rotate_left
    · cases hrun
    rename_i v1 m1 hq1
    split at hrun
    rotate_left
    · cases hrun
    rename_i v2 m2 hq2
    split at hrun
    rotate_left
    · cases hrun
    rename_i v3 m3 hq3
    refine round_a hK hq1 hrel hi f3 f4 f6 ha g2 g6 g18 g19 g20 rfl rfl rfl fun φ1 a1 w1 hst1 ha1 hv1 => ?_
    refine @piece_ok TZ T _ hK hD 86 C53 g53 _ _ _ _ _ _ hq2 φ1 w1 a1 _ _ (@Step.rel T TZ _ _ _ _ _ _ hst1) ha1 (by decide) (@vals_pick T φ1 a1 _ _ (by decide) hv1) (fun _ φ2 a2 w2 hst2 ha2 hv2 => ?_) (fun i h => by cases h) (fun h => by cases h)
    refine region_cut tz_mixed hK c53 pre53 g53_13 hq3 (@Step.rel T TZ _ _ _ _ _ _ hst2) ha2 (by decide) (@vals_pick T φ2 a2 _ _ (by decide) hv2) fun φ3 a3 w3 hst3 ha3 hv3 => ?_
    have hst := @Step.trans T TZ _ _ _ _ _ _ _ _ _ (@Step.trans T TZ _ _ _ _ _ _ _ _ _ hst1 hst2) hst3
    have hleft := Left'.of hst idxL_mem_ro
    have hsz : O53_13.size - 9 = 1 := by rw [z53_13]
    show wpAny TZ .any O53_13 _ (O53_13.size - 9) L53 a3 w3
    rw [hsz]
    unfold idxEnd at hrun
    split at hrun
    rotate_left
    · cases hrun
    rename_i x2 x6 x18 x19 x20 x74 x79 x82
    simp only [Bool.and_eq_true] at hrun
    obtain ⟨⟨⟨e2, e6⟩, e18, e19, e20⟩, e74, ⟨e79, e82⟩, habs⟩ := hrun
    have e2' := @aeqN_eq tok0 2 _ _ e2
    have e6' := @aeqN_eq tok0 2 _ _ e6
    have e18' := @aeqN_eq tok0 2 _ _ e18
    have e19' := @aeqN_eq tok0 2 _ _ e19
    have e20' := @aeqN_eq tok0 2 _ _ e20
    have e74' := @aeqN_eq tok0 2 _ _ e74
    subst e2'
    subst e6'
    subst e18'
    subst e19'
    subst e20'
    subst e74'
    obtain ⟨v2', v6', v18', v19', v20', v74', v79', v82'⟩ := vals8 hv3
    have ext : ∀ q x, φ0 q = some x → φ3 q = some x := @Step.ext T TZ _ _ _ _ _ _ hst
    have h2 : a3.tmps.getD 2 undef = ptrV box := ptr_is v2' (ext _ _ f4)
    have h6 : a3.tmps.getD 6 undef = .pointer (some ⟨p, 0, none⟩) := ptr_is v6' (ext _ _ f3)
    have h74 : a3.tmps.getD 74 undef = .pointer (some ⟨p, 0, none⟩) := ptr_is v74' (ext _ _ f3)
    have h18 : a3.tmps.getD 18 undef = .slice (some ⟨rb, ro, none⟩) n cap := opq_is v18'
    have h19 : a3.tmps.getD 19 undef = .int .i64 (n : Int) := opq_is v19'
    have h20 : a3.tmps.getD 20 undef = .int .i64 (i : Int) := opq_is v20'
    obtain ⟨r1, r2⟩ := symRel (T := T) rfl (@Step.rel T TZ _ _ _ _ _ _ hst) habs
    have hlen2 : 2 + 1 + ([.cells true (appV (keyA (kx sw r)) (appV (keyA (ky sw r)) idA)), .cells true [.sym .u8 0]] : List Blk).length ≤ 65536 := by show 2 + 1 + 2 ≤ 65536; decide
    obtain ⟨b1, b2⟩ := mkMem_at (G := 2) (by decide) hlen2 (i := 0) rfl
    obtain ⟨c1, c2⟩ := mkMem_at (G := 2) (by decide) hlen2 (i := 1) rfl
    have hfl := full_len (sw := sw) hr
    have hkl := keyfull_len (sw := sw) hr
    have hf0 : 0 < (fullK sw r).length := by rw [hfl]; split <;> decide
    have hk : RowAt (heapOf w3) 1 (a3.tmps.getD 79 undef) (fullK sw r).length (bytesV (fullK sw r)) := by
      rw [hkl] at e79
      exact row_back (fun _ _ _ _ => rfl) r1 hf0 b1 b2 (by rw [bytesV_len]; omega) (fun us hus => full_un hr rfl hus) (r2 _ _ (absN_up e79) _ v79')
    have hv : RowAt (heapOf w3) 1 (a3.tmps.getD 82 undef) ([UInt8.ofNat r.id] : List UInt8).length (bytesV [UInt8.ofNat r.id]) := by
      refine row_back (fun _ _ _ _ => rfl) r1 (by decide : 0 < 1) c1 c2 rfl (fun us hus => ?_) (r2 _ _ (absN_up e82) _ v82')
      have e2 : (UInt8.ofNat r.id).toNat = r.id := by
        have := hr.hi
        simp; omega
      cases hus with
      | cons q1 q2 =>
        cases q2
        cases q1
        show [Value.int .u8 (r.id : Int)] = [.int .u8 ((UInt8.ofNat r.id).toNat : Int)]
        rw [e2]
    have hnew : ∀ x, x ∈ allOf sg → x.kb ≠ fullK sw r := fun x hx e => by
      obtain ⟨_, s, hs, hk⟩ := hT.row x hx
      rw [e] at hk
      exact (hp s hs).2 (full_inj hr (hp s hs).1 hk).symm
    have hput := tz_put tz_bruns (by decide) (w := w3) (Nat.le_trans hgs hleft.2.1) (left_in hH hleft) hpn (hR.S.left hleft) (by omega) hT.tree hT.inv (by rw [hT.len]; omega) hk hv rfl (by
      rw [hfl]; split
      · exact .inl rfl
      · exact .inr rfl) hnew
    refine any_call o53_9 r53_9 (R' := _) (by
      show Ends TZ 98 #[a3.tmps.getD 74 undef, a3.tmps.getD 79 undef, a3.tmps.getD 82 undef] w3 _
      rw [h74]; exact hput) fun c w4 hR4 => ?_
    obtain ⟨hlx, root', sg', H', e, k1, k2, k3, k4, k5, k6, k7, k8, k9, k10⟩ := hR4
    refine wpAny_done (listed := _) r53_10 ?_ 0
    have ha4 := put_is ha3 (some 83) c
    have oth : ∀ t, t ≠ 83 → (a3.put (some 83) c).tmps.getD t undef = a3.tmps.getD t undef := fun t ht => get_other ha3 (by decide : 83 < 86) _ ht
    exact hgo _ w4 root' sg' H' ha4 (by rw [oth 2 (by decide)]; exact h2) (by rw [oth 6 (by decide)]; exact h6) (by rw [oth 18 (by decide)]; exact h18) (by rw [oth 19 (by decide)]; exact h19) (by rw [oth 20 (by decide)]; exact h20)
      ((LeftX.of hleft).trans hlx) k1 k2 k3 k4 (put_inv hT k3 k5 k6 k7 k8 k9 k10) hno
  · unfold iErr idxErr at hrun
    split at hrun
    rotate_left
    · cases hrun
    rename_i v1 m1 hq1
    split at hrun
    rotate_left
    · cases hrun
    rename_i v2 m2 hq2
    refine round_a hK hq1 hrel hi f3 f4 f6 ha g2 g6 g18 g19 g20 rfl rfl rfl fun φ1 a1 w1 hst1 ha1 hv1 => ?_
    refine @piece_ok TZ T _ hK hD 86 C53 g53 _ _ _ _ _ _ hq2 φ1 w1 a1 _ _ (@Step.rel T TZ _ _ _ _ _ _ hst1) ha1 (by decide) (@vals_pick T φ1 a1 _ _ (by decide) hv1) (fun h => by cases h) (fun i h => by cases h) (fun _ φ2 a2 w2 hst2 ha2 hv2 => ?_)
    have hst := @Step.trans T TZ _ _ _ _ _ _ _ _ _ hst1 hst2
    have hleft := Left'.of hst idxL_mem_ro
    unfold idxBad at hrun
    split at hrun
    rotate_left
    · cases hrun
    rename_i x4' t5 x5
    simp only [Bool.and_eq_true, beq_true] at hrun
    obtain ⟨⟨e4, rfl⟩, hfr, e5, habs⟩ := hrun
    have e4' := @aeqN_eq tok0 2 _ _ e4
    subst e4'
    obtain ⟨r1, r2⟩ := symRel (T := T) rfl (@Step.rel T TZ _ _ _ _ _ _ hst) habs
    have ht := tells_sym hst idxL_mem_ro hfr habs
    have hlen2 : 2 + 1 + ([.cells true [.str [107, 101, 121], .iface 101 (.int .i64 5)]] : List Blk).length ≤ 65536 := by show 2 + 1 + 1 ≤ 65536; decide
    obtain ⟨b1, b2⟩ := mkMem_at (G := 2) (by decide) hlen2 (i := 0) rfl
    obtain ⟨x, vs, h1, h2, h3⟩ := of_brel ht r1 b1 b2
    cases hv2 with
    | cons q1 hv2 =>
    cases hv2 with
    | cons q2 hv2 =>
    have q1' : @VRel T φ2 .nilptr (a2.tmps.getD 4 undef) := q1
    have q2' : @VRel T φ2 (.iface 118 x5) (a2.tmps.getD 5 undef) := q2
    generalize h4g : a2.tmps.getD 4 undef = c4 at q1'
    generalize h5g : a2.tmps.getD 5 undef = c5 at q2'
    cases q1'
    cases q2' with
    | iface _ _ c hc =>
      have e5' : absN (symMap [nmOf x5]) 4 (.ptr 3 0) x5 = true := by cases x5 <;> exact e5
      have hc' := ptr_is (r2 _ _ e5' _ hc) h1
      subst hc'
      exact hdup a2 w2 x vs ha2 hleft h4g h5g h2 (fun T' φ' => errA_any h3) hsame
end Go.AM

namespace Go.AM
open Go.Proofs

/- ### indexed: its start, its loop, its end -/
noncomputable def R53_0 : Code := sl B53
noncomputable def R53_1 : Code := sl (sr B53)
noncomputable def O53_2 : Array Oper := opsOf (sl (sl (sr (sr B53))))
noncomputable def O53_3 : Array Oper := opsOf (sl LB53)
noncomputable def O53_14 : Array Oper := opsOf (sr (sr (sr LB53)))
noncomputable def X53_15 : Code := sr (sr (sr B53))
theorem b53_is : B53 = .seq R53_0 (.seq R53_1 (.seq (.seq (.region 2 O53_2 false) (.block 0 (.loop LB53))) X53_15)) := by kernel_rfl
theorem lb53_is : LB53 = .seq (.region 3 O53_3 false) (.seq (.cond (.tmp 21) .skip (.exit 0)) (.seq (.block 1 BD53) (.region 14 O53_14 false))) := by kernel_rfl
theorem o53_s2 : O53_2.size = 3 := by kernel_rfl
theorem o53_s3 : O53_3.size = 1 := by kernel_rfl
theorem o53_s14 : O53_14.size = 2 := by kernel_rfl
theorem o53_20 : OpAt O53_2 0 18 (.move (.tmp 1)) := opAtB (by kernel_rfl) (by kernel_rfl) (by kernel_rfl) (by kernel_rfl)
theorem o53_21 : OpAt O53_2 1 19 (.call ⟨.builtin .len, #[.tmp 18], #[67]⟩) := opAtB (by kernel_rfl) (by kernel_rfl) (by kernel_rfl) (by kernel_rfl)
theorem o53_22 : OpAt O53_2 2 20 (.move (.const (.int .i64 0))) := opAtB (by kernel_rfl) (by kernel_rfl) (by kernel_rfl) (by kernel_rfl)
theorem o53_30 : OpAt O53_3 0 21 (.binOp .lss 3 (.tmp 20) (.tmp 19) 3) := opAtB (by kernel_rfl) (by kernel_rfl) (by kernel_rfl) (by kernel_rfl)
theorem o53_140 : OpAt O53_14 0 84 (.binOp .add 3 (.tmp 20) (.const (.int .i64 1)) 3) := opAtB (by kernel_rfl) (by kernel_rfl) (by kernel_rfl) (by kernel_rfl)
theorem o53_141 : OpAt O53_14 1 20 (.move (.tmp 84)) := opAtB (by kernel_rfl) (by kernel_rfl) (by kernel_rfl) (by kernel_rfl)
theorem g53_s : [R53_0, R53_1].all (gCode TZ.globals.size) = true := by kernel_rfl
theorem g53_e : gCode TZ.globals.size X53_15 = true := by kernel_rfl
noncomputable def fn53 : Func := (TZ.funcs[53]?).getD default
theorem fn53_is : TZ.funcs[53]? = some fn53 := by kernel_rfl
theorem fn53_body : fn53.body = some B53 := by kernel_rfl
theorem fn53_nt : fn53.ntmps = 86 := by kernel_rfl
theorem fn53_res : fn53.results.toList = [.tmp 4, .tmp 5] := by kernel_rfl
theorem fn53_name : fn53.name ≠ "runtime.NumGoroutine" := by
  have h : (fn53.name == "runtime.NumGoroutine") = false := by kernel_rfl
  intro e
  rw [e] at h; simp at h
noncomputable def startRun : Bool :=
  match oneRun TZ 86 KO R53_0 ⟨true, fun _ => false, false⟩ [(0, .agg [.opq 0, .opq 1, .bool true, .opq 2]), (1, .opq 3)] [1, 2] (mkMem 2 0 .none []) with
  | .ok (.tuple [x1, .ptr qb ob]) m => and (and (aeqN 2 x1 (.opq 3)) (Nat.beq ob 0)) (and (freshNs 3 [qb]) (absMem (idMap 2 [qb]) 0 .none [.cells true [.opq 0, .opq 1, .bool true, .opq 2]] m))
  | _ => false
theorem start_run : startRun = true := by kernel_rfl
noncomputable def O53_1 : Array Oper := opsOf R53_1
theorem r53_1 : R53_1 = .region 1 O53_1 false := by kernel_rfl
theorem o53_s1 : O53_1.size = 2 := by kernel_rfl
theorem o53_10 : CallAt O53_1 0 17 97 [] := callAtB (by kernel_rfl) (by kernel_rfl) (by kernel_rfl) (by kernel_rfl)
theorem o53_11 : OpAt O53_1 1 6 (.assign (.tmp 17)) := opAtB (by kernel_rfl) (by kernel_rfl) (by kernel_rfl) (by kernel_rfl)
/- btree.New -/
noncomputable def B97 : Code := bodyOf TZ 97
noncomputable def R97_0 : Code := sl B97
noncomputable def O97 : Array Oper := opsOf (sl (sr B97))
theorem b97_is : B97 = .seq R97_0 (.seq (.region 1 O97 false) .ret) := by kernel_rfl
theorem o97_s : O97.size = 5 := by kernel_rfl
theorem o97_l : (O97.toList.take 3).length = 3 := by kernel_rfl
theorem g97_0 : gCode TZ.globals.size R97_0 = true := by kernel_rfl
theorem g97_1 : (O97.toList.take 3).all (gOper TZ.globals.size) = true := by kernel_rfl
theorem o97_3 : OpAt O97 3 4 (.box 188 (.tmp 3)) := opAtB (by kernel_rfl) (by kernel_rfl) (by kernel_rfl) (by kernel_rfl)
theorem o97_4 : OpAt O97 4 0 (.assign (.tmp 4)) := opAtB (by kernel_rfl) (by kernel_rfl) (by kernel_rfl) (by kernel_rfl)
noncomputable def fn97 : Func := (TZ.funcs[97]?).getD default
theorem fn97_is : TZ.funcs[97]? = some fn97 := by kernel_rfl
theorem fn97_body : fn97.body = some B97 := by kernel_rfl
theorem fn97_nt : fn97.ntmps = 5 := by kernel_rfl
theorem fn97_res : fn97.results.toList = [.tmp 0] := by kernel_rfl
theorem fn97_name : fn97.name ≠ "runtime.NumGoroutine" := by
  have h : (fn97.name == "runtime.NumGoroutine") = false := by kernel_rfl
  intro e
  rw [e] at h; simp at h
noncomputable def newRun : Bool :=
  match oneRun TZ 5 KO R97_0 ⟨true, fun _ => false, false⟩ [] [] (mkMem 2 0 .none []) with
  | .ok (.tuple []) m1 => (match opsRun TZ 5 KO O97 (O97.toList.take 3) [] [3] m1 with
    | .ok (.tuple [.agg [.ptr qn on, y]]) m => and (and (Nat.beq on 0) (aeqN 2 y (.int .i64 0))) (and (freshNs 3 [qn]) (absMem (idMap 2 [qn]) 0 .none [.cells true [.nilslice, .nilslice, .nilslice]] m))
    | _ => false)
  | _ => false
theorem new_run : newRun = true := by kernel_rfl
noncomputable def endRun : Bool :=
  match oneRun TZ 86 KO X53_15 ⟨false, fun _ => false, true⟩ [(6, .opq 0)] [4, 5] (mkMem 2 0 .none []) with
  | .ok (.tuple [x4, x5]) m => and (aeqN 2 x4 (.opq 0)) (aeqN 2 x5 .niliface)
  | _ => false
theorem end_run : endRun = true := by kernel_rfl
end Go.AM

namespace Go.AM
open Go.Proofs
variable {P : Program}

/- ### btree.New and the start of indexed -/
theorem CellsAt.at_ {H H' : Heap} {x : Img} {cs : List Value} (h : CellsAt H x cs) (e : H' x.1 = H x.1) : CellsAt H' x cs := by
  obtain ⟨c, el, fz, h1, h2⟩ := h
  exact ⟨c, el, fz, e.trans h1, h2⟩
theorem wpOps_call {ops : Array Oper} {Q : Exit → Act → World → Prop} {i d : Nat} {g : FuncId} {ts : List Nat} {js : List Nat} {a : Act} {w : World} (h : CallAt ops i d g ts) {R' : Value → World → Prop} (hE : Ends P g (ts.map fun t => a.tmps.getD t undef).toArray w R')
    (hn : ∀ c w', R' c w' → wpOps P ops Q js (a.put (some d) c) w') : wpOps P ops Q (i :: js) a w := by
  obtain ⟨o, h1, h2, h3, h4⟩ := h.is
  unfold wpOps
  rw [h1]
  simp only
  have hwant : Region.wanted o (yielded ops a.tmps) = true := by unfold Region.wanted; rw [h2]
  rw [if_pos hwant]
  left
  letI := tok0
  exact ends_wp (callAt_run h4) hE fun c w' hR => by rw [h3]; exact hn c w' hR
theorem wpOps_eff {ops : Array Oper} {Q : Exit → Act → World → Prop} {i d : Nat} {op : Op} (h : OpAt ops i d op) {js : List Nat} {a : Act} {w w' : World} {v : Value} (hr : ∀ o : Oper, o.op = op → (execOp a.eval o).run P w = .ok (.value v) w')
    (hn : wpOps P ops Q js (a.put (some d) v) w') : wpOps P ops Q (i :: js) a w := by
  obtain ⟨o, h1, h2, h3, h4⟩ := h.is
  unfold wpOps
  rw [h1]
  simp only
  have hwant : Region.wanted o (yielded ops a.tmps) = true := by unfold Region.wanted; rw [h2]
  rw [if_pos hwant]
  left
  unfold Oper.wp
  rw [hr o h4, Oper.upon_value, h3]
  exact hn
theorem run_box {a : Act} {w : World} {o : Oper} {e t : Nat} (h : o.op = .box e (.tmp t)) {cs : Array Value} (ht : a.tmps.getD t undef = .agg cs) : (execOp a.eval o).run P w = .ok (.value (.pointer (some ⟨w.heap.size, 0, none⟩))) (w.alloc (.cells cs e)) := by
  simp [execOp, h, Act.eval, ht, Instr.box, newVar, newRow, Value.cells]
theorem none_rel {T : Tok} {w : World} (hgs : 2 ≤ w.heap.size) (hheld : ∀ b o, T.hold b = some o → w.heap[b]? = some o) : @Rel T TZ (phiOf 2 []) (mkMem 2 0 .none []) w :=
  mkRel tz_glob (by decide) hgs rfl (by show 2 + 1 + 0 ≤ 65536; decide) (fun b hb => by cases hb) (fun z hz => by cases hz) (fun i b hb => by simp at hb) hheld
theorem none_ro : ∀ q, q < (mkMem 2 0 .none []).next → ((mkMem 2 0 .none []).get q).wr = false :=
  mkMem_ro (by decide) (by show 2 + 1 + 0 ≤ 65536; decide) rfl fun b hb => by cases hb
theorem vsrel_nilS {T : Tok} {φ : Phi} {vs : List Value} (h : @VsRel T φ [.nilslice, .nilslice, .nilslice] vs) : vs = [nilS, nilS, nilS] := by
  cases h with
  | cons h1 h =>
  cases h with
  | cons h2 h =>
  cases h with
  | cons h3 h =>
  cases h
  cases h1
  cases h2
  cases h3
  rfl
attribute [local irreducible] O97 O53_1 O53_2 O53_3 O53_14 in
/-- BTREE.NEW -/
theorem new_ok {w : World} (hgs : 2 ≤ w.heap.size) : Ends TZ 97 #[] w fun cv w' => ∃ (p : Nat) (x : Img), cv = .pointer (some ⟨p, 0, none⟩) ∧ Left' w w' ∧ w.heap.size ≤ p ∧ StructAt w' p [ptrV x, .int .i64 0] ∧ x.1 ≠ p ∧ w.heap.size ≤ x.1 ∧ CellsAt (heapOf w') x [nilS, nilS, nilS] := by
  right
  refine ⟨enter_run fn97_is fn97_name fn97_body, ?_⟩
  refine calls_of_wp fn97_is fn97_body ?_
  have ha0 : ActIs 5 { tmps := (#[] : Array Value) ++ Array.replicate (fn97.ntmps - (#[] : Array Value).size) undef, defers := [] } := ⟨by simp [fn97_nt], rfl⟩
  generalize ({ tmps := (#[] : Array Value) ++ Array.replicate (fn97.ntmps - (#[] : Array Value).size) undef, defers := [] } : Act) = a0 at ha0
  let T : Tok := tokB noH (fun _ => nilS) (fun _ => rfl)
  have hr : @Rel T TZ (phiOf 2 []) (mkMem 2 0 .none []) w := none_rel hgs fun b o h => by cases h
  have hrun := new_run
  unfold newRun at hrun
  split at hrun
  rotate_left
  · cases hrun
  rename_i m1 hq1
  split at hrun
  rotate_left
  · cases hrun
  rename_i qn on y m hq2
  simp only [Bool.and_eq_true, beq_true] at hrun
  obtain ⟨⟨rfl, ey⟩, hfr, habs⟩ := hrun
  have ey' := @aeqN_eq tok0 2 _ _ ey
  subst ey'
  rw [b97_is]
  refine wp_seq ?_
  refine @one_ok TZ T KO (ko_ok T rfl) (ko_draw T rfl) 5 R97_0 g97_0 _ _ _ _ _ _ hq1 _ w a0 _ hr ha0 (by decide) (fun q hq => by cases hq) (fun _ φ1 a1 w1 hst1 ha1 hv1 => ?_) (fun i h => by cases h) (fun h => by cases h)
  show Code.wp TZ (.seq (.region 1 O97 false) .ret) _ a1 w1
  refine wp_seq (wp_region ?_)
  rw [o97_s]
  have hrange : List.range 5 = List.range' 0 (O97.toList.take 3).length ++ [3, 4] := by rw [o97_l]; rfl
  rw [hrange]
  refine @ops_piece TZ T KO (ko_ok T rfl) 5 O97 _ 0 (O97.toList.take 3) [3, 4] (by rw [List.drop_zero, o97_l]) g97_1 _ _ _ _ _ hq2 φ1 w1 a1 (@Step.rel T TZ _ _ _ _ _ _ hst1) ha1 (by decide) (fun q hq => by cases hq) (fun φ2 a2 w2 hst2 ha2 hv2 => ?_)
  have hst := @Step.trans T TZ _ _ _ _ _ _ _ _ _ hst1 hst2
  have hleft := Left'.of hst none_ro
  obtain ⟨r1, r2⟩ := idRel (T := T) rfl tz_glob (@Step.rel T TZ _ _ _ _ _ _ hst) habs
  have ht := tells_new (by decide) hst none_ro hfr habs
  obtain ⟨b1, b2⟩ := mkMem_at (G := 2) (by decide) (l := [.cells true [.nilslice, .nilslice, .nilslice]]) (by show 2 + 1 + 1 ≤ 65536; decide) (i := 0) rfl
  obtain ⟨x, vs, h1, h2, h3⟩ := of_brel ht r1 b1 b2
  have h3' := vsrel_nilS h3
  subst h3'
  have h1' : φ2 qn = some x := h1
  have hx2 : w.heap.size ≤ x.1 ∧ x.1 < w2.heap.size := by
    obtain ⟨c, el, fz, g1, _⟩ := h2
    unfold upd at g1
    split at g1
    · cases g1
    · exact ⟨by omega, @lt_of_some tok0 w2 x.1 _ g1⟩
  have g3 : a2.tmps.getD 3 undef = .agg #[ptrV x, .int .i64 0] := by
    cases hv2 with
    | cons v3 _ =>
      have v3' : @VRel T φ2 (.agg [.ptr qn 0, .int .i64 0]) (a2.tmps.getD 3 undef) := v3
      generalize a2.tmps.getD 3 undef = c at v3'
      cases v3' with
      | agg _ cs hcs hcc =>
        generalize hcl : cs.toList = L at hcs
        cases hcs with
        | cons q1 hcs =>
        cases hcs with
        | cons q2 hcs =>
        cases hcs
        have e1 := ptr_is q1 h1'
        cases q2
        rw [show cs = #[ptrV x, .int .i64 0] by rw [← Array.toList_inj, hcl, e1]]
  refine wpOps_eff o97_3 (fun o ho => run_box ho g3) ?_
  have ha3 := put_is ha2 (some 4) (.pointer (some ⟨w2.heap.size, 0, none⟩))
  refine wpOps_val o97_4 (fun o ho => run_as ho) ?_
  rw [get_same ha2 (by decide)]
  have ha4 := put_is ha3 (some 0) (.pointer (some ⟨w2.heap.size, 0, none⟩))
  have e0 := get_same ha3 (by decide : 0 < 5) (.pointer (some ⟨w2.heap.size, 0, none⟩))
  generalize (a2.put (some 4) (.pointer (some ⟨w2.heap.size, 0, none⟩))).put (some 0) (.pointer (some ⟨w2.heap.size, 0, none⟩)) = a4 at ha4 e0
  show Code.wp TZ .ret _ a4 _
  refine wp_ret ⟨ha4.defers, _, results_one fn97_res _ _, ?_⟩
  rw [e0]
  have hold : ∀ b, b < w2.heap.size → (w2.alloc (.cells #[ptrV x, .int .i64 0] 188)).heap[b]? = w2.heap[b]? := fun b hb => by
    show (w2.heap.push _)[b]? = _
    rw [Array.getElem?_push, if_neg (by omega)]
  refine ⟨_, rfl, w2.heap.size, x, rfl, ⟨fun b hb => ?_, ?_, hleft.2.2.1, hleft.2.2.2.1, hleft.2.2.2.2⟩, hleft.2.1, ⟨#[ptrV x, .int .i64 0], 188, (0, 0), ?_, rfl, fun v hv => ?_, fun i _ h => ?_⟩, by omega, hx2.1, ?_⟩
  · rw [hold b (Nat.lt_of_lt_of_le hb hleft.2.1)]; exact hleft.1 b hb
  · refine Nat.le_trans hleft.2.1 ?_
    show _ ≤ (w2.heap.push _).size
    simp
  · show (w2.heap.push _)[w2.heap.size]? = _
    simp
  · simp only [List.mem_cons, List.not_mem_nil, or_false] at hv
    rcases hv with rfl | rfl <;> rfl
  · exact absurd h.2 (by show ¬ i < 0; omega)
  · refine h2.at_ ?_
    unfold upd heapOf
    rw [if_neg (by omega)]
    exact hold _ hx2.2
end Go.AM

namespace Go.AM
open Go.Proofs

/- ### indexed as a whole -/
def heapX (p : Nat) (w : World) : Heap := fun b => if b = p then none else w.heap[b]?
theorem heapX_in {p : Nat} {w : World} : In (heapX p w) w := fun b o h => by
  unfold heapX at h
  split at h
  · cases h
  · exact h
theorem heapX_p {p : Nat} {w : World} : heapX p w p = none := if_pos rfl
theorem heapX_at {p b : Nat} {w : World} (h : b ≠ p) : heapX p w b = w.heap[b]? := if_neg h
/-- rows as a slice shows them -/
def RowsAt (H : Heap) (b : Option Addr) (rows : List RowD) : Prop := ∀ i r, rows[i]? = some r → ∃ rb ro rs v, b = some ⟨rb, ro, none⟩ ∧ CellsAt H (rb, ro + i * 2, rs) [.int .u64 (r.id : Int), v] ∧ RowAt H 3 v 2 (cellsV r.a ++ cellsV r.b)
def KeyAt (H : Heap) (sw : Bool) (key : Value) : Prop := ∃ name cols prim, key = .agg #[name, cols, .bool true, prim] ∧ RowAt H 1 cols 2 (colsV sw) ∧ name.oneCell' = true ∧ prim.oneCell' = true
theorem RowsAt.mono {H H' : Heap} {b : Option Addr} {rows : List RowD} (h : RowsAt H b rows) (hH : ∀ b o, H b = some o → H' b = some o) : RowsAt H' b rows := fun i r hi => by
  obtain ⟨rb, ro, rs, v, h1, h2, h3⟩ := h i r hi
  exact ⟨rb, ro, rs, v, h1, h2.mono hH, h3.mono hH⟩
/-- where the loop stands -/
structure IdxAt (sw : Bool) (rows : List RowD) (p : Nat) (box : Img) (H0 : Heap) (w1 : World) (b : Option Addr) (cap i : Nat) (a : Act) (w : World) : Prop where
  act : ActIs 86 a
  t2 : a.tmps.getD 2 undef = ptrV box
  t6 : a.tmps.getD 6 undef = .pointer (some ⟨p, 0, none⟩)
  t18 : a.tmps.getD 18 undef = .slice b rows.length cap
  t19 : a.tmps.getD 19 undef = .int .i64 (rows.length : Int)
  t20 : a.tmps.getD 20 undef = .int .i64 (i : Int)
  left : LeftX p w1 w
  tree : ∃ H root sg, In H w ∧ H p = none ∧ (∀ b o, H0 b = some o → H b = some o) ∧ StructAt w p [root, .int .i64 (i : Int)] ∧ TreeInv sw (rows.take i) H root sg
  nodup : NoDup (rows.take i)
theorem leaf_nil {H : Heap} {x : Img} (h : CellsAt H x [nilS, nilS, nilS]) : LeafAt H x nilS (kvs []) := ⟨nilS, h, .inl ⟨rfl, rfl, rfl⟩⟩
theorem tree_nil {sw : Bool} {H : Heap} {x : Img} (h : CellsAt H x [nilS, nilS, nilS]) : TreeInv sw [] H (ptrV x) [(nilS, [])] where
  tree := .one x nilS [] rfl rfl rfl (leaf_nil h) (fun e he => by cases he)
  inv := {
    ne := by simp
    first := fun s hs => by
      simp only [List.getElem?_cons_zero, Option.some.injEq] at hs
      subst hs; rfl
    firsts := fun i s h0 hs => by
      match i, h0, hs with
      | i + 1, _, hs => simp at hs
    sorted := List.Pairwise.nil
    keys := fun e he => by cases he
    small := fun s hs => by
      rw [List.mem_singleton] at hs
      subst hs
      exact Nat.zero_le _
    big := fun h => absurd h (by simp) }
  len := rfl
  row e he := by cases he
  all s hs := by cases hs
theorem results_two {fn : Func} {s t : Nat} (h : fn.results.toList = [.tmp s, .tmp t]) (tmps : Array Value) (w : World) : (results fn tmps).run TZ w = .ok (.tuple #[tmps.getD s undef, tmps.getD t undef]) w := by
  rw [@results_eq tok0]
  have e : fn.results = #[.tmp s, .tmp t] := by rw [← Array.toList_inj]; exact h
  rw [e]
  simp [resOne]
section
attribute [local irreducible] O53_3 O53_14 O53_2 O53_1 BD53 LB53 X53_15 R53_0
variable {sw : Bool} {rows : List RowD} {p : Nat} {box : Img} {H0 : Heap} {w1 : World} {b : Option Addr} {cap : Nat}
theorem idx_loop_round (hok : ∀ r, r ∈ rows → RowOk r) (hids : rows.Pairwise fun r s => r.id ≠ s.id) (hlen : rows.length ≤ 40) (hrows : RowsAt H0 b rows) {name cols prim : Value} (hbox : CellsAt H0 box [name, cols, .bool true, prim]) (hcols : RowAt H0 1 cols 2 (colsV sw)) (hname : name.oneCell' = true) (hprim : prim.oneCell' = true)
    (hgs : 2 ≤ w1.heap.size) {i : Nat} {a : Act} {w : World} (hi : i ≤ rows.length) (h : IdxAt sw rows p box H0 w1 b cap i a w) {Q : Exit → Act → World → Prop} (hgo : i < rows.length → ∀ a' w', IdxAt sw rows p box H0 w1 b cap (i + 1) a' w' → Q .normal a' w')
    (hend : i = rows.length → NoDup rows → ∀ a', ActIs 86 a' → a'.tmps.getD 6 undef = .pointer (some ⟨p, 0, none⟩) → Q (.exit 0) a' w)
    (hdup : ∀ a' w' x vs, ActIs 86 a' → LeftX p w1 w' → a'.tmps.getD 4 undef = .pointer none → a'.tmps.getD 5 undef = .iface 118 (ptrV x) → CellsAt (upd noH w1 w') x vs → (∀ T φ, @VsRel T φ errA vs) → ¬ NoDup rows → Q .ret a' w') : LB53.wp TZ Q a w := by
  rw [lb53_is]
  refine wp_seq (wp_region ?_)
  rw [o53_s3]
  show wpOps TZ O53_3 _ [0] a w
  refine wpOps_val o53_30 (fun o ho => run_lt ho h.t20 h.t19) ?_
  have ha1 := put_is h.act (some 21) (.bool (decide ((i : Int) < (rows.length : Int))))
  have e21 := get_same h.act (by decide : 21 < 86) (.bool (decide ((i : Int) < (rows.length : Int))))
  have oth : ∀ t, t ≠ 21 → (a.put (some 21) (.bool (decide ((i : Int) < (rows.length : Int))))).tmps.getD t undef = a.tmps.getD t undef := fun t ht => get_other h.act (by decide : 21 < 86) _ ht
  generalize a.put (some 21) (.bool (decide ((i : Int) < (rows.length : Int)))) = a1 at ha1 e21 oth
  show Code.wp TZ (.seq (.cond (.tmp 21) .skip (.exit 0)) (.seq (.block 1 BD53) (.region 14 O53_14 false))) Q a1 w
  refine wp_seq ?_
  by_cases hlt : i < rows.length
  rotate_left
  · have hd : decide ((i : Int) < (rows.length : Int)) = false := decide_eq_false (by omega)
    rw [hd] at e21
    refine wp_cond_false (by rw [evTmp]; exact e21) (Go.wp_exit ?_)
    have hie : i = rows.length := by omega
    have hnd := h.nodup
    rw [hie, List.take_length] at hnd
    exact hend hie hnd a1 ha1 (by rw [oth 6 (by decide)]; exact h.t6)
  have hd : decide ((i : Int) < (rows.length : Int)) = true := decide_eq_true (by omega)
  rw [hd] at e21
  refine wp_cond_true (by rw [evTmp]; exact e21) (Go.wp_skip ?_)
  show Code.wp TZ (.seq (.block 1 BD53) (.region 14 O53_14 false)) Q a1 w
  have hri := List.getElem?_eq_getElem hlt
  have hmem : rows[i] ∈ rows := List.getElem_mem hlt
  have hpre : ∀ s, s ∈ rows.take i → s ∈ rows := fun s hs => List.mem_of_mem_take hs
  have hsplit : rows = rows.take i ++ rows[i] :: rows.drop (i + 1) := by
    rw [← List.drop_eq_getElem_cons hlt, List.take_append_drop]
  have htake : rows.take (i + 1) = rows.take i ++ [rows[i]] := List.take_succ_eq_append_getElem hlt
  have hdist : ∀ s, s ∈ rows.take i → s.id ≠ rows[i].id := fun s hs => by
    have h2 := hids
    rw [hsplit] at h2
    exact (List.pairwise_append.1 h2).2.2 s hs _ (List.mem_cons_self ..)
  have hnds : NoDup rows → ∀ s, s ∈ rows.take i → ¬ Same s rows[i] := fun h2 s hs => by
    unfold NoDup at h2
    rw [hsplit] at h2
    exact (List.pairwise_append.1 h2).2.2 s hs _ (List.mem_cons_self ..)
  generalize hr : rows[i] = r at *
  obtain ⟨rb, ro, rs, v, hb, hc, hv⟩ := hrows i r hri
  obtain ⟨H, root, sg, k1, k2, k3, k4, k5⟩ := h.tree
  have hpl : (rows.take i).length = i := by rw [List.length_take]; omega
  have hgw : 2 ≤ w.heap.size := Nat.le_trans hgs h.left.2.1
  have t18 := h.t18
  rw [hb] at t18
  have hR : RoundAt w sw r p root (.int .i64 ((rows.take i).length : Int)) box (rb, ro + i * 2, rs) := by
    have up : ∀ b o, H0 b = some o → heapOf w b = some o := fun b o h => k1 b o (k3 b o h)
    rw [hpl]
    exact ⟨k4, ⟨name, cols, prim, hbox.mono up, hcols.mono up, hname, hprim⟩, ⟨v, hc.mono up, hv.mono up⟩⟩
  refine wp_seq (wp_block ?_)
  refine idx_round hgw (hok r hmem) (fun s hs => ⟨hok s (hpre s hs), hdist s hs⟩) (by omega) k1 k2 k5 hlt hR ha1 (by rw [oth 2 (by decide)]; exact h.t2) (by rw [oth 6 (by decide)]; exact h.t6) (by rw [oth 18 (by decide)]; exact t18) (by rw [oth 19 (by decide)]; exact h.t19) (by rw [oth 20 (by decide)]; exact h.t20) ?_ ?_
  · intro a2 w2 root' sg' H' q1 q2 q3 q4 q5 q6 q7 q8 q9 q10 q11 q12 q13
    show Code.wp TZ (.region 14 O53_14 false) Q a2 w2
    refine wp_region ?_
    rw [o53_s14]
    show wpOps TZ O53_14 _ [0, 1] a2 w2
    refine wpOps_val o53_140 (fun o ho => run_inc (i := i) ho (by omega) q6) ?_
    have ha3 := put_is q1 (some 84) (.int .i64 ((i + 1 : Nat) : Int))
    refine wpOps_val o53_141 (fun o ho => run_mv ho) ?_
    rw [get_same q1 (by decide)]
    have ha4 := put_is ha3 (some 20) (.int .i64 ((i + 1 : Nat) : Int))
    have e20 := get_same ha3 (by decide : 20 < 86) (.int .i64 ((i + 1 : Nat) : Int))
    have oth2 : ∀ t, t ≠ 84 → t ≠ 20 → ((a2.put (some 84) (.int .i64 ((i + 1 : Nat) : Int))).put (some 20) (.int .i64 ((i + 1 : Nat) : Int))).tmps.getD t undef = a2.tmps.getD t undef := fun t h1 h2 => by
      rw [get_other ha3 (by decide : 20 < 86) _ h2, get_other q1 (by decide : 84 < 86) _ h1]
    generalize (a2.put (some 84) (.int .i64 ((i + 1 : Nat) : Int))).put (some 20) (.int .i64 ((i + 1 : Nat) : Int)) = a4 at ha4 e20 oth2
    show Q .normal a4 w2
    rw [hpl] at q11
    refine hgo hlt a4 w2 ⟨ha4, by rw [oth2 2 (by decide) (by decide)]; exact q2, by rw [oth2 6 (by decide) (by decide)]; exact q3, by rw [oth2 18 (by decide) (by decide), hb]; exact q4, by rw [oth2 19 (by decide) (by decide)]; exact q5, e20, h.left.trans q7, ⟨H', root', sg', q8, q9, fun b o ho => q10 b o (k3 b o ho), q11, by rw [htake]; exact q12⟩, ?_⟩
    rw [htake]
    refine List.pairwise_append.2 ⟨h.nodup, List.pairwise_singleton _ _, fun s hs t ht => ?_⟩
    rw [List.mem_singleton] at ht
    subst ht
    exact q13 s hs
  · intro a2 w2 x vs q1 q2 q3 q4 q5 q6 ⟨s, hs, hS⟩
    show Q .ret a2 w2
    refine hdup a2 w2 x vs q1 (h.left.trans (LeftX.of q2)) q3 q4 (q5.at_ ?_) q6 (fun hnd => hnds hnd s hs hS)
    obtain ⟨c, el, fz, g1, _⟩ := q5
    unfold upd at g1 ⊢
    split at g1
    · cases g1
    · rename_i hge
      have := h.left.2.1
      rw [if_neg hge, if_neg (by omega)]
end
end Go.AM

namespace Go.AM
open Go.Proofs
def keyVals (name cols prim sl : Value) (j : Nat) : Value := if j = 0 then name else if j = 1 then cols else if j = 2 then prim else sl
theorem keyVals_cell {name cols prim sl : Value} (h1 : name.oneCell' = true) (h2 : cols.oneCell' = true) (h3 : prim.oneCell' = true) (h4 : sl.oneCell' = true) (j : Nat) : (keyVals name cols prim sl j).oneCell' = true := by
  unfold keyVals
  repeat' split
  all_goals first
    | exact h1
    | exact h2
    | exact h3
    | exact h4
theorem args_two {fn : Func} {x y : Value} : ((#[x, y] : Array Value) ++ Array.replicate (fn.ntmps - (#[x, y] : Array Value).size) undef).getD 0 undef = x ∧ ((#[x, y] : Array Value) ++ Array.replicate (fn.ntmps - (#[x, y] : Array Value).size) undef).getD 1 undef = y := by
  constructor
  · rw [Array.getD_eq_getD_getElem?, Array.getElem?_append_left (by simp)]; rfl
  · rw [Array.getD_eq_getD_getElem?, Array.getElem?_append_left (by simp)]; rfl
theorem then_exit {id : Nat} {X : Act → World → Prop} {Q : Exit → Act → World → Prop} {a : Act} {w : World} (h : Q .normal a w) : Exit.then X (Exit.inBlock id Q) (.exit id) a w := by
  show Exit.inBlock id Q (.exit id) a w
  exact inBlock_here h
/-- what indexed answers -/
def IdxPost (w : World) (rows : List RowD) (cv : Value) (w' : World) : Prop :=
  Left' w w' ∧ ((NoDup rows ∧ ∃ p, cv = .tuple #[.pointer (some ⟨p, 0, none⟩), .nilIface]) ∨
      (¬ NoDup rows ∧ ∃ x vs, cv = .tuple #[.pointer none, .iface 118 (ptrV x)] ∧ CellsAt (upd noH w w') x vs ∧ ∀ T φ, @VsRel T φ errA vs))
attribute [local irreducible] O53_3 O53_14 O53_2 O53_1 BD53 LB53 X53_15 R53_0 in
/-- INDEXED -/
theorem indexed_ok {w : World} (hgs : 2 ≤ w.heap.size) {sw : Bool} {rows : List RowD} (hok : ∀ r, r ∈ rows → RowOk r) (hids : rows.Pairwise fun r s => r.id ≠ s.id) (hlen : rows.length ≤ 40) {key : Value} (hkey : KeyAt (heapOf w) sw key) {b : Option Addr} {cap : Nat} (hrows : RowsAt (heapOf w) b rows) :
    Ends TZ 53 #[key, .slice b rows.length cap] w (IdxPost w rows) := by
  obtain ⟨name, cols, prim, rfl, hcols, hname, hprim⟩ := hkey
  right
  refine ⟨enter_run fn53_is fn53_name fn53_body, ?_⟩
  refine calls_of_wp fn53_is fn53_body ?_
  have ha0 : ActIs 86 { tmps := (#[.agg #[name, cols, .bool true, prim], .slice b rows.length cap] : Array Value) ++ Array.replicate (fn53.ntmps - (#[.agg #[name, cols, .bool true, prim], .slice b rows.length cap] : Array Value).size) undef, defers := [] } := ⟨by simp [fn53_nt], rfl⟩
  obtain ⟨g0, g1⟩ := @args_two fn53 (.agg #[name, cols, .bool true, prim]) (.slice b rows.length cap)
  have g0' : ({ tmps := (#[.agg #[name, cols, .bool true, prim], .slice b rows.length cap] : Array Value) ++ Array.replicate (fn53.ntmps - (#[.agg #[name, cols, .bool true, prim], .slice b rows.length cap] : Array Value).size) undef, defers := [] } : Act).tmps.getD 0 undef = .agg #[name, cols, .bool true, prim] := g0
  have g1' : ({ tmps := (#[.agg #[name, cols, .bool true, prim], .slice b rows.length cap] : Array Value) ++ Array.replicate (fn53.ntmps - (#[.agg #[name, cols, .bool true, prim], .slice b rows.length cap] : Array Value).size) undef, defers := [] } : Act).tmps.getD 1 undef = .slice b rows.length cap := g1
  generalize ({ tmps := (#[.agg #[name, cols, .bool true, prim], .slice b rows.length cap] : Array Value) ++ Array.replicate (fn53.ntmps - (#[.agg #[name, cols, .bool true, prim], .slice b rows.length cap] : Array Value).size) undef, defers := [] } : Act) = a0 at ha0 g0' g1'
  let T : Tok := tokB noH (keyVals name cols prim (.slice b rows.length cap)) (keyVals_cell hname hcols.cell hprim rfl)
  have hr : @Rel T TZ (phiOf 2 []) (mkMem 2 0 .none []) w := none_rel hgs fun b o h => by cases h
  have hrun := start_run
  unfold startRun at hrun
  split at hrun
  rotate_left
  · cases hrun
  rename_i x1 qb ob m hq1
  simp only [Bool.and_eq_true, beq_true] at hrun
  obtain ⟨⟨e1, rfl⟩, hfr, habs⟩ := hrun
  have e1' := @aeqN_eq tok0 2 _ _ e1
  subst e1'
  rw [b53_is]
  refine wp_seq ?_
  refine @one_ok TZ T KO (ko_ok T rfl) (ko_draw T rfl) 86 R53_0 (by have := g53_s; simp only [List.all_cons, Bool.and_eq_true] at this; exact this.1) _ _ _ _ _ _ hq1 _ w a0 _ hr ha0 (by decide) (fun q hq => ?_) (fun _ φ1 a1 w1 hst ha1 hv1 => ?_) (fun i h => by cases h) (fun h => by cases h)
  · simp only [List.mem_cons, List.not_mem_nil, or_false] at hq
    rcases hq with rfl | rfl
    · refine ⟨(by decide : 0 < 4096), ?_⟩
      show @VRel T _ (.agg [.opq 0, .opq 1, .bool true, .opq 2]) (a0.tmps.getD 0 undef)
      rw [g0']
      refine @VRel.agg T _ _ _ (@VsRel.cons T _ _ _ _ _ (@VRel.opq T _ 0) (@VsRel.cons T _ _ _ _ _ (@VRel.opq T _ 1) (@VsRel.cons T _ _ _ _ _ (@VRel.bool T _ true) (@VsRel.cons T _ _ _ _ _ (@VRel.opq T _ 2) (@VsRel.nil T _))))) (fun v hv => ?_)
      simp only [List.mem_cons, List.not_mem_nil, or_false] at hv
      rcases hv with rfl | rfl | rfl | rfl <;> rfl
    · refine ⟨(by decide : 1 < 4096), ?_⟩
      show @VRel T _ (.opq 3) (a0.tmps.getD 1 undef)
      rw [g1']
      exact @VRel.opq T _ 3
  have hleft := Left'.of hst none_ro
  obtain ⟨r1, r2⟩ := idRel (T := T) rfl tz_glob (@Step.rel T TZ _ _ _ _ _ _ hst) habs
  have ht := tells_new (by decide) hst none_ro hfr habs
  obtain ⟨b1, b2⟩ := mkMem_at (G := 2) (by decide) (l := [.cells true [.opq 0, .opq 1, .bool true, .opq 2]]) (by show 2 + 1 + 1 ≤ 65536; decide) (i := 0) rfl
  obtain ⟨box, vs, h1, h2, h3⟩ := of_brel ht r1 b1 b2
  have h1' : φ1 qb = some box := h1
  have hvs : vs = [name, cols, .bool true, prim] := by
    cases h3 with
    | cons q1 h3 =>
    cases h3 with
    | cons q2 h3 =>
    cases h3 with
    | cons q3 h3 =>
    cases h3 with
    | cons q4 h3 =>
    cases h3
    cases q3
    rw [opq_is q1, opq_is q2, opq_is q4]
    rfl
  subst hvs
  have k1 : a1.tmps.getD 1 undef = .slice b rows.length cap ∧ a1.tmps.getD 2 undef = ptrV box := by
    cases hv1 with
    | cons q1 hv1 =>
    cases hv1 with
    | cons q2 hv1 =>
    exact ⟨opq_is q1, ptr_is q2 h1'⟩
  obtain ⟨k1, k2⟩ := k1
  have hbox1 : CellsAt (heapOf w1) box [name, cols, .bool true, prim] := h2.mono fun b o h => by
    unfold upd at h
    split at h
    · cases h
    · exact h
  have hbl : box.1 < w1.heap.size := hbox1.lt (fun b o h => h)
  have hgs1 : 2 ≤ w1.heap.size := Nat.le_trans hgs hleft.2.1
  show Code.wp TZ (.seq R53_1 (.seq (.seq (.region 2 O53_2 false) (.block 0 (.loop LB53))) X53_15)) _ a1 w1
  rw [r53_1]
  refine wp_seq (wp_region ?_)
  rw [o53_s1]
  show wpOps TZ O53_1 _ [0, 1] a1 w1
  refine wpOps_call o53_10 (R' := _) (new_ok hgs1) fun c w2 ⟨p, nd, hc, hl2, hp2, hS2, hne2, hx2, hnode⟩ => ?_
  subst hc
  have ha2 := put_is ha1 (some 17) (.pointer (some ⟨p, 0, none⟩))
  refine wpOps_val o53_11 (fun o ho => run_as ho) ?_
  rw [get_same ha1 (by decide)]
  have ha3 := put_is ha2 (some 6) (.pointer (some ⟨p, 0, none⟩))
  have e6 := get_same ha2 (by decide : 6 < 86) (.pointer (some ⟨p, 0, none⟩))
  have oth : ∀ t, t ≠ 17 → t ≠ 6 → ((a1.put (some 17) (.pointer (some ⟨p, 0, none⟩))).put (some 6) (.pointer (some ⟨p, 0, none⟩))).tmps.getD t undef = a1.tmps.getD t undef := fun t h1 h2 => by
    rw [get_other ha2 (by decide : 6 < 86) _ h2, get_other ha1 (by decide : 17 < 86) _ h1]
  generalize (a1.put (some 17) (.pointer (some ⟨p, 0, none⟩))).put (some 6) (.pointer (some ⟨p, 0, none⟩)) = a3 at ha3 e6 oth
  have e1 : a3.tmps.getD 1 undef = .slice b rows.length cap := by rw [oth 1 (by decide) (by decide)]; exact k1
  have e2 : a3.tmps.getD 2 undef = ptrV box := by rw [oth 2 (by decide) (by decide)]; exact k2
  show Code.wp TZ (.seq (.seq (.region 2 O53_2 false) (.block 0 (.loop LB53))) X53_15) _ a3 w2
  refine wp_seq (wp_seq (wp_region ?_))
  rw [o53_s2]
  show wpOps TZ O53_2 _ [0, 1, 2] a3 w2
  refine wpOps_val o53_20 (fun o ho => run_mv ho) ?_
  rw [e1]
  have ha4 := put_is ha3 (some 18) (.slice b rows.length cap)
  refine wpOps_val o53_21 (fun o ho => run_ln tz_u67 ho (get_same ha3 (by decide) _)) ?_
  have ha5 := put_is ha4 (some 19) (.int .i64 (rows.length : Int))
  refine wpOps_val (v := .int .i64 0) o53_22 (fun o ho => by simp [execOp, ho, Act.eval]) ?_
  have ha6 := put_is ha5 (some 20) (.int .i64 0)
  have f18 : (((a3.put (some 18) (.slice b rows.length cap)).put (some 19) (.int .i64 (rows.length : Int))).put (some 20) (.int .i64 0)).tmps.getD 18 undef = .slice b rows.length cap := by
    rw [get_other ha5 (by decide : 20 < 86) _ (by decide), get_other ha4 (by decide : 19 < 86) _ (by decide), get_same ha3 (by decide)]
  have f19 : (((a3.put (some 18) (.slice b rows.length cap)).put (some 19) (.int .i64 (rows.length : Int))).put (some 20) (.int .i64 0)).tmps.getD 19 undef = .int .i64 (rows.length : Int) := by
    rw [get_other ha5 (by decide : 20 < 86) _ (by decide), get_same ha4 (by decide)]
  have f20 := get_same ha5 (by decide : 20 < 86) (.int .i64 0)
  have oth2 : ∀ t, t < 18 → (((a3.put (some 18) (.slice b rows.length cap)).put (some 19) (.int .i64 (rows.length : Int))).put (some 20) (.int .i64 0)).tmps.getD t undef = a3.tmps.getD t undef := fun t ht => by
    rw [get_other ha5 (by decide : 20 < 86) _ (by omega), get_other ha4 (by decide : 19 < 86) _ (by omega), get_other ha3 (by decide : 18 < 86) _ (by omega)]
  generalize ((a3.put (some 18) (.slice b rows.length cap)).put (some 19) (.int .i64 (rows.length : Int))).put (some 20) (.int .i64 0) = a6 at ha6 f18 f19 f20 oth2
  show Code.wp TZ (.block 0 (.loop LB53)) _ a6 w2
  have hpn : w.heap.size ≤ p := Nat.le_trans hleft.2.1 hp2
  have hup : ∀ b o, heapOf w b = some o → heapX p w2 b = some o := fun b o h => by
    have hb : b < w.heap.size := @lt_of_some tok0 w b _ h
    have hb1 : b < w1.heap.size := Nat.lt_of_lt_of_le hb hleft.2.1
    rw [heapX_at (by omega), hl2.1 b hb1, hleft.1 b hb]; exact h
  have hbox2 : CellsAt (heapX p w2) box [name, cols, .bool true, prim] := hbox1.at_ (by
    rw [heapX_at (by omega)]; exact hl2.1 _ hbl)
  have hnode2 : CellsAt (heapX p w2) nd [nilS, nilS, nilS] := hnode.at_ (heapX_at hne2)
  have hstart : IdxAt sw rows p box (heapX p w2) w2 b cap 0 a6 w2 :=
    ⟨ha6, by rw [oth2 2 (by decide)]; exact e2, by rw [oth2 6 (by decide)]; exact e6, f18, f19, f20, ⟨fun _ _ _ => rfl, Nat.le_refl _, rfl, rfl, rfl⟩, ⟨heapX p w2, ptrV nd, _, heapX_in, heapX_p, fun b o h => h, hS2, tree_nil hnode2⟩, List.Pairwise.nil⟩
  have hgs2 : 2 ≤ w2.heap.size := Nat.le_trans hgs1 hl2.2.1
  have hl12 : Left' w w2 := hleft.trans hl2
  have fin : ∀ {w' : World}, LeftX p w2 w' → Left' w w' := fun {w'} hx =>
    ⟨fun b hb => (hx.1 b (Nat.lt_of_lt_of_le hb hl12.2.1) (by omega)).trans (hl12.1 b hb), Nat.le_trans hl12.2.1 hx.2.1, hx.2.2.1.trans hl12.2.2.1, hx.2.2.2.1.trans hl12.2.2.2.1, hx.2.2.2.2.trans hl12.2.2.2.2⟩
  refine wp_block ?_
  refine wp_loop_ghost (fun k a w => k ≤ rows.length ∧ IdxAt sw rows p box (heapX p w2) w2 b cap (rows.length - k) a w) rows.length ⟨Nat.le_refl _, by rw [Nat.sub_self]; exact hstart⟩ ?_
  rintro k a7 w7 ⟨hk, h7⟩
  refine idx_loop_round hok hids hlen (hrows.mono hup) hbox2 (hcols.mono hup) hname hprim hgs2 (by omega) h7 (fun hlt a' w' h8 => ?_) (fun he hnd a' ha' g6 => ?_) (fun a' w' x vs ha' hx g4 g5 hc hvs hnd => ?_)
  · refine ⟨k - 1, by omega, by omega, ?_⟩
    have : rows.length - (k - 1) = rows.length - k + 1 := by omega
    rw [this]; exact h8
  · refine then_exit ?_
    show Code.wp TZ X53_15 _ a' w7
    have hrunE := end_run
    unfold endRun at hrunE
    split at hrunE
    rotate_left
    · cases hrunE
    rename_i x4 x5 mE hqE
    rw [Bool.and_eq_true] at hrunE
    obtain ⟨d4, d5⟩ := hrunE
    have d4' := @aeqN_eq tok0 2 _ _ d4
    have d5' := @aeqN_eq tok0 2 _ _ d5
    subst d4'
    subst d5'
    let T2 : Tok := tokB noH (fun _ => .pointer (some ⟨p, 0, none⟩)) (fun _ => rfl)
    have hgs7 : 2 ≤ w7.heap.size := Nat.le_trans hgs2 h7.left.2.1
    have hr7 : @Rel T2 TZ (phiOf 2 []) (mkMem 2 0 .none []) w7 := none_rel hgs7 fun b o h => by cases h
    refine @one_ok TZ T2 KO (ko_ok T2 rfl) (ko_draw T2 rfl) 86 X53_15 g53_e _ _ _ _ _ _ hqE _ w7 a' _ hr7 ha' (by decide) (fun q hq => ?_) (fun h => by cases h) (fun i h => by cases h) (fun _ φ8 a8 w8 hst8 ha8 hv8 => ?_)
    · rw [List.mem_singleton] at hq
      subst hq
      refine ⟨(by decide : 6 < 4096), ?_⟩
      show @VRel T2 _ (.opq 0) (a'.tmps.getD 6 undef)
      rw [g6]; exact @VRel.opq T2 _ 0
    · have hl8 := Left'.of hst8 none_ro
      refine ⟨ha8.defers, _, results_two fn53_res _ w8, _, rfl, (fin h7.left).trans hl8, .inl ⟨hnd, p, ?_⟩⟩
      cases hv8 with
      | cons q1 hv8 =>
      cases hv8 with
      | cons q2 hv8 =>
      have q1' : a8.tmps.getD 4 undef = .pointer (some ⟨p, 0, none⟩) := opq_is q1
      have q2' : @VRel T2 φ8 .niliface (a8.tmps.getD 5 undef) := q2
      generalize hc5 : a8.tmps.getD 5 undef = c5 at q2'
      cases q2'
      rw [q1']
  · have hq : CellsAt (upd noH w w') x vs → bodyPost TZ fn53 (fun e w' => ∃ c, e = .returned c ∧ IdxPost w rows c w') .ret a' w' := fun hc' => ⟨ha'.defers, _, results_two fn53_res _ w', _, rfl, fin hx, .inr ⟨hnd, x, vs, by rw [g4, g5], hc', hvs⟩⟩
    refine hq (hc.at_ ?_)
    obtain ⟨c, el, fz, q1, _⟩ := hc
    unfold upd at q1 ⊢
    split at q1
    · cases q1
    · rename_i hge
      have := hl12.2.1
      rw [if_neg hge, if_neg (by omega)]
end Go.AM
