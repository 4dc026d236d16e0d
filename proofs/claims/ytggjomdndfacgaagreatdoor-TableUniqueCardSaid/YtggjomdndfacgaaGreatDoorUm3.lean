/- The abstract machine is sound: operations, second half. -/
import Derived.Test.YtggjomdndfacgaaGreatDoorUm2
import Derived.Laws.MakeOwn
import Derived.Laws.IdiomStrings
import Derived.Laws.BytesArg
import Derived.Laws.Append
import Derived.Laws.RangeString
set_option linter.unusedSectionVars false
set_option linter.unusedVariables false
set_option linter.unusedSimpArgs false
namespace Go.AM
variable [Tok]
variable {P : Program}

theorem repL_length (n : Nat) (zs : List AVal) : (repL n zs).length = n * zs.length := by
  rw [repL_eq]; simp
theorem repL_cell {n : Nat} {zs : List AVal} (h : ∀ v, v ∈ zs → v.isCell = true) : ∀ v, v ∈ repL n zs → v.isCell = true := by
  intro v hv
  rw [repL_eq] at hv
  simp only [List.mem_flatten] at hv
  obtain ⟨l, hl, hm⟩ := hv
  rw [List.eq_of_mem_replicate hl] at hm
  exact h v hm
theorem made_rel {φ : Phi} {z : List AVal} {c : Array Value} (h : VsRel φ z c.toList) (n : Nat) : VsRel φ (repL n z) (madeCells c (n * c.size)).toList := by
  unfold madeCells
  rw [range_rep, repL_eq]; exact h.rep n
theorem run_buildSlice {t e : TypeId} {c : Value} {len : Nat} {parts : Array (Nat × Value)} {cc' : Array Value} {w : World} (hu : P.underlying t = some (.slice e)) (ht : hasT P e = true)
    (hz : (P.info? e).bind (·.zero) = some c) (hle : len * szOf P e ≤ 2 ^ 24) (h1 : Instr.fill (fun i => some (i * szOf P e, szOf P e)) (madeCells c.cells (len * szOf P e)) parts.toList = some cc') :
    (Instr.buildSlice t len parts).run P w = .ok (.slice (some ⟨w.heap.size, 0, none⟩) len len) (w.alloc (.cells cc' e)) := by
  have hle' : ¬ (16777216 < len * szOf P e) := by omega
  unfold madeCells at h1
  by_cases hn : len * szOf P e = 0
  · simp only [hn, Array.range_zero', Array.map_empty] at h1
    simp [Instr.buildSlice, run_underlying hu, run_sizeOf' ht, hn, newRow, Array.range_zero', h1]
  · simp [Instr.buildSlice, run_underlying hu, run_sizeOf' ht, hn, hle', newRow, run_zeroV hz, h1]
theorem buildSlice_ok {o : Oper} {t : TypeId} {len : Nat} {parts : Array (Nat × Operand)} (h : o.op = .buildSlice t len parts) : OpOk P o (cBuildSlice P t len parts.toList) := by
  have ops : ∀ {φ r a}, OpsRel φ r a o → ∀ x, x ∈ parts.toList.map (·.2) → VRel φ ((opd x).get r) (a.eval x) := by
    intro φ r a ho x hx
    exact ho x (by simp only [h, Op.operands]; exact (List.mem_toArray.2 hx))
  have mp : ∀ a : Act, (parts.map fun (i, x) => (i, a.eval x)).toList = parts.toList.map fun (i, x) => (i, a.eval x) := by intro a; simp
  unfold cBuildSlice
  split
  · rename_i e hu
    split
    · rename_i z ht hz
      obtain ⟨c, hc1, hc2, hc3⟩ := zeroA_ok hz
      simp only
      split
      · trivial
      · rename_i hno
        simp only [Bool.or_eq_true, decide_eq_true_eq, not_or, Nat.not_lt, ne_eq, Decidable.not_not] at hno
        obtain ⟨hle, hzl⟩ := hno
        intro r id k v mf hk
        obtain ⟨cs', hk2, hlen, hf⟩ := fills_ok (pr_array (n := szOf P e) parts.toList) hk
        refine ⟨_, _, hk2, rfl, fun φ m w a hr ho => ?_⟩
        have hsz : c.cells.size = szOf P e := by
          have := (hc2 φ).length
          rw [Array.length_toList] at this; omega
        obtain ⟨cc', h1, h2, h3⟩ := hf φ a (madeCells c.cells (len * c.cells.size)) (made_rel (hc2 φ) len) (repL_cell hc3) (ops ho)
        have hl2 := h2.length
        rw [Array.length_toList, hlen, repL_length, hzl] at hl2
        refine ⟨.slice (some ⟨w.heap.size, 0, none⟩) len len, .cells cc' e, cc'.size, ?_, fun φ' he hφ => ⟨?_, brel_new hφ (h2.mono he) h3⟩⟩
        · simp only [execOp, h]
          refine run_value ?_
          rw [hsz] at h1
          exact run_buildSlice hu ht hc1 hle (by rw [mp]; exact h1)
        · exact .slice id 0 len len true _ _ 0 _ 0 len hφ (Nat.le_refl _) (Nat.le_refl _) (fun _ => rfl) (fun _ => rfl) (by omega)
    · trivial
  · trivial
end Go.AM

namespace Go.AM
variable [Tok]
variable {P : Program}

theorem wp_val {o : Oper} {a : Act} {w w' : World} {c : Value} {next : Act → World → Prop} {Q : Exit → Act → World → Prop} (h : (execOp a.eval o).run P w = .ok (.value c) w')
    (hn : next (a.put o.dst c) w') : o.wp P a w next Q := by
  unfold Oper.wp; rw [h]; exact hn
theorem wp_skip {o : Oper} {a : Act} {w w' : World} {next : Act → World → Prop} {Q : Exit → Act → World → Prop} (h : (execOp a.eval o).run P w = .ok .skip w')
    (hn : next (a.put o.dst undef) w') : o.wp P a w next Q := by
  unfold Oper.wp; rw [h]; exact hn
theorem memAlloc_ok {x : Blk} {m : Mem} {k : Nat → Mem → R} {v : AVal} {mf : Mem} (h : m.alloc x k = .ok v mf) : m.next < 65536 ∧ k m.next ⟨m.next + 1, putT m.next x m.t⟩ = .ok v mf := by
  obtain ⟨h1, h2⟩ := cond_t h
  rw [forceN_eq] at h2
  exact ⟨ble_true.1 h1, h2⟩
theorem undef_rel (φ : Phi) : VRel φ undefA undef := .tuple _ _ .nil
theorem makeSlice_ok {o : Oper} {t : TypeId} {l c : Operand} (h : o.op = .makeSlice t l c) : OpOk P o (cMakeSlice P t l c) := by
  unfold cMakeSlice
  split
  · rename_i e hu
    split
    · rename_i z ht hz
      obtain ⟨zc, hc1, hc2, hc3⟩ := zeroA_ok hz
      simp only
      split
      · trivial
      · rename_i hno
        simp only [Bool.or_eq_true, decide_eq_true_eq, not_or, Nat.not_lt, ne_eq, Decidable.not_not] at hno
        obtain ⟨hzl, hby⟩ := hno
        intro K _ r m k v mf hk
        obtain ⟨j1, len, hl, hk⟩ := onNat_ok hk
        obtain ⟨j2, cap, hcp, hk⟩ := onNat_ok hk
        obtain ⟨hb, hk⟩ := cond_t hk
        rw [Bool.and_eq_true, ble_true, ble_true] at hb
        obtain ⟨hn, hk⟩ := memAlloc_ok hk
        refine ⟨_, _, hk, fun φ w a hr ho next Q hnext => ?_⟩
        have h1 := ho l (by simp [h, Op.operands])
        have h2 := ho c (by simp [h, Op.operands])
        rw [hl] at h1
        rw [hcp] at h2
        generalize hcl : a.eval l = cl at h1
        generalize hcc : a.eval c = cc at h2
        cases h1
        cases h2
        obtain ⟨ie, hie⟩ := info_of_hasT ht
        have hc1' : ie.zero = some zc := by rw [hie] at hc1; exact hc1
        have hse : szOf P e = ie.size := by simp [szOf, Program.cellsOf, hie]
        have hbe : P.bytesOf e = ie.bytes := by simp [Program.bytesOf, hie]
        rw [hbe] at hby
        have hsz : zc.cells.size = szOf P e := by
          have := (hc2 φ).length
          rw [Array.length_toList] at this; omega
        have hmul : (ie.bytes : Int) * (Int.ofNat cap) ≤ 281474976710656 := by
          have h3 : ie.bytes * cap ≤ 65536 * 1048576 := Nat.mul_le_mul hby hb.2
          have h4 : ((ie.bytes * cap : Nat) : Int) ≤ 281474976710656 := by omega
          rwa [Int.natCast_mul] at h4
        have hrun := run_make (P := P) w t e ie zc hu hie hc1' j1 j2 (Int.ofNat len) (Int.ofNat cap) (by simp) (by simp; exact hb.1) hmul (by simp; omega)
        refine wp_val (c := .slice (some ⟨w.heap.size, 0, none⟩) len cap) (by simp only [execOp, h, hcl, hcc]; exact run_value hrun) ?_
        have hst := Step.new (w' := w.alloc (.cells (madeCells zc.cells (cap * ie.size)) e)) (o := 0) (s := cap * ie.size) (x := .cells false (repL cap z)) hr hn rfl rfl rfl rfl
          (by
            refine brel_new ?_ ?_ (repL_cell hc3)
            · simp [size_madeCells]
            · rw [← hse, ← hsz]; exact made_rel (hc2 _) cap)
        refine hnext _ _ _ hst ?_
        exact .slice m.next 0 len cap true _ w.heap.size 0 (cap * ie.size) 0 cap (by simp) hb.1 (Nat.le_refl _) (fun _ => rfl) (fun _ => rfl) (by rw [hse]; omega)
    · trivial
  · trivial
end Go.AM

namespace Go.AM
variable [Tok]
variable {P : Program}

theorem run_loadRow {w : World} {cb off n : Nat} {c : Array Value} {el : TypeId} {fz : Nat × Nat} (h2 : w.heap[cb]? = some (.cells c el fz)) (hl : ((c.toList.drop off).take n).length = n) :
    (loadCells ⟨cb, off, none⟩ n).run P w = .ok ((c.toList.drop off).take n).toArray w := by
  have := run_loadCells_list (P := P) (w := w) ⟨cb, off, none⟩ ((c.toList.drop off).take n) (by
    intro j v hj
    rw [addr_add]
    rw [List.getElem?_take] at hj
    split at hj
    · rw [List.getElem?_drop] at hj
      simp only [World.cell?, h2, Option.isSome_none, Bool.false_eq_true, if_false]
      rw [← Array.getElem?_toList]; exact hj
    · cases hj)
  rw [hl] at this; exact this
theorem block_cells {φ : Phi} {m : Mem} {w : World} (hr : Rel P φ m w) {b o n cb co sz : Nat} (hφ : φ b = some (cb, co, sz)) {ro : Bool} {cs : List AVal} (hb : m.get b = .cells ro cs)
    (hn : ((cs.drop o).take n).length = n) : ∃ vs : List Value, VsRel φ ((cs.drop o).take n) vs ∧ (∀ v, v ∈ (cs.drop o).take n → v.isCell = true) ∧
      ∀ a : Addr, (n ≠ 0 → a = ⟨cb, co + o, none⟩) → (loadCells a n).run P w = .ok vs.toArray w := by
  have hB := hr.blk b (hr.dom _ _ hφ)
  rw [hb] at hB
  obtain ⟨cb', co', c, el, fz, h1, h2, h3, h4, h5, h6⟩ := hB
  rw [hφ] at h1; cases h1
  refine ⟨(c.toList.drop (co + o)).take n, ?_, fun v hv => h5 v (List.mem_of_mem_drop (List.mem_of_mem_take hv)), fun a ha => ?_⟩
  · have := (h4.drop o).take n
    rw [List.drop_take, List.drop_drop, List.take_take] at this
    have e : min n (cs.length - o) = n := by simp at hn; omega
    rw [e] at this
    rw [Nat.add_comm co o]
    simpa [Nat.add_comm] using this
  · by_cases h0 : n = 0
    · subst h0
      have := run_loadCells_list (P := P) (w := w) a [] (by simp)
      simpa using this
    · rw [ha h0]
      exact run_loadRow h2 (by simp at hn ⊢; omega)
theorem bytesOf_ok : ∀ {cs : List AVal} {k : List Nat → R} {v : AVal} {m : Mem}, bytesOf cs k = .ok v m → ∃ s, k s = .ok v m ∧ cs = toU8 s ∧ ∀ n, n ∈ s → n ≤ 255
  | [], k, v, m, h => ⟨[], h, rfl, fun n hn => by cases hn⟩
  | x :: l, k, v, m, h => by
    obtain ⟨j, z, rfl, h⟩ := onInt_ok h
    obtain ⟨hj, h⟩ := cond_t h
    have hj' := ikEq_eq hj
    subst hj'
    cases z with
    | negSucc n => cases h
    | ofNat n =>
      obtain ⟨hn, h⟩ := cond_t h
      obtain ⟨s, h1, h2, h3⟩ := bytesOf_ok h
      refine ⟨n :: s, h1, by rw [h2]; rfl, fun q hq => ?_⟩
      cases hq with
      | head => exact ble_true.1 hn
      | tail _ hq => exact h3 q hq
theorem toU8_vals {φ : Phi} : ∀ {s : List Nat} {vs : List Value}, VsRel φ (toU8 s) vs → vs = (s.map fun (n : Nat) => (n : Int)).map (Value.int .u8)
  | [], vs, h => by cases h; rfl
  | n :: s, vs, h => by
    cases h with
    | cons h t =>
      cases h
      rw [toU8_vals t]; rfl
theorem toU8_rel {φ : Phi} : ∀ (l : List UInt8), VsRel φ (toU8 (l.map UInt8.toNat)) (l.map fun b => Value.int .u8 b.toNat)
  | [] => .nil
  | _ :: l => .cons (.int .u8 _) (toU8_rel l)
theorem toU8_cell (s : List Nat) : ∀ v, v ∈ toU8 s → v.isCell = true := by
  intro v hv
  simp only [toU8, List.mem_map] at hv
  obtain ⟨n, _, rfl⟩ := hv
  rfl
theorem bytes_str {s : List Nat} (h : ∀ n, n ∈ s → n ≤ 255) : (strOfNums (s.map fun (n : Nat) => (n : Int))).data.toList.map UInt8.toNat = s := by
  rw [strOfNums_data]
  induction s with
  | nil => rfl
  | cons n s ih =>
    simp only [List.map_cons, List.cons.injEq]
    refine ⟨?_, ih fun q hq => h q (List.mem_cons_of_mem _ hq)⟩
    have := h n (List.mem_cons_self ..)
    simp; omega
theorem elemIsU8_ok {e : TypeId} (h : elemIsU8 P e = true) : P.underlying e = some (.int .u8) := by
  unfold elemIsU8 at h
  split at h
  · assumption
  · cases h
theorem conv_ok {o : Oper} {src dst : TypeId} {x : Operand} (h : o.op = .convert src dst x) : OpOk P o (cConv P src dst x) := by
  unfold cConv
  split
  · rename_i j1 j hs hd
    intro r k v mf hk
    dsimp only [tokConv] at hk
    split at hk
    · rename_i k1 i hx
      refine ⟨_, hk, fun φ m w a hr ho => ?_⟩
      have h1 := ho x (by simp [h, Op.operands])
      rw [hx] at h1
      generalize hc : a.eval x = c at h1
      cases h1 with
      | sym _ _ hi =>
        have hrg := sym_range hi
        refine ⟨_, .sym j i hi, ?_⟩
        simp only [execOp, h, hc]
        exact run_value (by simp [convert, run_underlying hs, run_underlying hd, Conv.intToInt, wrap_small127 (k := j) (x := Tok.num i) (by omega) hrg.2])
    · rename_i k1 i hx
      refine ⟨_, hk, fun φ m w a hr ho => ?_⟩
      have h1 := ho x (by simp [h, Op.operands])
      rw [hx] at h1
      generalize hc : a.eval x = c at h1
      cases h1 with
      | nx _ _ hi hin =>
        have hrg := nx_range hi hin
        refine ⟨_, .nx j i hi hin, ?_⟩
        simp only [execOp, h, hc]
        exact run_value (by simp [convert, run_underlying hs, run_underlying hd, Conv.intToInt, wrap_small127 (k := j) (x := Tok.base + (i : Int)) (by omega) hrg.2])
    · obtain ⟨j2, z, hx, hk⟩ := onInt_ok hk
      rw [wrapI_eq] at hk
      refine ⟨_, hk, fun φ m w a hr ho => ?_⟩
      have h1 := ho x (by simp [h, Op.operands])
      rw [hx] at h1
      generalize hc : a.eval x = c at h1
      cases h1
      refine ⟨_, .int j (j.wrap z), ?_⟩
      simp only [execOp, h, hc]
      exact run_value (by simp [convert, run_underlying hs, run_underlying hd, Conv.intToInt])
  · rename_i hs hd
    intro r k v mf hk
    obtain ⟨s, hx, hk⟩ := onStr_ok hk
    refine ⟨_, hk, fun φ m w a hr ho => ?_⟩
    have h1 := ho x (by simp [h, Op.operands])
    rw [hx] at h1
    generalize hc : a.eval x = c at h1
    have h1' := h1
    cases h1 with
    | str _ t ht =>
      refine ⟨_, h1', ?_⟩
      simp only [execOp, h, hc]
      exact run_value (by simp [convert, run_underlying hs, run_underlying hd])
  · rename_i e hs hd
    split
    · rename_i he
      have he' := elemIsU8_ok he
      intro K _ r m k v mf hk
      obtain ⟨s, hx, hk⟩ := onStr_ok hk
      obtain ⟨hlv, hk⟩ := cond_t hk
      obtain ⟨hn, hk⟩ := memAlloc_ok hk
      refine ⟨_, _, hk, fun φ w a hr ho next Q hnext => ?_⟩
      have h1 := ho x (by simp [h, Op.operands])
      rw [hx] at h1
      generalize hc : a.eval x = c at h1
      cases h1 with
      | str _ t ht =>
        have hrun := run_bytes_of_string (P := P) w src dst e t hs hd he'
        have hge := grownCap_ge w t.size 0 e
        refine wp_val (by simp only [execOp, h, hc]; exact run_value hrun) ?_
        have hsz : (bytesRow t (grownCap w t.size 0 e)).size = grownCap w t.size 0 e := by
          simp only [bytesRow, Array.size_append, Array.size_map, Array.size_replicate]
          show t.size + _ = _
          omega
        have htl : t.size = s.length := by
          rw [← ht, List.length_map, Array.length_toList]; rfl
        have hst := Step.new (w' := w.drew.alloc (.cells (bytesRow t (grownCap w t.size 0 e)) e ((bytesRow t (grownCap w t.size 0 e)).size, (bytesRow t (grownCap w t.size 0 e)).size + 1)))
          (o := 0) (s := (bytesRow t (grownCap w t.size 0 e)).size) (x := .cells false (toU8 s)) hr hn rfl rfl rfl rfl
          (by
            refine ⟨w.heap.size, 0, bytesRow t (grownCap w t.size 0 e), e, ((bytesRow t (grownCap w t.size 0 e)).size, (bytesRow t (grownCap w t.size 0 e)).size + 1), by simp, by show (w.heap.push _)[w.heap.size]? = _; simp, ?_, ?_, toU8_cell s, fun _ i h1 h2 => ⟨fun h3 => ?_, fun x hx => ?_⟩⟩
            · simp only [Nat.zero_add, toU8, List.length_map]; omega
            · rw [List.drop_zero]
              have e1 : (bytesRow t (grownCap w t.size 0 e)).toList.take (toU8 s).length = t.data.toList.map fun b => Value.int .u8 b.toNat := by
                simp only [bytesRow, Array.toList_append, Array.toList_map]
                rw [List.take_left']
                rw [← ht]; simp [toU8]
              rw [e1, ← ht]
              exact toU8_rel _
            · rcases h2 with h2 | ⟨_, hs⟩
              · simp only at h3; omega
              · have := hr.mode hs
                rw [← blkLive_eq, hlv] at this; cases this
            · have hm := Array.mem_of_getElem? hx
              simp only [bytesRow, Array.mem_append, Array.mem_map, Array.mem_replicate] at hm
              rcases hm with ⟨b, _, rfl⟩ | ⟨_, rfl⟩ <;> rfl)
        refine hnext _ _ _ hst ?_
        rw [lenL_eq, ← htl]
        exact .slice m.next 0 _ _ false 1 w.heap.size 0 (bytesRow t (grownCap w t.size 0 e)).size 0 _ (by simp) (Nat.le_refl _) hge (fun h => by cases h) (fun _ => rfl) (by omega)
    · trivial
  · rename_i e hs hd
    split
    · rename_i he
      have he' := elemIsU8_ok he
      intro K _ r m k v mf hk
      rcases onSliceN_ok hk with ⟨hx, hk⟩ | ⟨b, o', len, cap, ex, es, hx, hk⟩
      · refine ⟨_, _, hk, fun φ w a hr ho next Q hnext => ?_⟩
        have h1 := ho x (by simp [h, Op.operands])
        rw [hx] at h1
        generalize hc : a.eval x = c at h1
        cases h1
        refine wp_val (by simp only [execOp, h, hc]; exact run_value (run_convert_bytes_nil w src e hs he' 0 0 dst hd)) ?_
        exact hnext _ _ _ (Step.refl hr) (.str _ _ rfl)
      · obtain ⟨hes, hk⟩ := cond_t hk
        obtain ⟨ro, cs, hb, hn, hk⟩ := getCells_ok hk
        obtain ⟨s, hk, hcs, hs255⟩ := bytesOf_ok hk
        refine ⟨_, _, hk, fun φ w a hr ho next Q hnext => ?_⟩
        have h1 := ho x (by simp [h, Op.operands])
        rw [hx] at h1
        generalize hc : a.eval x = c at h1
        cases h1 with
        | slice _ _ _ _ _ _ cb co sz o'' cap' hφ g1 g2 g3 g4 g5 =>
          obtain ⟨vs, h2, h3, h4⟩ := block_cells hr hφ hb hn
          rw [hcs] at h2
          have hvs := toU8_vals h2
          have hld := h4 ⟨cb, o'', none⟩ (fun h0 => by rw [g4 (by omega)])
          rw [hvs] at hld
          have hrun := run_bytesToString (P := P) w ⟨cb, o'', none⟩ len cap' _ hld
          rw [foldl_push_bytes] at hrun
          refine wp_val (w' := w) (c := .string (strOfNums (s.map fun (n : Nat) => (n : Int)))) ?_ ?_
          · simp only [execOp, h, hc]
            refine run_value ?_
            rw [run_convert_bytes_string w src dst e _ len cap' hs he' hd, hrun]
            simp [strOfNums, ByteArray.empty, ByteArray.emptyWithCapacity]
            rfl
          · exact hnext _ _ _ (Step.refl hr) (.str _ _ (bytes_str hs255))
    · trivial
  · trivial
end Go.AM

namespace Go.AM
variable [Tok]
variable {P : Program}

theorem part_some (p : String → Bool) (g : String → String) (a : String) (nm : List String) : (Instr.least ((a :: nm).partition p).2 <|> Instr.least (((a :: nm).partition p).1.map g)).isNone = false := by
  rw [List.partition_eq_filter_filter]
  simp only []
  cases ha : p a with
  | true =>
    rw [List.filter_cons_of_pos ha]
    cases hf : List.filter (not ∘ p) (a :: nm) with
    | nil => rfl
    | cons z t => rfl
  | false =>
    rw [List.filter_cons_of_pos (p := not ∘ p) (by simp [ha])]
    rfl
theorem lacks_eq (want : Array (String × TypeId)) (got : Array Method) : lacksNone want.toList got.toList = (Instr.missingMethod want got).isNone := by
  unfold lacksNone Instr.missingMethod
  simp only []
  generalize hM : (want.toList.filter fun (x : String × TypeId) => match x with | (name, sig) => !got.any fun m => m.name == name && m.sig == sig) = L
  cases L with
  | nil =>
    have h1 : (want.toList.all fun x => got.toList.any fun m => m.name == x.1 && m.sig == x.2) = true := by
      rw [List.all_eq_true]
      intro x hx
      have := List.filter_eq_nil_iff.1 hM x hx
      simpa using this
    rw [h1]
    rfl
  | cons y l =>
    have h1 : (want.toList.all fun x => got.toList.any fun m => m.name == x.1 && m.sig == x.2) = false := by
      have hy : y ∈ want.toList.filter fun (x : String × TypeId) => match x with | (name, sig) => !got.any fun m => m.name == name && m.sig == sig := by rw [hM]; exact List.mem_cons_self ..
      obtain ⟨hy1, hy2⟩ := List.mem_filter.1 hy
      rw [List.all_eq_false]
      refine ⟨y, hy1, ?_⟩
      simpa using hy2
    rw [h1]
    symm
    exact part_some _ _ _ _
theorem run_assert_nil {x : Value} {xt t : TypeId} {d : TypeDesc} {zc : Value} {w : World} (hu : P.underlying t = some d) (hz : (P.info? t).bind (·.zero) = some zc) (hx : x = .nilIface) :
    (Instr.typeAssert x xt t true).run P w = .ok (.tuple #[zc, .bool false]) w := by
  subst hx
  unfold Instr.typeAssert
  simp only [Sem.run_bind, run_underlying hu, Result.andThen_ok]
  cases d <;> simp [run_zeroV hz]
theorem tuple2 {φ : Phi} {x y : AVal} {a b : Value} (h : VRel φ x a) (g : VRel φ y b) : VRel φ (.tuple [x, y]) (.tuple #[a, b]) := .tuple _ _ (.cons h (.cons g .nil))
theorem assert_ok {o : Oper} {x : Operand} {xt t : TypeId} {ok : Bool} (h : o.op = .typeAssert x xt t ok) : OpOk P o (cAssert P x t ok) := by
  unfold cAssert
  split
  · rename_i want z hu hz
    obtain ⟨zc, hz1, hz2⟩ := zeroV_ok hz
    intro r k v mf hk
    rcases onIface_ok hk with ⟨hx, hk⟩ | ⟨u, y, hx, hk⟩
    · obtain ⟨hok, hk⟩ := cond_t hk
      subst hok
      refine ⟨_, hk, fun φ m w a hr ho => ?_⟩
      have h1 := ho x (by simp [h, Op.operands])
      rw [hx] at h1
      exact ⟨_, tuple2 (hz2 φ) (.bool false), by simp only [execOp, h]; exact run_value (run_assert_nil hu hz1 (isNilIface h1))⟩
    · cases hi : P.info? u with
      | none => rw [show missB P want u = none by simp [missB, hi]] at hk; cases hk
      | some i =>
        cases hmm : Instr.missingMethod want i.methods with
        | none =>
          rw [show missB P want u = some true by simp [missB, hi, lacks_eq, hmm]] at hk
          rcases cond_ok hk with ⟨rfl, hk⟩ | ⟨rfl, hk⟩
          · refine ⟨_, hk, fun φ m w a hr ho => ?_⟩
            have h1 := ho x (by simp [h, Op.operands])
            rw [hx] at h1
            generalize hc : a.eval x = c at h1
            have h1' := h1
            cases h1
            refine ⟨_, tuple2 h1' (.bool true), ?_⟩
            simp only [execOp, h, hc]
            exact run_value (by simp [Instr.typeAssert, run_underlying hu, typeInfo, hi, hmm])
          · refine ⟨_, hk, fun φ m w a hr ho => ?_⟩
            have h1 := ho x (by simp [h, Op.operands])
            rw [hx] at h1
            generalize hc : a.eval x = c at h1
            have h1' := h1
            cases h1
            refine ⟨_, h1', ?_⟩
            simp only [execOp, h, hc]
            exact run_value (by simp [Instr.typeAssert, run_underlying hu, typeInfo, hi, hmm])
        | some mm =>
          rw [show missB P want u = some false by simp [missB, hi, lacks_eq, hmm]] at hk
          obtain ⟨hok, hk⟩ := cond_t hk
          subst hok
          refine ⟨_, hk, fun φ m w a hr ho => ?_⟩
          have h1 := ho x (by simp [h, Op.operands])
          rw [hx] at h1
          generalize hc : a.eval x = c at h1
          cases h1
          refine ⟨_, tuple2 (hz2 φ) (.bool false), ?_⟩
          simp only [execOp, h, hc]
          exact run_value (by simp [Instr.typeAssert, run_underlying hu, typeInfo, hi, hmm, run_zeroV hz1])
  · rename_i d z hno hu hz
    obtain ⟨zc, hz1, hz2⟩ := zeroV_ok hz
    have hno' : ∀ ms, d ≠ .interface ms := fun ms e => by subst e; exact hno ms rfl
    intro r k v mf hk
    rcases onIface_ok hk with ⟨hx, hk⟩ | ⟨u, y, hx, hk⟩
    · obtain ⟨hok, hk⟩ := cond_t hk
      subst hok
      refine ⟨_, hk, fun φ m w a hr ho => ?_⟩
      have h1 := ho x (by simp [h, Op.operands])
      rw [hx] at h1
      exact ⟨_, tuple2 (hz2 φ) (.bool false), by simp only [execOp, h]; exact run_value (run_assert_nil hu hz1 (isNilIface h1))⟩
    · have run : ∀ (c : Value) (w : World), (Instr.typeAssert (.iface u c) xt t ok).run P w =
          (if u = t then (Result.ok (if ok then .tuple #[c, .bool true] else c) w) else (Instr.typeAssert (.iface u c) xt t ok).run P w) := by
        intro c w
        split
        · rename_i e
          unfold Instr.typeAssert
          simp only [Sem.run_bind, run_underlying hu, Result.andThen_ok]
          cases d <;> first | exact absurd rfl (hno' _) | simp [e]
        · rfl
      have run2 : ∀ (c : Value) (w : World), u ≠ t → (Instr.typeAssert (.iface u c) xt t true).run P w = .ok (.tuple #[zc, .bool false]) w := by
        intro c w hne
        unfold Instr.typeAssert
        simp only [Sem.run_bind, run_underlying hu, Result.andThen_ok]
        cases d <;> first | exact absurd rfl (hno' _) | simp [hne, run_zeroV hz1]
      rcases cond_ok hk with ⟨he, hk⟩ | ⟨he, hk⟩
      · rw [beq_true] at he
        have hk' : k (if ok then .tuple [y, .bool true] else y) = .ok v mf := by
          rcases cond_ok hk with ⟨rfl, hk⟩ | ⟨rfl, hk⟩ <;> exact hk
        refine ⟨_, hk', fun φ m w a hr ho => ?_⟩
        have h1 := ho x (by simp [h, Op.operands])
        rw [hx] at h1
        generalize hc : a.eval x = c at h1
        cases h1 with
        | iface _ _ c' h2 =>
          refine ⟨if ok then .tuple #[c', .bool true] else c', ?_, ?_⟩
          · cases ok
            · exact h2
            · exact tuple2 h2 (.bool true)
          · simp only [execOp, h, hc]
            refine run_value ?_
            rw [run, if_pos he]
      · have hne : u ≠ t := fun e => by rw [beq_true.2 e] at he; cases he
        obtain ⟨hok, hk⟩ := cond_t hk
        subst hok
        refine ⟨_, hk, fun φ m w a hr ho => ?_⟩
        have h1 := ho x (by simp [h, Op.operands])
        rw [hx] at h1
        generalize hc : a.eval x = c at h1
        cases h1 with
        | iface _ _ c' h2 =>
          refine ⟨_, tuple2 (hz2 φ) (.bool false), ?_⟩
          simp only [execOp, h, hc]
          exact run_value (run2 c' w hne)
  · trivial
end Go.AM

namespace Go.AM
variable [Tok]
variable {P : Program}

theorem run_getObj {w : World} {r : Nat} {o : Obj} (h : w.heap[r]? = some o) (hn : ∀ c e f, o ≠ .cells c e f) : (getObj r).run P w = .ok o w := by
  cases o <;> first | exact absurd rfl (hn _ _ _) | simp [getObj, Sem.run, h]
theorem run_setObj {w : World} {r : Nat} {o o' : Obj} (h : w.heap[r]? = some o) (hn : ∀ c e f, o ≠ .cells c e f) : (setObj r o').run P w = .ok () (setBlk w r o') := by
  cases o <;> first | exact absurd rfl (hn _ _ _) | (simp [setObj, Sem.run, h]; rfl)
theorem mapTypes_ok {t : TypeId} {e : EK} {el : TypeId} (h : mapTypes P t = some (e, el)) : ∃ kt d, P.underlying t = some (.map kt el) ∧ P.underlying kt = some d ∧ leafFits d e = true := by
  unfold mapTypes at h
  split at h
  · rename_i kt el' hu
    refine ⟨kt, ?_⟩
    unfold keyKind at h
    split at h
    all_goals first
      | (rename_i hk; simp at h; obtain ⟨rfl, rfl⟩ := h; exact ⟨_, hu, hk, rfl⟩)
      | cases h
  · cases h
theorem u8_arr {a b : ByteArray} (h : a.data.toList.map UInt8.toNat = b.data.toList.map UInt8.toNat) : a = b := by
  have := map_u8_inj.1 h
  cases a; cases b
  congr 1
  exact Array.toList_inj.1 this
theorem leaf_same {e : EK} {d : TypeDesc} (hf : leafFits d e = true) {x y : AVal} {k : Bool → R} {v : AVal} {m : Mem} (h : eqLeaf e x y k = .ok v m) :
    ∃ b, k b = .ok v m ∧ ∀ φ cx cy, VRel φ x cx → VRel φ y cy → Instr.sameNow d cx cy = some b ∧ (b = true → cx = cy ∧ ∀ n, Instr.sameBits n cx cy = true) := by
  cases e with
  | int =>
    obtain ⟨j, a, b, rfl, rfl, h2⟩ := aInt2_ok h
    refine ⟨_, h2, fun φ cx cy hx hy => ?_⟩
    cases hx; cases hy
    rw [ieq_eq]
    cases d <;> first | cases hf | skip
    refine ⟨by simp [Instr.sameNow], fun hb => ?_⟩
    have : a = b := by simpa using hb
    subst this
    exact ⟨rfl, fun n => by cases n <;> simp [Instr.sameBits]⟩
  | str =>
    obtain ⟨a, b, rfl, rfl, h2⟩ := aStr2_ok h
    refine ⟨_, h2, fun φ cx cy hx hy => ?_⟩
    cases hx with
    | str _ t ht =>
      cases hy with
      | str _ t' ht' =>
        cases d <;> first | cases hf | skip
        have key : listEq a b = (t == t') := by
          rw [beq_toListBytes, ← listEq_bytes, ht, ht']
        refine ⟨by rw [key]; rfl, fun hb => ?_⟩
        have e1 : t = t' := by
          have := listEq_iff.1 hb
          rw [← ht, ← ht'] at this
          exact u8_arr this
        rw [key] at hb
        subst e1
        exact ⟨rfl, fun n => by cases n <;> exact hb⟩
  | bool =>
    obtain ⟨a, rfl, h2⟩ := onBool_ok h
    obtain ⟨b, rfl, h3⟩ := onBool_ok h2
    refine ⟨_, h3, fun φ cx cy hx hy => ?_⟩
    cases hx; cases hy
    cases d <;> first | cases hf | skip
    cases a <;> cases b <;> simp [Instr.sameNow, Instr.sameBits, cond'] <;> intro n <;> cases n <;> rfl
theorem mkey_same {e : EK} {d : TypeDesc} (hf : leafFits d e = true) {x y : AVal} {k : Bool → R} {v : AVal} {m : Mem} (h : mkeyEq e x y k = .ok v m) :
    ∃ b, k b = .ok v m ∧ ∀ φ cx cy, VRel φ x cx → VRel φ y cy → Instr.sameNow d cx cy = some b ∧ (b = true → cx = cy ∧ ∀ n, Instr.sameBits n cx cy = true) := by
  cases e with
  | str => exact leaf_same hf h
  | bool => exact leaf_same hf h
  | int =>
    rcases cond_ok h with ⟨_, h1⟩ | ⟨_, h1⟩
    · obtain ⟨o, h2, h3⟩ := onO3_ok h1
      obtain ⟨b, h4, h5⟩ := onB3_ok h3
      rw [forceB_eq] at h5
      refine ⟨b, h5, fun φ cx cy hx hy => ?_⟩
      obtain ⟨kk, a, bb, rfl, rfl, ho⟩ := tokCmp_ok h2 hx hy
      cases d <;> first | (cases hf; done) | skip
      have hab : (a == bb) = b := by
        cases o <;> first
          | (cases h4; done)
          | (cases h4; simp only [Ord3.holds] at ho; simp; omega)
      refine ⟨by simp [Instr.sameNow, hab], fun hb => ?_⟩
      rw [hb] at hab
      have : a = bb := by simpa using hab
      subst this
      exact ⟨rfl, fun n => by cases n <;> simp [Instr.sameBits]⟩
    · exact leaf_same hf h1
theorem findM_ok {e : EK} {d : TypeDesc} (hf : leafFits d e = true) {key : AVal} : ∀ {l : List MEnt} {i : Nat} {no : Unit → R} {yes : Nat → MEnt → R} {v : AVal} {m : Mem}, findM e key l i no yes = .ok v m →
    (no () = .ok v m ∧ ∀ φ ck ces, VRel φ key ck → EsRel φ l ces → Instr.findNow d ck ces i = some none) ∨
    (∃ j en, yes (i + j) en = .ok v m ∧ l[j]? = some en ∧ ∀ φ ck ces, VRel φ key ck → EsRel φ l ces → ∃ ce, ces[j]? = some ce ∧ Instr.findNow d ck ces i = some (some (i + j, ce.val)) ∧
      VRel φ en.val ce.val ∧ en.born = ce.born ∧ ck = ce.key ∧ ∀ n, Instr.sameBits n ce.key ck = true)
  | [], i, no, yes, v, m, h => .inl ⟨h, fun φ ck ces _ he => by cases ces with | nil => rfl | cons _ _ => exact he.elim⟩
  | x :: l, i, no, yes, v, m, h => by
    obtain ⟨b, hk, hs⟩ := mkey_same hf h
    cases b with
    | true =>
      refine .inr ⟨0, x, hk, rfl, fun φ ck ces hkey he => ?_⟩
      cases ces with
      | nil => exact he.elim
      | cons c cs =>
        obtain ⟨h1, h2, h3, h4⟩ := he
        obtain ⟨g1, g2⟩ := hs φ ck c.key hkey h1
        obtain ⟨g3, g4⟩ := g2 rfl
        exact ⟨c, rfl, by simp [Instr.findNow, g1], h2, h3, g3, fun n => by have := g4 n; rw [← g3] at this ⊢; exact this⟩
    | false =>
      rcases findM_ok hf hk with ⟨h1, h2⟩ | ⟨j, en, h1, h2, h3⟩
      · refine .inl ⟨h1, fun φ ck ces hkey he => ?_⟩
        cases ces with
        | nil => exact he.elim
        | cons c cs =>
          obtain ⟨g1, g2, g3, g4⟩ := he
          have := (hs φ ck c.key hkey g1).1
          simp only [Instr.findNow, this]
          exact h2 φ ck cs hkey g4
      · have e1 : Nat.succ i + j = i + (j + 1) := by omega
        rw [e1] at h1
        refine .inr ⟨j + 1, en, h1, h2, fun φ ck ces hkey he => ?_⟩
        cases ces with
        | nil => exact he.elim
        | cons c cs =>
          obtain ⟨g1, g2, g3, g4⟩ := he
          have := (hs φ ck c.key hkey g1).1
          obtain ⟨ce, q1, q2, q3⟩ := h3 φ ck cs hkey g4
          refine ⟨ce, q1, ?_, q3⟩
          simp only [Instr.findNow, this]
          rw [← e1]; exact q2
theorem run_checkKey {kt : TypeId} {d : TypeDesc} {e : EK} (hu : P.underlying kt = some d) (hf : leafFits d e = true) (b : Bool) (c : Value) (w : World) : (Instr.checkKey b 10000 kt c).run P w = .ok () w := by
  have : ∀ n, (Instr.checkKey b (n + 1) kt c).run P w = .ok () w := by
    intro n
    unfold Instr.checkKey
    simp only [Sem.run_bind, run_underlying hu, Result.andThen_ok]
    cases d <;> first | (cases e <;> cases hf <;> done) | skip
    all_goals cases c <;> rfl
  exact this 9999
theorem run_findKey {kt : TypeId} {d : TypeDesc} {c : Value} {es : List MapEntry} {r : Option (Nat × Value)} (hu : P.underlying kt = some d) (h : Instr.findNow d c es 0 = some r) (w : World) :
    (Instr.findKey kt c es).run P w = .ok r w := by
  unfold Instr.findKey
  simp only [Sem.run_bind, run_underlying hu, Result.andThen_ok, h]
  rfl
end Go.AM

namespace Go.AM
variable [Tok]
variable {P : Program}

theorem EsRel.push {φ : Phi} {x : MEnt} {c : MapEntry} (hk : VRel φ x.key c.key) (hv : VRel φ x.val c.val) (hb : x.born = c.born) : ∀ {l : List MEnt} {cs : List MapEntry}, EsRel φ l cs → EsRel φ (l ++ [x]) (cs ++ [c])
  | [], [], _ => ⟨hk, hv, hb, trivial⟩
  | _ :: _, _ :: _, ⟨h1, h2, h3, h4⟩ => ⟨h1, h2, h3, EsRel.push hk hv hb h4⟩
  | [], _ :: _, h => h.elim
  | _ :: _, [], h => h.elim
theorem EsRel.set {φ : Phi} {x : MEnt} {f : MapEntry → MapEntry} : ∀ {l : List MEnt} {cs : List MapEntry} {j : Nat}, EsRel φ l cs →
    (∀ c, cs[j]? = some c → VRel φ x.key (f c).key ∧ VRel φ x.val (f c).val ∧ x.born = (f c).born) → EsRel φ (setEnt x j l) (cs.modify j f)
  | [], [], j, _, _ => by cases j <;> exact trivial
  | _ :: _, c :: _, 0, ⟨h1, h2, h3, h4⟩, hf => by
    obtain ⟨g1, g2, g3⟩ := hf c rfl
    exact ⟨g1, g2, g3, h4⟩
  | _ :: _, c :: _, j + 1, ⟨h1, h2, h3, h4⟩, hf => ⟨h1, h2, h3, EsRel.set h4 fun c' hc => hf c' (by simpa using hc)⟩
  | [], _ :: _, _, h, _ => h.elim
  | _ :: _, [], _, h, _ => h.elim
theorem EsRel.del {φ : Phi} : ∀ {l : List MEnt} {cs : List MapEntry} {j : Nat}, EsRel φ l cs → EsRel φ (delEnt j l) (cs.eraseIdx j)
  | [], [], j, _ => by cases j <;> exact trivial
  | _ :: _, _ :: _, 0, ⟨_, _, _, h4⟩ => h4
  | _ :: _, _ :: _, j + 1, ⟨h1, h2, h3, h4⟩ => ⟨h1, h2, h3, EsRel.del h4⟩
  | [], _ :: _, _, h => h.elim
  | _ :: _, [], _, h => h.elim
theorem EsRel.length {φ : Phi} : ∀ {l : List MEnt} {cs : List MapEntry}, EsRel φ l cs → cs.length = l.length
  | [], [], _ => rfl
  | _ :: _, _ :: _, ⟨_, _, _, h4⟩ => by simp [EsRel.length h4]
  | [], _ :: _, h => h.elim
  | _ :: _, [], h => h.elim
section
variable {φ : Phi} {m : Mem} {w : World} (hr : Rel P φ m w)
include hr
theorem map_at {b : Nat} {c : Value} (hv : VRel φ (.map b) c) {es : List MEnt} {clock : Nat} (hb : m.get b = .map es clock) :
    ∃ cb co sz ces, c = .map (some cb) ∧ φ b = some (cb, co, sz) ∧ w.heap[cb]? = some (.map ces clock) ∧ EsRel φ es ces.toList := by
  cases hv with
  | map _ cb co sz hφ =>
    have hB := hr.blk b (hr.dom _ _ hφ)
    rw [hb] at hB
    obtain ⟨cb', co', sz', ces, h1, h2, h3⟩ := hB
    rw [hφ] at h1; cases h1
    exact ⟨cb, co, sz, ces, rfl, hφ, h2, h3⟩
theorem map_upd {b cb co sz : Nat} (hφ : φ b = some (cb, co, sz)) {es es' : List MEnt} {clock clock' : Nat} (hb : m.get b = .map es clock) {ces ces' : Array MapEntry} (hh : w.heap[cb]? = some (.map ces clock))
    (he : EsRel φ es' ces'.toList) : Step P φ m w φ (m.put b (.map es' clock')) (setBlk w cb (.map ces' clock')) := by
  have hlt : cb < w.heap.size := by
    rcases Nat.lt_or_ge cb w.heap.size with h | h
    · exact h
    · rw [Array.getElem?_eq_none h] at hh; cases hh
  exact Step.upd hr (hr.dom _ _ hφ) (by rw [hb]; rfl) hφ ⟨cb, co, sz, ces', hφ, setBlk_get _ _ _ hlt, he⟩
end
theorem run_getMap {w : World} {r : Nat} {es : Array MapEntry} {c : Nat} (h : w.heap[r]? = some (.map es c)) : (getObj r).run P w = .ok (.map es c) w := run_getObj h (by simp)
theorem run_setMap {w : World} {r : Nat} {es : Array MapEntry} {c : Nat} {o : Obj} (h : w.heap[r]? = some (.map es c)) : (setObj r o).run P w = .ok () (setBlk w r o) := run_setObj h (by simp)

theorem map_new {φ : Phi} {m : Mem} {w : World} (hr : Rel P φ m w) (hn : m.next < 65536) : Step P φ m w (fun q => if q = m.next then some (w.heap.size, 0, 0) else φ q) ⟨m.next + 1, putT m.next (.map [] 0) m.t⟩ (w.alloc (.map #[] 0)) :=
  Step.new (w' := w.alloc (.map #[] 0)) hr hn rfl rfl rfl rfl ⟨w.heap.size, 0, 0, #[], by simp, by show (w.heap.push _)[w.heap.size]? = _; simp, trivial⟩
theorem makeMap_ok {o : Oper} {t : TypeId} {h' : Option Operand} (h : o.op = .makeMap t h') : OpOk P o (cMakeMap P t h') := by
  unfold cMakeMap
  split
  · rename_i p hm
    obtain ⟨e, el⟩ := p
    obtain ⟨kt, d, hu, hd, hf⟩ := mapTypes_ok hm
    split
    · intro K _ r m k v mf hk
      obtain ⟨hn, hk⟩ := memAlloc_ok hk
      refine ⟨_, _, hk, fun φ w a hr ho next Q hnext => ?_⟩
      refine wp_val (w' := w.alloc (.map #[] 0)) (c := .map (some w.heap.size)) ?_ (hnext _ _ _ (map_new hr hn) (.map _ _ 0 0 (by simp)))
      simp only [execOp, h]
      exact run_value (by simp [Instr.makeMap])
    · rename_i x
      intro K _ r m k v mf hk
      obtain ⟨j, z, hx, hk⟩ := onInt_ok hk
      obtain ⟨hn, hk⟩ := memAlloc_ok hk
      refine ⟨_, _, hk, fun φ w a hr ho next Q hnext => ?_⟩
      have h1 := ho x (by simp [h, Op.operands])
      rw [hx] at h1
      generalize hc : a.eval x = c at h1
      cases h1
      refine wp_val (w' := w.alloc (.map #[] 0)) (c := .map (some w.heap.size)) ?_ (hnext _ _ _ (map_new hr hn) (.map _ _ 0 0 (by simp)))
      simp only [execOp, h]
      exact run_value (by simp [Instr.makeMap, hc, run_underlying hu, asInt, asIntOf])
  · trivial
theorem condTuple {φ : Phi} {x : AVal} {c : Value} (h : VRel φ x c) (ok b : Bool) : VRel φ (cond' (.tuple [x, .bool b]) x ok) (if ok then .tuple #[c, .bool b] else c) := by
  cases ok
  · exact h
  · exact tuple2 h (.bool b)
theorem lookup_ok {o : Oper} {t : TypeId} {x ix : Operand} {ok : Bool} (h : o.op = .lookup t x ix ok) : OpOk P o (cLookup P t x ix ok) := by
  unfold cLookup
  split
  · rename_i e el hm
    obtain ⟨kt, d, hu, hd, hf⟩ := mapTypes_ok hm
    split
    · rename_i z hz
      obtain ⟨zc, hz1, hz2⟩ := zeroV_ok hz
      intro K _ r m k v mf hk
      simp only at hk
      rcases onMapN_ok hk with ⟨hx, hk⟩ | ⟨b, hx, hk⟩
      · refine ⟨_, _, hk, fun φ w a hr ho next Q hnext => ?_⟩
        have h1 := ho x (by simp [h, Op.operands])
        rw [hx] at h1
        generalize hc : a.eval x = c at h1
        cases h1
        refine wp_val (w' := w) (c := if ok then .tuple #[zc, .bool false] else zc) ?_ (hnext _ _ _ (Step.refl hr) (condTuple (hz2 φ) ok false))
        simp only [execOp, h, hc]
        refine run_value ?_
        simp [Instr.lookup, run_underlying hu, run_checkKey hd hf, run_findKey hd (show Instr.findNow d (a.eval ix) [] 0 = some none from rfl), run_zeroV hz1]
      · obtain ⟨es, clock, hb, hk⟩ := bonMap_ok hk
        rcases findM_ok hf hk with ⟨hk, hall⟩ | ⟨j, en, hk, hj, hall⟩
        · refine ⟨_, _, hk, fun φ w a hr ho next Q hnext => ?_⟩
          have h1 := ho x (by simp [h, Op.operands])
          have h2 := ho ix (by simp [h, Op.operands])
          rw [hx] at h1
          obtain ⟨cb, co, sz, ces, hc, hφ, hh, he⟩ := map_at hr h1 hb
          refine wp_val (w' := w) (c := if ok then .tuple #[zc, .bool false] else zc) ?_ (hnext _ _ _ (Step.refl hr) (condTuple (hz2 φ) ok false))
          simp only [execOp, h, hc]
          refine run_value ?_
          simp [Instr.lookup, run_underlying hu, run_getMap hh, run_checkKey hd hf, run_findKey hd (hall φ _ _ h2 he), run_zeroV hz1]
        · refine ⟨_, _, hk, fun φ w a hr ho next Q hnext => ?_⟩
          have h1 := ho x (by simp [h, Op.operands])
          have h2 := ho ix (by simp [h, Op.operands])
          rw [hx] at h1
          obtain ⟨cb, co, sz, ces, hc, hφ, hh, he⟩ := map_at hr h1 hb
          obtain ⟨ce, q1, q2, q3, q4⟩ := hall φ _ _ h2 he
          refine wp_val (w' := w) (c := if ok then .tuple #[ce.val, .bool true] else ce.val) ?_ (hnext _ _ _ (Step.refl hr) (condTuple q3 ok true))
          simp only [execOp, h, hc]
          refine run_value ?_
          simp [Instr.lookup, run_underlying hu, run_getMap hh, run_checkKey hd hf, run_findKey hd q2]
    · trivial
  · trivial
end Go.AM

namespace Go.AM
variable [Tok]
variable {P : Program}

theorem run_keyStays {old new : Value} (h : Instr.sameBits 10000 old new = true) (w : World) : (Instr.keyThatStays old new).run P w = .ok new w := by
  unfold Instr.keyThatStays
  rw [h]; rfl
theorem mapUpdate_ok {o : Oper} {t : TypeId} {x ky v : Operand} (h : o.op = .mapUpdate t x ky v ∨ o.op = .insert t x ky v) : OpOk P o (cMapUpdate P t x ky v) := by
  have opsx : ∀ {φ r a}, OpsRel φ r a o → VRel φ ((opd x).get r) (a.eval x) ∧ VRel φ ((opd ky).get r) (a.eval ky) ∧ VRel φ ((opd v).get r) (a.eval v) := by
    intro φ r a ho
    rcases h with h | h <;> exact ⟨ho x (by simp [h, Op.operands]), ho ky (by simp [h, Op.operands]), ho v (by simp [h, Op.operands])⟩
  have ex : ∀ ρ : Operand → Value, execOp ρ o = (do Instr.mapUpdate t (ρ x) (ρ ky) (ρ v); pure .skip : Sem Next) := by
    intro ρ
    rcases h with h | h <;> simp only [execOp, h]
  unfold cMapUpdate
  split
  · rename_i e el hm
    obtain ⟨kt, d, hu, hd, hf⟩ := mapTypes_ok hm
    intro K _ r m k rv mf hk
    obtain ⟨b, hx, hk⟩ := onMap_ok hk
    obtain ⟨es, clock, hb, hk⟩ := bonMap_ok hk
    rcases findM_ok hf hk with ⟨hk, hall⟩ | ⟨j, en, hk, hj, hall⟩
    · refine ⟨_, _, hk, fun φ w a hr ho next Q hnext => ?_⟩
      obtain ⟨h1, h2, h3⟩ := opsx ho
      rw [hx] at h1
      obtain ⟨cb, co, sz, ces, hc, hφ, hh, he⟩ := map_at hr h1 hb
      have hst := map_upd hr hφ hb hh (es' := appL [⟨(opd ky).get r, (opd v).get r, clock⟩] es) (ces' := ces.push ⟨a.eval ky, a.eval v, clock⟩) (clock' := Nat.succ clock)
        (by rw [appL_eq, Array.toList_push]; exact EsRel.push h2 h3 rfl he)
      refine wp_skip ?_ (hnext _ _ _ hst (undef_rel _))
      rw [ex, hc]
      simp [Instr.mapUpdate, run_underlying hu, run_getMap hh, run_checkKey hd hf, run_findKey hd (hall φ _ _ h2 he), run_setMap hh]
    · refine ⟨_, _, hk, fun φ w a hr ho next Q hnext => ?_⟩
      obtain ⟨h1, h2, h3⟩ := opsx ho
      rw [hx] at h1
      obtain ⟨cb, co, sz, ces, hc, hφ, hh, he⟩ := map_at hr h1 hb
      obtain ⟨ce, q1, q2, q3, q4, q5, q6⟩ := hall φ _ _ h2 he
      rw [Nat.zero_add] at q2
      have q1' : ces[j]? = some ce := by rw [← Array.getElem?_toList]; exact q1
      have hst := map_upd hr hφ hb hh (es' := setEnt ⟨(opd ky).get r, (opd v).get r, en.born⟩ (0 + j) es) (ces' := ces.modify j fun e => { e with key := a.eval ky, val := a.eval v }) (clock' := clock)
        (by
          rw [Array.toList_modify, Nat.zero_add]
          refine EsRel.set he fun c hcj => ⟨h2, h3, ?_⟩
          rw [q1] at hcj; cases hcj; exact q4)
      refine wp_skip ?_ (hnext _ _ _ hst (undef_rel _))
      rw [ex, hc]
      simp [Instr.mapUpdate, run_underlying hu, run_getMap hh, run_checkKey hd hf, run_findKey hd q2, q1', run_keyStays (q6 10000), run_setMap hh]
  · trivial
theorem mapEntry_ok {o : Oper} {t : TypeId} {x ky : Operand} (h : o.op = .mapEntry t x ky) : OpOk P o (cMapEntry P t x ky) := by
  unfold cMapEntry
  split
  · rename_i e el hm
    obtain ⟨kt, d, hu, hd, hf⟩ := mapTypes_ok hm
    split
    · rename_i z hz
      obtain ⟨zc, hz1, hz2⟩ := zeroV_ok hz
      intro K _ r m k rv mf hk
      obtain ⟨b, hx, hk⟩ := onMap_ok hk
      obtain ⟨es, clock, hb, hk⟩ := bonMap_ok hk
      rcases findM_ok hf hk with ⟨hk, hall⟩ | ⟨j, en, hk, hj, hall⟩
      · refine ⟨_, _, hk, fun φ w a hr ho next Q hnext => ?_⟩
        have h1 := ho x (by simp [h, Op.operands])
        have h2 := ho ky (by simp [h, Op.operands])
        rw [hx] at h1
        obtain ⟨cb, co, sz, ces, hc, hφ, hh, he⟩ := map_at hr h1 hb
        have hst := map_upd hr hφ hb hh (es' := appL [⟨(opd ky).get r, z, clock⟩] es) (ces' := ces.push ⟨a.eval ky, zc, clock⟩) (clock' := Nat.succ clock)
          (by rw [appL_eq, Array.toList_push]; exact EsRel.push h2 (hz2 φ) rfl he)
        refine wp_val (c := .tuple #[zc, goInt clock]) ?_ (hnext _ _ _ hst (tuple2 (hz2 φ) (.int _ _)))
        simp only [execOp, h, hc]
        refine run_value ?_
        simp [Instr.mapEntry, run_underlying hu, run_getMap hh, run_checkKey hd hf, run_findKey hd (hall φ _ _ h2 he), run_setMap hh, run_zeroV hz1]
      · refine ⟨_, _, hk, fun φ w a hr ho next Q hnext => ?_⟩
        have h1 := ho x (by simp [h, Op.operands])
        have h2 := ho ky (by simp [h, Op.operands])
        rw [hx] at h1
        obtain ⟨cb, co, sz, ces, hc, hφ, hh, he⟩ := map_at hr h1 hb
        obtain ⟨ce, q1, q2, q3, q4, q5, q6⟩ := hall φ _ _ h2 he
        rw [Nat.zero_add] at q2
        have q1' : ces[j]? = some ce := by rw [← Array.getElem?_toList]; exact q1
        have hst := map_upd hr hφ hb hh (es' := setEnt ⟨(opd ky).get r, en.val, en.born⟩ (0 + j) es) (ces' := ces.modify j fun e => { e with key := a.eval ky }) (clock' := clock)
          (by
            rw [Array.toList_modify, Nat.zero_add]
            refine EsRel.set he fun c hcj => ?_
            rw [q1] at hcj; cases hcj; exact ⟨h2, q3, q4⟩)
        refine wp_val (c := .tuple #[ce.val, goInt ce.born]) ?_ (hnext _ _ _ hst (tuple2 q3 (by rw [q4]; exact .int _ _)))
        simp only [execOp, h, hc]
        refine run_value ?_
        simp [Instr.mapEntry, run_underlying hu, run_getMap hh, run_checkKey hd hf, run_findKey hd q2, q1', run_keyStays (q6 10000), run_setMap hh]
    · trivial
  · trivial
theorem bornAt_ok {n : Nat} : ∀ {l : List MEnt} {i : Nat} {c : Nat} {yes : Nat → MEnt → R} {v : AVal} {m : Mem}, bornAt n l i (fun _ => .fail c) yes = .ok v m →
    ∃ j en, yes (i + j) en = .ok v m ∧ l[j]? = some en ∧ ∀ φ ces, EsRel φ l ces → ∃ ce, ces[j]? = some ce ∧ ces.findIdx? (fun e => (e.born : Int) == (n : Int)) = some j ∧
      VRel φ en.key ce.key ∧ en.born = ce.born
  | [], i, c, yes, v, m, h => by cases h
  | x :: l, i, c, yes, v, m, h => by
    rcases cond_ok h with ⟨hb, h⟩ | ⟨hb, h⟩
    · rw [beq_true] at hb
      refine ⟨0, x, h, rfl, fun φ ces he => ?_⟩
      cases ces with
      | nil => exact he.elim
      | cons c cs =>
        obtain ⟨h1, h2, h3, h4⟩ := he
        exact ⟨c, rfl, by rw [List.findIdx?_cons, if_pos (by simp; omega)], h1, h3⟩
    · obtain ⟨j, en, h1, h2, h3⟩ := bornAt_ok h
      refine ⟨j + 1, en, by rw [← h1]; congr 1; omega, h2, fun φ ces he => ?_⟩
      cases ces with
      | nil => exact he.elim
      | cons c cs =>
        obtain ⟨g1, g2, g3, g4⟩ := he
        obtain ⟨ce, q1, q2, q3⟩ := h3 φ cs g4
        refine ⟨ce, q1, ?_, q3⟩
        have hne : x.born ≠ n := fun e => by rw [beq_true.2 e] at hb; cases hb
        rw [List.findIdx?_cons, if_neg (by simp; omega), q2]; rfl
theorem entryStore_ok {o : Oper} {t : TypeId} {x s v : Operand} (h : o.op = .entryStore t x s v) : OpOk P o (cEntryStore x s v) := by
  intro K _ r m k rv mf hk
  obtain ⟨b, hx, hk⟩ := onMap_ok hk
  obtain ⟨es, clock, hb, hk⟩ := bonMap_ok hk
  obtain ⟨jj, n, hs, hk⟩ := onNat_ok hk
  obtain ⟨j, en, hk, hj, hall⟩ := bornAt_ok hk
  refine ⟨_, _, hk, fun φ w a hr ho next Q hnext => ?_⟩
  have h1 := ho x (by simp [h, Op.operands])
  have h2 := ho s (by simp [h, Op.operands])
  have h3 := ho v (by simp [h, Op.operands])
  rw [hx] at h1
  rw [hs] at h2
  generalize hcs : a.eval s = cs at h2
  cases h2
  obtain ⟨cb, co, sz, ces, hc, hφ, hh, he⟩ := map_at hr h1 hb
  obtain ⟨ce, q1, q2, q3, q4⟩ := hall φ _ he
  have hst := map_upd hr hφ hb hh (es' := setEnt ⟨en.key, (opd v).get r, en.born⟩ (0 + j) es) (ces' := ces.modify j fun e => { e with val := a.eval v }) (clock' := clock)
    (by
      rw [Array.toList_modify, Nat.zero_add]
      refine EsRel.set he fun c hcj => ?_
      rw [q1] at hcj; cases hcj; exact ⟨q3, h3, q4⟩)
  refine wp_skip ?_ (hnext _ _ _ hst (undef_rel _))
  have q2' : ces.findIdx? (fun e => (e.born : Int) == (n : Int)) = some j := by
    rw [← List.findIdx?_toArray] at q2; exact q2
  simp only [execOp, h, hc, hcs]
  simp [Instr.entryStore, run_getMap hh, asInt, asIntOf, q2', run_setMap hh]
end Go.AM

namespace Go.AM
variable [Tok]
variable {P : Program}

theorem srcLen_ok {x : AVal} {k : Nat → R} {v : AVal} {m : Mem} (h : srcLen x k = .ok v m) :
    ∃ c, k c = .ok v m ∧ (∀ b o l p e s, x = .slice b o l p e s → c = l) ∧ ∀ φ cx (w : World), VRel φ x cx → (Builtin.lenOf cx).run P w = .ok c w := by
  cases x <;> first | cases h | skip
  · refine ⟨_, h, fun b o l p e s hx => by first | (cases hx; done) | (cases hx; rfl), fun φ cx w hx => ?_⟩
    cases hx; rfl
  · rename_i s
    refine ⟨_, h, fun b o l p e s hx => by first | (cases hx; done) | (cases hx; rfl), fun φ cx w hx => ?_⟩
    cases hx with
    | str _ t ht =>
      have : t.size = lenL s := by rw [lenL_eq, ← ht, List.length_map, Array.length_toList]; rfl
      simp [Builtin.lenOf, this]
  · refine ⟨_, h, fun b o l p e s hx => by first | (cases hx; done) | (cases hx; rfl), fun φ cx w hx => ?_⟩
    cases hx; rfl
theorem block_cells2 {φ : Phi} {m : Mem} {w : World} (hr : Rel P φ m w) {b o n cb co sz : Nat} (hφ : φ b = some (cb, co, sz)) {ro : Bool} {cs : List AVal} (hb : m.get b = .cells ro cs)
    (hn : ((cs.drop o).take n).length = n) : ∃ vs : List Value, VsRel φ ((cs.drop o).take n) vs ∧ (∀ v, v ∈ (cs.drop o).take n → v.isCell = true) ∧
      ∀ (a : Addr) (w' : World), w'.heap = w.heap → (n ≠ 0 → a = ⟨cb, co + o, none⟩) → (loadCells a n).run P w' = .ok vs.toArray w' := by
  have hB := hr.blk b (hr.dom _ _ hφ)
  rw [hb] at hB
  obtain ⟨cb', co', c, el, fz, h1, h2, h3, h4, h5, h6⟩ := hB
  rw [hφ] at h1; cases h1
  refine ⟨(c.toList.drop (co + o)).take n, ?_, fun v hv => h5 v (List.mem_of_mem_drop (List.mem_of_mem_take hv)), fun a w' hw' ha => ?_⟩
  · have := (h4.drop o).take n
    rw [List.drop_take, List.drop_drop, List.take_take] at this
    have e : min n (cs.length - o) = n := by simp at hn; omega
    rw [e] at this
    rw [Nat.add_comm co o]
    simpa [Nat.add_comm] using this
  · by_cases h0 : n = 0
    · subst h0
      have := run_loadCells_list (P := P) (w := w') a [] (by simp)
      simpa using this
    · rw [ha h0]
      exact run_loadRow (by rw [hw']; exact h2) (by simp at hn ⊢; omega)
theorem srcCells_ok {x : AVal} {es n : Nat} {m : Mem} {k : List AVal → R} {v : AVal} {mf : Mem} (h : srcCells es n x m k = .ok v mf) (hn : ∀ b o l p e s, x = .slice b o l p e s → n ≤ l) :
    ∃ ns, k ns = .ok v mf ∧ ns.length = n * es ∧ ∀ φ w cx, Rel P φ m w → VRel φ x cx → (∀ v, v ∈ ns → v.isCell = true) ∧
      ∃ news : List Value, VsRel φ ns news ∧ ∀ w' : World, w'.heap = w.heap → (Builtin.firstCells es n cx).run P w' = .ok news.toArray w' := by
  cases x <;> first | cases h | skip
  · obtain ⟨h0, hk⟩ := cond_t h
    rw [beq_true] at h0
    subst h0
    refine ⟨[], hk, by simp, fun φ w cx hr hx => ⟨fun v hv => (by cases hv), [], .nil, fun w' _ => ?_⟩⟩
    cases hx; rfl
  · rename_i s
    obtain ⟨h0, hk⟩ := cond_t h
    rw [Bool.and_eq_true, beq_true, beq_true, lenL_eq, takeL_eq] at h0
    rw [takeL_eq] at hk
    obtain ⟨rfl, hl⟩ := h0
    refine ⟨_, hk, by simp only [toU8, List.length_map, hl, Nat.mul_one], fun φ w cx hr hx => ⟨toU8_cell _, ?_⟩⟩
    cases hx with
    | str _ t ht =>
      refine ⟨((t.data.toList.take n).map fun b => Value.int .u8 b.toNat), ?_, fun w' _ => ?_⟩
      · rw [← ht, ← List.map_take]; exact toU8_rel _
      · simp only [Builtin.firstCells, Sem.run_pure]
        congr 1
        apply Array.ext'
        simp [ByteArray.data_extract, Array.toList_extract]
  · rename_i b o l p e s
    obtain ⟨h0, hk⟩ := cond_t h
    rw [beq_true] at h0
    subst h0
    obtain ⟨ro, cs, hb, hl, hk⟩ := getCells_ok hk
    have hnl := hn _ _ _ _ _ _ rfl
    refine ⟨_, hk, hl, fun φ w cx hr hx => ?_⟩
    cases hx with
    | slice _ _ _ _ _ _ cb co sz o'' cap' hφ g1 g2 g3 g4 g5 =>
      obtain ⟨vs, h2, hc, h4⟩ := block_cells2 hr hφ hb hl
      refine ⟨hc, vs, h2, fun w' hw' => ?_⟩
      simp only [Builtin.firstCells]
      refine h4 _ w' hw' fun h0 => ?_
      rw [g4 (fun hc0 => h0 ?_)]
      have : n = 0 := by omega
      rw [this]; exact Nat.zero_mul s

/-- what is appended: c elements, in the cells news -/
def AppIs (P : Program) (ats : Array TypeId) (cx : Value) (e : TypeId) (zc : Value) (c : Nat) (news : List Value) (w : World) : Prop :=
  (∃ xt k j, ats[1]? = some xt ∧ P.underlying xt = some (.int k) ∧ cx = .int j (c : Int) ∧ c ≤ 1048576 ∧ news = (Builtin.zeroCells zc.cells c).toList) ∨
  ((ats[1]? = none ∨ ∃ xt d, ats[1]? = some xt ∧ P.underlying xt = some d ∧ ∀ k, d ≠ .int k) ∧ (Builtin.lenOf cx).run P w = .ok c w ∧
    ∀ w' : World, w'.heap = w.heap → (Builtin.firstCells (szOf P e) c cx).run P w' = .ok news.toArray w')
section
variable {ats : Array TypeId} {ty st e : TypeId} {args : Array Value} {s cx zc : Value} {c : Nat} {news : List Value} {w : World} {ie : TypeInfo}
  (ha0 : ats[0]? = some st) (hu : P.underlying st = some (.slice e)) (hie : P.info? e = some ie) (hz : ie.zero = some zc) (hs0 : ie.size ≠ 0) (hby : ie.bytes ≤ 65536)
  (h0 : args[0]? = some s) (h1 : args[1]? = some cx) (hx : AppIs P ats cx e zc c news w)
include ha0 hu hie hz hs0 hby h0 h1 hx
theorem run_app_room {b : Option Addr} {sLen sCap : Nat} (hs : s = .slice b sLen sCap) (hr : sLen + c ≤ sCap) {w' : World}
    (hst : (match b with | some a => storeCells (a.add (sLen * ie.size)) news | none => pure ()).run P w = .ok () w') :
    (Builtin.append_ ats ty args).run P w = .ok (.slice b (sLen + c) sCap) w' := by
  subst hs
  have hsz : szOf P e = ie.size := by simp [szOf, Program.cellsOf, hie]
  rcases hx with ⟨xt, k, j, g1, g2, rfl, g4, rfl⟩ | ⟨g1, g2, g3⟩
  · have hw : IntKind.i64.wrap (c : Int) = c := inRange_wrap (show Nat.ble c 9223372036854775807 = true from ble_true.2 (by omega))
    have hm : (c : Int) * ie.bytes ≤ 281474976710656 := by
      have h3 : c * ie.bytes ≤ 1048576 * 65536 := Nat.mul_le_mul g4 hby
      have h4 : ((c * ie.bytes : Nat) : Int) ≤ 281474976710656 := by omega
      rwa [Int.natCast_mul] at h4
    have hm' : ¬ (281474976710656 < (c : Int) * ie.bytes) := by omega
    have hneg : ¬ ((c : Int) < 0) := by omega
    by_cases hc0 : c = 0
    · subst hc0
      cases b <;> simp [Builtin.append_, ha0, h0, h1, g1, run_underlying hu, run_underlying g2, sizeOf, typeInfo, hie, asInt, asIntOf] at hst ⊢ <;> simp_all [Builtin.zeroCells]
    · have hc1 : c * ie.size ≠ 0 := Nat.mul_ne_zero hc0 hs0
      cases b <;> simp [Builtin.append_, ha0, h0, h1, g1, run_underlying hu, run_underlying g2, sizeOf, typeInfo, zeroValue, hie, hz, asInt, asIntOf, hw, hm', hneg, hr, hc1] at hst ⊢ <;> simp_all
  · have g3' := g3 w rfl
    rw [hsz] at g3'
    rcases g1 with g1 | ⟨xt, d, g1, g4, g5⟩
    · cases b <;> simp [Builtin.append_, ha0, h0, h1, g1, run_underlying hu, sizeOf, typeInfo, hie, g2, g3', hr] at hst ⊢ <;> simp_all
    · cases b <;> simp [Builtin.append_, ha0, h0, h1, g1, run_underlying hu, run_underlying g4, sizeOf, typeInfo, hie, g2, g3', hr] at hst ⊢ <;> simp_all
theorem run_app_grow {b : Option Addr} {sLen sCap : Nat} (hs : s = .slice b sLen sCap) (hle : sLen ≤ sCap) (hr : sCap < sLen + c) (hbig : sLen + c ≤ 2097152) {olds : List Value}
    (hol : ∀ w' : World, w'.heap = w.heap → (Builtin.firstCells ie.size sLen s).run P w' = .ok olds.toArray w') :
    (Builtin.append_ ats ty args).run P w = .ok (.slice (some ⟨w.heap.size, 0, none⟩) (sLen + c) (grownCap w (sLen + c) sCap e))
      (w.drew.alloc (.cells (olds.toArray ++ news.toArray ++ Builtin.zeroCells zc.cells (grownCap w (sLen + c) sCap e - (sLen + c))) e)) := by
  subst hs
  have hsz : szOf P e = ie.size := by simp [szOf, Program.cellsOf, hie]
  have hn : ¬ (sLen + c ≤ sCap) := by omega
  have h63' : ¬ (9223372036854775807 < ((sLen : Int) + (c : Int))) := by omega
  have hmul : (sLen + c) * ie.bytes ≤ 140737488355328 := by
    have : (sLen + c) * ie.bytes ≤ 2097152 * 65536 := Nat.mul_le_mul hbig hby
    omega
  have h48' : ¬ (281474976710656 < Builtin.nextslicecap (sLen + c) sCap * ie.bytes) := by
    have := growslice_fits hr hmul; omega
  have hol' := hol w.drew rfl
  rcases hx with ⟨xt, k, j, g1, g2, rfl, g4, rfl⟩ | ⟨g1, g2, g3⟩
  · have hw : IntKind.i64.wrap (c : Int) = c := inRange_wrap (show Nat.ble c 9223372036854775807 = true from ble_true.2 (by omega))
    have hm : (c : Int) * ie.bytes ≤ 281474976710656 := by
      have h3 : c * ie.bytes ≤ 1048576 * 65536 := Nat.mul_le_mul g4 hby
      have h4 : ((c * ie.bytes : Nat) : Int) ≤ 281474976710656 := by omega
      rwa [Int.natCast_mul] at h4
    have hm' : ¬ (281474976710656 < (c : Int) * ie.bytes) := by omega
    have hneg : ¬ ((c : Int) < 0) := by omega
    by_cases hc0 : c = 0
    · subst hc0
      omega
    · have hc1 : c * ie.size ≠ 0 := Nat.mul_ne_zero hc0 hs0
      simp [Builtin.append_, ha0, h0, h1, g1, run_underlying hu, run_underlying g2, sizeOf, typeInfo, zeroValue, hie, hz, asInt, asIntOf, hw, hm', hneg, hn, hc1, h63', h48', Question.forced, hol', newRow, grownCap]
  · have g3' := g3 w.drew rfl
    rw [hsz] at g3'
    rcases g1 with g1 | ⟨xt, d, g1, g4, g5⟩
    · simp [Builtin.append_, ha0, h0, h1, g1, run_underlying hu, sizeOf, typeInfo, zeroValue, hie, hz, g2, g3', hn, h63', h48', Question.forced, hol', newRow, grownCap]
      congr 2
      apply Array.ext'
      simp [List.append_assoc]
    · simp [Builtin.append_, ha0, h0, h1, g1, run_underlying hu, run_underlying g4, sizeOf, typeInfo, zeroValue, hie, hz, g2, g3', hn, h63', h48', Question.forced, hol', newRow, grownCap]
      congr 2
      apply Array.ext'
      simp [List.append_assoc]
end
theorem zeroCells_made (c : Array Value) (n : Nat) : Builtin.zeroCells c n = madeCells c (n * c.size) := rfl
theorem old_new_cells {c : Array Value} {o L : Nat} {news : List Value} (h : o + L + news.length ≤ c.size) :
    ((spl c (o + L) news).toList.drop o).take (L + news.length) = (c.toList.drop o).take L ++ news := by
  simp only [spl, List.toList_toArray]
  apply List.ext_getElem?
  intro i
  simp only [List.getElem?_take, List.getElem?_drop, List.getElem?_append, List.length_take, List.length_drop, List.length_append, Array.length_toList]
  grind
end Go.AM

namespace Go.AM
variable [Tok]
variable {P : Program}

section
variable {ats : Array TypeId} {ty st e : TypeId} {zc : Value} {z : List AVal} {ie : TypeInfo}
  (ha0 : ats[0]? = some st) (hu : P.underlying st = some (.slice e)) (hie : P.info? e = some ie) (hz : ie.zero = some zc) (hs0 : ie.size ≠ 0) (hby : ie.bytes ≤ 65536)
  (hzsz : zc.cells.size = ie.size) (hzc : ∀ x, x ∈ zc.cells.toList → x.oneCell' = true)
include ha0 hu hie hz hs0 hby hzsz hzc
/-- a new block of the heap for the old and the new elements -/
theorem app_new {φ : Phi} {m : Mem} {w : World} (hr : Rel P φ m w) (hn : m.next < 65536) {args : Array Value} {s cx : Value} (h0 : args[0]? = some s) (h1 : args[1]? = some cx) {c sLen sCap : Nat} {b : Option Addr}
    {news olds : List Value} (hx : AppIs P ats cx e zc c news w) (hs : s = .slice b sLen sCap) (hle : sLen ≤ sCap) (hg : sCap < sLen + c) (hbig : sLen + c ≤ 2097152)
    (hol : ∀ w' : World, w'.heap = w.heap → (Builtin.firstCells ie.size sLen s).run P w' = .ok olds.toArray w') {old new : List AVal} (ho : VsRel φ old olds) (hnw : VsRel φ new news)
    (hoc : ∀ v, v ∈ old → v.isCell = true) (hnc : ∀ v, v ∈ new → v.isCell = true) (hol2 : old.length = sLen * ie.size) (hnl : new.length = c * ie.size) :
    ∃ φ' u w', (Builtin.append_ ats ty args).run P w = .ok u w' ∧ Step P φ m w φ' ⟨m.next + 1, putT m.next (.cells false (appL new old)) m.t⟩ w' ∧ VRel φ' (.slice m.next 0 (sLen + c) (sLen + c) false ie.size) u := by
  have hrun := run_app_grow (ty := ty) ha0 hu hie hz hs0 hby h0 h1 hx hs hle hg hbig hol
  have hge := grownCap_ge w (sLen + c) sCap e
  generalize grownCap w (sLen + c) sCap e = cap' at hrun hge
  have hl1 := ho.length
  have hl2 := hnw.length
  have hsz : (olds.toArray ++ news.toArray ++ Builtin.zeroCells zc.cells (cap' - (sLen + c))).size = cap' * ie.size := by
    rw [zeroCells_made]
    simp only [Array.size_append, List.size_toArray, size_madeCells, hl1, hl2, hol2, hnl, hzsz]
    rw [← Nat.add_mul, ← Nat.add_mul]
    congr 1; omega
  have hst := Step.new (w' := w.drew.alloc (.cells (olds.toArray ++ news.toArray ++ Builtin.zeroCells zc.cells (cap' - (sLen + c))) e)) (o := 0) (s := cap' * ie.size) (x := .cells false (appL new old)) hr hn rfl rfl rfl rfl
    (by
      refine ⟨w.heap.size, 0, olds.toArray ++ news.toArray ++ Builtin.zeroCells zc.cells (cap' - (sLen + c)), e, (0, 0), by rw [hsz]; simp, Array.getElem?_push_size, ?_, ?_, ?_, fun _ i h1 h2 => ⟨fun h3 => ?_, fun x hx => ?_⟩⟩
      · rw [hsz, appL_eq, List.length_append, hol2, hnl, ← Nat.add_mul, Nat.zero_add]
        exact Nat.mul_le_mul_right _ hge
      · rw [appL_eq]
        have e1 : ((olds.toArray ++ news.toArray ++ Builtin.zeroCells zc.cells (cap' - (sLen + c))).toList.drop 0).take (old ++ new).length = olds ++ news := by
          rw [List.drop_zero]
          simp only [Array.toList_append]
          rw [List.take_left']
          simp [hl1, hl2]
        rw [e1]
        exact (ho.append hnw).mono (by
          intro q y hq
          have := hr.dom q y hq
          show (if q = m.next then _ else _) = _
          rw [if_neg (by omega)]; exact hq)
      · rw [appL_eq]
        intro v hv
        rcases List.mem_append.1 hv with hv | hv
        · exact hoc v hv
        · exact hnc v hv
      · exact absurd h3.2 (Nat.not_lt_zero _)
      · have hm := Array.mem_toList_iff.2 (Array.mem_of_getElem? hx)
        rw [zeroCells_made] at hm
        simp only [Array.toList_append, List.mem_append] at hm
        rcases hm with (hm | hm) | hm
        · exact ho.plain hoc x hm
        · exact hnw.plain hnc x hm
        · simp only [madeCells, Array.mem_toList_iff, Array.mem_map] at hm
          obtain ⟨q, _, rfl⟩ := hm
          have hq : q % zc.cells.size < zc.cells.size := Nat.mod_lt _ (by omega)
          rw [getElem!_pos zc.cells _ hq]
          exact hzc _ (Array.mem_toList_iff.2 (Array.getElem_mem hq)))
  refine ⟨_, _, _, hrun, hst, ?_⟩
  exact .slice m.next 0 _ _ false ie.size w.heap.size 0 (cap' * ie.size) 0 _ (by simp) (Nat.le_refl _) hge (fun h => by cases h) (fun _ => rfl) (by omega)

theorem aAppend_ok {n : Nat} {s : AVal} {new : List AVal} {m : Mem} {k : KV} {v : AVal} {mf : Mem} (hk : aAppend ie.size n s new m k = .ok v mf) (hnl : new.length = n * ie.size) (hnb : n ≤ 1048576) :
    ∃ u m', k u m' = .ok v mf ∧ m.next ≤ m'.next ∧ ∀ φ w cs cx (news : List Value) (args : Array Value), Rel P φ m w → VRel φ s cs → args[0]? = some cs → args[1]? = some cx → AppIs P ats cx e zc n news w →
      VsRel φ new news → (∀ v, v ∈ new → v.isCell = true) → ∃ φ' c w', (Builtin.append_ ats ty args).run P w = .ok c w' ∧ Step P φ m w φ' m' w' ∧ VRel φ' u c := by
  rcases onSliceN_ok hk with ⟨rfl, hk⟩ | ⟨b, o, len, cap, ex, es, rfl, hk⟩
  · rcases cond_ok hk with ⟨h0, hk⟩ | ⟨h0, hk⟩
    · rw [beq_true] at h0
      subst h0
      refine ⟨_, _, hk, Nat.le_refl _, fun φ w cs cx news args hr hs g0 g1 hx hv hc => ⟨φ, .slice none 0 0, w, ?_, Step.refl hr, .nilslice⟩⟩
      cases hs
      have hnews : news = [] := List.length_eq_zero_iff.1 (by rw [hv.length, hnl, Nat.zero_mul])
      exact run_app_room (b := none) (sLen := 0) (sCap := 0) ha0 hu hie hz hs0 hby g0 g1 hx rfl (by omega) rfl
    · obtain ⟨hn, hk⟩ := memAlloc_ok hk
      have hn0 : n ≠ 0 := fun e => by rw [beq_true.2 e] at h0; cases h0
      refine ⟨_, _, hk, Nat.le_succ _, fun φ w cs cx news args hr hs g0 g1 hx hv hc => ?_⟩
      cases hs
      have := app_new (ty := ty) (b := none) (sLen := 0) (sCap := 0) (olds := []) (old := []) (new := new) ha0 hu hie hz hs0 hby hzsz hzc hr hn g0 g1 hx rfl (Nat.le_refl _) (by omega) (by omega)
        (fun w' _ => by simp [Builtin.firstCells]) .nil hv (fun v hv => by cases hv) hc (by simp) hnl
      have e0 : appL new [] = new := by rw [appL_eq]; rfl
      simpa only [Nat.zero_add, e0] using this
  · obtain ⟨hq, hk2⟩ := cond_t hk
    rw [Bool.and_eq_true, beq_true, ble_true] at hq
    obtain ⟨he, hbig⟩ := hq
    rw [forceN_eq] at hk2
    clear hk
    subst he
    have hk := hk2
    clear hk2
    change len + n ≤ 2097152 at hbig
    rcases cond_ok hk with ⟨hle, hk⟩ | ⟨hle, hk⟩
    · rw [ble_true] at hle
      change len + n ≤ cap at hle
      obtain ⟨cs', hb, hlen, hk⟩ := putCells_ok hk
      refine ⟨_, _, hk, Nat.le_refl _, fun φ w cs cx news args hr hs g0 g1 hx hv hc => ?_⟩
      cases hs with
      | slice _ _ _ _ _ _ cb co sz o' cap' hφ q1 q2 q3 q4 q5 =>
        obtain ⟨w', hst, hstep⟩ := putCells_step hr hφ hb hlen hv hc
        refine ⟨φ, _, w', run_app_room ha0 hu hie hz hs0 hby g0 g1 hx rfl (by omega) ?_, hstep, .slice b o (len + n) cap ex ie.size cb co sz o' cap' hφ (by omega) q2 q3 q4 q5⟩
        simp only [addr_add]
        by_cases hc0 : cap = 0
        · have hn0 : n = 0 := by omega
          have hnews : news = [] := List.length_eq_zero_iff.1 (by rw [hv.length, hnl, hn0, Nat.zero_mul])
          subst hnews
          exact hst
        · rw [q4 hc0, Nat.add_assoc]; exact hst
    · rw [ble_false] at hle
      change cap < len + n at hle
      obtain ⟨ro, cs', hb, hol, hk⟩ := getCells_ok hk
      obtain ⟨hn, hk⟩ := memAlloc_ok hk
      have mulN : ∀ x y : Nat, Nat.mul x y = x * y := fun _ _ => rfl
      rw [mulN] at hol hk
      rcases cond_ok hk with ⟨rfl, hk⟩ | ⟨rfl, hk⟩
      · refine ⟨_, _, hk, Nat.le_succ _, fun φ w cs cx news args hr hs g0 g1 hx hv hc => ?_⟩
        cases hs with
        | slice _ _ _ _ _ _ cb co sz o' cap' hφ q1 q2 q3 q4 q5 =>
          obtain rfl := q3 rfl
          obtain ⟨olds, h2, hoc, h4⟩ := block_cells2 hr hφ hb hol
          exact app_new ha0 hu hie hz hs0 hby hzsz hzc hr hn g0 g1 hx rfl q1 hle hbig
            (fun w' hw' => h4 _ w' hw' fun h0 => by rw [q4 (fun hc0 => h0 (by rw [show len = 0 by omega]; exact Nat.zero_mul _))]) h2 hv hoc hc hol hnl
      · obtain ⟨ro', cs'', hb', hk⟩ := onCells_ok hk
        rw [hb] at hb'; cases hb'
        obtain ⟨hq, hk9⟩ := cond_f hk
        rw [Bool.or_eq_false_iff] at hq
        obtain ⟨rfl, hq2⟩ := hq
        have hc0 : cap ≠ 0 := fun e => by rw [beq_true.2 e] at hq2; cases hq2
        refine ⟨_, _, hk9, Nat.le_succ _, fun φ w cs cx news args hr hs g0 g1 hx hv hc => ?_⟩
        cases hs with
        | slice _ _ _ _ _ _ cb co sz o' cap' hφ q1 q2 q3 q4 q5 =>
          obtain rfl := q4 hc0
          have hbp := hr.dom _ _ hφ
          obtain ⟨olds, h2, hoc, h4⟩ := block_cells2 hr hφ hb hol
          by_cases hroom : len + n ≤ cap'
          · -- in place
            have hB := hr.blk b hbp
            rw [hb] at hB
            obtain ⟨cb', co', c, el, fz, r1, r2, r3, r4, r5, r6⟩ := hB
            rw [hφ] at r1; cases r1
            have hwl := hv.length
            have hroom2 : (len + n) * ie.size ≤ cap' * ie.size := Nat.mul_le_mul_right _ hroom
            rw [Nat.add_mul] at hroom2
            have hlt : cb < w.heap.size := by
              rcases Nat.lt_or_ge cb w.heap.size with h | h
              · exact h
              · rw [Array.getElem?_eq_none h] at r2; cases r2
            have hst := run_storeCells' (P := P) news 0 (co + o + len * ie.size) c w r2 (by rw [hwl, hnl]; omega) (hv.plain hc) (fun j h7 h8 => (r6 rfl j (by omega) (.inl (by rw [hwl, hnl] at h8; omega))).1)
            rw [Nat.add_zero] at hst
            have hssz : (spl c (co + o + len * ie.size) news).size = c.size := spl_size _ _ _ (by rw [hwl, hnl]; omega)
            have hstep := Step.over hr (ob := .cells (spl c (co + o + len * ie.size) news) el fz) (x' := .cells false (appL new ((cs'.drop o).take (len * ie.size)))) (o' := co + o) hbp (by rw [hb]; rfl) hφ hn (by
              refine ⟨cb, co + o, _, el, fz, by simp [hssz], setBlk_get _ _ _ hlt, ?_, ?_, ?_, fun _ i h7 h8 => ⟨(r6 rfl i (by omega) (by rw [hssz] at h8; exact h8)).1, fun x hx => (spl_at (by rw [hwl, hnl]; omega) hx).elim (hv.plain hc x) ((r6 rfl i (by omega) (by rw [hssz] at h8; exact h8)).2 x)⟩⟩
              · rw [hssz, appL_eq, List.length_append, hol, hnl]; omega
              · rw [appL_eq, List.length_append, hol, hnl]
                have e1 := old_new_cells (c := c) (o := co + o) (L := len * ie.size) (news := news) (by rw [hwl, hnl]; omega)
                rw [hwl, hnl] at e1
                rw [e1]
                have h2' : VsRel φ ((cs'.drop o).take (len * ie.size)) ((c.toList.drop (co + o)).take (len * ie.size)) := by
                  have := (r4.drop o).take (len * ie.size)
                  rw [List.drop_take, List.drop_drop, List.take_take] at this
                  have e : min (len * ie.size) (cs'.length - o) = len * ie.size := by simp at hol; omega
                  rw [e] at this
                  rw [Nat.add_comm co o]
                  simpa [Nat.add_comm] using this
                exact (h2'.append hv).mono (by
                  intro q y hq
                  have := hr.dom q y hq
                  show (if q = m.next then _ else _) = _
                  rw [if_neg (by omega)]; exact hq)
              · rw [appL_eq]
                intro v hv
                rcases List.mem_append.1 hv with hv | hv
                · exact hoc v hv
                · exact hc v hv)
            refine ⟨_, _, _, run_app_room ha0 hu hie hz hs0 hby g0 g1 hx rfl hroom (by simp only [addr_add]; exact hst), hstep, ?_⟩
            exact .slice m.next 0 (len + n) (len + n) false ie.size cb (co + o) c.size (co + o) cap' (by simp) (Nat.le_refl _) hroom (fun h => by cases h) (fun _ => by omega) q5
          · obtain ⟨φ', u, w', t1, t2, t3⟩ := app_new (ty := ty) ha0 hu hie hz hs0 hby hzsz hzc hr hn g0 g1 hx rfl (by omega) (by omega) hbig
              (fun w' hw' => h4 _ w' hw' fun _ => rfl) h2 hv hoc hc hol hnl
            exact ⟨φ', u, w', t1, t2.trans (Step.drop t2.rel (Nat.lt_succ_of_lt hbp)), t3⟩
end
theorem getElem_of_toList {α : Type} {a : Array α} {l : List α} (h : a.toList = l) (i : Nat) : a[i]? = l[i]? := by rw [← h, Array.getElem?_toList]
/-- a built-in function that tells a value -/
theorem builtin_val {o : Oper} {c : Call} {b : Builtin} (h : o.op = .call c) (hb : c.callee = .builtin b) (ρ : Operand → Value) (w : World) :
    ∃ consts : Array Bool, (execOp ρ o).run P w = (builtin b c.argTypes o.type consts (c.args.map ρ)).run P w := by
  simp only [execOp, h, resolve, hb, Sem.run_bind, Sem.run_pure, Result.andThen_ok, invoke]
  exact ⟨_, rfl⟩
theorem args_opnd {o : Oper} {c : Call} {b : Builtin} (h : o.op = .call c) (hb : c.callee = .builtin b) {φ : Phi} {r : Regs} {a : Act} (ho : OpsRel φ r a o) : ∀ x, x ∈ c.args.toList → VRel φ ((opd x).get r) (a.eval x) := by
  intro x hx
  refine ho x ?_
  simp only [h, Op.operands, Call.operands, hb]
  simpa using hx
theorem append_ok {o : Oper} {c : Call} (h : o.op = .call c) (hb : c.callee = .builtin .append) {s x : Operand} {rest : List Operand} (ha : c.args.toList = s :: x :: rest) :
    OpOk P o (cAppend P c.argTypes.toList s x) := by
  have opsx : ∀ {φ r a}, OpsRel φ r a o → VRel φ ((opd s).get r) (a.eval s) ∧ VRel φ ((opd x).get r) (a.eval x) := fun ho =>
    ⟨args_opnd h hb ho s (by rw [ha]; simp), args_opnd h hb ho x (by rw [ha]; simp)⟩
  have a0 : ∀ a : Act, (c.args.map a.eval)[0]? = some (a.eval s) := fun a => by rw [getElem_of_toList (l := c.args.toList.map a.eval) (by simp), ha]; rfl
  have a1 : ∀ a : Act, (c.args.map a.eval)[1]? = some (a.eval x) := fun a => by rw [getElem_of_toList (l := c.args.toList.map a.eval) (by simp), ha]; rfl
  have key : ∀ st, c.argTypes[0]? = some st → OpOk P o (match P.underlying st with
    | some (.slice e) =>
      match hasT P e, zeroA P e with
      | true, some z => let n := szOf P e; let by_ := P.bytesOf e; if z.length ≠ n || n = 0 || by_ > 65536 then .bad 45 else
        match appMode P c.argTypes.toList with
        | some true => .heavy fun _ r m k => ((opd x).get r).onNat fun c => cond' (aAppend n c ((opd s).get r) (repL c z) m k) (.fail 75) (Nat.ble c 1048576)
        | some false => .heavy fun _ r m k => srcLen ((opd x).get r) fun c => cond' (srcCells n c ((opd x).get r) m fun new => aAppend n c ((opd s).get r) new m k) (.fail 76) (Nat.ble c 1048576)
        | none => .bad 59
      | _, _ => .bad 46
    | _ => .bad 47) := by
    intro st hst
    split
    · rename_i e hu
      split
      · rename_i z ht hz
        obtain ⟨zc, hc1, hc2, hc3⟩ := zeroA_ok hz
        obtain ⟨ie, hie⟩ := info_of_hasT ht
        have hc1' : ie.zero = some zc := by rw [hie] at hc1; exact hc1
        have hse : szOf P e = ie.size := by simp [szOf, Program.cellsOf, hie]
        have hbe : P.bytesOf e = ie.bytes := by simp [Program.bytesOf, hie]
        simp only [hse, hbe]
        split
        · trivial
        · rename_i hno
          simp only [Bool.or_eq_true, decide_eq_true_eq, not_or, Nat.not_lt, ne_eq, Decidable.not_not] at hno
          obtain ⟨⟨hzl, hs0⟩, hby⟩ := hno
          have hzsz : zc.cells.size = ie.size := by
            have := (hc2 (fun _ => none)).length
            rw [Array.length_toList] at this; omega
          have fin : ∀ (K : KH) (r : Regs) (m : Mem) (k : KV) (v : AVal) (mf : Mem) (n : Nat) (new : List AVal), aAppend ie.size n ((opd s).get r) new m k = .ok v mf → new.length = n * ie.size → n ≤ 1048576 →
              (∀ φ w (a : Act), Rel P φ m w → OpsRel φ r a o → ∃ news : List Value, VsRel φ new news ∧ (∀ v, v ∈ new → v.isCell = true) ∧ AppIs P c.argTypes (a.eval x) e zc n news w) →
              ∃ u m', k u m' = .ok v mf ∧ ∀ φ w (a : Act), Rel P φ m w → OpsRel φ r a o → ∀ (next : Act → World → Prop) (Q : Exit → Act → World → Prop),
                (∀ φ' c w', Step P φ m w φ' m' w' → VRel φ' u c → next (a.put o.dst c) w') → o.wp P a w next Q := by
            intro K r m k v mf n new hk hnl hnb hap
            obtain ⟨u, m', h1, _, h3⟩ := aAppend_ok (ty := o.type) hst hu hie hc1' hs0 hby hzsz ((hc2 (fun _ => none)).plain hc3) hk hnl hnb
            refine ⟨u, m', h1, fun φ w a hr ho next Q hnext => ?_⟩
            obtain ⟨news, q1, q2, q3⟩ := hap φ w a hr ho
            obtain ⟨hs, _⟩ := opsx ho
            obtain ⟨φ', cv, w', t1, t2, t3⟩ := h3 φ w _ _ news _ hr hs (a0 a) (a1 a) q3 q1 q2
            obtain ⟨consts, hex⟩ := builtin_val (P := P) h hb a.eval w
            refine wp_val ?_ (hnext φ' cv w' t2 t3)
            rw [hex]
            exact run_value t1
          split
          · rename_i hm
            intro K _ r m k v mf hk
            obtain ⟨j, n, hx, hk1⟩ := onNat_ok hk
            obtain ⟨hn, hk2⟩ := cond_t hk1
            rw [ble_true] at hn
            refine fin K r m k v mf n _ hk2 (by rw [repL_length, hzl]) hn fun φ w a hr ho => ⟨(Builtin.zeroCells zc.cells n).toList, made_rel (hc2 φ) n, repL_cell hc3, .inl ?_⟩
            unfold appMode at hm
            split at hm
            · cases hm
            · rename_i xt _ hts
              split at hm
              · rename_i q hq
                refine ⟨xt, q, j, by rw [getElem_of_toList hts]; rfl, hq, ?_, hn, rfl⟩
                have := (opsx ho).2
                rw [hx] at this
                generalize a.eval x = cc at this
                cases this; rfl
              · cases hm
              · cases hm
            · cases hm
          · rename_i hm
            intro K _ r m k v mf hk
            obtain ⟨n, hk1, hnl, hlen⟩ := srcLen_ok hk
            obtain ⟨hn, hk2⟩ := cond_t hk1
            rw [ble_true] at hn
            obtain ⟨ns, hk3, hl, hns⟩ := srcCells_ok (P := P) hk2 (fun b o l p e s hx => Nat.le_of_eq (hnl b o l p e s hx))
            refine fin K r m k v mf n _ hk3 hl hn fun φ w a hr ho => ?_
            obtain ⟨q1, news, q2, q3⟩ := hns φ w _ hr (opsx ho).2
            refine ⟨news, q2, q1, .inr ⟨?_, hlen φ _ w (opsx ho).2, fun w' hw' => by rw [hse]; exact q3 w' hw'⟩⟩
            unfold appMode at hm
            split at hm
            · rename_i q hts
              left; rw [getElem_of_toList hts]; rfl
            · rename_i xt _ hts
              split at hm
              · cases hm
              · rename_i d hno hq
                refine .inr ⟨xt, d, by rw [getElem_of_toList hts]; rfl, hq, fun k e => hno k e⟩
              · cases hm
            · cases hm
          · trivial
      · trivial
    · trivial
  unfold cAppend
  split
  · rename_i st hts
    have := key st (by rw [getElem_of_toList hts]; rfl)
    exact this
  · rename_i st _ _ hts
    have := key st (by rw [getElem_of_toList hts]; rfl)
    exact this
  · trivial
end Go.AM

namespace Go.AM
variable [Tok]
variable {P : Program}

section
variable {o : Oper} {c : Call} {b : Builtin} (h : o.op = .call c) (hb : c.callee = .builtin b)
include h hb
theorem bval {a : Act} {w w' : World} {v : Value} (hr : ∀ consts, (builtin b c.argTypes o.type consts (c.args.map a.eval)).run P w = .ok (.value v) w') : (execOp a.eval o).run P w = .ok (.value v) w' := by
  obtain ⟨consts, he⟩ := builtin_val (P := P) h hb a.eval w
  rw [he]; exact hr consts
end
theorem args_at {a : Act} {c : Call} {l : List Operand} (ha : c.args.toList = l) (i : Nat) : (c.args.map a.eval)[i]? = (l.map a.eval)[i]? := by
  rw [getElem_of_toList (l := c.args.toList.map a.eval) (by simp), ha]
section
variable {o : Oper} {c : Call} (h : o.op = .call c) {t : TypeId} {ts : List TypeId} (ht : c.argTypes.toList = t :: ts)
include h ht
theorem len_ok (hb : c.callee = .builtin .len) {x : Operand} {rest : List Operand} (ha : c.args.toList = x :: rest) : OpOk P o (cLen P t x) := by
  have opsx : ∀ {φ r a}, OpsRel φ r a o → VRel φ ((opd x).get r) (a.eval x) := fun ho => args_opnd h hb ho x (by rw [ha]; simp)
  have t0 : c.argTypes[0]? = some t := by rw [getElem_of_toList ht]; rfl
  have a0 : ∀ a : Act, (c.args.map a.eval)[0]? = some (a.eval x) := fun a => by rw [args_at ha]; rfl
  unfold cLen
  split
  · rename_i hu
    intro r k v mf hk
    obtain ⟨s, hx, hk⟩ := onStr_ok hk
    rw [forceN_eq] at hk
    refine ⟨_, hk, fun φ m w a hr ho => ⟨goInt (lenL s), .int _ _, ?_⟩⟩
    have h1 := opsx ho
    rw [hx] at h1
    generalize hc : a.eval x = cc at h1
    cases h1 with
    | str _ t' ht' =>
      refine bval h hb fun consts => run_value ?_
      have : t'.size = lenL s := by rw [lenL_eq, ← ht', List.length_map, Array.length_toList]; rfl
      simp [Builtin.len_, t0, a0, hc, run_underlying hu, this]
  · rename_i e hu
    intro r k v mf hk
    rcases onSliceN_ok hk with ⟨hx, hk⟩ | ⟨b, o', n, p, e', s, hx, hk⟩
    · refine ⟨_, hk, fun φ m w a hr ho => ⟨goInt 0, .int _ _, ?_⟩⟩
      have h1 := opsx ho
      rw [hx] at h1
      generalize hc : a.eval x = cc at h1
      cases h1
      refine bval h hb fun consts => run_value ?_
      simp [Builtin.len_, t0, a0, hc, run_underlying hu]
    · refine ⟨_, hk, fun φ m w a hr ho => ⟨goInt n, .int _ _, ?_⟩⟩
      have h1 := opsx ho
      rw [hx] at h1
      generalize hc : a.eval x = cc at h1
      cases h1
      refine bval h hb fun consts => run_value ?_
      simp [Builtin.len_, t0, a0, hc, run_underlying hu]
  · rename_i kt e hu
    intro K _ r m k v mf hk
    rcases onMapN_ok hk with ⟨hx, hk⟩ | ⟨b, hx, hk⟩
    · refine ⟨_, _, hk, fun φ w a hr ho next Q hnext => ?_⟩
      have h1 := opsx ho
      rw [hx] at h1
      generalize hc : a.eval x = cc at h1
      cases h1
      refine wp_val (bval h hb fun consts => run_value (c := goInt 0) ?_) (hnext _ _ _ (Step.refl hr) (.int _ _))
      simp [Builtin.len_, t0, a0, hc, run_underlying hu]
    · obtain ⟨es, clock, hb', hk⟩ := bonMap_ok hk
      rw [forceN_eq] at hk
      refine ⟨_, _, hk, fun φ w a hr ho next Q hnext => ?_⟩
      have h1 := opsx ho
      rw [hx] at h1
      obtain ⟨cb, co, sz, ces, hc, hφ, hh, he⟩ := map_at hr h1 hb'
      refine wp_val (bval h hb fun consts => run_value (c := goInt (lenL es)) ?_) (hnext _ _ _ (Step.refl hr) (.int _ _))
      have : ces.size = lenL es := by rw [lenL_eq, ← he.length, Array.length_toList]
      simp [Builtin.len_, t0, a0, hc, run_underlying hu, run_getMap hh, this]
  · rename_i n e hu
    intro r k v mf hk
    refine ⟨_, hk, fun φ m w a hr ho => ⟨goInt n, .int _ _, ?_⟩⟩
    refine bval h hb fun consts => run_value ?_
    simp [Builtin.len_, t0, a0, run_underlying hu]
  · split
    · rename_i h1 h2 h3 h4 _ n hn
      unfold arrLen at hn
      split at hn
      · rename_i hu
        exact absurd hu (h4 _ _)
      · rename_i at_ hu
        split at hn
        · rename_i n' e hu2
          cases hn
          intro r k v mf hk
          refine ⟨_, hk, fun φ m w a hr ho => ⟨goInt n, .int _ _, ?_⟩⟩
          refine bval h hb fun consts => run_value ?_
          simp [Builtin.len_, t0, a0, run_underlying hu, run_underlying hu2]
        · cases hn
      · cases hn
    · trivial
theorem cap_ok (hb : c.callee = .builtin .cap) {x : Operand} {rest : List Operand} (ha : c.args.toList = x :: rest) : OpOk P o (cCap P t x) := by
  have opsx : ∀ {φ r a}, OpsRel φ r a o → VRel φ ((opd x).get r) (a.eval x) := fun ho => args_opnd h hb ho x (by rw [ha]; simp)
  have t0 : c.argTypes[0]? = some t := by rw [getElem_of_toList ht]; rfl
  have a0 : ∀ a : Act, (c.args.map a.eval)[0]? = some (a.eval x) := fun a => by rw [args_at ha]; rfl
  unfold cCap
  split
  · rename_i e hu
    intro r k v mf hk
    rcases onSliceN_ok hk with ⟨hx, hk⟩ | ⟨b, o', n, p, e', s, hx, hk⟩
    · refine ⟨_, hk, fun φ m w a hr ho => ⟨goInt 0, .int _ _, ?_⟩⟩
      have h1 := opsx ho
      rw [hx] at h1
      generalize hc : a.eval x = cc at h1
      cases h1
      refine bval h hb fun consts => run_value ?_
      simp [Builtin.cap_, t0, a0, hc, run_underlying hu]
    · obtain ⟨rfl, hk⟩ := cond_t hk
      refine ⟨_, hk, fun φ m w a hr ho => ⟨goInt p, .int _ _, ?_⟩⟩
      have h1 := opsx ho
      rw [hx] at h1
      generalize hc : a.eval x = cc at h1
      cases h1 with
      | slice _ _ _ _ _ _ cb co sz o'' cap' hφ g1 g2 g3 g4 g5 =>
        obtain rfl := g3 rfl
        refine bval h hb fun consts => run_value ?_
        simp [Builtin.cap_, t0, a0, hc, run_underlying hu]
  · trivial
theorem copy_ok (hb : c.callee = .builtin .copy) {d s : Operand} {rest : List Operand} (ha : c.args.toList = d :: s :: rest) : OpOk P o (cCopy P t d s) := by
  have opsd : ∀ {φ r a}, OpsRel φ r a o → VRel φ ((opd d).get r) (a.eval d) := fun ho => args_opnd h hb ho d (by rw [ha]; simp)
  have opss : ∀ {φ r a}, OpsRel φ r a o → VRel φ ((opd s).get r) (a.eval s) := fun ho => args_opnd h hb ho s (by rw [ha]; simp)
  have t0 : c.argTypes[0]? = some t := by rw [getElem_of_toList ht]; rfl
  have a0 : ∀ a : Act, (c.args.map a.eval)[0]? = some (a.eval d) := fun a => by rw [args_at ha]; rfl
  have a1 : ∀ a : Act, (c.args.map a.eval)[1]? = some (a.eval s) := fun a => by rw [args_at ha]; rfl
  unfold cCopy
  split
  · rename_i e hu
    split
    · rename_i hte
      intro K _ r m k v mf hk
      obtain ⟨n, hk, hnl, hlen⟩ := srcLen_ok (P := P) hk
      rcases onSliceN_ok hk with ⟨hx, hk⟩ | ⟨b, o', dl, p, e', es, hx, hk⟩
      · refine ⟨_, _, hk, fun φ w a hr ho next Q hnext => ?_⟩
        have h1 := opsd ho
        rw [hx] at h1
        generalize hc : a.eval d = cc at h1
        cases h1
        have h2 := hlen φ _ w (opss ho)
        refine wp_val (bval h hb fun consts => run_value (c := goInt 0) ?_) (hnext _ _ _ (Step.refl hr) (.int _ _))
        have h3 : ∃ arr, (Builtin.firstCells (szOf P e) 0 (a.eval s)).run P w = .ok arr w := by
          generalize a.eval s = cx at h2
          cases cx <;> first | (simp [Builtin.lenOf] at h2; done) | skip
          · rename_i bs; exact ⟨_, rfl⟩
          · rename_i ad _ _
            cases ad with
            | none => exact ⟨_, rfl⟩
            | some ad => exact ⟨#[], by have := run_loadCells_list (P := P) (w := w) ad [] (by simp); simpa [Builtin.firstCells] using this⟩
        obtain ⟨arr, h3⟩ := h3
        simp [Builtin.copy_, t0, a0, a1, hc, run_underlying hu, h2, run_sizeOf' hte, h3]
      · rw [forceN_eq] at hk
        obtain ⟨he, hk2⟩ := cond_t hk
        rw [beq_true] at he
        have hmin : cond' n dl (Nat.ble n dl) = min n dl := by
          cases hb : Nat.ble n dl with
          | true => rw [ble_true] at hb; show n = _; omega
          | false => rw [ble_false] at hb; show dl = _; omega
        rw [hmin] at hk2
        obtain ⟨ns, hk3, hl, hns⟩ := srcCells_ok (P := P) hk2 (fun b o l p e s hx => by rw [hnl b o l p e s hx]; exact Nat.min_le_left _ _)
        obtain ⟨cs, hbc, hpl, hk4⟩ := putCells_ok hk3
        refine ⟨_, _, hk4, fun φ w a hr ho next Q hnext => ?_⟩
        have h1 := opsd ho
        have h2 := opss ho
        rw [hx] at h1
        generalize hc : a.eval d = cc at h1
        obtain ⟨q1, news, q2, q3⟩ := hns φ w _ hr h2
        cases h1 with
        | slice _ _ _ _ _ _ cb co sz o'' cap' hφ g1 g2 g3 g4 g5 =>
          obtain ⟨w', hst, hstep⟩ := putCells_step hr hφ hbc hpl q2 q1
          have hst2 : (storeCells ⟨cb, o'', none⟩ news 0).run P w = .ok () w' := by
            by_cases hc0 : p = 0
            · have hn0 : min n dl = 0 := by omega
              have hnews : news = [] := List.length_eq_zero_iff.1 (by rw [q2.length, hl, hn0, Nat.zero_mul])
              subst hnews
              exact hst
            · rw [g4 hc0]; exact hst
          refine wp_val (w' := w') (bval h hb fun consts => run_value (c := goInt ((min n dl : Nat) : Int)) ?_) (hnext _ _ _ hstep (.int _ _))
          have h5 := q3 w rfl
          have hmm : n.min dl = min n dl := rfl
          simp [Builtin.copy_, t0, a0, a1, hc, run_underlying hu, hlen φ _ w h2, run_sizeOf' hte, hmm, h5, hst2]
    · trivial
  · trivial
theorem clear_ok (hb : c.callee = .builtin .clear) {x : Operand} {rest : List Operand} (ha : c.args.toList = x :: rest) : OpOk P o (cClear P t x) := by
  have opsx : ∀ {φ r a}, OpsRel φ r a o → VRel φ ((opd x).get r) (a.eval x) := fun ho => args_opnd h hb ho x (by rw [ha]; simp)
  have t0 : c.argTypes[0]? = some t := by rw [getElem_of_toList ht]; rfl
  have a0 : ∀ a : Act, (c.args.map a.eval)[0]? = some (a.eval x) := fun a => by rw [args_at ha]; rfl
  unfold cClear
  split
  · rename_i e hu
    split
    · rename_i z hte hz
      obtain ⟨zc, hc1, hc2, hc3⟩ := zeroA_ok hz
      simp only
      split
      · trivial
      · rename_i hzl
        rw [ne_eq, Decidable.not_not] at hzl
        intro K _ r m k v mf hk
        rcases onSliceN_ok hk with ⟨hx, hk⟩ | ⟨b, o', n, p, e', es, hx, hk⟩
        · refine ⟨_, _, hk, fun φ w a hr ho next Q hnext => ?_⟩
          have h1 := opsx ho
          rw [hx] at h1
          generalize hc : a.eval x = cc at h1
          cases h1
          refine wp_val (bval h hb fun consts => run_value (c := undef) ?_) (hnext _ _ _ (Step.refl hr) (undef_rel _))
          simp [Builtin.clear_, t0, a0, hc, run_underlying hu]; rfl
        · obtain ⟨he, hk1⟩ := cond_t hk
          rw [beq_true] at he
          rcases cond_ok hk1 with ⟨h0, hk2⟩ | ⟨h0, hk2⟩
          · rw [beq_true] at h0
            subst h0
            refine ⟨_, _, hk2, fun φ w a hr ho next Q hnext => ?_⟩
            have h1 := opsx ho
            rw [hx] at h1
            generalize hc : a.eval x = cc at h1
            cases h1
            refine wp_val (bval h hb fun consts => run_value (c := undef) ?_) (hnext _ _ _ (Step.refl hr) (undef_rel _))
            simp [Builtin.clear_, t0, a0, hc, run_underlying hu]; rfl
          · have hn0 : n ≠ 0 := fun e => by rw [beq_true.2 e] at h0; cases h0
            obtain ⟨cs, hbc, hpl, hk4⟩ := putCells_ok hk2
            refine ⟨_, _, hk4, fun φ w a hr ho next Q hnext => ?_⟩
            have h1 := opsx ho
            rw [hx] at h1
            generalize hc : a.eval x = cc at h1
            cases h1 with
            | slice _ _ _ _ _ _ cb co sz o'' cap' hφ g1 g2 g3 g4 g5 =>
              obtain ⟨w', hst, hstep⟩ := putCells_step hr hφ hbc hpl (made_rel (hc2 φ) n) (repL_cell hc3)
              obtain rfl := g4 (by omega)
              refine wp_val (w' := w') (bval h hb fun consts => run_value (c := undef) ?_) (hnext _ _ _ hstep (undef_rel _))
              rw [← zeroCells_made] at hst
              obtain ⟨n', rfl⟩ := Nat.exists_eq_succ_of_ne_zero hn0
              simp [Builtin.clear_, t0, a0, hc, run_underlying hu, run_zeroV hc1, hst]; rfl
    · trivial
  · rename_i kt e hu
    intro K _ r m k v mf hk
    rcases onMapN_ok hk with ⟨hx, hk⟩ | ⟨b, hx, hk⟩
    · refine ⟨_, _, hk, fun φ w a hr ho next Q hnext => ?_⟩
      have h1 := opsx ho
      rw [hx] at h1
      generalize hc : a.eval x = cc at h1
      cases h1
      refine wp_val (bval h hb fun consts => run_value (c := undef) ?_) (hnext _ _ _ (Step.refl hr) (undef_rel _))
      simp [Builtin.clear_, t0, a0, hc, run_underlying hu]; rfl
    · obtain ⟨es, clock, hb', hk⟩ := bonMap_ok hk
      refine ⟨_, _, hk, fun φ w a hr ho next Q hnext => ?_⟩
      have h1 := opsx ho
      rw [hx] at h1
      obtain ⟨cb, co, sz, ces, hc, hφ, hh, he⟩ := map_at hr h1 hb'
      have hst := map_upd hr hφ hb' hh (es' := []) (ces' := #[]) (clock' := clock) trivial
      refine wp_val (bval h hb fun consts => run_value (c := undef) ?_) (hnext _ _ _ hst (undef_rel _))
      simp [Builtin.clear_, t0, a0, hc, run_underlying hu, run_getMap hh, run_setMap hh]; rfl
  · trivial
theorem delete_ok (hb : c.callee = .builtin .delete) {x y : Operand} {rest : List Operand} (ha : c.args.toList = x :: y :: rest) : OpOk P o (cDelete P t x y) := by
  have opsx : ∀ {φ r a}, OpsRel φ r a o → VRel φ ((opd x).get r) (a.eval x) := fun ho => args_opnd h hb ho x (by rw [ha]; simp)
  have opsy : ∀ {φ r a}, OpsRel φ r a o → VRel φ ((opd y).get r) (a.eval y) := fun ho => args_opnd h hb ho y (by rw [ha]; simp)
  have t0 : c.argTypes[0]? = some t := by rw [getElem_of_toList ht]; rfl
  have a0 : ∀ a : Act, (c.args.map a.eval)[0]? = some (a.eval x) := fun a => by rw [args_at ha]; rfl
  have a1 : ∀ a : Act, (c.args.map a.eval)[1]? = some (a.eval y) := fun a => by rw [args_at ha]; rfl
  unfold cDelete
  split
  · rename_i e el hm
    obtain ⟨kt, d, hu, hd, hf⟩ := mapTypes_ok hm
    intro K _ r m k v mf hk
    rcases onMapN_ok hk with ⟨hx, hk⟩ | ⟨b, hx, hk⟩
    · refine ⟨_, _, hk, fun φ w a hr ho next Q hnext => ?_⟩
      have h1 := opsx ho
      rw [hx] at h1
      generalize hc : a.eval x = cc at h1
      cases h1
      refine wp_val (bval h hb fun consts => run_value (c := undef) ?_) (hnext _ _ _ (Step.refl hr) (undef_rel _))
      simp [Builtin.delete_, t0, a0, a1, hc, run_underlying hu, run_checkKey hd hf]; rfl
    · obtain ⟨es, clock, hb', hk⟩ := bonMap_ok hk
      rcases findM_ok hf hk with ⟨hk, hall⟩ | ⟨j, en, hk, hj, hall⟩
      · refine ⟨_, _, hk, fun φ w a hr ho next Q hnext => ?_⟩
        have h1 := opsx ho
        rw [hx] at h1
        obtain ⟨cb, co, sz, ces, hc, hφ, hh, he⟩ := map_at hr h1 hb'
        refine wp_val (w' := w) (bval h hb fun consts => run_value (c := undef) ?_) (hnext _ _ _ (Step.refl hr) (undef_rel _))
        simp [Builtin.delete_, t0, a0, a1, hc, run_underlying hu, run_getMap hh, run_checkKey hd hf, run_findKey hd (hall φ _ _ (opsy ho) he), run_setMap hh, setBlk_same hh]; rfl
      · refine ⟨_, _, hk, fun φ w a hr ho next Q hnext => ?_⟩
        have h1 := opsx ho
        rw [hx] at h1
        obtain ⟨cb, co, sz, ces, hc, hφ, hh, he⟩ := map_at hr h1 hb'
        obtain ⟨ce, q1, q2, q3, q4, q5, q6⟩ := hall φ _ _ (opsy ho) he
        have hst := map_upd hr hφ hb' hh (es' := delEnt (0 + j) es) (ces' := ces.eraseIdxIfInBounds (0 + j)) (clock' := clock)
          (by rw [Array.toList_eraseIdxIfInBounds]; exact EsRel.del he)
        refine wp_val (bval h hb fun consts => run_value (c := undef) ?_) (hnext _ _ _ hst (undef_rel _))
        simp [Builtin.delete_, t0, a0, a1, hc, run_underlying hu, run_getMap hh, run_checkKey hd hf, run_findKey hd q2, run_setMap hh]; rfl
  · trivial
end
end Go.AM

namespace Go.AM
variable [Tok]
variable {P : Program}

/- ### the least and the greatest -/
theorem minMax_ok (mx : Bool) {r : Regs} : ∀ {l : List Operand} {j : IntKind} {z : Int} {k : AVal → R} {v : AVal} {m : Mem}, (minMax mx l).run r j z k = .ok v m →
    ∃ z', k (.int j z') = .ok v m ∧ ∀ (φ : Phi) (a : Act) (w : World), (∀ x, x ∈ l → VRel φ ((opd x).get r) (a.eval x)) →
      ((l.map a.eval).foldlM (if mx then Builtin.max2 else Builtin.min2) (.int j z)).run P w = .ok (.int j z') w
  | [], j, z, k, v, m, h => ⟨z, h, fun φ a w _ => rfl⟩
  | y :: l, j, z, k, v, m, h => by
    obtain ⟨j', b, hy, h1⟩ := onInt_ok h
    obtain ⟨hj, h2⟩ := cond_t h1
    have hj' := ikEq_eq hj
    subst hj'
    obtain ⟨z', h3, h4⟩ := minMax_ok mx h2
    refine ⟨z', h3, fun φ a w ho => ?_⟩
    have h5 := h4 φ a w (fun x hx => ho x (List.mem_cons_of_mem _ hx))
    have h6 := ho y (List.mem_cons_self ..)
    rw [hy] at h6
    generalize hc : a.eval y = cy at h6
    cases h6
    simp only [List.map_cons, List.foldlM_cons, hc, Sem.run_bind]
    rw [ilt_eq, ilt_eq] at h5
    cases mx with
    | true =>
      simp only [if_true, Builtin.max2, Sem.run_pure, Result.andThen_ok] at h5 ⊢
      by_cases hlt : z < b
      · simp only [hlt, decide_true, if_true] at h5 ⊢; exact h5
      · simp only [hlt, decide_false, if_false] at h5 ⊢; exact h5
    | false =>
      simp only [Bool.false_eq_true, if_false, Builtin.min2, Sem.run_pure, Result.andThen_ok] at h5 ⊢
      by_cases hlt : b < z
      · simp only [hlt, decide_true, if_true] at h5 ⊢; exact h5
      · simp only [hlt, decide_false, if_false] at h5 ⊢; exact h5
theorem minMax_op {o : Oper} {c : Call} (h : o.op = .call c) {mx : Bool} (hb : c.callee = .builtin (if mx then .max else .min)) : OpOk P o (cMinMax mx c.args.toList) := by
  unfold cMinMax
  split
  · rename_i x l ha
    intro r k v mf hk
    obtain ⟨j, z, hx, hk1⟩ := onInt_ok hk
    obtain ⟨z', hk2, hrun⟩ := minMax_ok (P := P) mx hk1
    obtain ⟨j', z2, he, hk3⟩ := onInt_ok hk2
    cases he
    rw [forceI_eq] at hk3
    refine ⟨_, hk3, fun φ m w a hr ho => ⟨.int j z', .int _ _, ?_⟩⟩
    have hl : ∀ y, y ∈ c.args.toList → VRel φ ((opd y).get r) (a.eval y) := args_opnd h hb ho
    rw [ha] at hl
    have h1 := hl x (List.mem_cons_self ..)
    rw [hx] at h1
    generalize hc : a.eval x = cc at h1
    cases h1
    have h2 := hrun φ a w fun y hy => hl y (List.mem_cons_of_mem _ hy)
    refine bval h hb fun consts => ?_
    have hl2 : (c.args.map a.eval).toList = .int j z :: l.map a.eval := by simp [ha, hc]
    cases mx with
    | true =>
      simp only [if_true] at h2 ⊢
      refine run_value ?_
      simp only [Builtin.max_, hl2]; exact h2
    | false =>
      simp only [Bool.false_eq_true, if_false] at h2 ⊢
      refine run_value ?_
      simp only [Builtin.min_, hl2]; exact h2
  · trivial
/- ### ranging over strings -/
theorem range_ok {o : Oper} {t : TypeId} {x : Operand} (h : o.op = .range t x) : OpOk P o (cRange P t x) := by
  unfold cRange
  split
  · rename_i hu
    intro K _ r m k v mf hk
    obtain ⟨s, hx, hk1⟩ := onStr_ok hk
    obtain ⟨hn, hk2⟩ := memAlloc_ok hk1
    refine ⟨_, _, hk2, fun φ w a hr ho next Q hnext => ?_⟩
    have h1 := ho x (by simp [h, Op.operands])
    rw [hx] at h1
    generalize hc : a.eval x = cc at h1
    cases h1 with
    | str _ t' ht =>
      have hst := Step.new (w' := w.iter t' 0) (o := 0) (s := 0) (x := .iter s 0) hr hn rfl rfl rfl rfl ⟨w.heap.size, 0, t', by simp, World.iter_heap w t' 0, ht⟩
      refine wp_val (w' := w.iter t' 0) (c := .pointer (some ⟨w.heap.size, 0, none⟩)) ?_ (hnext _ _ _ hst (.ptr _ 0 w.heap.size 0 0 (by simp)))
      simp only [execOp, h, hc]
      exact run_value (run_range_string w t t' hu)
  · trivial
theorem next_ok {o : Oper} {it : Operand} {b : Bool} (h : o.op = .next it b) : OpOk P o (cNext it b) := by
  unfold cNext
  split
  · rename_i hb
    subst hb
    intro K _ r m k v mf hk
    obtain ⟨p, o', hx, hk1⟩ := onPtr_ok hk
    obtain ⟨ho', hk2⟩ := cond_t hk1
    rw [beq_true] at ho'
    subst ho'
    obtain ⟨s, pos, hbk, hk3⟩ := onIter_ok hk2
    have key : ∀ φ w (a : Act), Rel P φ m w → OpsRel φ r a o → ∃ cb sz t, a.eval it = .pointer (some ⟨cb, 0, none⟩) ∧ φ p = some (cb, 0, sz) ∧ w.heap[cb]? = some (.stringIter t pos) ∧ t.data.toList.map UInt8.toNat = s := by
      intro φ w a hr ho
      have h1 := ho it (by simp [h, Op.operands])
      rw [hx] at h1
      generalize hc : a.eval it = cc at h1
      cases h1 with
      | ptr _ _ cb co sz hφ =>
        have hB := hr.blk p (hr.dom _ _ hφ)
        rw [hbk] at hB
        obtain ⟨cb', sz', t, q1, q2, q3⟩ := hB
        rw [hφ] at q1; cases q1
        exact ⟨cb, sz, t, rfl, hφ, q2, q3⟩
    cases hd : dropL pos s with
    | nil =>
      rw [hd] at hk3
      refine ⟨_, _, hk3, fun φ w a hr ho next Q hnext => ?_⟩
      obtain ⟨cb, sz, t, hc, hφ, hh, ht⟩ := key φ w a hr ho
      refine wp_val (w' := w) (c := .tuple #[.bool false]) ?_ (hnext _ _ _ (Step.refl hr) (.tuple _ _ (.cons (.bool false) .nil)))
      have hsz : ¬ pos < t.size := by
        rw [dropL_eq] at hd
        have := congrArg List.length hd
        simp only [List.length_drop, List.length_nil, ← ht, List.length_map, Array.length_toList] at this
        have e : t.data.size = t.size := rfl
        omega
      simp only [execOp, h, hc]
      refine run_value ?_
      simp [Instr.next, getObj, Sem.run, hh, hsz]
    | cons c rest =>
      rw [hd] at hk3
      obtain ⟨hc8, hk4⟩ := cond_t hk3
      rw [forceN_eq] at hk4
      rw [ble_true] at hc8
      refine ⟨_, _, hk4, fun φ w a hr ho next Q hnext => ?_⟩
      obtain ⟨cb, sz, t, hc, hφ, hh, ht⟩ := key φ w a hr ho
      rw [dropL_eq] at hd
      have hget : s[pos]? = some c := by
        have := congrArg (fun l => l[0]?) hd
        simpa using this
      rw [← ht, List.getElem?_map, Array.getElem?_toList] at hget
      have hsz : pos < t.size := by
        rcases Nat.lt_or_ge pos t.data.size with h1 | h1
        · exact h1
        · rw [Array.getElem?_eq_none h1] at hget; cases hget
      have hval : (t[pos]'hsz).toNat = c := by
        rw [Array.getElem?_eq_getElem (show pos < t.data.size from hsz)] at hget
        have h9 : (t.data[pos]'hsz).toNat = c := by simpa using hget
        exact h9
      have hlt : cb < w.heap.size := by
        rcases Nat.lt_or_ge cb w.heap.size with h | h
        · exact h
        · rw [Array.getElem?_eq_none h] at hh; cases hh
      have hst := Step.upd hr (x' := .iter s (pos + 1)) (ob := .stringIter t (pos + 1)) (hr.dom _ _ hφ) (by rw [hbk]; rfl) hφ ⟨cb, sz, t, hφ, setBlk_get _ _ _ hlt, ht⟩
      refine wp_val (w' := setBlk w cb (.stringIter t (pos + 1))) (c := .tuple #[.bool true, goInt pos, .int .i32 c]) ?_
        (hnext _ _ _ hst (.tuple _ _ (.cons (.bool true) (.cons (.int _ _) (.cons (.int _ _) .nil)))))
      simp only [execOp, h, hc]
      refine run_value ?_
      have hdec := decode_ascii t pos hsz (by rw [hval]; omega)
      rw [hval] at hdec
      simp [Instr.next, run_getObj hh, run_setObj hh, hsz, hdec]
  · trivial
/- ### calls -/
theorem ends_wp {o : Oper} {a : Act} {w : World} {next : Act → World → Prop} {Q : Exit → Act → World → Prop} {f : FuncId} {cargs : Array Value} {R' : Value → World → Prop}
    (he : (execOp a.eval o).run P w = (callFunc f cargs).run P w) (hE : Ends P f cargs w R') (hn : ∀ c w', R' c w' → next (a.put o.dst c) w') : o.wp P a w next Q := by
  unfold Oper.wp
  rw [he]
  rcases hE with ⟨c, w', h1, h2⟩ | ⟨h1, h2⟩
  · rw [h1]; exact hn c w' h2
  · rw [h1, Oper.upon_enter]
    refine Calls.mono h2 fun e w' hR => ?_
    obtain ⟨c, rfl, hR⟩ := hR
    exact hn c w' hR
theorem follows_ok : ∀ {l : List FieldStep} {p : List (Nat × Nat × Bool)} {u : Option TypeId}, pathOf P l = some (p, u) → ∀ {v : AVal} {k : AVal → R} {rv : AVal} {mf : Mem}, (follows p).run v k = .ok rv mf →
    ∃ x, k x = .ok rv mf ∧ ∀ φ cv (w : World) t, VRel φ v cv → ∃ cx, VRel φ x cx ∧ (follow l t (.val cv)).run P w = .ok (u.getD t, .val cx) w
  | [], p, u, hp, v, k, rv, mf, h => by
    unfold pathOf at hp
    cases hp
    exact ⟨v, h, fun φ cv w t hv => ⟨cv, hv, rfl⟩⟩
  | s :: l, p, u, hp, v, k, rv, mf, h => by
    unfold pathOf at hp
    split at hp
    · cases hp
    · rename_i hd
      split at hp
      · rename_i f r t' hf hp2
        split at hp
        · rename_i ht
          cases hp
          obtain ⟨cs, rfl, h1⟩ := onAgg_ok h
          obtain ⟨u', h2, hpart⟩ := part_ok ht h1
          obtain ⟨x, h3, hfol⟩ := follows_ok hp2 h2
          obtain ⟨fs, hu, hfs⟩ := fieldOf_ok hf
          refine ⟨x, h3, fun φ cv w t hv => ?_⟩
          cases hv with
          | agg _ cc hcc hcell =>
            obtain ⟨c, hc, hrun⟩ := hpart φ w cc hcc hcell
            obtain ⟨cx, hcx, hrun2⟩ := hfol φ c w f.type hc
            refine ⟨cx, hcx, ?_⟩
            have hd' : s.deref = false := by simpa using hd
            simp only [follow, Sem.run_bind, run_under hu, Result.andThen_ok, hfs, hd', Bool.false_eq_true, if_false, hrun, hrun2]
            rfl
        · cases hp
      · cases hp
theorem methodOf_ok {t : TypeId} {name : String} {f : FuncId} {p : List (Nat × Nat × Bool)} (h : methodOf P t name = some (f, p)) {v : AVal} {k : AVal → R} {rv : AVal} {mf : Mem} (hk : (follows p).run v k = .ok rv mf) :
    ∃ x, k x = .ok rv mf ∧ ∀ φ cv (w : World) n, VRel φ v cv → ∃ cx, VRel φ x cx ∧ (method (n + 1) t cv name).run P w = .ok (f, cx) w := by
  unfold methodOf at h
  split at h
  · rename_i m hm
    split at h
    · rename_i p' u hp
      have fin : ∀ (ptr : Bool) f' d, m.func = some (f', ptr) → (f', p') = (f, p) → P.underlying (u.getD t) = some d → ((∃ e, d = .pointer e) → ptr = true) → ((∀ e, d ≠ .pointer e) → ptr = false) →
          ∃ x, k x = .ok rv mf ∧ ∀ φ cv (w : World) n, VRel φ v cv → ∃ cx, VRel φ x cx ∧ (method (n + 1) t cv name).run P w = .ok (f, cx) w := by
        intro ptr f' d hf he hd hp1 hp2
        cases he
        obtain ⟨x, h1, h2⟩ := follows_ok hp hk
        refine ⟨x, h1, fun φ cv w n hv => ?_⟩
        obtain ⟨cx, hcx, hrun⟩ := h2 φ cv w t hv
        refine ⟨cx, hcx, ?_⟩
        cases hi : P.info? t with
        | none => rw [hi] at hm; cases hm
        | some i =>
          rw [hi] at hm
          have hm' : i.methods.find? (·.name == name) = some m := hm
          have hti : (typeInfo t).run P w = .ok i w := by simp [typeInfo, hi]
          have hra : ∀ wr : Option String, (receiverAt (u.getD t) (.val cx) ptr wr).run P w = .ok cx w := by
            intro wr
            unfold receiverAt
            simp only [Sem.run_bind, run_under hd, Result.andThen_ok]
            by_cases hpd : ∃ e, d = .pointer e
            · obtain ⟨e, rfl⟩ := hpd
              rw [hp1 ⟨e, rfl⟩]
              simp [Place.get]
            · rw [hp2 (fun e he => hpd ⟨e, he⟩)]
              cases d <;> first | (exact absurd ⟨_, rfl⟩ hpd) | simp [Place.get]
          unfold method
          simp only [Sem.run_bind, hti, Result.andThen_ok, hm', hrun, hf, hra, Sem.run_pure]
      split at h
      · rename_i f' e hf hd
        exact fin true f' _ hf (Option.some.inj h) hd (fun _ => rfl) (fun hn => absurd rfl (hn e))
      · cases h
      · rename_i f' d hno hf hd
        exact fin false f' _ hf (Option.some.inj h) hd (fun ⟨e, he⟩ => (hno e (by rw [he])).elim) (fun _ => rfl)
      · cases h
    · cases h
  · cases h
theorem call_ok {o : Oper} {c : Call} (h : o.op = .call c) : OpOk P o (cCall P c) := by
  unfold cCall
  split
  · rename_i b hb
    unfold cBuiltin
    split
    · rename_i t ts x rest ht ha; exact len_ok h ht hb ha
    · rename_i t ts x rest ht ha; exact cap_ok h ht hb ha
    · rename_i s x rest ha; exact append_ok h hb ha
    · rename_i t ts x y rest ht ha; exact copy_ok h ht hb ha
    · rename_i t ts x rest ht ha; exact clear_ok h ht hb ha
    · rename_i t ts x y rest ht ha; exact delete_ok h ht hb ha
    · exact minMax_op h (mx := true) hb
    · exact minMax_op h (mx := false) hb
    · trivial
  · rename_i f hcal
    intro K hK r m k v mf hk
    obtain ⟨u, m', hk1, hk2⟩ := andThen_ok hk
    have hs := hK f _ m u m' hk1
    refine ⟨u, m', hk2, fun φ w a hr ho next Q hnext => ?_⟩
    have hv : VsRel φ ((opds c.args.toList).get r) (c.args.map a.eval).toList := by
      rw [Array.toList_map]
      exact opds_rel _ fun x hx => ho x (by simp only [h, Op.operands, Call.operands, hcal]; simp [Array.mem_toList_iff.1 hx])
    refine ends_wp (R' := fun c w' => ∃ φ', Step P φ m w φ' m' w' ∧ VRel φ' u c) ?_ (hs φ w _ hr hv) (fun c w' ⟨φ', h1, h2⟩ => hnext φ' c w' h1 h2)
    simp [execOp, h, resolve, hcal, Act.eval, Deferred.ofValue, invoke]
  · rename_i x _ hcal
    intro K hK r m k v mf hk
    obtain ⟨f, caps, hx, hk0⟩ := onFunc_ok hk
    obtain ⟨u, m', hk1, hk2⟩ := andThen_ok hk0
    have hs := hK f _ m u m' hk1
    refine ⟨u, m', hk2, fun φ w a hr ho next Q hnext => ?_⟩
    have hv : VsRel φ ((opds c.args.toList).get r) (c.args.map a.eval).toList := by
      rw [Array.toList_map]
      exact opds_rel _ fun x hx => ho x (by simp only [h, Op.operands, Call.operands, hcal]; simp [Array.mem_toList_iff.1 hx])
    have h1 := ho x (by simp [h, Op.operands, Call.operands, hcal])
    rw [hx] at h1
    generalize hc : a.eval x = cc at h1
    cases h1 with
    | func _ _ cs hcs hcell =>
      have hfa : funcArgs ((opds c.args.toList).get r) caps = appL caps ((opds c.args.toList).get r) := by
        unfold funcArgs
        split
        · have := hcell _ (List.mem_cons_self ..); cases this
        · rfl
      refine ends_wp (cargs := c.args.map a.eval ++ cs) (R' := fun c w' => ∃ φ', Step P φ m w φ' m' w' ∧ VRel φ' u c) ?_
        (hs φ w _ hr (by rw [hfa, appL_eq, Array.toList_append]; exact hv.append hcs)) (fun c w' ⟨φ', h1, h2⟩ => hnext φ' c w' h1 h2)
      simp [execOp, h, resolve, hcal, hc, Deferred.ofValue, invoke]
    | meth _ fl l first cs h3 h4 =>
      have hfa : funcArgs ((opds c.args.toList).get r) (.tuple fl :: l) = appL (appL l ((opds c.args.toList).get r)) fl := rfl
      refine ends_wp (cargs := first ++ c.args.map a.eval ++ cs) (R' := fun c w' => ∃ φ', Step P φ m w φ' m' w' ∧ VRel φ' u c) ?_
        (hs φ w _ hr (by rw [hfa, appL_eq, appL_eq, Array.toList_append, Array.toList_append, List.append_assoc]; exact h3.append (hv.append h4))) (fun c w' ⟨φ', h1, h2⟩ => hnext φ' c w' h1 h2)
      simp [execOp, h, resolve, hcal, hc, Deferred.ofValue, invoke]
  · rename_i x name hcal
    intro K hK r m k v mf hk
    rcases onIface_ok hk with ⟨_, hk0⟩ | ⟨t, iv, hx, hk0⟩
    · cases hk0
    · split at hk0
      · rename_i f p hm
        obtain ⟨rv, hk1, hmeth⟩ := methodOf_ok hm hk0
        obtain ⟨u, m', hk2, hk3⟩ := andThen_ok hk1
        have hs := hK f _ m u m' hk2
        refine ⟨u, m', hk3, fun φ w a hr ho next Q hnext => ?_⟩
        have hv : VsRel φ ((opds c.args.toList).get r) (c.args.map a.eval).toList := by
          rw [Array.toList_map]
          exact opds_rel _ fun x hx => ho x (by simp only [h, Op.operands, Call.operands, hcal]; simp [Array.mem_toList_iff.1 hx])
        have h1 := ho x (by simp [h, Op.operands, Call.operands, hcal])
        rw [hx] at h1
        generalize hc : a.eval x = cc at h1
        cases h1 with
        | iface _ _ ci hci =>
          obtain ⟨cx, hcx, hrun⟩ := hmeth φ ci w (P.types.size + Made.depth - 1) hci
          refine ends_wp (cargs := #[cx] ++ c.args.map a.eval) (R' := fun c w' => ∃ φ', Step P φ m w φ' m' w' ∧ VRel φ' u c) ?_
            (hs φ w _ hr (by rw [Array.toList_append]; exact .cons hcx hv)) (fun c w' ⟨φ', h1, h2⟩ => hnext φ' c w' h1 h2)
          have hd : P.types.size + Made.depth - 1 + 1 = P.types.size + Made.depth := by
            have : 0 < Made.depth := by decide
            omega
          rw [hd] at hrun
          have h0 : (#[Value.iface t ci] ++ c.args.map a.eval)[0]? = some (Value.iface t ci) := by simp [Array.getElem?_append]
          have hx2 : (c.args.map a.eval).extract 0 c.args.size = c.args.map a.eval := by
            have := Array.extract_size (xs := c.args.map a.eval)
            rwa [Array.size_map] at this
          simp [execOp, h, resolve, hcal, hc, invoke, callMethod, h0, hrun, hx2]
      · cases hk0
theorem cOper_ok (o : Oper) : OpOk P o (cOper P o) := by
  unfold cOper
  split
  all_goals first
    | trivial
    | (rename_i h; exact move_ok (.inl h))
    | (rename_i h; exact move_ok (.inr h))
    | (rename_i h; exact pick_ok h)
    | (rename_i h; exact alloc_ok h)
    | (rename_i h; exact box_ok h)
    | (rename_i h; exact build_ok h)
    | (rename_i h; exact buildSlice_ok h)
    | (rename_i h; exact load_ok h)
    | (rename_i h; exact store_ok h)
    | (rename_i h; exact nilCheck_ok h)
    | (rename_i h; exact bin_all h)
    | (rename_i h; exact un_all h)
    | (rename_i h; exact conv_ok h)
    | (rename_i h; exact makeIface_ok h)
    | (rename_i h; exact makeFunc_ok h)
    | (rename_i h; exact makeMap_ok h)
    | (rename_i h; exact makeSlice_ok h)
    | (rename_i h; exact slice_ok h)
    | (rename_i h; exact fieldAddr_ok h)
    | (rename_i h; exact field_ok h)
    | (rename_i h; exact indexAddr_ok h)
    | (rename_i h; exact index_ok h)
    | (rename_i h; exact lookup_ok h)
    | (rename_i h; exact mapUpdate_ok (.inl h))
    | (rename_i h; exact mapUpdate_ok (.inr h))
    | (rename_i h; exact mapEntry_ok h)
    | (rename_i h; exact entryStore_ok h)
    | (rename_i h; exact range_ok h)
    | (rename_i h; exact next_ok h)
    | (rename_i h; exact assert_ok h)
    | (rename_i h; exact extract_ok h)
    | (rename_i h; exact call_ok h)
end Go.AM
