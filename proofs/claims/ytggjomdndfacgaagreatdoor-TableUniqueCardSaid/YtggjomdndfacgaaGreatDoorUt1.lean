/- The B-tree over any program that holds its code, given its closed runs: put of a new key and next above a key. -/
import Derived.Test.YtggjomdndfacgaaGreatDoorUm7
import Derived.Test.YtggjomdndfacgaaGreatDoorUm6
set_option linter.unusedSectionVars false
set_option linter.unusedVariables false
set_option linter.unusedSimpArgs false
namespace Go.AM
variable {P : Program}
noncomputable section

/- ### a tree of one leaf, or of a root and leaves, of which one is looked into (and the next one), at a key's place.
  Tokens: 0 the key, 1 its value; 100 + j, 200 + j: keys and values of the leaf; 300 + j, 350 + j: of the next leaf; 400 + i: first of child i; 500 + i: its pairs; 600: first of the root. -/
def rowT (kb vb : Nat) : List Nat → List AVal
  | [] => []
  | j :: l => .opq (Nat.add kb j) :: .opq (Nat.add vb j) :: rowT kb vb l
def rowV (A : Nat) : Nat → AVal
  | 0 => .nilslice
  | k + 1 => .slice A 0 (Nat.succ k) (Nat.succ k) false 2
def leafB (f pl : AVal) : Blk := .cells true [f, pl, .nilslice]
def oneOr (s : Nat) (b : Blk) : List Blk :=
  match s with
  | 0 => []
  | _ + 1 => [b]
def treeL (G s : Nat) : List Blk := leafB (.opq 600) (rowV (Nat.add G 2) s) :: oneOr s (.cells true (rowT 100 200 (natL s 0)))
def ptrsL : Nat → Nat → List AVal
  | 0, _ => []
  | n + 1, a => .ptr a 0 :: ptrsL n (Nat.succ a)
def kidB (G m c s s2 i : Nat) : Blk :=
  cond' (leafB (.opq (Nat.add 400 i)) (rowV (Nat.add (Nat.add G 3) m) s))
    (cond' (leafB (.opq (Nat.add 400 i)) (rowV (Nat.add (Nat.add G 4) m) s2)) (leafB (.opq (Nat.add 400 i)) (.opq (Nat.add 500 i))) (and (Nat.beq i (Nat.succ c)) (Nat.ble 1 s2)))
    (Nat.beq i c)
def kidsL (G m c s s2 : Nat) : List Nat → List Blk
  | [] => []
  | i :: l => kidB G m c s s2 i :: kidsL G m c s s2 l
def appBs : List Blk → List Blk → List Blk
  | [], y => y
  | x :: l, y => x :: appBs l y
def treeN (G m c s s2 : Nat) : List Blk :=
  .cells true [.opq 600, .nilslice, .slice (Nat.add G 2) 0 m m false 1] :: .cells true (ptrsL m (Nat.add G 3)) ::
    appBs (kidsL G m c s s2 (natL m 0)) (.cells true (rowT 100 200 (natL s 0)) :: oneOr s2 (.cells true (rowT 300 350 (natL s2 0))))
/-- where the key stands: above the leaf's keys ahead of p and the firsts of the children up to c -/
def tokSide (m c s s2 p i : Nat) : Option Bool :=
  cond' none (cond' (cond' (some true) (cond' (some false) none (Nat.ble (Nat.succ i) (Nat.add 100 s))) (Nat.ble (Nat.succ i) (Nat.add 100 p)))
    (cond' none (cond' (cond' (some false) none (Nat.ble (Nat.succ i) (Nat.add 300 s2)))
      (cond' none (cond' (cond' (some true) (some false) (Nat.ble i (Nat.add 400 c))) none (Nat.ble (Nat.succ i) (Nat.add 400 m))) (Nat.ble (Nat.succ i) 400))
      (Nat.ble (Nat.succ i) 350)) (Nat.ble (Nat.succ i) 300)) (Nat.ble (Nat.succ i) 200)) (Nat.ble (Nat.succ i) 100)
/-- what stands in for the comparing of bytes -/
def cmpX (m c s s2 p : Nat) (args : List AVal) (mem : Mem) : R :=
  arg2 args fun a b => match a, b with
    | .opq i, .opq 0 => onB3 (.fail 180) (fun t => cond' (.ok (.int .i64 (.negSucc 0)) mem) (.ok (.int .i64 (.ofNat 1)) mem) t) (tokSide m c s s2 p i)
    | _, _ => .fail 181
/- what a put ends in -/
def insR : Nat → List AVal → List AVal
  | 0, l => .opq 0 :: .opq 1 :: l
  | p + 1, a :: b :: l => a :: b :: insR p l
  | _ + 1, l => l
def keyAt : Nat → List AVal → AVal
  | 0, a :: _ => a
  | j + 1, _ :: _ :: l => keyAt j l
  | _, _ => .bad
def newR (s p : Nat) : List AVal := insR p (rowT 100 200 (natL s 0))
/-- the one leaf or the two that the leaf of s pairs becomes; A: its row -/
def newLeaves (A : Nat) (f : AVal) (s p : Nat) : List Blk :=
  cond' [leafB f (.slice A 0 (Nat.succ s) (Nat.succ s) false 2)]
    [leafB f (.slice A 0 8 8 false 2), leafB (keyAt 8 (newR s p)) (.slice A 16 9 9 false 2)] (Nat.ble s 15)
def partsN (s : Nat) : Nat := cond' 1 2 (Nat.ble s 15)
def endL (G s p : Nat) : List Blk :=
  .cells true (ptrsL (partsN s) (Nat.add G 2)) :: appBs (newLeaves (Nat.add (Nat.add G 2) (partsN s)) (.opq 600) s p) [.cells true (newR s p)]
def farB (i : Nat) : Blk := leafB (.opq (Nat.add 400 i)) (.opq (Nat.add 500 i))
def farL : List Nat → List Blk
  | [] => []
  | i :: l => farB i :: farL l
def endM (m s : Nat) : Nat := Nat.add (Nat.pred m) (partsN s)
def endN (G m c s p : Nat) : List Blk :=
  .cells true [.ptr (Nat.add G 2) 0] :: .cells true [.opq 600, .nilslice, .slice (Nat.add G 3) 0 (endM m s) (endM m s) false 1] :: .cells true (ptrsL (endM m s) (Nat.add G 4)) ::
    appBs (farL (natL c 0)) (appBs (newLeaves (Nat.add (Nat.add G 4) (endM m s)) (.opq (Nat.add 400 c)) s p) (appBs (farL (natL (Nat.sub m (Nat.succ c)) (Nat.succ c))) [.cells true (newR s p)]))
def ptrNs : List AVal → List Nat
  | [] => []
  | v :: l => nmOf v :: ptrNs l
def cellsN (m : Mem) (b n : Nat) : List AVal :=
  match m.get b with
  | .cells _ cs => takeL n cs
  | _ => []
def kidNs (m : Mem) (b n : Nat) : List Nat := ptrNs (cellsN m b n)
def nthN : Nat → List Nat → Nat
  | 0, a :: _ => a
  | j + 1, _ :: l => nthN j l
  | _, [] => 0
def snocN (l : List Nat) (x : Nat) : List Nat := snocL l x
def endNsL (mem : Mem) (R s : Nat) : List Nat := (fun ks => R :: snocL ks (nmOf (cellN mem (nthN 0 ks) 1))) (kidNs mem R (partsN s))
def endNsN (mem : Mem) (R m c s : Nat) : List Nat := (fun rt => (fun ch => (fun ks => R :: rt :: ch :: snocL ks (nmOf (cellN mem (nthN c ks) 1))) (kidNs mem ch (endM m s))) (nmOf (cellN mem rt 2))) (nmOf (cellN mem R 0))
def idMap (G : Nat) (ns : List Nat) : Map := ⟨G, ns, [], fun _ => .bad, fun i => .opq i⟩
def putArgs (G : Nat) : List AVal := [.ptr (Nat.succ G) 0, .agg [.opq 0, .opq 1]]
def putChk (σ : Map) (g0 : Nat) (b0 : Blk) (n : Nat) (E : List Blk) (x : AVal) (t : Bool) (m : Mem) : Bool :=
  and t (and (absN σ 2 (.slice (Nat.succ σ.G) 0 n n false 1) x) (absMem σ g0 b0 E m))
/-- a put into a tree of one leaf of s pairs, at p -/
def putLRun (K : KH) (f G g0 : Nat) (b0 : Blk) (s p : Nat) : Bool :=
  match K f (putArgs G) (mkMem G g0 b0 (treeL G s)) with
  | .ok (.tuple [x, .bool t]) m => putChk (idMap G (endNsL m (nmOf x) s)) g0 b0 (partsN s) (endL G s p) x t m
  | _ => false
/-- into the leaf c of m, of s pairs, at p -/
def putNRun (K : KH) (f G g0 : Nat) (b0 : Blk) (m c s p : Nat) : Bool :=
  match K f (putArgs G) (mkMem G g0 b0 (treeN G m c s 0)) with
  | .ok (.tuple [x, .bool t]) mf => putChk (idMap G (endNsN mf (nmOf x) m c s)) g0 b0 1 (endN G m c s p) x t mf
  | _ => false
def nextArgs (G : Nat) : List AVal := [.ptr (Nat.succ G) 0, .opq 0, .bool false]
def pairChk (k v : Nat) (ok : Bool) : R → Bool
  | .ok (.tuple [.agg [a, b], .bool t]) _ => cond' (and t (and (aeqN 2 a (.opq k)) (aeqN 2 b (.opq v)))) (not t) ok
  | _ => false
/-- the least pair that is not below the key -/
def nextLRun (K : KH) (f G g0 : Nat) (b0 : Blk) (s p : Nat) : Bool := pairChk (Nat.add 100 p) (Nat.add 200 p) (Nat.ble (Nat.succ p) s) (K f (nextArgs G) (mkMem G g0 b0 (treeL G s)))
def nextNRun (K : KH) (f G g0 : Nat) (b0 : Blk) (m c s s2 p : Nat) : Bool :=
  pairChk (cond' (Nat.add 100 p) 300 (Nat.ble (Nat.succ p) s)) (cond' (Nat.add 200 p) 350 (Nat.ble (Nat.succ p) s)) (or (Nat.ble (Nat.succ p) s) (Nat.ble 1 s2)) (K f (nextArgs G) (mkMem G g0 b0 (treeN G m c s s2)))
end
end Go.AM

namespace Go.AM
variable {P : Program}
open Go.Extern

/- ### bytes in memory, and their order -/
def BytesAt (H : Nat → Option Obj) (v : Value) (bs : List UInt8) : Prop :=
  v = .slice none 0 0 ∧ bs = [] ∨ ∃ b o cap c el fz, v = .slice (some ⟨b, o, none⟩) bs.length cap ∧ H b = some (.cells c el fz) ∧ (c.toList.drop o).take bs.length = bs.map fun x => .int .u8 (x.toNat : Int)
def heapOf (w : World) : Nat → Option Obj := fun b => w.heap[b]?
theorem BytesAt.mono {H H' : Nat → Option Obj} {v : Value} {bs : List UInt8} (h : BytesAt H v bs) (hH : ∀ b o, H b = some o → H' b = some o) : BytesAt H' v bs := by
  rcases h with h | ⟨b, o, cap, c, el, fz, h1, h2, h3⟩
  · exact .inl h
  · exact .inr ⟨b, o, cap, c, el, fz, h1, hH _ _ h2, h3⟩
theorem BytesAt.cell {H : Nat → Option Obj} {v : Value} {bs : List UInt8} (h : BytesAt H v bs) : v.oneCell' = true := by
  rcases h with ⟨rfl, _⟩ | ⟨b, o, cap, c, el, fz, rfl, _⟩ <;> rfl
theorem u8of_byte (x : UInt8) : u8of (.int .u8 (x.toNat : Int)) = x := by
  have h1 := @u8of_toNat tok0 (x.toNat : Int) (Int.natCast_nonneg _) (by have := x.toNat_lt; omega)
  rw [← UInt8.toNat_inj]
  omega
theorem bytesOf_at {w : World} {v : Value} {bs : List UInt8} (h : BytesAt (heapOf w) v bs) : (Bytes.bytesOf v).run P w = .ok (bmk bs) w := by
  rcases h with ⟨rfl, rfl⟩ | ⟨b, o, cap, c, el, fz, rfl, h2, h3⟩
  · rfl
  · show (Bytes.loadBytes ⟨b, o, none⟩ bs.length .empty).run P w = _
    have h2' : w.heap[b]? = some (.cells c el fz) := h2
    have := @loadBytes_run tok0 P w b ((c.toList.drop o).take bs.length) o .empty (fun j v hj => by
      rw [List.getElem?_take] at hj
      split at hj
      · rw [List.getElem?_drop] at hj
        simp only [World.cell?, h2', Option.isSome_none, Bool.false_eq_true, if_false]
        rw [← Array.getElem?_toList]; exact hj
      · cases hj) (fun v hv => by
      rw [h3] at hv
      obtain ⟨x, _, rfl⟩ := List.mem_map.1 hv
      exact ⟨_, rfl⟩)
    rw [h3] at this
    rw [List.length_map] at this
    rw [this]
    rw [List.map_map]
    have e : bs.map (u8of ∘ fun x => Value.int .u8 (x.toNat : Int)) = bs := by
      have : (u8of ∘ fun (x : UInt8) => Value.int .u8 (x.toNat : Int)) = id := funext fun x => u8of_byte x
      rw [this, List.map_id]
    rw [e]
    rw [show ByteArray.empty.data = #[] from rfl, Array.empty_append]
    rfl
/-- what the comparing of two keys says, by their places -/
def CmpT (T : Tok) (m c s s2 p : Nat) : Prop := ∀ i t, tokSide m c s s2 p i = some t → ∃ bs kb, BytesAt T.hold (T.val i) bs ∧ BytesAt T.hold (T.val 0) kb ∧ lexC bs kb = if t then -1 else 1
theorem cmpX_ok {T : Tok} {m c s s2 p : Nat} (hT : CmpT T m c s s2 p) {f : FuncId} (hf : ExtHere P f .compare) : @XSound T P f (cmpX m c s s2 p) := by
  intro args mem v m' h φ w cargs hr hv
  obtain ⟨a, b, rfl, h1⟩ := arg2_ok h
  split at h1
  · rename_i i
    obtain ⟨t, ht, h2⟩ : ∃ t, tokSide m c s s2 p i = some t ∧ cond' (R.ok (.int .i64 (.negSucc 0)) mem) (.ok (.int .i64 (.ofNat 1)) mem) t = .ok v m' := by
      cases ht : tokSide m c s s2 p i with
      | none => rw [ht] at h1; cases h1
      | some t => rw [ht] at h1; exact ⟨t, rfl, h1⟩
    obtain ⟨bs, kb, g1, g2, g3⟩ := hT i t ht
    obtain ⟨x, y, hc, hx, hy⟩ := vs2 hv
    have hcargs : cargs = #[x, y] := hc
    subst hcargs
    cases hx
    cases hy
    have hH : ∀ b o, T.hold b = some o → heapOf w b = some o := fun b o hb => @Rel.held T P φ mem w hr b o hb
    have e1 := bytesOf_at (P := P) (g1.mono hH)
    have e2 := bytesOf_at (P := P) (g2.mono hH)
    obtain ⟨hne, fn, k1, k2, k3, k4, k5⟩ := hf
    left
    refine ⟨goInt (lexC bs kb), w, ?_, φ, ?_, ?_⟩
    · rw [run_callFunc_extern k1 k2 k3 k4 k5]
      show (((Bytes.bytesOf (T.val i) >>= fun a => Bytes.bytesOf (T.val 0) >>= fun b => pure (goInt (BytealgCompare.cmp a b))) : Sem Value).run P w).andThen _ = _
      rw [Sem.run_bind, e1, Result.andThen_ok, Sem.run_bind, e2, Result.andThen_ok, Sem.run_pure, cmp_lex]
      rfl
    · cases t <;> · cases h2; exact @Step.refl T P φ mem w hr
    · rw [g3]
      cases t
      · cases h2; exact @VRel.int T φ .i64 1
      · cases h2; exact @VRel.int T φ .i64 (-1)
  · cases h1
end Go.AM

namespace Go.AM
variable {P : Program}

/- ### what lies in the heap, and the memory that says so -/
abbrev Img := Nat × Nat × Nat
abbrev Heap := Nat → Option Obj
/-- what is known of the heap lies in it -/
def In (H : Heap) (w : World) : Prop := ∀ b o, H b = some o → w.heap[b]? = some o
def CellsAt (H : Heap) (x : Img) (cs : List Value) : Prop := ∃ c el fz, H x.1 = some (.cells c el fz) ∧ x.2.2 = c.size ∧ x.2.1 + cs.length ≤ c.size ∧ (c.toList.drop x.2.1).take cs.length = cs
theorem CellsAt.lt {H : Heap} {w : World} (hH : In H w) {x : Img} {cs : List Value} (h : CellsAt H x cs) : x.1 < w.heap.size := by
  obtain ⟨c, el, fz, h1, _⟩ := h
  exact @lt_of_some tok0 w x.1 _ (hH _ _ h1)
theorem CellsAt.mono {H H' : Heap} {x : Img} {cs : List Value} (h : CellsAt H x cs) (hw : ∀ b o, H b = some o → H' b = some o) : CellsAt H' x cs := by
  obtain ⟨c, el, fz, h1, h2⟩ := h
  exact ⟨c, el, fz, hw _ _ h1, h2⟩
theorem CellsAt.img {H : Heap} {w : World} (hH : In H w) {x : Img} {cs : List Value} (h : CellsAt H x cs) : w.heap[x.1]? = H x.1 := by
  obtain ⟨c, el, fz, h1, _⟩ := h
  rw [h1]; exact hH _ _ h1
def ptrV (x : Img) : Value := .pointer (some ⟨x.1, x.2.1, none⟩)
def nilS : Value := .slice none 0 0
/-- a row of n elements of z cells each -/
def RowAt (H : Heap) (z : Nat) (pl : Value) (n : Nat) (vs : List Value) : Prop :=
  n = 0 ∧ vs = [] ∧ pl = nilS ∨ ∃ (x : Img) (cap : Nat), 0 < n ∧ vs.length = n * z ∧ pl = .slice (some ⟨x.1, x.2.1, none⟩) n cap ∧ n ≤ cap ∧ x.2.1 + cap * z ≤ x.2.2 ∧ CellsAt H x vs
theorem RowAt.mono {H H' : Heap} {z n : Nat} {pl : Value} {vs : List Value} (h : RowAt H z pl n vs) (hw : ∀ b o, H b = some o → H' b = some o) : RowAt H' z pl n vs := by
  rcases h with h | ⟨x, cap, h1, h2, h3, h4, h5, h6⟩
  · exact .inl h
  · exact .inr ⟨x, cap, h1, h2, h3, h4, h5, h6.mono hw⟩
def phiOf (G : Nat) (imgs : List Img) : Phi := fun p => if p < G then some (p, 0, 0) else if p = G then some (G, 0, 0) else imgs[p - (G + 1)]?
theorem phiOf_hi {G : Nat} {imgs : List Img} (i : Nat) : phiOf G imgs (G + 1 + i) = imgs[i]? := by
  unfold phiOf
  rw [if_neg (by omega), if_neg (by omega), show G + 1 + i - (G + 1) = i by omega]
theorem mkRel {T : Tok} {G : Nat} (hG : P.globals.size = G) (h0 : 0 < G) {w : World} (hgs : G ≤ w.heap.size) {l : List Blk} {imgs : List Img} (hl : l.length = imgs.length) (hb : G + 1 + l.length ≤ 65536) (hro : ∀ b, b ∈ l → b.wr = false)
    (hlt : ∀ x, x ∈ imgs → x.1 < w.heap.size) (hB : ∀ i b, l[i]? = some b → @BRel T (phiOf G imgs) w (G + 1 + i) b) (hheld : ∀ b o, T.hold b = some o → w.heap[b]? = some o) : @Rel T P (phiOf G imgs) (mkMem G 0 .none l) w := by
  have hn : (mkMem G 0 .none l).next = G + 1 + l.length := addL_next l _
  have get : ∀ p, p < 65536 → (mkMem G 0 .none l).get p = if G + 1 ≤ p ∧ p < G + 1 + l.length then (l[p - (G + 1)]?).getD .none else if p = 0 then .none else .none := fun p hp => mkMem_get h0 hb hp
  have hdead : ∀ p, p < 65536 → ((mkMem G 0 .none l).get p).wr = true → False := by
    intro p hp hw
    rw [get p hp] at hw
    split at hw
    · rename_i h1
      have h2 : p - (G + 1) < l.length := by omega
      rw [List.getElem?_eq_getElem h2] at hw
      have := hro _ (List.getElem_mem h2)
      rw [Option.getD_some, this] at hw; cases hw
    · split at hw <;> cases hw
  refine @Rel.mk T P _ _ _ (by rw [hn]; omega) ?_ ?_ ?_ ?_ ?_ ?_ ?_ ?_ hheld (fun p b o s hp hw _ => (hdead p (by rw [hn] at hp; omega) hw).elim) (fun _ => by
    rw [get 0 (by decide), if_neg (by omega), if_pos rfl]; rfl)
  · intro p x hp
    rw [hn]
    unfold phiOf at hp
    split at hp
    · omega
    · split at hp
      · omega
      · have : p - (G + 1) < imgs.length := by
          rcases Nat.lt_or_ge (p - (G + 1)) imgs.length with h | h
          · exact h
          · rw [List.getElem?_eq_none h] at hp; cases hp
        omega
  · intro p b o s hp hne
    rw [hG] at hne
    unfold phiOf at hp
    split at hp
    · cases hp; omega
    · first
        | exact hlt _ (List.mem_of_getElem? hp)
        | (rw [if_neg hne] at hp; exact hlt _ (List.mem_of_getElem? hp))
  · rw [hG]
    unfold phiOf
    rw [if_neg (by omega), if_pos rfl]
  · rw [hG, get G (by omega), if_neg (by omega)]
    split <;> rfl
  · intro g hg
    rw [hG] at hg
    exact ⟨0, by unfold phiOf; rw [if_pos hg]⟩
  · intro p hp
    rw [hn] at hp
    rw [get p (by omega)]
    split
    · rename_i h1
      have h2 : p - (G + 1) < l.length := by omega
      rw [List.getElem?_eq_getElem h2]
      have := hB (p - (G + 1)) _ (List.getElem?_eq_getElem h2)
      rwa [show G + 1 + (p - (G + 1)) = p by omega] at this
    · split <;> trivial
  · intro p q b o s o' s' hp _ _ hw _ _ _
    exact hdead p (by rw [hn] at hp; omega) hw
  · intro p hp hlt'
    rw [hn] at hp
    rw [get p hlt', if_neg (by omega)]
    split <;> rfl
theorem brel_of {T : Tok} {φ : Phi} {H : Heap} {w : World} (hH : In H w) {p : Nat} {x : Img} {cs : List AVal} {vs : List Value} (h : CellsAt H x vs) (hp : φ p = some x) (hv : @VsRel T φ cs vs) (hc : ∀ v, v ∈ cs → v.isCell = true) : @BRel T φ w p (.cells true cs) := by
  obtain ⟨c, el, fz, h1, h2, h3, h4⟩ := h
  have hl := @VsRel.length T φ _ _ hv
  refine ⟨x.1, x.2.1, c, el, fz, by rw [hp, ← h2], hH _ _ h1, by omega, ?_, hc, fun h => by cases h⟩
  rw [← hl, h4]; exact hv
/-- what a memory tells of lies in the part of the heap that is known -/
def Tells (φ : Phi) (m : Mem) (H : Heap) (w : World) : Prop := ∀ p x, φ p = some x → (m.get p).live = true → w.heap[x.1]? = H x.1
theorem tells_mk {G : Nat} (h0 : 0 < G) {l : List Blk} {imgs : List Img} (hb : G + 1 + l.length ≤ 65536) {H : Heap} {w : World} (h : ∀ x, x ∈ imgs → w.heap[x.1]? = H x.1) : Tells (phiOf G imgs) (mkMem G 0 .none l) H w := by
  intro p x hp hlive
  unfold phiOf at hp
  have dead : p ≤ G → ((mkMem G 0 .none l).get p).live = true → False := by
    intro hpG hl
    rw [mkMem_get h0 hb (by omega), if_neg (by omega)] at hl
    split at hl <;> cases hl
  split at hp
  · exact (dead (by omega) hlive).elim
  · split at hp
    · exact (dead (by omega) hlive).elim
    · exact h x (List.mem_of_getElem? hp)
theorem of_brel {T : Tok} {m : Mem} {φ : Phi} {H : Heap} {w : World} (hI : Tells φ m H w) {p : Nat} {ro : Bool} {cs : List AVal} (hr : @Rel T P φ m w) (hp : p < m.next) (hg : m.get p = .cells ro cs) : ∃ x vs, φ p = some x ∧ CellsAt H x vs ∧ @VsRel T φ cs vs := by
  have := @Rel.blk T P φ m w hr p hp
  rw [hg] at this
  obtain ⟨cb, co, c, el, fz, h1, h2, h3, h4, _⟩ := this
  refine ⟨(cb, co, c.size), _, h1, ⟨c, el, fz, (hI _ _ h1 (by rw [hg]; rfl)).symm.trans h2, rfl, ?_, ?_⟩, h4⟩
  · have := @VsRel.length T φ _ _ h4
    show co + _ ≤ _
    omega
  · have := @VsRel.length T φ _ _ h4
    rw [this]
/-- what is known behind a call that writes none of it -/
def upd (H : Heap) (w w' : World) : Heap := fun b => if b < w.heap.size then H b else w'.heap[b]?
theorem upd_mono {H : Heap} {w w' : World} (hH : In H w) : ∀ b o, H b = some o → upd H w w' b = some o := fun b o h => by
  unfold upd
  rw [if_pos (@lt_of_some tok0 w b _ (hH _ _ h))]; exact h
def flat (ps : List (Value × Value)) : List Value := ps.flatMap fun p => [p.1, p.2]
theorem flat_len (ps : List (Value × Value)) : (flat ps).length = ps.length * 2 := by
  induction ps with
  | nil => rfl
  | cons p ps ih => show (flat ps).length + 2 = _; rw [ih, List.length_cons]; omega
theorem rowT_rel {T : Tok} {φ : Phi} {kb vb : Nat} : ∀ (ps : List (Value × Value)) (k : Nat), (∀ j p, ps[j]? = some p → T.val (kb + (k + j)) = p.1 ∧ T.val (vb + (k + j)) = p.2) → @VsRel T φ (rowT kb vb (natL ps.length k)) (flat ps)
  | [], _, _ => @VsRel.nil T φ
  | p :: ps, k, h => by
    obtain ⟨h1, h2⟩ := h 0 p rfl
    have ih := rowT_rel (T := T) (φ := φ) (kb := kb) (vb := vb) ps (k + 1) fun j q hq => by
      have := h (j + 1) q (by rw [List.getElem?_cons_succ]; exact hq)
      rwa [show k + (j + 1) = k + 1 + j by omega] at this
    show @VsRel T φ (.opq (kb + k) :: .opq (vb + k) :: rowT kb vb (natL ps.length (k + 1))) (p.1 :: p.2 :: flat ps)
    refine @VsRel.cons T φ _ _ _ _ ?_ (@VsRel.cons T φ _ _ _ _ ?_ ih)
    · rw [← h1]; exact @VRel.opq T φ (kb + k)
    · rw [← h2]; exact @VRel.opq T φ (vb + k)
theorem rowT_cell {kb vb : Nat} : ∀ {l : List Nat} {v : AVal}, v ∈ rowT kb vb l → v.isCell = true
  | [], _, h => by cases h
  | j :: l, v, h => by
    rcases List.mem_cons.1 h with rfl | h
    · rfl
    · rcases List.mem_cons.1 h with rfl | h
      · rfl
      · exact rowT_cell h
/-- a row's slice, or nil -/
theorem rowV_rel {T : Tok} {φ : Phi} {H : Heap} {A n : Nat} {pl : Value} {vs : List Value} (h : RowAt H 2 pl n vs) (hx : ∀ (x : Img) (cap : Nat), pl = .slice (some ⟨x.1, x.2.1, none⟩) n cap → CellsAt H x vs → φ A = some x) : @VRel T φ (rowV A n) pl := by
  rcases h with ⟨rfl, _, rfl⟩ | ⟨x, cap, h1, h2, rfl, h4, h5, h6⟩
  · exact @VRel.nilslice T φ
  · cases n with
    | zero => omega
    | succ n => exact @VRel.slice T φ A 0 (n + 1) (n + 1) false 2 x.1 x.2.1 x.2.2 x.2.1 cap (hx x cap rfl h6) (Nat.le_refl _) h4 (fun h => by cases h) (fun _ => rfl) h5
end Go.AM

namespace Go.AM
variable {P : Program}

/- ### put into a tree of one leaf, in terms of the heap -/
def LeafAt (H : Heap) (x : Img) (f : Value) (ps : List (Value × Value)) : Prop := ∃ pl, CellsAt H x [f, pl, nilS] ∧ RowAt H 2 pl ps.length (flat ps)
theorem LeafAt.mono {H H' : Heap} {x : Img} {f : Value} {ps : List (Value × Value)} (h : LeafAt H x f ps) (hw : ∀ b o, H b = some o → H' b = some o) : LeafAt H' x f ps := by
  obtain ⟨pl, h1, h2⟩ := h
  exact ⟨pl, h1.mono hw, h2.mono hw⟩
theorem relL {T : Tok} {G : Nat} (hG : P.globals.size = G) (h0 : 0 < G) (hGb : G ≤ 60000) {w : World} (hgs : G ≤ w.heap.size) {H : Heap} (hH : In H w) {x : Img} {f : Value} {ps : List (Value × Value)} (h : LeafAt H x f ps) (hf : T.val 600 = f)
    (hv : ∀ j p, ps[j]? = some p → T.val (100 + j) = p.1 ∧ T.val (200 + j) = p.2) (hheld : ∀ b o, T.hold b = some o → w.heap[b]? = some o) :
    ∃ φ, @Rel T P φ (mkMem G 0 .none (treeL G ps.length)) w ∧ Tells φ (mkMem G 0 .none (treeL G ps.length)) H w ∧ φ (G + 1) = some x := by
  obtain ⟨pl, h1, h2⟩ := h
  have hrow := fun φ => rowT_rel (T := T) (φ := φ) (kb := 100) (vb := 200) ps 0 fun j p hj => by rw [Nat.zero_add]; exact hv j p hj
  have leaf : ∀ φ, φ (G + 1) = some x → (∀ (y : Img) (cap : Nat), pl = .slice (some ⟨y.1, y.2.1, none⟩) ps.length cap → CellsAt H y (flat ps) → φ (G + 2) = some y) → @BRel T φ w (G + 1) (leafB (.opq 600) (rowV (G + 2) ps.length)) := by
    intro φ hφ hy
    refine brel_of hH h1 hφ (@VsRel.cons T φ _ _ _ _ (by rw [← hf]; exact @VRel.opq T φ 600) (@VsRel.cons T φ _ _ _ _ (rowV_rel h2 hy) (@VsRel.cons T φ _ _ _ _ (@VRel.nilslice T φ) (@VsRel.nil T φ)))) ?_
    intro v hv
    simp only [List.mem_cons, List.not_mem_nil, or_false] at hv
    rcases hv with rfl | rfl | rfl
    · rfl
    · cases ps.length <;> rfl
    · rfl
  rcases h2 with ⟨hn, hfl, hpl⟩ | ⟨y, cap, k1, k2, k3, k4, k5, k6⟩
  · refine ⟨phiOf G [x], ?_, tells_mk h0 (by rw [hn]; show G + 1 + 1 ≤ _; omega) (fun z hz => by rw [List.mem_singleton] at hz; subst hz; exact h1.img hH), by rw [phiOf_hi (i := 0)]; rfl⟩
    have hl : treeL G ps.length = [leafB (.opq 600) (rowV (G + 2) ps.length)] := by rw [hn]; rfl
    rw [hl]
    refine mkRel hG h0 hgs rfl (by show G + 1 + 1 ≤ _; omega) (fun b hb => by rw [List.mem_singleton] at hb; subst hb; rfl) (fun z hz => by rw [List.mem_singleton] at hz; subst hz; exact h1.lt hH) (fun i b hb => ?_) hheld
    match i, hb with
    | 0, hb =>
      simp only [List.getElem?_cons_zero, Option.some.injEq] at hb
      subst hb
      refine leaf _ (by rw [phiOf_hi (i := 0)]; rfl) fun y cap hy _ => ?_
      rw [hpl] at hy; cases hy
    | i + 1, hb => simp at hb
  · have hl : treeL G ps.length = [leafB (.opq 600) (rowV (G + 2) ps.length), .cells true (rowT 100 200 (natL ps.length 0))] := by
      cases hps : ps.length with
      | zero => omega
      | succ n => rfl
    refine ⟨phiOf G [x, y], ?_, tells_mk h0 (by rw [hl]; show G + 1 + 2 ≤ _; omega) (fun z hz => ?_), by rw [phiOf_hi (i := 0)]; rfl⟩
    rotate_left
    · simp only [List.mem_cons, List.not_mem_nil, or_false] at hz
      rcases hz with rfl | rfl
      · exact h1.img hH
      · exact k6.img hH
    rw [hl]
    refine mkRel hG h0 hgs rfl (by show G + 1 + 2 ≤ _; omega) (fun b hb => ?_) (fun z hz => ?_) (fun i b hb => ?_) hheld
    · simp only [List.mem_cons, List.not_mem_nil, or_false] at hb
      rcases hb with rfl | rfl <;> rfl
    · simp only [List.mem_cons, List.not_mem_nil, or_false] at hz
      rcases hz with rfl | rfl
      · exact h1.lt hH
      · exact k6.lt hH
    · match i, hb with
      | 0, hb =>
        simp only [List.getElem?_cons_zero, Option.some.injEq] at hb
        subst hb
        refine leaf _ (by rw [phiOf_hi (i := 0)]; rfl) fun y' cap' hy hc => ?_
        have e2 : phiOf G [x, y] (G + 2) = some y := by rw [show G + 2 = G + 1 + 1 by omega, phiOf_hi (i := 1)]; rfl
        rw [e2]
        rw [k3] at hy
        injection hy with e3 e4 e5
        injection e3 with e3
        injection e3 with e6 e7 e8
        obtain ⟨c, el, fz, g1, g2, _⟩ := k6
        obtain ⟨c', el', fz', g1', g2', _⟩ := hc
        rw [← e6, g1] at g1'
        cases g1'
        congr 1
        exact Prod.ext e6 (Prod.ext e7 (g2.trans g2'.symm))
      | 1, hb =>
        simp only [List.getElem?_cons_succ, List.getElem?_cons_zero, Option.some.injEq] at hb
        subst hb
        exact brel_of hH k6 (by rw [phiOf_hi (i := 1)]; rfl) (hrow _) fun v hv => rowT_cell hv
      | i + 2, hb => simp at hb
/-- the tokens' values are told by their names -/
def isOpqB : AVal → Bool
  | .opq _ => true
  | _ => false
theorem opq_unique {T : Tok} {φ φ' : Phi} : ∀ {l : List AVal} {vs vs' : List Value}, (∀ v, v ∈ l → isOpqB v = true) → @VsRel T φ l vs → @VsRel T φ' l vs' → vs = vs'
  | [], _, _, _, h, h' => by cases h; cases h'; rfl
  | x :: l, _, _, ho, h, h' => by
    cases h with
    | cons h1 h2 =>
      cases h' with
      | cons h3 h4 =>
        have hx := ho x (List.mem_cons_self ..)
        cases x <;> first | (cases hx; done) | skip
        cases h1; cases h3
        rw [opq_unique (fun v hv => ho v (List.mem_cons_of_mem _ hv)) h2 h4]
def insAt : Nat → Value × Value → List (Value × Value) → List (Value × Value)
  | 0, e, l => e :: l
  | p + 1, e, a :: l => a :: insAt p e l
  | _ + 1, _, [] => []
theorem insAt_len : ∀ {p : Nat} {e : Value × Value} {l : List (Value × Value)}, p ≤ l.length → (insAt p e l).length = l.length + 1
  | 0, _, l, _ => rfl
  | p + 1, e, a :: l, h => by show (insAt p e l).length + 1 = _; rw [insAt_len (by simpa using h)]; rfl
  | p + 1, e, [], h => by simp at h
theorem insR_rel {T : Tok} {φ : Phi} {kb vb : Nat} {k v : Value} (hk : T.val 0 = k) (hv : T.val 1 = v) : ∀ (p : Nat) (ps : List (Value × Value)) (a : Nat), p ≤ ps.length → (∀ j q, ps[j]? = some q → T.val (kb + (a + j)) = q.1 ∧ T.val (vb + (a + j)) = q.2) →
    @VsRel T φ (insR p (rowT kb vb (natL ps.length a))) (flat (insAt p (k, v) ps))
  | 0, ps, a, _, h => by
    show @VsRel T φ (.opq 0 :: .opq 1 :: _) (k :: v :: flat ps)
    exact @VsRel.cons T φ _ _ _ _ (by rw [← hk]; exact @VRel.opq T φ 0) (@VsRel.cons T φ _ _ _ _ (by rw [← hv]; exact @VRel.opq T φ 1) (rowT_rel ps a h))
  | p + 1, [], a, hp, _ => by simp at hp
  | p + 1, q :: ps, a, hp, h => by
    obtain ⟨h1, h2⟩ := h 0 q rfl
    have ih := insR_rel (T := T) (φ := φ) (kb := kb) (vb := vb) hk hv p ps (a + 1) (by simpa using hp) fun j r hr => by
      have := h (j + 1) r (by rw [List.getElem?_cons_succ]; exact hr)
      rwa [show a + (j + 1) = a + 1 + j by omega] at this
    show @VsRel T φ (.opq (kb + a) :: .opq (vb + a) :: insR p (rowT kb vb (natL ps.length (a + 1)))) (q.1 :: q.2 :: flat (insAt p (k, v) ps))
    exact @VsRel.cons T φ _ _ _ _ (by rw [← h1]; exact @VRel.opq T φ (kb + a)) (@VsRel.cons T φ _ _ _ _ (by rw [← h2]; exact @VRel.opq T φ (vb + a)) ih)
theorem insR_opq : ∀ (p : Nat) (l : List AVal), (∀ v, v ∈ l → isOpqB v = true) → ∀ v, v ∈ insR p l → isOpqB v = true
  | 0, l, h, v, hv => by
    rcases List.mem_cons.1 hv with rfl | hv
    · rfl
    · rcases List.mem_cons.1 hv with rfl | hv
      · rfl
      · exact h v hv
  | p + 1, [], h, v, hv => h v hv
  | p + 1, [a], h, v, hv => h v hv
  | p + 1, a :: b :: l, h, v, hv => by
    rcases List.mem_cons.1 hv with rfl | hv
    · exact h _ (List.mem_cons_self ..)
    · rcases List.mem_cons.1 hv with rfl | hv
      · exact h _ (List.mem_cons_of_mem _ (List.mem_cons_self ..))
      · exact insR_opq p l (fun v hv => h v (List.mem_cons_of_mem _ (List.mem_cons_of_mem _ hv))) v hv
theorem rowT_opq {kb vb : Nat} : ∀ {l : List Nat} {v : AVal}, v ∈ rowT kb vb l → isOpqB v = true
  | [], _, h => by cases h
  | j :: l, v, h => by
    rcases List.mem_cons.1 h with rfl | h
    · rfl
    · rcases List.mem_cons.1 h with rfl | h
      · rfl
      · exact rowT_opq h
end Go.AM

namespace Go.AM
variable {P : Program}

theorem mkMem_at {G : Nat} (h0 : 0 < G) {l : List Blk} (hb : G + 1 + l.length ≤ 65536) {i : Nat} {b : Blk} (hi : l[i]? = some b) : G + 1 + i < (mkMem G 0 .none l).next ∧ (mkMem G 0 .none l).get (G + 1 + i) = b := by
  have hn : (mkMem G 0 .none l).next = G + 1 + l.length := addL_next l _
  have hlt : i < l.length := by
    rcases Nat.lt_or_ge i l.length with h | h
    · exact h
    · rw [List.getElem?_eq_none h] at hi; cases hi
  refine ⟨by rw [hn]; omega, ?_⟩
  rw [mkMem_get h0 hb (by omega), if_pos (by omega), show G + 1 + i - (G + 1) = i by omega, hi]; rfl
theorem CellsAt.sub {H : Heap} {x : Img} {vs : List Value} (h : CellsAt H x vs) {o n : Nat} (hn : o + n ≤ vs.length) : CellsAt H (x.1, x.2.1 + o, x.2.2) ((vs.drop o).take n) := by
  obtain ⟨c, el, fz, h1, h2, h3, h4⟩ := h
  refine ⟨c, el, fz, h1, h2, ?_, ?_⟩
  · rw [List.length_take, List.length_drop]
    show x.2.1 + o + min n (vs.length - o) ≤ c.size
    omega
  · rw [List.length_take, List.length_drop, Nat.min_eq_left (by omega)]
    show (c.toList.drop (x.2.1 + o)).take n = _
    rw [← h4, List.drop_take, List.drop_drop, List.take_take, Nat.min_eq_left (by omega)]
theorem flat_drop : ∀ (d : Nat) (ps : List (Value × Value)), (flat ps).drop (2 * d) = flat (ps.drop d)
  | 0, ps => rfl
  | d + 1, [] => by simp [flat]
  | d + 1, p :: ps => by
    rw [show 2 * (d + 1) = 2 * d + 2 by omega]
    show (p.1 :: p.2 :: flat ps).drop (2 * d + 2) = _
    simp only [List.drop_succ_cons]
    exact flat_drop d ps
theorem flat_take : ∀ (d : Nat) (ps : List (Value × Value)), (flat ps).take (2 * d) = flat (ps.take d)
  | 0, ps => by simp [flat]
  | d + 1, [] => by simp [flat]
  | d + 1, p :: ps => by
    rw [show 2 * (d + 1) = 2 * d + 2 by omega]
    show (p.1 :: p.2 :: flat ps).take (2 * d + 2) = p.1 :: p.2 :: flat (ps.take d)
    simp only [List.take_succ_cons]
    rw [flat_take d ps]
/-- a leaf that a memory tells of -/
theorem leafOf {T : Tok} {m : Mem} {φ : Phi} {w : World} {H : Heap} (hI : Tells φ m H w) (hr : @Rel T P φ m w) {X A d n : Nat} {fa : AVal} {L : List AVal} {ps : List (Value × Value)} (hX : X < m.next) (hA : A < m.next) (hgX : m.get X = leafB fa (.slice A (2 * d) n n false 2)) (hgA : m.get A = .cells true L)
    (hL : ∀ φ, @VsRel T φ L (flat ps)) (hLo : ∀ v, v ∈ L → isOpqB v = true) (hdn : d + n ≤ ps.length) (hn : 0 < n) : ∃ x f, φ X = some x ∧ LeafAt H x f ((ps.drop d).take n) ∧ @VRel T φ fa f := by
  obtain ⟨x, vs, h1, h2, h3⟩ := of_brel hI hr hX hgX
  obtain ⟨y, us, k1, k2, k3⟩ := of_brel hI hr hA hgA
  have hus : us = flat ps := opq_unique hLo k3 (hL φ)
  subst hus
  cases h3 with
  | @cons _ f _ _ g1 g2 =>
  cases g2 with
  | @cons _ pl _ _ g3 g4 =>
  cases g4 with
  | @cons _ z _ _ g5 g6 =>
  cases g6
  cases g5
  refine ⟨x, f, h1, ⟨pl, h2, ?_⟩, g1⟩
  cases g3 with
  | slice _ _ _ _ _ _ cb co sz o' cap' q1 q2 q3 q4 q5 q6 =>
    rw [k1] at q1
    cases q1
    have ho := q5 (by omega)
    have hlen : ((ps.drop d).take n).length = n := by rw [List.length_take, List.length_drop]; omega
    right
    have hs := k2.sub (o := 2 * d) (n := 2 * n) (by rw [flat_len]; omega)
    rw [flat_drop, flat_take] at hs
    refine ⟨(cb, co + 2 * d, sz), cap', by omega, by rw [flat_len], ?_, by omega, ?_, hs⟩
    · rw [hlen, ho]
    · show co + 2 * d + cap' * 2 ≤ sz
      omega
/-- what stays, what the call returns: one new leaf or two -/
def Parts1 (H : Heap) (f : Value) (nps : List (Value × Value)) (xs : List Img) : Prop :=
  nps.length ≤ 16 ∧ (∃ x, xs = [x] ∧ LeafAt H x f nps) ∨ nps.length = 17 ∧ ∃ x y g, xs = [x, y] ∧ LeafAt H x f (nps.take 8) ∧ LeafAt H y g (nps.drop 8) ∧ (nps[8]?).map (·.1) = some g
theorem keyAt_rel {T : Tok} {φ : Phi} : ∀ (j : Nat) (l : List AVal) (ps : List (Value × Value)), @VsRel T φ l (flat ps) → j < ps.length → ∃ p, ps[j]? = some p ∧ @VRel T φ (keyAt j l) p.1
  | j, l, [], _, h => by simp at h
  | 0, l, p :: ps, hv, _ => by
    have hv' : @VsRel T φ l (p.1 :: p.2 :: flat ps) := hv
    cases hv' with
    | cons h1 h2 => exact ⟨p, rfl, h1⟩
  | j + 1, l, p :: ps, hv, h => by
    have hv' : @VsRel T φ l (p.1 :: p.2 :: flat ps) := hv
    cases hv' with
    | cons h1 h2 =>
      cases h2 with
      | cons h3 h4 =>
        obtain ⟨q, k1, k2⟩ := keyAt_rel j _ ps h4 (by simpa using h)
        exact ⟨q, by rw [List.getElem?_cons_succ]; exact k1, k2⟩
theorem keyAt_opq : ∀ (j : Nat) (l : List AVal), (∀ v, v ∈ l → isOpqB v = true) → isOpqB (keyAt j l) = true ∨ keyAt j l = .bad
  | 0, [], _ => .inr rfl
  | 0, a :: l, h => .inl (h a (List.mem_cons_self ..))
  | j + 1, [], _ => .inr rfl
  | j + 1, [a], _ => .inr rfl
  | j + 1, a :: b :: l, h => keyAt_opq j l fun v hv => h v (List.mem_cons_of_mem _ (List.mem_cons_of_mem _ hv))
theorem keyAt_opq' {T : Tok} {φ : Phi} : ∀ (j : Nat) (l : List AVal) (ps : List (Value × Value)), @VsRel T φ l (flat ps) → (∀ v, v ∈ l → isOpqB v = true) → j < ps.length → isOpqB (keyAt j l) = true
  | j, l, [], _, _, h => by simp at h
  | 0, l, p :: ps, hv, ho, _ => by
    have hv' : @VsRel T φ l (p.1 :: p.2 :: flat ps) := hv
    cases hv' with
    | cons h1 h2 => exact ho _ (List.mem_cons_self ..)
  | j + 1, l, p :: ps, hv, ho, h => by
    have hv' : @VsRel T φ l (p.1 :: p.2 :: flat ps) := hv
    cases hv' with
    | cons h1 h2 =>
      cases h2 with
      | cons h3 h4 => exact keyAt_opq' j _ ps h4 (fun v hv => ho v (List.mem_cons_of_mem _ (List.mem_cons_of_mem _ hv))) (by simpa using h)
theorem opq_val {T : Tok} {φ φ' : Phi} {x : AVal} {a b : Value} (hx : isOpqB x = true) (h : @VRel T φ x a) (h' : @VRel T φ' x b) : a = b := by
  cases x <;> first | (cases hx; done) | skip
  cases h; cases h'; rfl
/-- what the memory of a put's end tells -/
theorem endL_parts {T : Tok} {G : Nat} (h0 : 0 < G) (hGb : G ≤ 60000) {φ : Phi} {w : World} {H : Heap} {s p : Nat} (hs : s ≤ 16) (hI : Tells φ (mkMem G 0 .none (endL G s p)) H w) (hr : @Rel T P φ (mkMem G 0 .none (endL G s p)) w) {nps : List (Value × Value)} (hlen : nps.length = s + 1) (hL : ∀ φ, @VsRel T φ (newR s p) (flat nps)) (hLo : ∀ v, v ∈ newR s p → isOpqB v = true)
    {cv : Value} (hc : @VRel T φ (.slice (G + 1) 0 (partsN s) (partsN s) false 1) cv) : ∃ xs, RowAt H 1 cv xs.length (xs.map ptrV) ∧ Parts1 H (T.val 600) nps xs := by
  have hll : (endL G s p).length ≤ 4 := by
    unfold endL newLeaves partsN
    cases Nat.ble s 15
    · exact Nat.le_refl 4
    · exact Nat.le_succ 3
  have hb : G + 1 + (endL G s p).length ≤ 65536 := by omega
  cases hs15 : Nat.ble s 15 with
  | true =>
    have hs' := ble_true.1 hs15
    have hp : partsN s = 1 := by unfold partsN; rw [hs15]; rfl
    have he : endL G s p = [.cells true [.ptr (G + 2) 0], leafB (.opq 600) (.slice (G + 3) 0 (s + 1) (s + 1) false 2), .cells true (newR s p)] := by
      unfold endL newLeaves
      rw [hp, hs15]; rfl
    obtain ⟨a1, a2⟩ := mkMem_at (G := G) h0 hb (i := 0) (b := .cells true [.ptr (G + 2) 0]) (by rw [he]; rfl)
    obtain ⟨b1, b2⟩ := mkMem_at (G := G) h0 hb (i := 1) (b := leafB (.opq 600) (.slice (G + 3) 0 (s + 1) (s + 1) false 2)) (by rw [he]; rfl)
    obtain ⟨c1, c2⟩ := mkMem_at (G := G) h0 hb (i := 2) (b := .cells true (newR s p)) (by rw [he]; rfl)
    obtain ⟨x, f, k1, k2, k3⟩ := leafOf (d := 0) (n := s + 1) hI hr b1 c1 b2 c2 hL hLo (by omega) (by omega)
    obtain ⟨y, vs, r1, r2, r3⟩ := of_brel hI hr a1 a2
    cases r3 with
    | @cons _ pv _ _ g1 g2 =>
    cases g2
    cases g1 with
    | ptr _ _ cb co sz hφ =>
      have hφ' : φ (G + 1 + 1) = some (cb, co, sz) := hφ
      rw [k1] at hφ'
      cases hφ'
      rw [hp] at hc
      cases hc with
      | slice _ _ _ _ _ _ cb2 co2 sz2 o' cap' q1 q2 q3 q4 q5 q6 =>
        have q1' : φ (G + 1 + 0) = some (cb2, co2, sz2) := q1
        rw [r1] at q1'
        cases q1'
        have ho := q5 (by decide)
        refine ⟨[(cb, co, sz)], .inr ⟨(cb2, co2, sz2), cap', Nat.succ_pos _, rfl, by rw [ho]; rfl, q3, by show co2 + cap' * 1 ≤ sz2; omega, r2⟩, .inl ⟨by omega, _, rfl, ?_⟩⟩
        cases k3
        rw [List.drop_zero, List.take_of_length_le (by omega)] at k2
        exact k2
  | false =>
    have hs' := ble_false.1 hs15
    have hp : partsN s = 2 := by unfold partsN; rw [hs15]; rfl
    have he : endL G s p = [.cells true [.ptr (G + 2) 0, .ptr (G + 3) 0], leafB (.opq 600) (.slice (G + 4) 0 8 8 false 2), leafB (keyAt 8 (newR s p)) (.slice (G + 4) 16 9 9 false 2), .cells true (newR s p)] := by
      unfold endL newLeaves
      rw [hp, hs15]; rfl
    obtain ⟨a1, a2⟩ := mkMem_at (G := G) h0 hb (i := 0) (b := .cells true [.ptr (G + 2) 0, .ptr (G + 3) 0]) (by rw [he]; rfl)
    obtain ⟨b1, b2⟩ := mkMem_at (G := G) h0 hb (i := 1) (b := leafB (.opq 600) (.slice (G + 4) 0 8 8 false 2)) (by rw [he]; rfl)
    obtain ⟨d1, d2⟩ := mkMem_at (G := G) h0 hb (i := 2) (b := leafB (keyAt 8 (newR s p)) (.slice (G + 4) 16 9 9 false 2)) (by rw [he]; rfl)
    obtain ⟨c1, c2⟩ := mkMem_at (G := G) h0 hb (i := 3) (b := .cells true (newR s p)) (by rw [he]; rfl)
    obtain ⟨x, f, k1, k2, k3⟩ := leafOf (d := 0) (n := 8) hI hr b1 c1 b2 c2 hL hLo (by omega) (by omega)
    obtain ⟨x2, f2, l1, l2, l3⟩ := leafOf (d := 8) (n := 9) hI hr d1 c1 d2 c2 hL hLo (by omega) (by omega)
    obtain ⟨y, vs, r1, r2, r3⟩ := of_brel hI hr a1 a2
    cases r3 with
    | @cons _ pv _ _ g1 g2 =>
    cases g2 with
    | @cons _ pv2 _ _ g3 g4 =>
    cases g4
    cases g1 with
    | ptr _ _ cb co sz hφ =>
    cases g3 with
    | ptr _ _ cb3 co3 sz3 hφ3 =>
      have hφ' : φ (G + 1 + 1) = some (cb, co, sz) := hφ
      have hφ3' : φ (G + 1 + 2) = some (cb3, co3, sz3) := hφ3
      rw [k1] at hφ'
      rw [l1] at hφ3'
      cases hφ'
      cases hφ3'
      rw [hp] at hc
      cases hc with
      | slice _ _ _ _ _ _ cb2 co2 sz2 o' cap' q1 q2 q3 q4 q5 q6 =>
        have q1' : φ (G + 1 + 0) = some (cb2, co2, sz2) := q1
        rw [r1] at q1'
        cases q1'
        have ho := q5 (by decide)
        obtain ⟨pr, hp1, hp2⟩ := keyAt_rel 8 _ nps (hL φ) (by omega)
        have hf2 : f2 = pr.1 := by
          rcases keyAt_opq 8 _ hLo with h | h
          · exact opq_val h l3 hp2
          · exfalso
            have hne : isOpqB (keyAt 8 (newR s p)) = true := by
              have hs16 : s = 16 := by omega
              exact keyAt_opq' 8 _ nps (hL φ) hLo (by omega)
            rw [h] at hne; cases hne
        refine ⟨[(cb, co, sz), (cb3, co3, sz3)], .inr ⟨(cb2, co2, sz2), cap', Nat.succ_pos _, rfl, by rw [ho]; rfl, q3, by show co2 + cap' * 1 ≤ sz2; omega, r2⟩, .inr ⟨by omega, _, _, f2, rfl, ?_, ?_, by rw [hp1, hf2]; rfl⟩⟩
        · cases k3
          rw [List.drop_zero] at k2
          exact k2
        · rw [List.take_of_length_le (by rw [List.length_drop]; omega)] at l2
          exact l2
end Go.AM

namespace Go.AM
variable {P : Program}

/- ### entries: a key's bytes, key and value -/
structure Ent where
  kb : List UInt8
  k : Value
  v : Value
def kvs (es : List Ent) : List (Value × Value) := es.map fun e => (e.k, e.v)
def EntOk (H : Heap) (e : Ent) : Prop := BytesAt H e.k e.kb ∧ ∃ vb, BytesAt H e.v vb
theorem EntOk.mono {H H' : Heap} {e : Ent} (h : EntOk H e) (hH : ∀ b o, H b = some o → H' b = some o) : EntOk H' e :=
  ⟨h.1.mono hH, h.2.imp fun vb h => h.mono hH⟩
/-- the key stands behind the first p entries -/
def Side (p : Nat) (kb : List UInt8) (es : List Ent) : Prop := ∀ j e, es[j]? = some e → (j < p → lexC e.kb kb = -1) ∧ (p ≤ j → lexC e.kb kb = 1)
@[reducible] def tokB (H : Heap) (v : Nat → Value) (h : ∀ j, (v j).oneCell' = true) : Tok where
  num _ := 0
  cnt := 0
  pos _ hj := absurd hj (Nat.not_lt_zero _)
  hi _ hj := absurd hj (Nat.not_lt_zero _)
  mono _ _ _ hj := absurd hj (Nat.not_lt_zero _)
  base := 0
  val := v
  cell := h
  hold := H
  strong := true
def keyV (es : List Ent) (j : Nat) : Value := ((es[j]?).map (·.k)).getD nilS
def valV (es : List Ent) (j : Nat) : Value := ((es[j]?).map (·.v)).getD nilS
theorem keyV_cell {H : Heap} {es : List Ent} (h : ∀ e, e ∈ es → EntOk H e) (j : Nat) : (keyV es j).oneCell' = true ∧ (valV es j).oneCell' = true := by
  unfold keyV valV
  cases hj : es[j]? with
  | none => exact ⟨rfl, rfl⟩
  | some e =>
    obtain ⟨h1, vb, h2⟩ := h e (List.mem_of_getElem? hj)
    exact ⟨h1.cell, h2.cell⟩
def tokVals (k v f0 : Value) (es es2 : List Ent) (fs pls : Nat → Value) (i : Nat) : Value :=
  if i = 0 then k else if i = 1 then v else if i < 100 then nilS else if i < 200 then keyV es (i - 100) else if i < 300 then valV es (i - 200) else if i < 350 then keyV es2 (i - 300) else if i < 400 then valV es2 (i - 350) else
    if i < 500 then fs (i - 400) else if i < 600 then pls (i - 500) else f0
theorem tokVals_cell {k v f0 : Value} {es es2 : List Ent} {fs pls : Nat → Value} {H : Heap} (hk : k.oneCell' = true) (hv : v.oneCell' = true) (hf : f0.oneCell' = true) (h : ∀ e, e ∈ es → EntOk H e) (h2 : ∀ e, e ∈ es2 → EntOk H e) (hfs : ∀ i, (fs i).oneCell' = true) (hpl : ∀ i, (pls i).oneCell' = true) (i : Nat) :
    (tokVals k v f0 es es2 fs pls i).oneCell' = true := by
  unfold tokVals
  repeat' split
  all_goals first
    | exact hk
    | exact hv
    | rfl
    | exact (keyV_cell h _).1
    | exact (keyV_cell h _).2
    | exact (keyV_cell h2 _).1
    | exact (keyV_cell h2 _).2
    | exact hfs _
    | exact hpl _
    | exact hf
theorem kvs_get {es : List Ent} {j : Nat} {q : Value × Value} (h : (kvs es)[j]? = some q) : keyV es j = q.1 ∧ valV es j = q.2 := by
  unfold kvs at h
  rw [List.getElem?_map] at h
  unfold keyV valV
  cases hj : es[j]? with
  | none => rw [hj] at h; cases h
  | some e => rw [hj] at h; cases h; exact ⟨rfl, rfl⟩
theorem kvs_len (es : List Ent) : (kvs es).length = es.length := List.length_map _
theorem cond_if {α : Type} (x y : α) (b : Bool) : cond' x y b = if b = true then x else y := by cases b <;> rfl
theorem tokSide_eq (m c s s2 p i : Nat) : tokSide m c s s2 p i = if i < 100 then none else if i < 200 then (if i < 100 + p then some true else if i < 100 + s then some false else none) else if i < 300 then none else
    if i < 350 then (if i < 300 + s2 then some false else none) else if i < 400 then none else if i < 400 + m then (if i ≤ 400 + c then some true else some false) else none := by
  have e1 : (400 : Nat).add c = 400 + c := rfl
  have e2 : (300 : Nat).add s2 = 300 + s2 := rfl
  have e3 : (100 : Nat).add s = 100 + s := rfl
  have e4 : (100 : Nat).add p = 100 + p := rfl
  have e5 : (400 : Nat).add m = 400 + m := rfl
  unfold tokSide
  simp only [cond_if, ble_true, Nat.succ_le_iff, e1, e2, e3, e4, e5]
theorem tokSideL {s p i : Nat} {t : Bool} (h : tokSide 0 0 s 0 p i = some t) (hp : p ≤ s) (hs : s ≤ 16) : ∃ j, i = 100 + j ∧ j < s ∧ (t = true → j < p) ∧ (t = false → p ≤ j) := by
  rw [tokSide_eq] at h
  refine ⟨i - 100, ?_⟩
  repeat' split at h
  all_goals first
    | (cases h; done)
    | (exfalso; omega)
    | (cases h; refine ⟨by omega, by omega, fun _ => (by omega), fun e => (by cases e)⟩)
    | (cases h; refine ⟨by omega, by omega, fun e => (by cases e), fun _ => (by omega)⟩)
theorem cmpL {H : Heap} {k v f0 : Value} {kb : List UInt8} {es es2 : List Ent} {fs pls : Nat → Value} {p : Nat} (hc : ∀ j, (tokVals k v f0 es es2 fs pls j).oneCell' = true) (hk : BytesAt H k kb) (he : ∀ e, e ∈ es → EntOk H e) (hS : Side p kb es) (hp : p ≤ es.length) (hs : es.length ≤ 16) :
    CmpT (tokB H (tokVals k v f0 es es2 fs pls) hc) 0 0 es.length 0 p := by
  intro i t ht
  obtain ⟨j, rfl, hj, h1, h2⟩ := tokSideL ht hp hs
  have hge := List.getElem?_eq_getElem hj
  have hval : tokVals k v f0 es es2 fs pls (100 + j) = es[j].k := by
    unfold tokVals
    rw [if_neg (by omega), if_neg (by omega), if_neg (by omega), if_pos (by omega), show 100 + j - 100 = j by omega]
    unfold keyV
    rw [hge]; rfl
  refine ⟨es[j].kb, kb, ?_, hk, ?_⟩
  · show BytesAt H (tokVals k v f0 es es2 fs pls (100 + j)) _
    rw [hval]; exact (he _ (List.getElem_mem hj)).1
  · obtain ⟨s1, s2⟩ := hS j _ hge
    cases t with
    | true => exact s1 (h1 rfl)
    | false => exact s2 (h2 rfl)
/-- nothing of what was there has turned -/
theorem absMem_live {σ : Map} {g0 : Nat} {b0 : Blk} {l : List Blk} {m : Mem} (hmb : m.next ≤ 65536) (hc : absMem σ g0 b0 l m = true) (hb0 : b0.live = false) {p : Nat} (hp : p < σ.top) (hl : ((mkMem σ.G g0 b0 l).get p).live = true) : σ.nm p < m.next ∧ (m.get (σ.nm p)).live = true := by
  unfold absMem at hc
  simp only [Bool.and_eq_true, ble_true] at hc
  obtain ⟨⟨⟨c1, c2⟩, c3, c4⟩, c5, c6⟩ := hc
  obtain ⟨hlen, hblk⟩ := chkL_ok c6
  rw [top_eq] at c2 hp
  rw [mkMem_get c1 (by omega) (by omega)] at hl
  split at hl
  · rename_i h1
    have h3 : p - (σ.G + 1) < l.length := by omega
    have h4 : p - (σ.G + 1) < σ.ns.length := by omega
    have e3 := List.getElem?_eq_getElem h3
    have e4 := List.getElem?_eq_getElem h4
    rw [e3] at hl
    have hnm : σ.nm p = σ.ns[p - (σ.G + 1)] := by rw [nm_high (by omega), e4]; rfl
    obtain ⟨_, g2, g3⟩ := hblk _ _ _ e3 e4
    rw [hnm]
    refine ⟨g2, ?_⟩
    generalize m.get (σ.ns[p - (σ.G + 1)]) = b at g3
    generalize l[p - (σ.G + 1)] = t at g3 hl
    cases t <;> cases b <;> first | rfl | (cases g3; done) | (cases hl; done)
  · split at hl
    · rw [hb0] at hl; cases hl
    · cases hl
/-- what the memory of a run's end tells of is known -/
theorem tells_step {T : Tok} {G : Nat} {ns : List Nat} {φ φ' : Phi} {m m' : Mem} {w w' : World} {E : List Blk} {H : Heap} (hst : @Step T P φ m w φ' m' w') (hro : ∀ q, q < m.next → (m.get q).wr = false) (hT : Tells φ m H w) (h : absMem (idMap G ns) 0 .none E m' = true) :
    Tells (absPhi (idMap G ns) φ') (mkMem G 0 .none E) (upd H w w') w' := by
  intro p x hp hl
  unfold absPhi at hp
  split at hp
  · rename_i hlt
    obtain ⟨h1, h2⟩ := absMem_live (@Rel.bound T P _ _ _ (@Step.rel T P _ _ _ _ _ _ hst)) h rfl hlt hl
    unfold upd
    split
    · rename_i hx
      rcases Nat.lt_or_ge ((idMap G ns).nm p) m.next with hq | hq
      · rcases @Step.fresh T P _ _ _ _ _ _ hst _ _ hp with g | g
        · rw [(Left'.of hst hro).1 _ hx]
          exact hT _ _ g (@Step.live T P _ _ _ _ _ _ hst _ hq h2)
        · omega
      · obtain ⟨q, o', s', g1, g2, _⟩ := @Step.img T P _ _ _ _ _ _ hst _ x.1 x.2.1 x.2.2 hq h1 h2 hp hx
        rw [hro q g1] at g2; cases g2
    · rfl
  · cases hp
theorem idRel {T : Tok} {G : Nat} (hst : T.strong = true) (hG : P.globals.size = G) {ns : List Nat} {φ : Phi} {m : Mem} {w : World} {E : List Blk} (hr : @Rel T P φ m w) (h : absMem (idMap G ns) 0 .none E m = true) :
    @Rel T P (absPhi (idMap G ns) φ) (mkMem G 0 .none E) w ∧ ∀ t s, absN (idMap G ns) 4 t s = true → ∀ c, @VRel T φ s c → @VRel T (absPhi (idMap G ns) φ) t c :=
  absorb (T := T) (T' := T) (σ := idMap G ns) (g0 := 0) (b0 := .none) hG.symm hr h (fun _ j c hj _ => absurd hj (Nat.not_lt_zero _)) (fun kk d s c hs _ => (aeq_bad hs).elim)
    (fun i s c hs hc => by
      have e := @aeqN_eq tok0 2 _ _ (show aeqN 2 s (.opq i) = true from hs)
      subst e
      cases hc; exact @VRel.opq T _ i) (fun _ _ h => h) (fun _ => ⟨hst, rfl⟩)
theorem absN_up {σ : Map} {b n : Nat} {x : AVal} (h : absN σ 2 (.slice b 0 n n false 1) x = true) : absN σ 4 (.slice b 0 n n false 1) x = true := by
  cases x <;> exact h
/-- PUT INTO A TREE OF ONE LEAF -/
theorem putL_ok {K : KH} {f G : Nat} (hG : P.globals.size = G) (h0 : 0 < G) (hGb : G ≤ 60000) {w : World} (hgs : G ≤ w.heap.size) {H : Heap} (hH : In H w) {x : Img} {f0 k v : Value} {kb : List UInt8} {vb : List UInt8} {es : List Ent} {p : Nat} (hK : ∀ T : Tok, T.strong = true → CmpT T 0 0 es.length 0 p → @KSound T P K)
    (hrun : putLRun K f G 0 .none es.length p = true) (hs : es.length ≤ 16) (hp : p ≤ es.length) (hf0 : f0.oneCell' = true) (hl : LeafAt H x f0 (kvs es)) (he : ∀ e, e ∈ es → EntOk H e) (hk : BytesAt H k kb) (hv : BytesAt H v vb) (hS : Side p kb es) :
    Ends P f #[ptrV x, .agg #[k, v]] w fun cv w' => Left' w w' ∧ ∃ sl xs, cv = .tuple #[sl, .bool true] ∧ RowAt (upd H w w') 1 sl xs.length (xs.map ptrV) ∧ Parts1 (upd H w w') f0 (insAt p (k, v) (kvs es)) xs := by
  have hcell := tokVals_cell (es2 := []) (fs := fun _ => nilS) (pls := fun _ => nilS) hk.cell hv.cell hf0 he (fun e h => by cases h) (fun _ => rfl) (fun _ => rfl)
  let T : Tok := tokB H (tokVals k v f0 es [] (fun _ => nilS) (fun _ => nilS)) hcell
  have t0 : T.val 0 = k := rfl
  have t1 : T.val 1 = v := rfl
  have t6 : T.val 600 = f0 := rfl
  have tkv : ∀ j q, (kvs es)[j]? = some q → T.val (100 + j) = q.1 ∧ T.val (200 + j) = q.2 := by
    intro j q hj
    obtain ⟨g1, g2⟩ := kvs_get hj
    have hjl : j < es.length := by
      rcases Nat.lt_or_ge j (kvs es).length with h | h
      · rwa [kvs_len] at h
      · rw [List.getElem?_eq_none h] at hj; cases hj
    constructor
    · show tokVals k v f0 es [] _ _ (100 + j) = _
      unfold tokVals
      rw [if_neg (by omega), if_neg (by omega), if_neg (by omega), if_pos (by omega), show 100 + j - 100 = j by omega, g1]
    · show tokVals k v f0 es [] _ _ (200 + j) = _
      unfold tokVals
      rw [if_neg (by omega), if_neg (by omega), if_neg (by omega), if_neg (by omega), if_pos (by omega), show 200 + j - 200 = j by omega, g2]
  have hCmp : CmpT T 0 0 es.length 0 p := cmpL hcell hk he hS hp hs
  obtain ⟨φ, hr, hI, hφ⟩ := relL (T := T) hG h0 hGb hgs hH hl t6 tkv hH
  rw [kvs_len] at hr hI
  have hargs : @VsRel T φ (putArgs G) (#[ptrV x, .agg #[k, v]] : Array Value).toList := by
    refine @VsRel.cons T φ _ _ _ _ ?_ (@VsRel.cons T φ _ _ _ _ ?_ (@VsRel.nil T φ))
    · exact @VRel.ptr T φ (G + 1) 0 x.1 x.2.1 x.2.2 hφ
    · refine @VRel.agg T φ [.opq 0, .opq 1] #[k, v] (@VsRel.cons T φ _ _ _ _ (@VRel.opq T φ 0) (@VsRel.cons T φ _ _ _ _ (@VRel.opq T φ 1) (@VsRel.nil T φ))) (fun v hv => ?_)
      simp only [List.mem_cons, List.not_mem_nil, or_false] at hv
      rcases hv with rfl | rfl <;> rfl
  unfold putLRun at hrun
  split at hrun
  · rename_i y t m hq
    unfold putChk at hrun
    simp only [Bool.and_eq_true] at hrun
    obtain ⟨rfl, h1, h2⟩ := hrun
    have hro : ∀ q, q < (mkMem G 0 .none (treeL G es.length)).next → ((mkMem G 0 .none (treeL G es.length)).get q).wr = false := by
      have hlen : G + 1 + (treeL G es.length).length ≤ 65536 := by
        have : (treeL G es.length).length ≤ 2 := by
          unfold treeL
          cases es.length with
          | zero => exact Nat.le_succ 1
          | succ n => exact Nat.le_refl 2
        omega
      refine mkMem_ro h0 hlen rfl fun b hb => ?_
      unfold treeL at hb
      rcases List.mem_cons.1 hb with rfl | hb
      · rfl
      · cases hes : es.length with
        | zero => rw [hes] at hb; cases hb
        | succ n =>
          rw [hes] at hb
          rcases List.mem_cons.1 hb with rfl | hb
          · rfl
          · cases hb
    refine (hK T rfl hCmp f _ _ _ m hq φ w _ hr hargs).mono fun cv w' ⟨φ', hst, hvc⟩ => ⟨Left'.of hst hro, ?_⟩
    cases hvc with
    | tuple _ cs hcs =>
    generalize hcl : cs.toList = L at hcs
    cases hcs with
    | @cons _ sl _ _ g1 g2 =>
    cases g2 with
    | cons g3 g4 =>
    cases g4
    cases g3
    obtain ⟨r1, r2⟩ := idRel (T := T) rfl hG (@Step.rel T P _ _ _ _ _ _ hst) h2
    have hsl := r2 _ _ (absN_up h1) _ g1
    have hnew : ∀ φ, @VsRel T φ (newR es.length p) (flat (insAt p (k, v) (kvs es))) := fun φ => by
      have := insR_rel (T := T) (φ := φ) (kb := 100) (vb := 200) t0 t1 p (kvs es) 0 (by rw [kvs_len]; exact hp) fun j q hj => by rw [Nat.zero_add]; exact tkv j q hj
      rw [kvs_len] at this; exact this
    obtain ⟨xs, k1, k2⟩ := endL_parts (T := T) h0 hGb hs (tells_step hst hro hI h2) r1 (nps := insAt p (k, v) (kvs es)) (by rw [insAt_len (by rw [kvs_len]; exact hp), kvs_len]) hnew (fun v hv => insR_opq p _ (fun v hv => rowT_opq hv) v hv) hsl
    exact ⟨sl, xs, by congr 1; rw [← Array.toList_inj]; exact hcl, k1, k2⟩
  · cases hrun
end Go.AM

namespace Go.AM
variable {P : Program}

/- ### a root and its leaves -/
structure Kid where
  x : Img
  f : Value
  pl : Value
  es : List Ent
def KidAt (H : Heap) (K : Kid) : Prop := CellsAt H K.x [K.f, K.pl, nilS] ∧ RowAt H 2 K.pl K.es.length (flat (kvs K.es)) ∧ (∀ e, e ∈ K.es → EntOk H e) ∧ ∃ fb, BytesAt H K.f fb
theorem KidAt.mono {H H' : Heap} {K : Kid} (h : KidAt H K) (hH : ∀ b o, H b = some o → H' b = some o) : KidAt H' K := by
  obtain ⟨h1, h2, h3, fb, h4⟩ := h
  exact ⟨h1.mono hH, h2.mono hH, fun e he => (h3 e he).mono hH, fb, h4.mono hH⟩
theorem RowAt.cell {H : Heap} {z n : Nat} {pl : Value} {vs : List Value} (h : RowAt H z pl n vs) : pl.oneCell' = true := by
  rcases h with ⟨_, _, rfl⟩ | ⟨x, cap, _, _, rfl, _⟩ <;> rfl
def TreeN (H : Heap) (x : Img) (f0 : Value) (ls : List Kid) : Prop := ∃ chl, CellsAt H x [f0, nilS, chl] ∧ RowAt H 1 chl ls.length (ls.map fun K => ptrV K.x) ∧ ∀ K, K ∈ ls → KidAt H K
theorem appBs_get : ∀ (a b : List Blk) (i : Nat), (appBs a b)[i]? = if i < a.length then a[i]? else b[i - a.length]?
  | [], b, i => by show b[i]? = _; rw [if_neg (by simp)]; simp
  | x :: a, b, 0 => by show some x = _; rw [if_pos (by simp)]; rfl
  | x :: a, b, i + 1 => by
    show (x :: appBs a b)[i + 1]? = _
    rw [List.getElem?_cons_succ, appBs_get a b i]
    simp only [List.length_cons, Nat.add_lt_add_iff_right, List.getElem?_cons_succ, Nat.add_sub_add_right]
theorem appBs_len : ∀ (a b : List Blk), (appBs a b).length = a.length + b.length
  | [], b => by show b.length = _; simp
  | x :: a, b => by show (appBs a b).length + 1 = _; rw [appBs_len a b]; simp; omega
theorem appBs_mem {x : Blk} : ∀ {a b : List Blk}, x ∈ appBs a b → x ∈ a ∨ x ∈ b
  | [], b, h => .inr h
  | y :: a, b, h => by
    rcases List.mem_cons.1 h with rfl | h
    · exact .inl (List.mem_cons_self ..)
    · rcases appBs_mem h with h | h
      · exact .inl (List.mem_cons_of_mem _ h)
      · exact .inr h
theorem kidsL_get (G m c s s2 : Nat) : ∀ (n a i : Nat), (kidsL G m c s s2 (natL n a))[i]? = if i < n then some (kidB G m c s s2 (a + i)) else none
  | 0, a, i => by show (([] : List Blk))[i]? = _; rw [if_neg (by omega)]; rfl
  | n + 1, a, 0 => by show some (kidB G m c s s2 a) = _; rw [if_pos (by omega)]; rfl
  | n + 1, a, i + 1 => by
    show (kidB G m c s s2 a :: kidsL G m c s s2 (natL n (a + 1)))[i + 1]? = _
    rw [List.getElem?_cons_succ, kidsL_get G m c s s2 n (a + 1) i, show a + 1 + i = a + (i + 1) by omega]
    simp only [Nat.add_lt_add_iff_right]
theorem kidsL_len (G m c s s2 : Nat) : ∀ (n a : Nat), (kidsL G m c s s2 (natL n a)).length = n
  | 0, a => rfl
  | n + 1, a => by show (kidsL G m c s s2 (natL n (a + 1))).length + 1 = _; rw [kidsL_len G m c s s2 n (a + 1)]
theorem ptrsL_rel {T : Tok} {φ : Phi} : ∀ (xs : List Img) (a : Nat), (∀ j x, xs[j]? = some x → φ (a + j) = some x) → @VsRel T φ (ptrsL xs.length a) (xs.map ptrV)
  | [], _, _ => @VsRel.nil T φ
  | x :: xs, a, h => by
    have ih := ptrsL_rel (T := T) (φ := φ) xs (a + 1) fun j y hy => by
      have := h (j + 1) y (by rw [List.getElem?_cons_succ]; exact hy)
      rwa [show a + (j + 1) = a + 1 + j by omega] at this
    exact @VsRel.cons T φ _ _ _ _ (@VRel.ptr T φ a 0 x.1 x.2.1 x.2.2 (h 0 x rfl)) ih
theorem ptrsL_cell : ∀ {n a : Nat} {v : AVal}, v ∈ ptrsL n a → v.isCell = true
  | 0, _, _, h => by cases h
  | n + 1, a, v, h => by
    rcases List.mem_cons.1 h with rfl | h
    · rfl
    · exact ptrsL_cell h
theorem kidB_ro {G m c s s2 i : Nat} : (kidB G m c s s2 i).wr = false := by
  unfold kidB
  cases Nat.beq i c
  · cases (and (Nat.beq i (Nat.succ c)) (Nat.ble 1 s2)) <;> rfl
  · rfl
theorem kidsL_ro {G m c s s2 : Nat} : ∀ {l : List Nat} {b : Blk}, b ∈ kidsL G m c s s2 l → b.wr = false
  | [], _, h => by cases h
  | i :: l, b, h => by
    rcases List.mem_cons.1 h with rfl | h
    · exact kidB_ro
    · exact kidsL_ro h
theorem treeN_ro {G m c s s2 : Nat} : ∀ b, b ∈ treeN G m c s s2 → b.wr = false := by
  intro b hb
  unfold treeN at hb
  rcases List.mem_cons.1 hb with rfl | hb
  · rfl
  · rcases List.mem_cons.1 hb with rfl | hb
    · rfl
    · rcases appBs_mem hb with hb | hb
      · exact kidsL_ro hb
      · rcases List.mem_cons.1 hb with rfl | hb
        · rfl
        · cases s2 with
          | zero => cases hb
          | succ n =>
            rcases List.mem_cons.1 hb with rfl | hb
            · rfl
            · cases hb
theorem treeN_len {G m c s s2 : Nat} : (treeN G m c s s2).length = 3 + m + (oneOr s2 (.cells true (rowT 300 350 (natL s2 0)))).length := by
  unfold treeN
  simp only [List.length_cons, appBs_len, kidsL_len]
  omega
/-- the tree as a memory, one leaf (and perhaps the next) open -/
theorem relN {T : Tok} {G : Nat} (hG : P.globals.size = G) (h0 : 0 < G) (hGb : G ≤ 60000) {w : World} (hgs : G ≤ w.heap.size) {H : Heap} (hH : In H w) {x : Img} {f0 : Value} {ls : List Kid} (h : TreeN H x f0 ls) {c : Nat} {K : Kid} (hc : ls[c]? = some K) (hK0 : 0 < K.es.length) {s2 : Nat}
    (h2 : s2 = 0 ∨ ∃ K2, ls[c + 1]? = some K2 ∧ K2.es.length = s2 ∧ 0 < s2 ∧ ∀ j q, (kvs K2.es)[j]? = some q → T.val (300 + j) = q.1 ∧ T.val (350 + j) = q.2) (hm : ls.length ≤ 90)
    (hf : T.val 600 = f0) (hfs : ∀ i L, ls[i]? = some L → T.val (400 + i) = L.f ∧ T.val (500 + i) = L.pl) (hv : ∀ j q, (kvs K.es)[j]? = some q → T.val (100 + j) = q.1 ∧ T.val (200 + j) = q.2) (hheld : ∀ b o, T.hold b = some o → w.heap[b]? = some o) :
    ∃ φ, @Rel T P φ (mkMem G 0 .none (treeN G ls.length c K.es.length s2)) w ∧ Tells φ (mkMem G 0 .none (treeN G ls.length c K.es.length s2)) H w ∧ φ (G + 1) = some x := by
  obtain ⟨chl, t1, t2, t3⟩ := h
  have hcl : c < ls.length := by
    rcases Nat.lt_or_ge c ls.length with h | h
    · exact h
    · rw [List.getElem?_eq_none h] at hc; cases hc
  rcases t2 with ⟨e, _⟩ | ⟨y, cap, k1, k2, k3, k4, k5, k6⟩
  · omega
  have hK := t3 K (List.mem_of_getElem? hc)
  rcases hK.2.1 with ⟨e, _⟩ | ⟨r, rcap, r1, r2, r3, r4, r5, r6⟩
  · omega
  -- the next leaf's row
  have hnext : ∃ (zs : List Img), zs.length = (oneOr s2 (.cells true (rowT 300 350 (natL s2 0)))).length ∧ (∀ z, z ∈ zs → z.1 < w.heap.size ∧ w.heap[z.1]? = H z.1) ∧ (s2 = 0 ∨ ∃ K2 z zcap, ls[c + 1]? = some K2 ∧ K2.es.length = s2 ∧ zs = [z] ∧ K2.pl = .slice (some ⟨z.1, z.2.1, none⟩) s2 zcap ∧ s2 ≤ zcap ∧ z.2.1 + zcap * 2 ≤ z.2.2 ∧ CellsAt H z (flat (kvs K2.es)) ∧
      ∀ j q, (kvs K2.es)[j]? = some q → T.val (300 + j) = q.1 ∧ T.val (350 + j) = q.2) := by
    rcases h2 with rfl | ⟨K2, g1, rfl, g3, g4⟩
    · exact ⟨[], rfl, fun z h => (by cases h), .inl rfl⟩
    · have hK2 := t3 K2 (List.mem_of_getElem? g1)
      rcases hK2.2.1 with ⟨e, _⟩ | ⟨z, zcap, z1, z2, z3, z4, z5, z6⟩
      · omega
      · refine ⟨[z], ?_, fun z' h => by rw [List.mem_singleton] at h; subst h; exact ⟨z6.lt hH, z6.img hH⟩, .inr ⟨K2, z, zcap, g1, rfl, rfl, z3, z4, z5, z6, g4⟩⟩
        cases hn : K2.es.length with
        | zero => omega
        | succ n => rfl
  obtain ⟨zs, hzl, hzlt, hz⟩ := hnext
  let imgs : List Img := x :: y :: (ls.map (·.x) ++ r :: zs)
  have hil : imgs.length = 3 + ls.length + zs.length := by simp [imgs]; omega
  have hφ1 : phiOf G imgs (G + 1) = some x := by rw [phiOf_hi (i := 0)]; rfl
  have hφ2 : phiOf G imgs (G + 2) = some y := by rw [show G + 2 = G + 1 + 1 by omega, phiOf_hi (i := 1)]; rfl
  have hφk : ∀ i L, ls[i]? = some L → phiOf G imgs (G + 3 + i) = some L.x := by
    intro i L hi
    have hlt : i < ls.length := by
      rcases Nat.lt_or_ge i ls.length with h | h
      · exact h
      · rw [List.getElem?_eq_none h] at hi; cases hi
    rw [show G + 3 + i = G + 1 + (i + 2) by omega, phiOf_hi]
    show (ls.map (·.x) ++ r :: zs)[i]? = _
    rw [List.getElem?_append_left (by simpa using hlt), List.getElem?_map, hi]; rfl
  have hφr : phiOf G imgs (G + 3 + ls.length) = some r := by
    rw [show G + 3 + ls.length = G + 1 + (ls.length + 2) by omega, phiOf_hi]
    show (ls.map (·.x) ++ r :: zs)[ls.length]? = _
    rw [List.getElem?_append_right (by simp)]; simp
  have hφz : ∀ z, zs = [z] → phiOf G imgs (G + 4 + ls.length) = some z := by
    intro z hz
    rw [show G + 4 + ls.length = G + 1 + (ls.length + 3) by omega, phiOf_hi]
    show (ls.map (·.x) ++ r :: zs)[ls.length + 1]? = _
    rw [List.getElem?_append_right (by simp)]
    simp [hz]
  have hzl1 : zs.length ≤ 1 := by rw [hzl]; cases s2 <;> simp [oneOr]
  have himg : ∀ z, z ∈ imgs → z.1 < w.heap.size ∧ w.heap[z.1]? = H z.1 := by
    intro z hz'
    rcases List.mem_cons.1 hz' with rfl | hz'
    · exact ⟨t1.lt hH, t1.img hH⟩
    · rcases List.mem_cons.1 hz' with rfl | hz'
      · exact ⟨k6.lt hH, k6.img hH⟩
      · rcases List.mem_append.1 hz' with hz' | hz'
        · obtain ⟨L, hL, rfl⟩ := List.mem_map.1 hz'
          exact ⟨(t3 L hL).1.lt hH, (t3 L hL).1.img hH⟩
        · rcases List.mem_cons.1 hz' with rfl | hz'
          · exact ⟨r6.lt hH, r6.img hH⟩
          · exact hzlt z hz'
  refine ⟨phiOf G imgs, ?_, tells_mk h0 (by rw [treeN_len, ← hzl]; omega) (fun z hz' => (himg z hz').2), hφ1⟩
  refine mkRel hG h0 hgs (by rw [treeN_len, hil, hzl]) (by rw [treeN_len, ← hzl]; omega) treeN_ro (fun z hz' => ?_) (fun i b hb => ?_) hheld
  · exact (himg z hz').1
  · unfold treeN at hb
    match i, hb with
    | 0, hb =>
      simp only [List.getElem?_cons_zero, Option.some.injEq] at hb
      subst hb
      refine brel_of hH t1 hφ1 (@VsRel.cons T _ _ _ _ _ (by rw [← hf]; exact @VRel.opq T _ 600) (@VsRel.cons T _ _ _ _ _ (@VRel.nilslice T _) (@VsRel.cons T _ _ _ _ _ ?_ (@VsRel.nil T _)))) ?_
      · rw [k3]
        exact @VRel.slice T _ (G + 2) 0 ls.length ls.length false 1 y.1 y.2.1 y.2.2 y.2.1 cap hφ2 (Nat.le_refl _) k4 (fun h => by cases h) (fun _ => rfl) k5
      · intro v hv
        simp only [List.mem_cons, List.not_mem_nil, or_false] at hv
        rcases hv with rfl | rfl | rfl <;> rfl
    | 1, hb =>
      simp only [List.getElem?_cons_succ, List.getElem?_cons_zero, Option.some.injEq] at hb
      subst hb
      have hp := ptrsL_rel (T := T) (φ := phiOf G imgs) (ls.map (·.x)) (G + 3) (fun j z hj => by
        rw [List.getElem?_map] at hj
        cases hL : ls[j]? with
        | none => rw [hL] at hj; cases hj
        | some L => rw [hL] at hj; cases hj; exact hφk j L hL)
      rw [List.length_map, List.map_map] at hp
      exact brel_of hH k6 (by rw [phiOf_hi (i := 1)]; rfl) hp fun v hv => ptrsL_cell hv
    | i + 2, hb =>
      simp only [List.getElem?_cons_succ] at hb
      rw [appBs_get, kidsL_len] at hb
      by_cases hi : i < ls.length
      · rw [if_pos hi, kidsL_get, if_pos hi, Nat.zero_add, Option.some.injEq] at hb
        subst hb
        have hLi := List.getElem?_eq_getElem hi
        have hKi := t3 _ (List.getElem_mem hi)
        obtain ⟨f1, f2⟩ := hfs i _ hLi
        have himg : phiOf G imgs (G + 1 + (i + 2)) = some (ls[i]).x := by rw [← hφk i _ hLi]; congr 1; omega
        have hcellB : ∀ pa : AVal, pa.isCell = true → @VRel T (phiOf G imgs) pa (ls[i]).pl → @BRel T (phiOf G imgs) w (G + 1 + (i + 2)) (leafB (.opq (400 + i)) pa) := by
          intro pa hpc hpa
          refine brel_of hH hKi.1 himg (@VsRel.cons T _ _ _ _ _ (by rw [← f1]; exact @VRel.opq T _ (400 + i)) (@VsRel.cons T _ _ _ _ _ hpa (@VsRel.cons T _ _ _ _ _ (@VRel.nilslice T _) (@VsRel.nil T _)))) ?_
          intro v hv
          simp only [List.mem_cons, List.not_mem_nil, or_false] at hv
          rcases hv with rfl | rfl | rfl
          · rfl
          · exact hpc
          · rfl
        have far : @BRel T (phiOf G imgs) w (G + 1 + (i + 2)) (leafB (.opq (400 + i)) (.opq (500 + i))) := hcellB _ rfl (by rw [← f2]; exact @VRel.opq T _ (500 + i))
        have hrv : ∀ (A n : Nat) (z : Img) (zc : Nat), 0 < n → (ls[i]).pl = .slice (some ⟨z.1, z.2.1, none⟩) n zc → n ≤ zc → z.2.1 + zc * 2 ≤ z.2.2 → phiOf G imgs A = some z → @VRel T (phiOf G imgs) (rowV A n) (ls[i]).pl ∧ (rowV A n).isCell = true := by
          intro A n z zc hn e1 e2 e3 e4
          cases n with
          | zero => omega
          | succ n =>
            rw [e1]
            exact ⟨@VRel.slice T _ A 0 (n + 1) (n + 1) false 2 z.1 z.2.1 z.2.2 z.2.1 zc e4 (Nat.le_refl _) e2 (fun h => by cases h) (fun _ => rfl) e3, rfl⟩
        unfold kidB
        simp only [cond_if]
        split
        · rename_i hic
          have hic' := beq_true.1 hic
          subst hic'
          rw [hLi] at hc
          cases hc
          obtain ⟨g1, g2⟩ := hrv (G + 3 + ls.length) _ r rcap hK0 r3 r4 r5 hφr
          exact hcellB _ g2 g1
        · split
          · rename_i hin
            simp only [Bool.and_eq_true, beq_true, ble_true] at hin
            obtain ⟨rfl, hs1⟩ := hin
            rcases hz with e | ⟨K2, z, zcap, e1, e2, e3, e4, e5, e6, e7, e8⟩
            · omega
            · rw [hLi] at e1
              cases e1
              obtain ⟨g1, g2⟩ := hrv (G + 4 + ls.length) s2 z zcap hs1 e4 e5 e6 (hφz z e3)
              exact hcellB _ g2 g1
          · exact far
      · rw [if_neg hi] at hb
        cases hd : i - ls.length with
        | zero =>
          rw [hd] at hb
          simp only [List.getElem?_cons_zero, Option.some.injEq] at hb
          subst hb
          have hrow := rowT_rel (T := T) (φ := phiOf G imgs) (kb := 100) (vb := 200) (kvs K.es) 0 fun j p hj => by rw [Nat.zero_add]; exact hv j p hj
          rw [kvs_len] at hrow
          exact brel_of hH r6 (by rw [← hφr]; congr 1; omega) hrow fun v hv => rowT_cell hv
        | succ d =>
          rw [hd, List.getElem?_cons_succ] at hb
          rcases hz with rfl | ⟨K2, z, zcap, e1, e2, e3, e4, e5, e6, e7, e8⟩
          · simp [oneOr] at hb
          · cases hs2 : s2 with
            | zero => rw [hs2] at hb; simp [oneOr] at hb
            | succ n =>
              rw [hs2] at hb
              have hone : oneOr (n + 1) (.cells true (rowT 300 350 (natL (n + 1) 0))) = [.cells true (rowT 300 350 (natL (n + 1) 0))] := rfl
              rw [hone] at hb
              cases d with
              | zero =>
                simp only [List.getElem?_cons_zero, Option.some.injEq] at hb
                subst hb
                have hrow := rowT_rel (T := T) (φ := phiOf G imgs) (kb := 300) (vb := 350) (kvs K2.es) 0 fun j p hj => by rw [Nat.zero_add]; exact e8 j p hj
                rw [kvs_len, e2, hs2] at hrow
                exact brel_of hH e7 (by rw [← hφz z e3]; congr 1; omega) hrow fun v hv => rowT_cell hv
              | succ d => simp at hb
end Go.AM

namespace Go.AM
variable {P : Program}

def insE : Nat → Ent → List Ent → List Ent
  | 0, e, l => e :: l
  | p + 1, e, a :: l => a :: insE p e l
  | _ + 1, _, [] => []
theorem insE_kvs : ∀ (p : Nat) (e : Ent) (es : List Ent), kvs (insE p e es) = insAt p (e.k, e.v) (kvs es)
  | 0, _, _ => rfl
  | p + 1, e, a :: l => by show (a.k, a.v) :: kvs (insE p e l) = (a.k, a.v) :: insAt p (e.k, e.v) (kvs l); rw [insE_kvs p e l]
  | _ + 1, _, [] => rfl
theorem insE_len {p : Nat} {e : Ent} {es : List Ent} (hp : p ≤ es.length) : (insE p e es).length = es.length + 1 := by
  have := insAt_len (p := p) (e := (e.k, e.v)) (l := kvs es) (by rw [kvs_len]; exact hp)
  rw [← insE_kvs, kvs_len, kvs_len] at this; exact this
theorem insE_mem {x : Ent} : ∀ {p : Nat} {e : Ent} {es : List Ent}, x ∈ insE p e es → x = e ∨ x ∈ es
  | 0, e, es, h => by
    rcases List.mem_cons.1 h with rfl | h
    · exact .inl rfl
    · exact .inr h
  | p + 1, e, a :: l, h => by
    rcases List.mem_cons.1 h with rfl | h
    · exact .inr (List.mem_cons_self ..)
    · rcases insE_mem h with h | h
      · exact .inl h
      · exact .inr (List.mem_cons_of_mem _ h)
  | _ + 1, _, [], h => by cases h
theorem kvs_take (n : Nat) (es : List Ent) : kvs (es.take n) = (kvs es).take n := by unfold kvs; rw [List.map_take]
theorem kvs_drop (n : Nat) (es : List Ent) : kvs (es.drop n) = (kvs es).drop n := by unfold kvs; rw [List.map_drop]
def sig (K : Kid) : Value × List Ent := (K.f, K.es)
theorem farL_len : ∀ n a : Nat, (farL (natL n a)).length = n
  | 0, _ => rfl
  | n + 1, a => by show (farL (natL n (a + 1))).length + 1 = _; rw [farL_len n (a + 1)]
theorem farL_get : ∀ (n a i : Nat), (farL (natL n a))[i]? = if i < n then some (farB (a + i)) else none
  | 0, a, i => by show (([] : List Blk))[i]? = _; rw [if_neg (by omega)]; rfl
  | n + 1, a, 0 => by show some (farB a) = _; rw [if_pos (by omega)]; rfl
  | n + 1, a, i + 1 => by
    show (farB a :: farL (natL n (a + 1)))[i + 1]? = _
    rw [List.getElem?_cons_succ, farL_get n (a + 1) i, show a + 1 + i = a + (i + 1) by omega]
    simp only [Nat.add_lt_add_iff_right]
theorem ptrsL_vals {T : Tok} {φ : Phi} : ∀ (xs : List Img) (a : Nat) (vs : List Value), @VsRel T φ (ptrsL xs.length a) vs → (∀ j x, xs[j]? = some x → φ (a + j) = some x) → vs = xs.map ptrV
  | [], _, _, h, _ => by cases h; rfl
  | x :: xs, a, vs, h, hx => by
    have h' : @VsRel T φ (.ptr a 0 :: ptrsL xs.length (a + 1)) vs := h
    cases h' with
    | cons h1 h2 =>
      have ih := ptrsL_vals xs (a + 1) _ h2 fun j y hy => by
        have := hx (j + 1) y (by rw [List.getElem?_cons_succ]; exact hy)
        rwa [show a + (j + 1) = a + 1 + j by omega] at this
      have h0 := hx 0 x rfl
      rw [Nat.add_zero] at h0
      cases h1 with
      | ptr _ _ cb co sz hφ =>
        rw [h0] at hφ
        cases hφ
        rw [ih]; rfl
theorem leafAt_kid {H : Heap} {x : Img} {f : Value} {es : List Ent} (h : LeafAt H x f (kvs es)) (he : ∀ e, e ∈ es → EntOk H e) (hf : ∃ fb, BytesAt H f fb) : ∃ K : Kid, K.x = x ∧ sig K = (f, es) ∧ KidAt H K := by
  obtain ⟨pl, h1, h2⟩ := h
  rw [kvs_len] at h2
  exact ⟨⟨x, f, pl, es⟩, rfl, rfl, h1, h2, he, hf⟩
/-- leaves that were not looked into -/
theorem far_kids {T : Tok} {m : Mem} {φ : Phi} {w : World} {H : Heap} (hI : Tells φ m H w) (hr : @Rel T P φ m w) : ∀ (Ls : List Kid) (i0 a : Nat), (∀ j L, Ls[j]? = some L → a + j < m.next ∧ m.get (a + j) = farB (i0 + j) ∧ T.val (400 + (i0 + j)) = L.f ∧ T.val (500 + (i0 + j)) = L.pl ∧ KidAt H L) →
    ∃ Ks : List Kid, Ks.map sig = Ls.map sig ∧ (∀ K, K ∈ Ks → KidAt H K) ∧ ∀ j K, Ks[j]? = some K → φ (a + j) = some K.x
  | [], _, _, _ => ⟨[], rfl, fun K h => (by cases h), fun j K h => (by simp at h)⟩
  | L :: Ls, i0, a, h => by
    obtain ⟨Ks, g1, g2, g3⟩ := far_kids hI hr Ls (i0 + 1) (a + 1) fun j M hM => by
      have := h (j + 1) M (by rw [List.getElem?_cons_succ]; exact hM)
      rwa [show a + (j + 1) = a + 1 + j by omega, show i0 + (j + 1) = i0 + 1 + j by omega] at this
    obtain ⟨h1, h2, h3, h4, h5⟩ := h 0 L rfl
    rw [Nat.add_zero] at h1 h2 h3 h4
    obtain ⟨x, vs, k1, k2, k3⟩ := of_brel hI hr h1 h2
    cases k3 with
    | @cons _ f _ _ e1 e2 =>
    cases e2 with
    | @cons _ pl _ _ e3 e4 =>
    cases e4 with
    | @cons _ z _ _ e5 e6 =>
    cases e6
    cases e5
    have e1' : @VRel T φ (.opq (400 + i0)) f := e1
    have e3' : @VRel T φ (.opq (500 + i0)) pl := e3
    have hf : f = L.f := by cases e1'; exact h3
    have hpl : pl = L.pl := by cases e3'; exact h4
    subst hf
    subst hpl
    refine ⟨{ L with x := x } :: Ks, by simp only [List.map_cons, g1]; rfl, fun K hK => ?_, fun j K hK => ?_⟩
    · rcases List.mem_cons.1 hK with rfl | hK
      · exact ⟨k2, h5.2⟩
      · exact g2 K hK
    · match j, hK with
      | 0, hK =>
        simp only [List.getElem?_cons_zero, Option.some.injEq] at hK
        subst hK
        exact k1
      | j + 1, hK =>
        rw [List.getElem?_cons_succ] at hK
        have := g3 j K hK
        rwa [show a + 1 + j = a + (j + 1) by omega] at this
def newSigs (f : Value) (es : List Ent) : List (Value × List Ent) := if es.length ≤ 16 then [(f, es)] else [(f, es.take 8), (keyV es 8, es.drop 8)]
theorem endN_get {G m c s p : Nat} (hc : c < m) : (endN G m c s p)[0]? = some (.cells true [.ptr (G + 2) 0]) ∧ (endN G m c s p)[1]? = some (.cells true [.opq 600, .nilslice, .slice (G + 3) 0 (endM m s) (endM m s) false 1]) ∧
    (endN G m c s p)[2]? = some (.cells true (ptrsL (endM m s) (G + 4))) ∧ (∀ i, i < c → (endN G m c s p)[3 + i]? = some (farB i)) ∧
    (∀ j, j < (newLeaves (G + 4 + endM m s) (.opq (400 + c)) s p).length → (endN G m c s p)[3 + c + j]? = (newLeaves (G + 4 + endM m s) (.opq (400 + c)) s p)[j]?) ∧
    (∀ j, j < m - (c + 1) → (endN G m c s p)[3 + c + (newLeaves (G + 4 + endM m s) (.opq (400 + c)) s p).length + j]? = some (farB (c + 1 + j))) ∧
    (endN G m c s p)[3 + c + (newLeaves (G + 4 + endM m s) (.opq (400 + c)) s p).length + (m - (c + 1))]? = some (.cells true (newR s p)) ∧ (endN G m c s p).length = 4 + c + (newLeaves (G + 4 + endM m s) (.opq (400 + c)) s p).length + (m - (c + 1)) := by
  generalize hN : newLeaves (G + 4 + endM m s) (.opq (400 + c)) s p = N
  have he : endN G m c s p = .cells true [.ptr (G + 2) 0] :: .cells true [.opq 600, .nilslice, .slice (G + 3) 0 (endM m s) (endM m s) false 1] :: .cells true (ptrsL (endM m s) (G + 4)) ::
      appBs (farL (natL c 0)) (appBs N (appBs (farL (natL (m - (c + 1)) (c + 1))) [.cells true (newR s p)])) := by rw [← hN]; rfl
  rw [he]
  refine ⟨rfl, rfl, rfl, fun i hi => ?_, fun j hj => ?_, fun j hj => ?_, ?_, ?_⟩
  · rw [show 3 + i = i + 3 by omega]
    simp only [List.getElem?_cons_succ]
    rw [appBs_get, farL_len, if_pos hi, farL_get, if_pos hi, Nat.zero_add]
  · rw [show 3 + c + j = c + j + 3 by omega]
    simp only [List.getElem?_cons_succ]
    rw [appBs_get, farL_len, if_neg (by omega), show c + j - c = j by omega, appBs_get, if_pos hj]
  · rw [show 3 + c + N.length + j = c + N.length + j + 3 by omega]
    simp only [List.getElem?_cons_succ]
    rw [appBs_get, farL_len, if_neg (by omega), show c + N.length + j - c = N.length + j by omega, appBs_get, if_neg (by omega), show N.length + j - N.length = j by omega, appBs_get, farL_len, if_pos hj, farL_get, if_pos hj]
  · rw [show 3 + c + N.length + (m - (c + 1)) = c + N.length + (m - (c + 1)) + 3 by omega]
    simp only [List.getElem?_cons_succ]
    rw [appBs_get, farL_len, if_neg (by omega), show c + N.length + (m - (c + 1)) - c = N.length + (m - (c + 1)) by omega, appBs_get, if_neg (by omega), show N.length + (m - (c + 1)) - N.length = m - (c + 1) by omega, appBs_get, farL_len, if_neg (by omega), Nat.sub_self]
    rfl
  · simp only [List.length_cons, appBs_len, farL_len, List.length_nil]
    omega
end Go.AM

namespace Go.AM
variable {P : Program}

theorem insE_sub {H : Heap} {p : Nat} {e : Ent} {es : List Ent} (he : EntOk H e) (h : ∀ e, e ∈ es → EntOk H e) : ∀ x, x ∈ insE p e es → EntOk H x := fun x hx => by
  rcases insE_mem hx with rfl | hx
  · exact he
  · exact h x hx
/-- the leaf that was written, or its two halves -/
theorem new_kids {T : Tok} {m : Mem} {φ : Phi} {w : World} {H : Heap} (hI : Tells φ m H w) (hr : @Rel T P φ m w) {a A s p : Nat} {fa : AVal} {f : Value} {es : List Ent} (hs : es.length = s + 1) (hs16 : s ≤ 16) (hA : A < m.next) (hgA : m.get A = .cells true (newR s p)) (hL : ∀ φ, @VsRel T φ (newR s p) (flat (kvs es)))
    (hLo : ∀ v, v ∈ newR s p → isOpqB v = true) (hf : ∀ c, @VRel T φ fa c → c = f) (hfb : ∃ fb, BytesAt H f fb) (he : ∀ e, e ∈ es → EntOk H e)
    (hg : ∀ j, j < (newLeaves A fa s p).length → a + j < m.next ∧ (newLeaves A fa s p)[j]? = some (m.get (a + j))) :
    ∃ Ks : List Kid, Ks.map sig = newSigs f es ∧ (∀ K, K ∈ Ks → KidAt H K) ∧ (∀ j K, Ks[j]? = some K → φ (a + j) = some K.x) ∧ Ks.length = (newLeaves A fa s p).length := by
  have hkl : (kvs es).length = s + 1 := by rw [kvs_len, hs]
  cases hs15 : Nat.ble s 15 with
  | true =>
    have hs' := ble_true.1 hs15
    have hN : newLeaves A fa s p = [leafB fa (.slice A 0 (s + 1) (s + 1) false 2)] := by unfold newLeaves; rw [hs15]; rfl
    rw [hN] at hg ⊢
    obtain ⟨g1, g2⟩ := hg 0 (Nat.succ_pos _)
    simp only [List.getElem?_cons_zero, Option.some.injEq, Nat.add_zero] at g1 g2
    obtain ⟨x, f1, k1, k2, k3⟩ := leafOf (d := 0) (n := s + 1) hI hr g1 hA g2.symm hgA hL hLo (by omega) (by omega)
    have hf1 := hf f1 k3
    subst hf1
    rw [List.drop_zero, List.take_of_length_le (by omega)] at k2
    obtain ⟨K, q1, q2, q3⟩ := leafAt_kid k2 he hfb
    refine ⟨[K], ?_, fun K' h => by rw [List.mem_singleton] at h; subst h; exact q3, fun j K' h => ?_, rfl⟩
    · unfold newSigs
      rw [if_pos (by omega)]
      simp [q2]
    · match j, h with
      | 0, h =>
        simp only [List.getElem?_cons_zero, Option.some.injEq] at h
        subst h
        rw [q1]; exact k1
      | j + 1, h => simp at h
  | false =>
    have hs' := ble_false.1 hs15
    have hN : newLeaves A fa s p = [leafB fa (.slice A 0 8 8 false 2), leafB (keyAt 8 (newR s p)) (.slice A 16 9 9 false 2)] := by unfold newLeaves; rw [hs15]; rfl
    rw [hN] at hg ⊢
    obtain ⟨g1, g2⟩ := hg 0 (Nat.succ_pos _)
    obtain ⟨h1, h2⟩ := hg 1 (Nat.le_refl 2)
    simp only [List.getElem?_cons_zero, Option.some.injEq, Nat.add_zero] at g1 g2
    simp only [List.getElem?_cons_succ, List.getElem?_cons_zero, Option.some.injEq] at h2
    obtain ⟨x, f1, k1, k2, k3⟩ := leafOf (d := 0) (n := 8) hI hr g1 hA g2.symm hgA hL hLo (by omega) (by omega)
    obtain ⟨y, f2, l1, l2, l3⟩ := leafOf (d := 8) (n := 9) hI hr h1 hA h2.symm hgA hL hLo (by omega) (by omega)
    have hf1 := hf f1 k3
    subst hf1
    obtain ⟨pr, hp1, hp2⟩ := keyAt_rel 8 _ (kvs es) (hL φ) (by omega)
    have hf2 : f2 = pr.1 := opq_val (keyAt_opq' 8 _ (kvs es) (hL φ) hLo (by omega)) l3 hp2
    have hpk : keyV es 8 = pr.1 := (kvs_get hp1).1
    rw [List.drop_zero, ← kvs_take] at k2
    rw [List.take_of_length_le (by rw [List.length_drop]; omega), ← kvs_drop] at l2
    obtain ⟨K, q1, q2, q3⟩ := leafAt_kid k2 (fun e h => he e (List.mem_of_mem_take h)) hfb
    have h8 : 8 < es.length := by omega
    have hpe : pr.1 = es[8].k := by rw [← hpk]; unfold keyV; rw [List.getElem?_eq_getElem h8]; rfl
    obtain ⟨K2, r1, r2, r3⟩ := leafAt_kid l2 (fun e h => he e (List.mem_of_mem_drop h)) ⟨_, by rw [hf2, hpe]; exact (he _ (List.getElem_mem h8)).1⟩
    refine ⟨[K, K2], ?_, fun K' h => ?_, fun j K' h => ?_, rfl⟩
    · unfold newSigs
      rw [if_neg (by omega)]
      simp [q2, r2, hf2, hpk]
    · simp only [List.mem_cons, List.not_mem_nil, or_false] at h
      rcases h with rfl | rfl
      · exact q3
      · exact r3
    · match j, h with
      | 0, h =>
        simp only [List.getElem?_cons_zero, Option.some.injEq] at h
        subst h
        rw [q1]; exact k1
      | 1, h =>
        simp only [List.getElem?_cons_succ, List.getElem?_cons_zero, Option.some.injEq] at h
        subst h
        rw [r1]; exact l1
      | j + 2, h => simp at h
theorem newLeaves_len {A s p : Nat} {fa : AVal} : (newLeaves A fa s p).length = partsN s := by
  unfold newLeaves partsN
  cases Nat.ble s 15 <;> rfl
theorem endN_parts {T : Tok} {G : Nat} (h0 : 0 < G) (hGb : G ≤ 60000) {φ : Phi} {w : World} {H : Heap} {m c s p : Nat} (hI : Tells φ (mkMem G 0 .none (endN G m c s p)) H w) (hr : @Rel T P φ (mkMem G 0 .none (endN G m c s p)) w) {ls : List Kid} (hm : ls.length = m) (hm2 : m ≤ 90) {K : Kid} (hc : ls[c]? = some K) (hs : K.es.length = s) (hs16 : s ≤ 16) (hp : p ≤ s) {e : Ent}
    (hfs : ∀ i L, ls[i]? = some L → T.val (400 + i) = L.f ∧ T.val (500 + i) = L.pl) (hL : ∀ φ, @VsRel T φ (newR s p) (flat (kvs (insE p e K.es)))) (hLo : ∀ v, v ∈ newR s p → isOpqB v = true) (hk : ∀ L, L ∈ ls → KidAt H L) (he : EntOk H e)
    {sl : Value} (hsl : @VRel T φ (.slice (G + 1) 0 1 1 false 1) sl) : ∃ x ks, RowAt H 1 sl 1 [ptrV x] ∧ TreeN H x (T.val 600) ks ∧ ks.map sig = (ls.take c).map sig ++ newSigs K.f (insE p e K.es) ++ (ls.drop (c + 1)).map sig := by
  have hcl : c < m := by
    rw [← hm]
    rcases Nat.lt_or_ge c ls.length with h | h
    · exact h
    · rw [List.getElem?_eq_none h] at hc; cases hc
  obtain ⟨z0, z1, z2, z3, z4, z5, z6, z7⟩ := endN_get (G := G) (s := s) (p := p) hcl
  have hpn : partsN s = 1 ∨ partsN s = 2 := by unfold partsN; cases Nat.ble s 15 <;> simp [cond_if]
  have hNl : (newLeaves (G + 4 + endM m s) (.opq (400 + c)) s p).length = partsN s := newLeaves_len
  have hE : endM m s = m - 1 + partsN s := rfl
  rw [hNl] at z5 z6 z7
  have hb : G + 1 + (endN G m c s p).length ≤ 65536 := by rw [z7]; omega
  have hKk := hk K (List.mem_of_getElem? hc)
  obtain ⟨a1, a2⟩ := mkMem_at (G := G) h0 hb z0
  obtain ⟨b1, b2⟩ := mkMem_at (G := G) h0 hb z1
  obtain ⟨c1, c2⟩ := mkMem_at (G := G) h0 hb z2
  obtain ⟨r1, r2⟩ := mkMem_at (G := G) h0 hb z6
  have hrow : G + 1 + (3 + c + partsN s + (m - (c + 1))) = G + 4 + endM m s := by omega
  rw [hrow] at r1 r2
  -- the leaves ahead
  obtain ⟨Ka, ka1, ka2, ka3⟩ := far_kids hI hr (ls.take c) 0 (G + 4) fun j L hj => by
    rw [List.getElem?_take] at hj
    split at hj
    · rename_i hjc
      obtain ⟨d1, d2⟩ := mkMem_at (G := G) h0 hb (z3 j hjc)
      obtain ⟨f1, f2⟩ := hfs j L hj
      rw [show G + 1 + (3 + j) = G + 4 + j by omega] at d1 d2
      exact ⟨d1, by rw [Nat.zero_add]; exact d2, by rw [Nat.zero_add]; exact f1, by rw [Nat.zero_add]; exact f2, hk L (List.mem_of_getElem? hj)⟩
    · cases hj
  obtain ⟨Kn, kn1, kn2, kn3, kn4⟩ := new_kids (a := G + 4 + c) (f := K.f) (es := insE p e K.es) hI hr (by rw [insE_len (by omega), hs]) hs16 r1 r2 hL hLo (fun cc hcc => by
      have hcc' : @VRel T φ (.opq (400 + c)) cc := hcc
      cases hcc'; exact (hfs c K hc).1) hKk.2.2.2 (insE_sub he hKk.2.2.1) (fun j hj => by
      obtain ⟨d1, d2⟩ := mkMem_at (G := G) h0 hb (i := 3 + c + j) (b := (newLeaves (G + 4 + endM m s) (.opq (400 + c)) s p)[j]'hj) (by rw [z4 j hj, List.getElem?_eq_getElem hj])
      rw [show G + 1 + (3 + c + j) = G + 4 + c + j by omega] at d1 d2
      exact ⟨d1, by rw [d2, List.getElem?_eq_getElem hj]⟩)
  obtain ⟨Kb, kb1, kb2, kb3⟩ := far_kids hI hr (ls.drop (c + 1)) (c + 1) (G + 4 + c + partsN s) fun j L hj => by
    rw [List.getElem?_drop] at hj
    have hjl : c + 1 + j < ls.length := by
      rcases Nat.lt_or_ge (c + 1 + j) ls.length with h | h
      · exact h
      · rw [List.getElem?_eq_none h] at hj; cases hj
    obtain ⟨d1, d2⟩ := mkMem_at (G := G) h0 hb (z5 j (by omega))
    obtain ⟨f1, f2⟩ := hfs _ L hj
    rw [show G + 1 + (3 + c + partsN s + j) = G + 4 + c + partsN s + j by omega] at d1 d2
    exact ⟨d1, d2, f1, f2, hk L (List.mem_of_getElem? hj)⟩
  have hal : Ka.length = c := by
    have := congrArg List.length ka1
    simp only [List.length_map, List.length_take] at this
    omega
  have hbl : Kb.length = m - (c + 1) := by
    have := congrArg List.length kb1
    simp only [List.length_map, List.length_drop] at this
    omega
  rw [hNl] at kn4
  let ks := Ka ++ Kn ++ Kb
  have hkl : ks.length = endM m s := by simp only [ks, List.length_append]; omega
  have himg : ∀ j L, ks[j]? = some L → φ (G + 4 + j) = some L.x := by
    intro j L hj
    have hj' : (Ka ++ Kn ++ Kb)[j]? = some L := hj
    rw [List.append_assoc, List.getElem?_append] at hj'
    split at hj'
    · exact ka3 j L hj'
    · rw [List.getElem?_append] at hj'
      split at hj'
      · have := kn3 _ L hj'
        rwa [show G + 4 + c + (j - Ka.length) = G + 4 + j by omega] at this
      · have := kb3 _ L hj'
        rwa [show G + 4 + c + partsN s + (j - Ka.length - Kn.length) = G + 4 + j by omega] at this
  obtain ⟨y, us, u1, u2, u3⟩ := of_brel hI hr c1 c2
  have hus : us = (ks.map (·.x)).map ptrV := by
    refine ptrsL_vals (T := T) (φ := φ) (ks.map (·.x)) (G + 4) us (by rw [List.length_map, hkl]; exact u3) fun j x hj => ?_
    rw [List.getElem?_map] at hj
    cases hL' : ks[j]? with
    | none => rw [hL'] at hj; cases hj
    | some L => rw [hL'] at hj; cases hj; exact himg j L hL'
  obtain ⟨x, vs, v1, v2, v3⟩ := of_brel hI hr b1 b2
  obtain ⟨y0, ws, w1, w2, w3⟩ := of_brel hI hr a1 a2
  cases w3 with
  | @cons _ pv _ _ g1 g2 =>
  cases g2
  cases v3 with
  | @cons _ fv _ _ e1 e2 =>
  cases e2 with
  | @cons _ nv _ _ e3 e4 =>
  cases e4 with
  | @cons _ chl _ _ e5 e6 =>
  cases e6
  cases e3
  cases e1
  cases g1 with
  | ptr _ _ cb co sz hφ =>
    have hφ' : φ (G + 1 + 1) = some (cb, co, sz) := hφ
    rw [v1] at hφ'
    cases hφ'
    cases hsl with
    | slice _ _ _ _ _ _ cb2 co2 sz2 o' cap' q1 q2 q3 q4 q5 q6 =>
      have q1' : φ (G + 1 + 0) = some (cb2, co2, sz2) := q1
      rw [w1] at q1'
      cases q1'
      have ho := q5 (by decide)
      refine ⟨(cb, co, sz), ks, .inr ⟨(cb2, co2, sz2), cap', Nat.succ_pos _, rfl, by rw [ho]; rfl, q3, by show co2 + cap' * 1 ≤ sz2; omega, w2⟩, ⟨chl, v2, ?_, fun L hL => ?_⟩, ?_⟩
      · cases e5 with
        | slice _ _ _ _ _ _ cb3 co3 sz3 o3 cap3 p1 p2 p3 p4 p5 p6 =>
          have p1' : φ (G + 1 + 2) = some (cb3, co3, sz3) := p1
          rw [u1] at p1'
          cases p1'
          have ho3 := p5 (by omega)
          right
          refine ⟨(cb3, co3, sz3), cap3, by omega, by simp, by rw [ho3, hkl]; rfl, by omega, by show co3 + cap3 * 1 ≤ sz3; omega, ?_⟩
          rw [hus, List.map_map] at u2
          exact u2
      · have hL' : L ∈ Ka ++ Kn ++ Kb := hL
        rcases List.mem_append.1 hL' with hL' | hL'
        · rcases List.mem_append.1 hL' with hL' | hL'
          · exact ka2 L hL'
          · exact kn2 L hL'
        · exact kb2 L hL'
      · show (Ka ++ Kn ++ Kb).map sig = _
        rw [List.map_append, List.map_append, ka1, kn1, kb1]
end Go.AM

namespace Go.AM
variable {P : Program}

def fsOf (ls : List Kid) (i : Nat) : Value := ((ls[i]?).map (·.f)).getD nilS
def plsOf (ls : List Kid) (i : Nat) : Value := ((ls[i]?).map (·.pl)).getD nilS
theorem fsOf_cell {H : Heap} {ls : List Kid} (h : ∀ K, K ∈ ls → KidAt H K) (i : Nat) : (fsOf ls i).oneCell' = true ∧ (plsOf ls i).oneCell' = true := by
  unfold fsOf plsOf
  cases hi : ls[i]? with
  | none => exact ⟨rfl, rfl⟩
  | some K =>
    obtain ⟨_, h2, _, fb, h4⟩ := h K (List.mem_of_getElem? hi)
    exact ⟨h4.cell, h2.cell⟩
/-- the tokens of a tree with one leaf open, and perhaps the next -/
@[reducible] def nTok (H : Heap) (k v f0 : Value) (es es2 : List Ent) (ls : List Kid) (h : ∀ j, (tokVals k v f0 es es2 (fsOf ls) (plsOf ls) j).oneCell' = true) : Tok := tokB H (tokVals k v f0 es es2 (fsOf ls) (plsOf ls)) h
section
variable {k v f0 : Value} {es es2 : List Ent} {fs pls : Nat → Value}
theorem tv_key {j : Nat} (hj : j < 100) : tokVals k v f0 es es2 fs pls (100 + j) = keyV es j := by
  unfold tokVals
  rw [if_neg (by omega), if_neg (by omega), if_neg (by omega), if_pos (by omega), show 100 + j - 100 = j by omega]
theorem tv_val {j : Nat} (hj : j < 100) : tokVals k v f0 es es2 fs pls (200 + j) = valV es j := by
  unfold tokVals
  rw [if_neg (by omega), if_neg (by omega), if_neg (by omega), if_neg (by omega), if_pos (by omega), show 200 + j - 200 = j by omega]
theorem tv_key2 {j : Nat} (hj : j < 50) : tokVals k v f0 es es2 fs pls (300 + j) = keyV es2 j := by
  unfold tokVals
  rw [if_neg (by omega), if_neg (by omega), if_neg (by omega), if_neg (by omega), if_neg (by omega), if_pos (by omega), show 300 + j - 300 = j by omega]
theorem tv_val2 {j : Nat} (hj : j < 50) : tokVals k v f0 es es2 fs pls (350 + j) = valV es2 j := by
  unfold tokVals
  rw [if_neg (by omega), if_neg (by omega), if_neg (by omega), if_neg (by omega), if_neg (by omega), if_neg (by omega), if_pos (by omega), show 350 + j - 350 = j by omega]
theorem tv_f {j : Nat} (hj : j < 100) : tokVals k v f0 es es2 fs pls (400 + j) = fs j := by
  unfold tokVals
  rw [if_neg (by omega), if_neg (by omega), if_neg (by omega), if_neg (by omega), if_neg (by omega), if_neg (by omega), if_neg (by omega), if_pos (by omega), show 400 + j - 400 = j by omega]
theorem tv_pl {j : Nat} (hj : j < 100) : tokVals k v f0 es es2 fs pls (500 + j) = pls j := by
  unfold tokVals
  rw [if_neg (by omega), if_neg (by omega), if_neg (by omega), if_neg (by omega), if_neg (by omega), if_neg (by omega), if_neg (by omega), if_neg (by omega), if_pos (by omega), show 500 + j - 500 = j by omega]
end
theorem getElem?_lt {α : Type} {l : List α} {j : Nat} {x : α} (h : l[j]? = some x) : j < l.length := by
  rcases Nat.lt_or_ge j l.length with h1 | h1
  · exact h1
  · rw [List.getElem?_eq_none h1] at h; cases h
/-- where the key stands among the leaves' firsts -/
def FirstsAt (H : Heap) (c : Nat) (kb : List UInt8) (ls : List Kid) : Prop := ∀ i L, ls[i]? = some L → ∃ fb, BytesAt H L.f fb ∧ (i ≤ c → lexC fb kb = -1) ∧ (c < i → lexC fb kb = 1)
theorem cmpN {H : Heap} {k v f0 : Value} {kb : List UInt8} {es es2 : List Ent} {ls : List Kid} {c p : Nat} (hc : ∀ j, (tokVals k v f0 es es2 (fsOf ls) (plsOf ls) j).oneCell' = true) (hk : BytesAt H k kb) (he : ∀ e, e ∈ es → EntOk H e) (he2 : ∀ e, e ∈ es2 → EntOk H e)
    (hS : Side p kb es) (hS2 : Side 0 kb es2) (hp : p ≤ es.length) (hs : es.length ≤ 16) (hs2 : es2.length ≤ 16) (hF : FirstsAt H c kb ls) (hm : ls.length ≤ 90) : CmpT (nTok H k v f0 es es2 ls hc) ls.length c es.length es2.length p := by
  intro i t ht
  rw [tokSide_eq] at ht
  have key : ∀ j, j < es.length → (j < p → t = true) → (p ≤ j → t = false) → i = 100 + j → ∃ bs kb', BytesAt H (tokVals k v f0 es es2 (fsOf ls) (plsOf ls) i) bs ∧ BytesAt H k kb' ∧ lexC bs kb' = if t then -1 else 1 := by
    intro j hj h1 h2 e
    subst e
    have hge := List.getElem?_eq_getElem hj
    refine ⟨es[j].kb, kb, ?_, hk, ?_⟩
    · rw [tv_key (by omega)]
      unfold keyV
      rw [hge]; exact (he _ (List.getElem_mem hj)).1
    · obtain ⟨s1, s2⟩ := hS j _ hge
      rcases Nat.lt_or_ge j p with h | h
      · rw [h1 h]; exact s1 h
      · rw [h2 h]; exact s2 h
  have key2 : ∀ j, j < es2.length → t = false → i = 300 + j → ∃ bs kb', BytesAt H (tokVals k v f0 es es2 (fsOf ls) (plsOf ls) i) bs ∧ BytesAt H k kb' ∧ lexC bs kb' = if t then -1 else 1 := by
    intro j hj h1 e
    subst e
    have hge := List.getElem?_eq_getElem hj
    refine ⟨es2[j].kb, kb, ?_, hk, ?_⟩
    · rw [tv_key2 (by omega)]
      unfold keyV
      rw [hge]; exact (he2 _ (List.getElem_mem hj)).1
    · obtain ⟨s1, s2⟩ := hS2 j _ hge
      rw [h1]; exact s2 (Nat.zero_le _)
  have key3 : ∀ j, j < ls.length → (j ≤ c → t = true) → (c < j → t = false) → i = 400 + j → ∃ bs kb', BytesAt H (tokVals k v f0 es es2 (fsOf ls) (plsOf ls) i) bs ∧ BytesAt H k kb' ∧ lexC bs kb' = if t then -1 else 1 := by
    intro j hj h1 h2 e
    subst e
    have hge := List.getElem?_eq_getElem hj
    obtain ⟨fb, g1, g2, g3⟩ := hF j _ hge
    refine ⟨fb, kb, ?_, hk, ?_⟩
    · rw [tv_f (by omega)]
      unfold fsOf
      rw [hge]; exact g1
    · rcases Nat.lt_or_ge c j with h | h
      · rw [h2 h]; exact g3 h
      · rw [h1 h]; exact g2 h
  show ∃ bs kb', BytesAt H (tokVals k v f0 es es2 (fsOf ls) (plsOf ls) i) bs ∧ BytesAt H k kb' ∧ _
  split at ht
  · cases ht
  · split at ht
    · split at ht
      · cases ht
        exact key (i - 100) (by omega) (fun _ => rfl) (fun h => by omega) (by omega)
      · split at ht
        · cases ht
          exact key (i - 100) (by omega) (fun h => by omega) (fun _ => rfl) (by omega)
        · cases ht
    · split at ht
      · cases ht
      · split at ht
        · split at ht
          · cases ht
            exact key2 (i - 300) (by omega) rfl (by omega)
          · cases ht
        · split at ht
          · cases ht
          · split at ht
            · split at ht
              · cases ht
                exact key3 (i - 400) (by omega) (fun _ => rfl) (fun h => by omega) (by omega)
              · cases ht
                exact key3 (i - 400) (by omega) (fun h => by omega) (fun _ => rfl) (by omega)
            · cases ht
theorem nTok_facts {H : Heap} {k v f0 : Value} {es es2 : List Ent} {ls : List Kid} (hc : ∀ j, (tokVals k v f0 es es2 (fsOf ls) (plsOf ls) j).oneCell' = true) (hs : es.length ≤ 16) (hs2 : es2.length ≤ 16) (hm : ls.length ≤ 90) :
    (nTok H k v f0 es es2 ls hc).val 600 = f0 ∧ (∀ i L, ls[i]? = some L → (nTok H k v f0 es es2 ls hc).val (400 + i) = L.f ∧ (nTok H k v f0 es es2 ls hc).val (500 + i) = L.pl) ∧
    (∀ j q, (kvs es)[j]? = some q → (nTok H k v f0 es es2 ls hc).val (100 + j) = q.1 ∧ (nTok H k v f0 es es2 ls hc).val (200 + j) = q.2) ∧ (∀ j q, (kvs es2)[j]? = some q → (nTok H k v f0 es es2 ls hc).val (300 + j) = q.1 ∧ (nTok H k v f0 es es2 ls hc).val (350 + j) = q.2) := by
  refine ⟨rfl, fun i L hi => ?_, fun j q hj => ?_, fun j q hj => ?_⟩
  · have := getElem?_lt hi
    refine ⟨(tv_f (by omega)).trans ?_, (tv_pl (by omega)).trans ?_⟩
    · unfold fsOf; rw [hi]; rfl
    · unfold plsOf; rw [hi]; rfl
  · have := getElem?_lt hj
    rw [kvs_len] at this
    obtain ⟨g1, g2⟩ := kvs_get hj
    exact ⟨(tv_key (by omega)).trans g1, (tv_val (by omega)).trans g2⟩
  · have := getElem?_lt hj
    rw [kvs_len] at this
    obtain ⟨g1, g2⟩ := kvs_get hj
    exact ⟨(tv_key2 (by omega)).trans g1, (tv_val2 (by omega)).trans g2⟩
/-- PUT BELOW A ROOT -/
theorem putN_ok {K : KH} {f G : Nat} (hG : P.globals.size = G) (h0 : 0 < G) (hGb : G ≤ 60000) {w : World} (hgs : G ≤ w.heap.size) {H : Heap} (hH : In H w) {x : Img} {f0 : Value} {ls : List Kid} (h : TreeN H x f0 ls) {c : Nat} {Kc : Kid} (hc : ls[c]? = some Kc) {e : Ent} {p : Nat}
    (hK : ∀ T : Tok, T.strong = true → CmpT T ls.length c Kc.es.length 0 p → @KSound T P K) (hrun : putNRun K f G 0 .none ls.length c Kc.es.length p = true) (hs0 : 0 < Kc.es.length) (hs : Kc.es.length ≤ 16) (hp : p ≤ Kc.es.length) (hm : ls.length ≤ 90) (hf0 : f0.oneCell' = true)
    (he : EntOk H e) (hS : Side p e.kb Kc.es) (hF : FirstsAt H c e.kb ls) :
    Ends P f #[ptrV x, .agg #[e.k, e.v]] w fun cv w' => Left' w w' ∧ ∃ sl x' ks, cv = .tuple #[sl, .bool true] ∧ RowAt (upd H w w') 1 sl 1 [ptrV x'] ∧ TreeN (upd H w w') x' f0 ks ∧ ks.map sig = (ls.take c).map sig ++ newSigs Kc.f (insE p e Kc.es) ++ (ls.drop (c + 1)).map sig := by
  have hkids : ∀ L, L ∈ ls → KidAt H L := by obtain ⟨_, _, _, h3⟩ := h; exact h3
  have hKc := hkids Kc (List.mem_of_getElem? hc)
  obtain ⟨hek, vb, hev⟩ := he
  have hcell := tokVals_cell (es2 := []) (fs := fsOf ls) (pls := plsOf ls) hek.cell hev.cell hf0 hKc.2.2.1 (fun e h => by cases h) (fun i => (fsOf_cell hkids i).1) (fun i => (fsOf_cell hkids i).2)
  obtain ⟨q1, q2, q3, q4⟩ := nTok_facts (H := H) hcell hs (Nat.zero_le _) hm
  have hCmp := cmpN (c := c) (p := p) hcell hek hKc.2.2.1 (fun e h => by cases h) hS (fun j e h => by simp at h) hp hs (Nat.zero_le _) hF hm
  generalize hT : nTok H e.k e.v f0 Kc.es [] ls hcell = T at q1 q2 q3 q4 hCmp
  have hst : T.strong = true := by rw [← hT]; rfl
  have t0 : T.val 0 = e.k := by rw [← hT]; rfl
  have t1 : T.val 1 = e.v := by rw [← hT]; rfl
  have hheld : ∀ b o, T.hold b = some o → w.heap[b]? = some o := by rw [← hT]; exact hH
  obtain ⟨φ, hr, hI, hφ⟩ := relN (T := T) hG h0 hGb hgs hH h hc hs0 (s2 := 0) (.inl rfl) hm q1 q2 q3 hheld
  have hargs : @VsRel T φ (putArgs G) (#[ptrV x, .agg #[e.k, e.v]] : Array Value).toList := by
    refine @VsRel.cons T φ _ _ _ _ ?_ (@VsRel.cons T φ _ _ _ _ ?_ (@VsRel.nil T φ))
    · exact @VRel.ptr T φ (G + 1) 0 x.1 x.2.1 x.2.2 hφ
    · refine @VRel.agg T φ [.opq 0, .opq 1] #[e.k, e.v] (@VsRel.cons T φ _ _ _ _ (by rw [← t0]; exact @VRel.opq T φ 0) (@VsRel.cons T φ _ _ _ _ (by rw [← t1]; exact @VRel.opq T φ 1) (@VsRel.nil T φ))) (fun v hv => ?_)
      simp only [List.mem_cons, List.not_mem_nil, or_false] at hv
      rcases hv with rfl | rfl <;> rfl
  unfold putNRun at hrun
  split at hrun
  · rename_i y t m hq
    unfold putChk at hrun
    simp only [Bool.and_eq_true] at hrun
    obtain ⟨rfl, h1, h2⟩ := hrun
    have hro : ∀ q, q < (mkMem G 0 .none (treeN G ls.length c Kc.es.length 0)).next → ((mkMem G 0 .none (treeN G ls.length c Kc.es.length 0)).get q).wr = false :=
      mkMem_ro h0 (by rw [treeN_len]; show G + 1 + (3 + ls.length + 0) ≤ _; omega) rfl treeN_ro
    refine (hK T hst hCmp f _ _ _ m hq φ w _ hr hargs).mono fun cv w' ⟨φ', hstp, hvc⟩ => ?_
    have hleft := Left'.of hstp hro
    refine ⟨hleft, ?_⟩
    cases hvc with
    | tuple _ cs hcs =>
    generalize hcl : cs.toList = L at hcs
    cases hcs with
    | @cons _ sl _ _ g1 g2 =>
    cases g2 with
    | cons g3 g4 =>
    cases g4
    cases g3
    obtain ⟨r1, r2⟩ := idRel (T := T) hst hG (@Step.rel T P _ _ _ _ _ _ hstp) h2
    have hsl := r2 _ _ (absN_up h1) _ g1
    have hnew : ∀ φ, @VsRel T φ (newR Kc.es.length p) (flat (kvs (insE p e Kc.es))) := fun φ => by
      have := insR_rel (T := T) (φ := φ) (kb := 100) (vb := 200) t0 t1 p (kvs Kc.es) 0 (by rw [kvs_len]; exact hp) fun j q hj => by rw [Nat.zero_add]; exact q3 j q hj
      rw [kvs_len, ← insE_kvs] at this; exact this
    obtain ⟨x', ks, k1, k2, k3⟩ := endN_parts (T := T) h0 hGb (tells_step hstp hro hI h2) r1 rfl hm hc rfl hs hp q2 hnew (fun v hv => insR_opq p _ (fun v hv => rowT_opq hv) v hv) (fun L hL => (hkids L hL).mono (upd_mono hH)) (EntOk.mono ⟨hek, vb, hev⟩ (upd_mono hH)) hsl
    rw [q1] at k2
    exact ⟨sl, x', ks, by congr 1; rw [← Array.toList_inj]; exact hcl, k1, k2, k3⟩
  · cases hrun
end Go.AM

namespace Go.AM
variable {P : Program}

/-- what a look for the next pair tells -/
def Told (cv : Value) (r : Option Ent) : Prop := match r with
  | some e => cv = .tuple #[.agg #[e.k, e.v], .bool true]
  | none => ∃ a b, cv = .tuple #[.agg #[a, b], .bool false] ∧ a.oneCell' = true ∧ b.oneCell' = true
theorem pairChk_ok {T : Tok} {φ : Phi} {k v : Nat} {ok : Bool} {r : R} {m : Mem} {av : AVal} (h : pairChk k v ok r = true) (hr : r = .ok av m) {cv : Value} (hv : @VRel T φ av cv) {o : Option Ent} (ho : ok = true → ∃ e, o = some e ∧ T.val k = e.k ∧ T.val v = e.v) (hn : ok = false → o = none) : Told cv o := by
  subst hr
  unfold pairChk at h
  split at h
  · rename_i a b t _ heq
    cases heq
    cases hv with
    | tuple _ cs hcs =>
    generalize hcl : cs.toList = L at hcs
    cases hcs with
    | @cons _ pr _ _ g1 g2 =>
    cases g2 with
    | cons g3 g4 =>
    cases g4
    cases g3
    cases g1 with
    | agg _ ds hds hcell =>
    have hpl := @VsRel.plain T φ _ _ hds hcell
    generalize hdl : ds.toList = D at hds
    cases hds with
    | @cons _ ca _ _ d1 d2 =>
    cases d2 with
    | @cons _ cb _ _ d3 d4 =>
    cases d4
    have e1 : cs = #[.agg ds, .bool t] := by rw [← Array.toList_inj]; exact hcl
    have e2 : ds = #[ca, cb] := by rw [← Array.toList_inj]; exact hdl
    subst e1
    subst e2
    rw [cond_if] at h
    split at h
    · rename_i hok
      simp only [Bool.and_eq_true] at h
      obtain ⟨rfl, h2, h3⟩ := h
      obtain ⟨e, rfl, k1, k2⟩ := ho hok
      have f1 := @aeqN_eq tok0 2 _ _ h2
      have f2 := @aeqN_eq tok0 2 _ _ h3
      subst f1
      subst f2
      cases d1
      cases d3
      show _ = _
      rw [k1, k2]
    · rename_i hok
      rw [hn (by simpa using hok)]
      cases t with
      | false => exact ⟨ca, cb, rfl, hpl ca (by simp), hpl cb (by simp)⟩
      | true => cases h
  · cases h
/-- THE NEXT PAIR IN A TREE OF ONE LEAF -/
theorem nextL_ok {K : KH} {f G : Nat} (hG : P.globals.size = G) (h0 : 0 < G) (hGb : G ≤ 60000) {w : World} (hgs : G ≤ w.heap.size) {H : Heap} (hH : In H w) {x : Img} {f0 k : Value} {kb : List UInt8} {es : List Ent} {p : Nat} (hK : ∀ T : Tok, T.strong = true → CmpT T 0 0 es.length 0 p → @KSound T P K)
    (hrun : nextLRun K f G 0 .none es.length p = true) (hs : es.length ≤ 16) (hp : p ≤ es.length) (hf0 : f0.oneCell' = true) (hl : LeafAt H x f0 (kvs es)) (he : ∀ e, e ∈ es → EntOk H e) (hk : BytesAt H k kb) (hS : Side p kb es) :
    Ends P f #[ptrV x, k, .bool false] w fun cv w' => Left' w w' ∧ Told cv es[p]? := by
  have hcell := tokVals_cell (v := nilS) (es2 := []) (fs := fun _ => nilS) (pls := fun _ => nilS) hk.cell rfl hf0 he (fun e h => by cases h) (fun _ => rfl) (fun _ => rfl)
  let T : Tok := tokB H (tokVals k nilS f0 es [] (fun _ => nilS) (fun _ => nilS)) hcell
  have tkv : ∀ j q, (kvs es)[j]? = some q → T.val (100 + j) = q.1 ∧ T.val (200 + j) = q.2 := by
    intro j q hj
    obtain ⟨g1, g2⟩ := kvs_get hj
    have := getElem?_lt hj
    rw [kvs_len] at this
    exact ⟨(tv_key (by omega)).trans g1, (tv_val (by omega)).trans g2⟩
  have hCmp : CmpT T 0 0 es.length 0 p := cmpL hcell hk he hS hp hs
  obtain ⟨φ, hr, hI, hφ⟩ := relL (T := T) hG h0 hGb hgs hH hl rfl tkv hH
  rw [kvs_len] at hr
  have hargs : @VsRel T φ (nextArgs G) (#[ptrV x, k, .bool false] : Array Value).toList :=
    @VsRel.cons T φ _ _ _ _ (@VRel.ptr T φ (G + 1) 0 x.1 x.2.1 x.2.2 hφ) (@VsRel.cons T φ _ _ _ _ (@VRel.opq T φ 0) (@VsRel.cons T φ _ _ _ _ (@VRel.bool T φ false) (@VsRel.nil T φ)))
  have hro : ∀ q, q < (mkMem G 0 .none (treeL G es.length)).next → ((mkMem G 0 .none (treeL G es.length)).get q).wr = false := by
    have hlen : G + 1 + (treeL G es.length).length ≤ 65536 := by
      have : (treeL G es.length).length ≤ 2 := by
        unfold treeL
        cases es.length with
        | zero => exact Nat.le_succ 1
        | succ n => exact Nat.le_refl 2
      omega
    refine mkMem_ro h0 hlen rfl fun b hb => ?_
    unfold treeL at hb
    rcases List.mem_cons.1 hb with rfl | hb
    · rfl
    · cases hes : es.length with
      | zero => rw [hes] at hb; cases hb
      | succ n =>
        rw [hes] at hb
        rcases List.mem_cons.1 hb with rfl | hb
        · rfl
        · cases hb
  unfold nextLRun at hrun
  generalize hq : K f (nextArgs G) (mkMem G 0 .none (treeL G es.length)) = q at hrun
  cases q with
  | fail c => cases hrun
  | ok av m =>
    refine (hK T rfl hCmp f _ _ _ m hq φ w _ hr hargs).mono fun cv w' ⟨φ', hst, hvc⟩ => ⟨Left'.of hst hro, ?_⟩
    refine pairChk_ok hrun rfl hvc (fun hok => ?_) (fun hok => ?_)
    · have hlt : p < es.length := ble_true.1 hok
      have hge := List.getElem?_eq_getElem hlt
      refine ⟨_, hge, (tv_key (by omega)).trans ?_, (tv_val (by omega)).trans ?_⟩
      · unfold keyV; rw [hge]; rfl
      · unfold valV; rw [hge]; rfl
    · have := ble_false.1 hok
      exact List.getElem?_eq_none (by omega)
/-- THE NEXT PAIR BELOW A ROOT -/
theorem nextN_ok {K : KH} {f G : Nat} (hG : P.globals.size = G) (h0 : 0 < G) (hGb : G ≤ 60000) {w : World} (hgs : G ≤ w.heap.size) {H : Heap} (hH : In H w) {x : Img} {f0 k : Value} {kb : List UInt8} {ls : List Kid} (h : TreeN H x f0 ls) {c : Nat} {Kc : Kid} (hc : ls[c]? = some Kc) {p : Nat} {es2 : List Ent}
    (h2 : es2 = [] ∨ ∃ K2, ls[c + 1]? = some K2 ∧ K2.es = es2 ∧ 0 < es2.length)
    (hK : ∀ T : Tok, T.strong = true → CmpT T ls.length c Kc.es.length es2.length p → @KSound T P K) (hrun : nextNRun K f G 0 .none ls.length c Kc.es.length es2.length p = true) (hs0 : 0 < Kc.es.length) (hs : Kc.es.length ≤ 16) (hs2 : es2.length ≤ 16) (hp : p ≤ Kc.es.length) (hm : ls.length ≤ 90) (hf0 : f0.oneCell' = true)
    (hk : BytesAt H k kb) (hS : Side p kb Kc.es) (hS2 : Side 0 kb es2) (hF : FirstsAt H c kb ls) :
    Ends P f #[ptrV x, k, .bool false] w fun cv w' => Left' w w' ∧ Told cv (if p < Kc.es.length then Kc.es[p]? else es2[0]?) := by
  have hkids : ∀ L, L ∈ ls → KidAt H L := by obtain ⟨_, _, _, h3⟩ := h; exact h3
  have hKc := hkids Kc (List.mem_of_getElem? hc)
  have hes2 : ∀ e, e ∈ es2 → EntOk H e := by
    rcases h2 with rfl | ⟨K2, g1, rfl, _⟩
    · intro e h; cases h
    · exact (hkids K2 (List.mem_of_getElem? g1)).2.2.1
  have hcell := tokVals_cell (v := nilS) (fs := fsOf ls) (pls := plsOf ls) hk.cell rfl hf0 hKc.2.2.1 hes2 (fun i => (fsOf_cell hkids i).1) (fun i => (fsOf_cell hkids i).2)
  obtain ⟨q1, q2, q3, q4⟩ := nTok_facts (H := H) hcell hs hs2 hm
  have hCmp := cmpN (c := c) (p := p) hcell hk hKc.2.2.1 hes2 hS hS2 hp hs hs2 hF hm
  have hkey : ∀ j, j < 100 → (nTok H k nilS f0 Kc.es es2 ls hcell).val (100 + j) = keyV Kc.es j ∧ (nTok H k nilS f0 Kc.es es2 ls hcell).val (200 + j) = valV Kc.es j := fun j hj => ⟨tv_key hj, tv_val hj⟩
  have hkey2 : (nTok H k nilS f0 Kc.es es2 ls hcell).val 300 = keyV es2 0 ∧ (nTok H k nilS f0 Kc.es es2 ls hcell).val 350 = valV es2 0 := ⟨tv_key2 (j := 0) (by omega), tv_val2 (j := 0) (by omega)⟩
  generalize hT : nTok H k nilS f0 Kc.es es2 ls hcell = T at q1 q2 q3 q4 hCmp hkey hkey2
  have hst : T.strong = true := by rw [← hT]; rfl
  have t0 : T.val 0 = k := by rw [← hT]; rfl
  have hheld : ∀ b o, T.hold b = some o → w.heap[b]? = some o := by rw [← hT]; exact hH
  obtain ⟨φ, hr, hI, hφ⟩ := relN (T := T) hG h0 hGb hgs hH h hc hs0 (s2 := es2.length) (by
    rcases h2 with rfl | ⟨K2, g1, rfl, g3⟩
    · exact .inl rfl
    · exact .inr ⟨K2, g1, rfl, g3, q4⟩) hm q1 q2 q3 hheld
  have hargs : @VsRel T φ (nextArgs G) (#[ptrV x, k, .bool false] : Array Value).toList :=
    @VsRel.cons T φ _ _ _ _ (@VRel.ptr T φ (G + 1) 0 x.1 x.2.1 x.2.2 hφ) (@VsRel.cons T φ _ _ _ _ (by rw [← t0]; exact @VRel.opq T φ 0) (@VsRel.cons T φ _ _ _ _ (@VRel.bool T φ false) (@VsRel.nil T φ)))
  have hro : ∀ q, q < (mkMem G 0 .none (treeN G ls.length c Kc.es.length es2.length)).next → ((mkMem G 0 .none (treeN G ls.length c Kc.es.length es2.length)).get q).wr = false := by
    have hone : (oneOr es2.length (.cells true (rowT 300 350 (natL es2.length 0)))).length ≤ 1 := by cases es2.length <;> simp [oneOr]
    exact mkMem_ro h0 (by rw [treeN_len]; omega) rfl treeN_ro
  unfold nextNRun at hrun
  generalize hq : K f (nextArgs G) (mkMem G 0 .none (treeN G ls.length c Kc.es.length es2.length)) = q at hrun
  cases q with
  | fail c => cases hrun
  | ok av m =>
    refine (hK T hst hCmp f _ _ _ m hq φ w _ hr hargs).mono fun cv w' ⟨φ', hstp, hvc⟩ => ⟨Left'.of hstp hro, ?_⟩
    by_cases hlt : p < Kc.es.length
    · rw [ble_true.2 hlt] at hrun
      rw [if_pos hlt]
      have hge := List.getElem?_eq_getElem hlt
      obtain ⟨e1, e2⟩ := hkey p (by omega)
      refine pairChk_ok hrun rfl hvc (fun _ => ⟨_, hge, e1.trans ?_, e2.trans ?_⟩) (fun h => by cases h)
      · unfold keyV; rw [hge]; rfl
      · unfold valV; rw [hge]; rfl
    · rw [ble_false.2 (by omega)] at hrun
      rw [if_neg hlt]
      refine pairChk_ok hrun rfl hvc (fun hok => ?_) (fun hok => ?_)
      · have h1 : 0 < es2.length := by
          have : Nat.ble 1 es2.length = true := by simpa using hok
          exact ble_true.1 this
        have hge := List.getElem?_eq_getElem h1
        refine ⟨_, hge, hkey2.1.trans ?_, hkey2.2.trans ?_⟩
        · unfold keyV; rw [hge]; rfl
        · unfold valV; rw [hge]; rfl
      · have : Nat.ble 1 es2.length = false := by simpa using hok
        have := ble_false.1 this
        exact List.getElem?_eq_none (by omega)
end Go.AM

namespace Go.AM

/- ### the order of keys -/
theorem lexC_refl : ∀ a : List UInt8, lexC a a = 0
  | [] => rfl
  | x :: a => by show (if x = x then lexC a a else _) = 0; rw [if_pos rfl, lexC_refl a]
theorem lexC_cases : ∀ a b : List UInt8, lexC a b = -1 ∨ lexC a b = 0 ∧ a = b ∨ lexC a b = 1
  | [], [] => .inr (.inl ⟨rfl, rfl⟩)
  | [], _ :: _ => .inl rfl
  | _ :: _, [] => .inr (.inr rfl)
  | x :: a, y :: b => by
    show (if x = y then lexC a b else if x < y then (-1 : Int) else 1) = -1 ∨ (if x = y then lexC a b else if x < y then (-1 : Int) else 1) = 0 ∧ _ ∨ (if x = y then lexC a b else if x < y then (-1 : Int) else 1) = 1
    by_cases h : x = y
    · subst h
      rw [if_pos rfl]
      rcases lexC_cases a b with h | ⟨h, e⟩ | h
      · exact .inl h
      · exact .inr (.inl ⟨h, by rw [e]⟩)
      · exact .inr (.inr h)
    · rw [if_neg h]
      by_cases h2 : x < y
      · rw [if_pos h2]; exact .inl rfl
      · rw [if_neg h2]; exact .inr (.inr rfl)
theorem lexC_swap : ∀ a b : List UInt8, lexC b a = - lexC a b
  | [], [] => rfl
  | [], _ :: _ => rfl
  | _ :: _, [] => rfl
  | x :: a, y :: b => by
    show (if y = x then lexC b a else if y < x then (-1 : Int) else 1) = - (if x = y then lexC a b else if x < y then (-1 : Int) else 1)
    by_cases h : x = y
    · subst h
      rw [if_pos rfl, if_pos rfl, lexC_swap a b]
    · rw [if_neg h, if_neg (Ne.symm h)]
      by_cases h2 : x < y
      · have h3 : ¬ y < x := by rw [UInt8.lt_iff_toNat_lt] at h2 ⊢; omega
        rw [if_pos h2, if_neg h3]; rfl
      · have h3 : y < x := by
          rw [UInt8.lt_iff_toNat_lt] at h2 ⊢
          have : x.toNat ≠ y.toNat := fun e => h (UInt8.toNat_inj.1 e)
          omega
        rw [if_neg h2, if_pos h3]
theorem lexC_trans : ∀ a b c : List UInt8, lexC a b = -1 → lexC b c = -1 → lexC a c = -1
  | [], [], _, h, _ => by cases h
  | [], _ :: _, [], _, h => by cases h
  | [], _ :: _, _ :: _, _, _ => rfl
  | _ :: _, [], _, h, _ => by cases h
  | _ :: _, _ :: _, [], _, h => by cases h
  | x :: a, y :: b, z :: c, h1, h2 => by
    change (if x = y then lexC a b else if x < y then (-1 : Int) else 1) = -1 at h1
    change (if y = z then lexC b c else if y < z then (-1 : Int) else 1) = -1 at h2
    show (if x = z then lexC a c else if x < z then (-1 : Int) else 1) = -1
    by_cases hxy : x = y
    · subst hxy
      rw [if_pos rfl] at h1
      by_cases hyz : x = z
      · subst hyz
        rw [if_pos rfl] at h2 ⊢
        exact lexC_trans a b c h1 h2
      · rw [if_neg hyz] at h2 ⊢
        exact h2
    · rw [if_neg hxy] at h1
      by_cases hxy2 : x < y
      · by_cases hyz : y = z
        · subst hyz
          rw [if_neg hxy, if_pos hxy2]
        · rw [if_neg hyz] at h2
          by_cases hyz2 : y < z
          · have h3 : x < z := by rw [UInt8.lt_iff_toNat_lt] at *; omega
            have h4 : x ≠ z := fun e => by subst e; rw [UInt8.lt_iff_toNat_lt] at h3; omega
            rw [if_neg h4, if_pos h3]
          · rw [if_neg hyz2] at h2; cases h2
      · rw [if_neg hxy2] at h1; cases h1
def Lt (a b : List UInt8) : Prop := lexC a b = -1
theorem Lt.gt {a b : List UInt8} (h : Lt a b) : lexC b a = 1 := by rw [lexC_swap a b, h]; rfl
theorem Lt.of_gt {a b : List UInt8} (h : lexC a b = 1) : Lt b a := by show lexC b a = -1; rw [lexC_swap a b, h]
theorem Lt.trans {a b c : List UInt8} (h : Lt a b) (h' : Lt b c) : Lt a c := lexC_trans a b c h h'
theorem Lt.tri (a b : List UInt8) : Lt a b ∨ a = b ∨ Lt b a := by
  rcases lexC_cases a b with h | ⟨_, h⟩ | h
  · exact .inl h
  · exact .inr (.inl h)
  · exact .inr (.inr (Lt.of_gt h))
theorem Lt.nil {a : List UInt8} (h : a ≠ []) : Lt [] a := by
  cases a with
  | nil => exact absurd rfl h
  | cons x l => rfl
def Sorted (es : List Ent) : Prop := es.Pairwise fun a b => Lt a.kb b.kb
/-- the place of a new key in a sorted leaf -/
theorem side_ex {kb : List UInt8} : ∀ {es : List Ent}, Sorted es → (∀ e, e ∈ es → e.kb ≠ kb) → ∃ p, p ≤ es.length ∧ Side p kb es
  | [], _, _ => ⟨0, Nat.le_refl _, fun j e h => by simp at h⟩
  | a :: es, hs, hne => by
    obtain ⟨h1, h2⟩ := List.pairwise_cons.1 hs
    rcases Lt.tri a.kb kb with h | h | h
    · obtain ⟨p, hp, hS⟩ := side_ex h2 fun e he => hne e (List.mem_cons_of_mem _ he)
      refine ⟨p + 1, by simp; omega, fun j e hj => ?_⟩
      cases j with
      | zero =>
        simp only [List.getElem?_cons_zero, Option.some.injEq] at hj
        subst hj
        exact ⟨fun _ => h, fun h => by omega⟩
      | succ j =>
        rw [List.getElem?_cons_succ] at hj
        obtain ⟨g1, g2⟩ := hS j e hj
        exact ⟨fun h => g1 (by omega), fun h => g2 (by omega)⟩
    · exact absurd h (hne a (List.mem_cons_self ..))
    · refine ⟨0, Nat.zero_le _, fun j e hj => ⟨fun h => by omega, fun _ => ?_⟩⟩
      cases j with
      | zero =>
        simp only [List.getElem?_cons_zero, Option.some.injEq] at hj
        subst hj
        exact h.gt
      | succ j =>
        rw [List.getElem?_cons_succ] at hj
        exact (h.trans (h1 e (List.mem_of_getElem? hj))).gt
/-- a leaf's first and its entries, of all leaves -/
abbrev Sigs := List (Value × List Ent)
def allOf (sg : Sigs) : List Ent := sg.flatMap (·.2)
/-- the leaf in which a new key belongs -/
structure Locate (kb : List UInt8) (sg : Sigs) (c : Nat) (f : Value) (es : List Ent) (p : Nat) : Prop where
  at_ : sg[c]? = some (f, es)
  le : p ≤ es.length
  side : Side p kb es
  pos : 0 < c → 0 < p
  lo : ∀ i s, i < c → sg[i]? = some s → ∀ e, e ∈ s.2 → Lt e.kb kb
  hi : ∀ i s, c < i → sg[i]? = some s → ∀ e, e ∈ s.2 → Lt kb e.kb
theorem mem_all {sg : Sigs} {i : Nat} {s : Value × List Ent} (h : sg[i]? = some s) {e : Ent} (he : e ∈ s.2) : e ∈ allOf sg := List.mem_flatMap.2 ⟨s, List.mem_of_getElem? h, he⟩
theorem locate {kb : List UInt8} : ∀ {sg : Sigs}, sg ≠ [] → Sorted (allOf sg) → (∀ e, e ∈ allOf sg → e.kb ≠ kb) → (∀ i s, 0 < i → sg[i]? = some s → s.2 ≠ []) → ∃ c f es p, Locate kb sg c f es p
  | [], h, _, _, _ => absurd rfl h
  | [(f, es)], _, hs, hne, _ => by
    have e : allOf [(f, es)] = es := by simp [allOf]
    rw [e] at hs hne
    obtain ⟨p, hp, hS⟩ := side_ex hs hne
    refine ⟨0, f, es, p, rfl, hp, hS, fun h => by omega, fun i s h => by omega, fun i s h hi => ?_⟩
    cases i with
    | zero => omega
    | succ i => simp at hi
  | (f, es) :: (g, fs) :: sg, _, hs, hne, hn => by
    have e : allOf ((f, es) :: (g, fs) :: sg) = es ++ allOf ((g, fs) :: sg) := by simp [allOf]
    rw [e] at hs hne
    obtain ⟨s1, s2, s3⟩ := List.pairwise_append.1 hs
    have hfs : fs ≠ [] := hn 1 (g, fs) (by omega) rfl
    obtain ⟨a, fr, hfr⟩ : ∃ a fr, fs = a :: fr := by cases fs with
      | nil => exact absurd rfl hfs
      | cons a fr => exact ⟨a, fr, rfl⟩
    have ha : a ∈ allOf ((g, fs) :: sg) := mem_all (i := 0) rfl (by rw [hfr]; exact List.mem_cons_self ..)
    rcases Lt.tri a.kb kb with h | h | h
    · obtain ⟨c, f', es', p, hl⟩ := locate (sg := (g, fs) :: sg) (by simp) s2 (fun e he => hne e (List.mem_append.2 (.inr he))) (fun i s hi h => hn (i + 1) s (by omega) (by rw [List.getElem?_cons_succ]; exact h))
      refine ⟨c + 1, f', es', p, by rw [List.getElem?_cons_succ]; exact hl.at_, hl.le, hl.side, fun _ => ?_, fun i s hi hs' e he => ?_, fun i s hi hs' e he => ?_⟩
      · rcases Nat.eq_zero_or_pos c with hc | hc
        · subst hc
          have := hl.at_
          simp only [List.getElem?_cons_zero, Option.some.injEq, Prod.mk.injEq] at this
          obtain ⟨_, rfl⟩ := this
          rcases Nat.eq_zero_or_pos p with hp | hp
          · subst hp
            have := (hl.side 0 a (by rw [hfr]; rfl)).2 (Nat.le_refl _)
            rw [h] at this; cases this
          · exact hp
        · exact hl.pos hc
      · cases i with
        | zero =>
          simp only [List.getElem?_cons_zero, Option.some.injEq] at hs'
          subst hs'
          exact (s3 e he a ha).trans h
        | succ i =>
          rw [List.getElem?_cons_succ] at hs'
          exact hl.lo i s (by omega) hs' e he
      · cases i with
        | zero => omega
        | succ i =>
          rw [List.getElem?_cons_succ] at hs'
          exact hl.hi i s (by omega) hs' e he
    · exact absurd h (hne a (List.mem_append.2 (.inr ha)))
    · obtain ⟨p, hp, hS⟩ := side_ex s1 fun e he => hne e (List.mem_append.2 (.inl he))
      refine ⟨0, f, es, p, rfl, hp, hS, fun h => by omega, fun i s h => by omega, fun i s hi hs' e he => ?_⟩
      cases i with
      | zero => omega
      | succ i =>
        rw [List.getElem?_cons_succ] at hs'
        have hem : e ∈ allOf ((g, fs) :: sg) := mem_all hs' he
        have e2 : allOf ((g, fs) :: sg) = a :: (fr ++ allOf sg) := by simp [allOf, hfr]
        rw [e2] at hem s2
        rcases List.mem_cons.1 hem with rfl | hem
        · exact h
        · exact h.trans ((List.pairwise_cons.1 s2).1 e hem)
end Go.AM

namespace Go.AM
variable {P : Program}

/- ### a tree, as a whole -/
structure TInv (sg : Sigs) : Prop where
  ne : sg ≠ []
  first : ∀ s, sg[0]? = some s → s.1 = nilS
  firsts : ∀ i s, 0 < i → sg[i]? = some s → ∃ e r, s.2 = e :: r ∧ s.1 = e.k
  sorted : Sorted (allOf sg)
  keys : ∀ e, e ∈ allOf sg → e.kb ≠ []
  small : ∀ s, s ∈ sg → s.2.length ≤ 16
  big : 1 < sg.length → ∀ s, s ∈ sg → 8 ≤ s.2.length
inductive TreeIs (H : Heap) (root : Value) (sg : Sigs) : Prop where
  | one (x : Img) (f : Value) (es : List Ent) (h1 : root = ptrV x) (h2 : sg = [(f, es)]) (h3 : f.oneCell' = true) (h4 : LeafAt H x f (kvs es)) (h5 : ∀ e, e ∈ es → EntOk H e)
  | many (x : Img) (f0 : Value) (ls : List Kid) (h1 : root = ptrV x) (h2 : sg = ls.map sig) (h3 : f0.oneCell' = true) (h4 : TreeN H x f0 ls) (h5 : 1 < ls.length)
theorem TreeIs.mono {H H' : Heap} {root : Value} {sg : Sigs} (h : TreeIs H root sg) (hw : ∀ b o, H b = some o → H' b = some o) : TreeIs H' root sg := by
  cases h with
  | one x f es h1 h2 h3 h4 h5 => exact .one x f es h1 h2 h3 (h4.mono hw) fun e he => (h5 e he).mono hw
  | many x f0 ls h1 h2 h3 h4 h5 =>
    obtain ⟨chl, t1, t2, t3⟩ := h4
    exact .many x f0 ls h1 h2 h3 ⟨chl, t1.mono hw, t2.mono hw, fun K hK => (t3 K hK).mono hw⟩ h5
def newSg (sg : Sigs) (c p : Nat) (e : Ent) (f : Value) (es : List Ent) : Sigs := sg.take c ++ newSigs f (insE p e es) ++ sg.drop (c + 1)
theorem newSigs_all (f : Value) (es : List Ent) : allOf (newSigs f es) = es := by
  unfold newSigs allOf
  split
  · simp
  · simp [List.take_append_drop]
theorem allOf_append (a b : Sigs) : allOf (a ++ b) = allOf a ++ allOf b := by simp [allOf]
theorem newSg_all {sg : Sigs} {c p : Nat} {e : Ent} {f : Value} {es : List Ent} : allOf (newSg sg c p e f es) = allOf (sg.take c) ++ insE p e es ++ allOf (sg.drop (c + 1)) := by
  unfold newSg
  rw [allOf_append, allOf_append, newSigs_all]
theorem sg_split {sg : Sigs} {c : Nat} {f : Value} {es : List Ent} (h : sg[c]? = some (f, es)) : allOf sg = allOf (sg.take c) ++ es ++ allOf (sg.drop (c + 1)) := by
  have hlt := getElem?_lt h
  have e1 : sg = sg.take c ++ (f, es) :: sg.drop (c + 1) := by
    have h2 : sg[c] = (f, es) := by rw [List.getElem?_eq_getElem hlt] at h; exact Option.some.inj h
    rw [← h2, List.getElem_cons_drop, List.take_append_drop]
  have : allOf sg = allOf (sg.take c ++ (f, es) :: sg.drop (c + 1)) := congrArg allOf e1
  rw [this, allOf_append]
  simp [allOf]
theorem insE_sorted : ∀ {p : Nat} {e : Ent} {es : List Ent}, Sorted es → p ≤ es.length → Side p e.kb es → Sorted (insE p e es)
  | 0, e, es, hs, _, hS => by
    refine List.pairwise_cons.2 ⟨fun x hx => ?_, hs⟩
    obtain ⟨i, hi, rfl⟩ := List.getElem_of_mem hx
    exact Lt.of_gt ((hS i _ (List.getElem?_eq_getElem hi)).2 (Nat.zero_le _))
  | p + 1, e, [], _, hp, _ => by simp at hp
  | p + 1, e, a :: es, hs, hp, hS => by
    obtain ⟨h1, h2⟩ := List.pairwise_cons.1 hs
    refine List.pairwise_cons.2 ⟨fun x hx => ?_, insE_sorted h2 (by simpa using hp) fun j x hj => ?_⟩
    · rcases insE_mem hx with rfl | hx
      · exact (hS 0 a rfl).1 (Nat.succ_pos _)
      · exact h1 x hx
    · obtain ⟨g1, g2⟩ := hS (j + 1) x (by rw [List.getElem?_cons_succ]; exact hj)
      exact ⟨fun h => g1 (by omega), fun h => g2 (by omega)⟩
theorem insE_has : ∀ {p : Nat} {e : Ent} {es : List Ent}, p ≤ es.length → e ∈ insE p e es ∧ ∀ x, x ∈ es → x ∈ insE p e es
  | 0, e, es, _ => ⟨List.mem_cons_self .., fun x hx => List.mem_cons_of_mem _ hx⟩
  | p + 1, e, [], hp => by simp at hp
  | p + 1, e, a :: es, hp => by
    obtain ⟨h1, h2⟩ := insE_has (p := p) (e := e) (es := es) (by simpa using hp)
    refine ⟨List.mem_cons_of_mem _ h1, fun x hx => ?_⟩
    rcases List.mem_cons.1 hx with rfl | hx
    · exact List.mem_cons_self ..
    · exact List.mem_cons_of_mem _ (h2 x hx)
/-- what is in the tree behind a put -/
theorem newSg_mem {sg : Sigs} {c p : Nat} {e : Ent} {f : Value} {es : List Ent} (h : sg[c]? = some (f, es)) (hp : p ≤ es.length) (x : Ent) : x ∈ allOf (newSg sg c p e f es) ↔ x = e ∨ x ∈ allOf sg := by
  rw [newSg_all, sg_split h]
  simp only [List.mem_append]
  have hi := insE_has (e := e) hp
  constructor
  · rintro ((h | h) | h)
    · exact .inr (.inl (.inl h))
    · rcases insE_mem h with rfl | h
      · exact .inl rfl
      · exact .inr (.inl (.inr h))
    · exact .inr (.inr h)
  · rintro (rfl | (h | h) | h)
    · exact .inl (.inr hi.1)
    · exact .inl (.inl h)
    · exact .inl (.inr (hi.2 x h))
    · exact .inr h
theorem newSg_len {sg : Sigs} {c p : Nat} {e : Ent} {f : Value} {es : List Ent} (h : sg[c]? = some (f, es)) (hp : p ≤ es.length) : (allOf (newSg sg c p e f es)).length = (allOf sg).length + 1 := by
  rw [newSg_all, sg_split h]
  simp only [List.length_append, insE_len hp]
  omega
theorem insE_head {p : Nat} {e a : Ent} {r : List Ent} (hp : 0 < p) : ∃ r', insE p e (a :: r) = a :: r' := by
  cases p with
  | zero => omega
  | succ p => exact ⟨_, rfl⟩
theorem newSigs_get {f : Value} {es : List Ent} {j : Nat} {s : Value × List Ent} (h : (newSigs f es)[j]? = some s) (hl : es.length ≤ 17) : (j = 0 ∧ s.1 = f ∧ (s.2 = es ∧ es.length ≤ 16 ∨ s.2 = es.take 8 ∧ es.length = 17)) ∨ (j = 1 ∧ es.length = 17 ∧ s.1 = keyV es 8 ∧ s.2 = es.drop 8) := by
  unfold newSigs at h
  split at h
  · rename_i h16
    match j, h with
    | 0, h =>
      simp only [List.getElem?_cons_zero, Option.some.injEq] at h
      subst h
      exact .inl ⟨rfl, rfl, .inl ⟨rfl, h16⟩⟩
    | j + 1, h => simp at h
  · rename_i h16
    match j, h with
    | 0, h =>
      simp only [List.getElem?_cons_zero, Option.some.injEq] at h
      subst h
      exact .inl ⟨rfl, rfl, .inr ⟨rfl, by omega⟩⟩
    | 1, h =>
      simp only [List.getElem?_cons_succ, List.getElem?_cons_zero, Option.some.injEq] at h
      subst h
      exact .inr ⟨rfl, by omega, rfl, rfl⟩
    | j + 2, h => simp at h
theorem newSigs_len (f : Value) (es : List Ent) : (newSigs f es).length = if es.length ≤ 16 then 1 else 2 := by
  unfold newSigs
  split <;> rfl
theorem newSg_get {sg : Sigs} {c p : Nat} {e : Ent} {f : Value} {es : List Ent} (hc : c < sg.length) {i : Nat} {s : Value × List Ent} (h : (newSg sg c p e f es)[i]? = some s) :
    (i < c ∧ sg[i]? = some s) ∨ (c ≤ i ∧ (newSigs f (insE p e es))[i - c]? = some s) ∨ (c < i ∧ ∃ j, c < j ∧ sg[j]? = some s) := by
  unfold newSg at h
  rw [List.append_assoc, List.getElem?_append, List.length_take, Nat.min_eq_left (by omega)] at h
  split at h
  · rename_i hi
    rw [List.getElem?_take, if_pos hi] at h
    exact .inl ⟨hi, h⟩
  · rename_i hi
    rw [List.getElem?_append] at h
    split at h
    · exact .inr (.inl ⟨by omega, h⟩)
    · rename_i hn
      rw [List.getElem?_drop] at h
      refine .inr (.inr ⟨?_, _, by omega, h⟩)
      have := newSigs_len f (insE p e es)
      split at this <;> omega
theorem inv_put {sg : Sigs} (h : TInv sg) {c p : Nat} {e : Ent} {f : Value} {es : List Ent} (hl : Locate e.kb sg c f es p) (he : e.kb ≠ []) : TInv (newSg sg c p e f es) := by
  have hc := getElem?_lt hl.at_
  have hmem : (f, es) ∈ sg := List.mem_of_getElem? hl.at_
  have h16 := h.small _ hmem
  have hil : (insE p e es).length = es.length + 1 := insE_len hl.le
  have h17 : (insE p e es).length ≤ 17 := by rw [hil]; have : es.length ≤ 16 := h16; omega
  have hsp := sg_split hl.at_
  have hsorted := h.sorted
  rw [hsp] at hsorted
  obtain ⟨s1, s2, s3⟩ := List.pairwise_append.1 hsorted
  obtain ⟨s4, s5, s6⟩ := List.pairwise_append.1 s1
  have hlo : ∀ x, x ∈ allOf (sg.take c) → Lt x.kb e.kb := by
    intro x hx
    obtain ⟨s, hs, hxs⟩ := List.mem_flatMap.1 hx
    obtain ⟨i, hi, rfl⟩ := List.getElem_of_mem hs
    have h1 := List.getElem?_eq_getElem hi
    rw [List.getElem?_take] at h1
    split at h1
    · exact hl.lo i _ ‹_› h1 x hxs
    · cases h1
  have hhi : ∀ x, x ∈ allOf (sg.drop (c + 1)) → Lt e.kb x.kb := by
    intro x hx
    obtain ⟨s, hs, hxs⟩ := List.mem_flatMap.1 hx
    obtain ⟨i, hi, rfl⟩ := List.getElem_of_mem hs
    have h1 := List.getElem?_eq_getElem hi
    rw [List.getElem?_drop] at h1
    exact hl.hi _ _ (by omega) h1 x hxs
  refine ⟨?_, fun s hs => ?_, fun i s hi hs => ?_, ?_, fun x hx => ?_, fun s hs => ?_, fun hlen s hs => ?_⟩
  · unfold newSg newSigs
    split <;> simp
  · rcases newSg_get hc hs with ⟨h0, h1⟩ | ⟨h0, h1⟩ | ⟨h0, _⟩
    · exact h.first s h1
    · have hc0 : c = 0 := by omega
      subst hc0
      rcases newSigs_get h1 h17 with ⟨_, g, _⟩ | ⟨g, _⟩
      · rw [g]; exact h.first _ hl.at_
      · omega
    · omega
  · rcases newSg_get hc hs with ⟨h0, h1⟩ | ⟨h0, h1⟩ | ⟨h0, j, hj, h1⟩
    · exact h.firsts i s hi h1
    · rcases newSigs_get h1 h17 with ⟨g0, g1, g2⟩ | ⟨g0, g1, g2, g3⟩
      · have hc0 : 0 < c := by omega
        obtain ⟨a, r, k1, k2⟩ := h.firsts c _ hc0 hl.at_
        have k1' : es = a :: r := k1
        have k2' : f = a.k := k2
        obtain ⟨r', hr'⟩ := insE_head (e := e) (a := a) (r := r) (hl.pos hc0)
        rw [← k1'] at hr'
        rcases g2 with ⟨g2, _⟩ | ⟨g2, _⟩
        · exact ⟨a, r', by rw [g2, hr'], by rw [g1, k2']⟩
        · exact ⟨a, r'.take 7, by rw [g2, hr']; rfl, by rw [g1, k2']⟩
      · have h8 : 8 < (insE p e es).length := by omega
        refine ⟨(insE p e es)[8], (insE p e es).drop 9, ?_, ?_⟩
        · rw [g3, ← List.getElem_cons_drop h8]
        · rw [g2]
          unfold keyV
          rw [List.getElem?_eq_getElem h8]; rfl
    · exact h.firsts j s (by omega) h1
  · rw [newSg_all]
    refine List.pairwise_append.2 ⟨List.pairwise_append.2 ⟨s4, insE_sorted s5 hl.le hl.side, fun a ha b hb => ?_⟩, s2, fun a ha b hb => ?_⟩
    · rcases insE_mem hb with rfl | hb
      · exact hlo a ha
      · exact s6 a ha b hb
    · rcases List.mem_append.1 ha with ha | ha
      · exact s3 a (List.mem_append.2 (.inl ha)) b hb
      · rcases insE_mem ha with rfl | ha
        · exact hhi b hb
        · exact s3 a (List.mem_append.2 (.inr ha)) b hb
  · rcases (newSg_mem hl.at_ hl.le x).1 hx with rfl | hx
    · exact he
    · exact h.keys x hx
  · obtain ⟨i, hi, rfl⟩ := List.getElem_of_mem hs
    rcases newSg_get hc (List.getElem?_eq_getElem hi) with ⟨_, h1⟩ | ⟨_, h1⟩ | ⟨_, j, _, h1⟩
    · exact h.small _ (List.mem_of_getElem? h1)
    · rcases newSigs_get h1 h17 with ⟨_, _, ⟨g, g'⟩ | ⟨g, g'⟩⟩ | ⟨_, g', _, g⟩
      · rw [g]; exact g'
      · rw [g, List.length_take]; omega
      · rw [g, List.length_drop]; omega
    · exact h.small _ (List.mem_of_getElem? h1)
  · obtain ⟨i, hi, rfl⟩ := List.getElem_of_mem hs
    have hold : 1 < sg.length ∨ sg.length = 1 := by omega
    rcases newSg_get hc (List.getElem?_eq_getElem hi) with ⟨h0, h1⟩ | ⟨_, h1⟩ | ⟨h0, j, hj, h1⟩
    · exact h.big (by omega) _ (List.mem_of_getElem? h1)
    · rcases newSigs_get h1 h17 with ⟨_, _, ⟨g, g'⟩ | ⟨g, g'⟩⟩ | ⟨_, g', _, g⟩
      · rw [g, hil]
        rcases hold with hold | hold
        · have := h.big hold _ hmem
          have : 8 ≤ es.length := this
          omega
        · exfalso
          have hlen' := hlen
          unfold newSg at hlen'
          rw [List.length_append, List.length_append, newSigs_len, if_pos g', List.length_take, List.length_drop] at hlen'
          omega
      · rw [g, List.length_take]; omega
      · rw [g, List.length_drop]; omega
    · have := getElem?_lt h1
      exact h.big (by omega) _ (List.mem_of_getElem? h1)
end Go.AM

namespace Go.AM
variable {P : Program}

/- ### put and next in a tree -/
structure BRuns (P : Program) (G fp fn : Nat) (KB : Nat → Nat → Nat → Nat → Nat → KH) (N : Nat) : Prop where
  glob : P.globals.size = G
  pos : 0 < G
  le : G ≤ 60000
  sound : ∀ (T : Tok) m c s s2 p, T.strong = true → CmpT T m c s s2 p → @KSound T P (KB m c s s2 p)
  putL : ∀ s p, s ≤ 16 → p ≤ s → putLRun (KB 0 0 s 0 p) fp G 0 .none s p = true
  putN : ∀ m c s p, 2 ≤ m → c < m → 8 ≤ s → s ≤ 16 → 8 * (m - 1) + s ≤ N → p ≤ s → putNRun (KB m c s 0 p) fp G 0 .none m c s p = true
  nextL : ∀ s p, s ≤ 16 → p ≤ s → nextLRun (KB 0 0 s 0 p) fn G 0 .none s p = true
  nextN : ∀ m c s p, 2 ≤ m → c < m → 8 ≤ s → s ≤ 16 → 8 * (m - 1) + s ≤ N → p ≤ s → p < s ∨ c + 1 = m → nextNRun (KB m c s 0 p) fn G 0 .none m c s 0 p = true
  nextE : ∀ m c s s2, c + 1 < m → 8 ≤ s → s ≤ 16 → 8 ≤ s2 → s2 ≤ 16 → 8 * (m - 2) + s + s2 ≤ N → nextNRun (KB m c s s2 s) fn G 0 .none m c s s2 s = true
theorem len_ge : ∀ {sg : Sigs}, (∀ s, s ∈ sg → 8 ≤ s.2.length) → 8 * sg.length ≤ (allOf sg).length
  | [], _ => Nat.le_refl _
  | s :: sg, h => by
    have h1 := h s (List.mem_cons_self ..)
    have h2 := len_ge (sg := sg) fun t ht => h t (List.mem_cons_of_mem _ ht)
    have e : (allOf (s :: sg)).length = s.2.length + (allOf sg).length := by simp [allOf]
    rw [e, List.length_cons]; omega
theorem len_one {sg : Sigs} (h : ∀ s, s ∈ sg → 8 ≤ s.2.length) {c : Nat} {f : Value} {es : List Ent} (hc : sg[c]? = some (f, es)) : 8 * (sg.length - 1) + es.length ≤ (allOf sg).length := by
  have hlt := getElem?_lt hc
  have h1 := len_ge (sg := sg.take c) fun s hs => h s (List.mem_of_mem_take hs)
  have h2 := len_ge (sg := sg.drop (c + 1)) fun s hs => h s (List.mem_of_mem_drop hs)
  rw [sg_split hc, List.length_append, List.length_append]
  rw [List.length_take] at h1
  rw [List.length_drop] at h2
  omega
theorem len_two {sg : Sigs} (h : ∀ s, s ∈ sg → 8 ≤ s.2.length) {c : Nat} {f g : Value} {es fs : List Ent} (hc : sg[c]? = some (f, es)) (hd : sg[c + 1]? = some (g, fs)) : 8 * (sg.length - 2) + es.length + fs.length ≤ (allOf sg).length := by
  have hlt := getElem?_lt hd
  have h1 := len_ge (sg := sg.take c) fun s hs => h s (List.mem_of_mem_take hs)
  have h2 := len_one (sg := sg.drop (c + 1)) (fun s hs => h s (List.mem_of_mem_drop hs)) (c := 0) (f := g) (es := fs) (by rw [List.getElem?_drop]; exact hd)
  rw [sg_split hc, List.length_append, List.length_append]
  rw [List.length_take] at h1
  rw [List.length_drop] at h2
  omega
theorem firsts_at {H : Heap} {ls : List Kid} (hI : TInv (ls.map sig)) (hk : ∀ K, K ∈ ls → KidAt H K) {kb : List UInt8} (hkb : kb ≠ []) {c p : Nat} {f : Value} {es : List Ent} (hl : Locate kb (ls.map sig) c f es p) : FirstsAt H c kb ls := by
  intro i L hi
  have hs : (ls.map sig)[i]? = some (sig L) := by rw [List.getElem?_map, hi]; rfl
  have hL := hk L (List.mem_of_getElem? hi)
  rcases Nat.eq_zero_or_pos i with h0 | h0
  · subst h0
    have hf : L.f = nilS := hI.first _ hs
    refine ⟨[], by rw [hf]; exact .inl ⟨rfl, rfl⟩, fun _ => Lt.nil hkb, fun h => by omega⟩
  · obtain ⟨a, r, k1, k2⟩ := hI.firsts i _ h0 hs
    have k1' : L.es = a :: r := k1
    have k2' : L.f = a.k := k2
    have ha : a ∈ L.es := by rw [k1']; exact List.mem_cons_self ..
    refine ⟨a.kb, by rw [k2']; exact (hL.2.2.1 a ha).1, fun h => ?_, fun h => ?_⟩
    · rcases Nat.lt_or_ge i c with hc | hc
      · exact hl.lo i _ hc hs a ha
      · have hic : i = c := by omega
        subst hic
        have := hl.at_
        rw [hs] at this
        have e : L.es = es := by injection this with this; exact congrArg Prod.snd this
        have hp := hl.pos h0
        exact (hl.side 0 a (by rw [← e, k1']; rfl)).1 hp
    · exact (hl.hi i _ h hs a ha).gt
/-- PUT -/
theorem tree_put {G fp fn N : Nat} {KB : Nat → Nat → Nat → Nat → Nat → KH} (R : BRuns P G fp fn KB N) (hN90 : N ≤ 700) {w : World} (hgs : G ≤ w.heap.size) {H : Heap} (hH : In H w) {root : Value} {sg : Sigs} {e : Ent} (h : TreeIs H root sg) (hI : TInv sg) (hN : (allOf sg).length ≤ N) (he : EntOk H e) (hne : e.kb ≠ [])
    (hnew : ∀ x, x ∈ allOf sg → x.kb ≠ e.kb) :
    Ends P fp #[root, .agg #[e.k, e.v]] w fun cv w' => Left' w w' ∧ ∃ sl xs sg', cv = .tuple #[sl, .bool true] ∧ RowAt (upd H w w') 1 sl xs.length (xs.map ptrV) ∧ TInv sg' ∧ (∀ x, x ∈ allOf sg' ↔ x = e ∨ x ∈ allOf sg) ∧ (allOf sg').length = (allOf sg).length + 1 ∧
      ((∃ x, xs = [x] ∧ TreeIs (upd H w w') (ptrV x) sg') ∨ ∃ K1 K2 : Kid, xs = [K1.x, K2.x] ∧ sg' = [sig K1, sig K2] ∧ KidAt (upd H w w') K1 ∧ KidAt (upd H w w') K2) := by
  obtain ⟨c, f, es, p, hl⟩ := locate hI.ne hI.sorted hnew fun i s hi hs => by
    obtain ⟨a, r, k1, _⟩ := hI.firsts i s hi hs
    rw [k1]; simp
  have hI' := inv_put hI hl hne
  have hmem := fun x => newSg_mem (e := e) hl.at_ hl.le x
  have hlen := newSg_len (e := e) hl.at_ hl.le
  have hs16 := hI.small _ (List.mem_of_getElem? hl.at_)
  cases h with
  | one x f' es' h1 h2 h3 h4 h5 =>
    subst h1
    subst h2
    have hc0 : c = 0 := by have := getElem?_lt hl.at_; simp at this; omega
    subst hc0
    have hat := hl.at_
    simp only [List.getElem?_cons_zero, Option.some.injEq, Prod.mk.injEq] at hat
    obtain ⟨rfl, rfl⟩ := hat
    have hf : f' = nilS := hI.first _ rfl
    have hsg : newSg [(f', es')] 0 p e f' es' = newSigs f' (insE p e es') := by simp [newSg]
    obtain ⟨hek, vb, hev⟩ := he
    refine (putL_ok R.glob R.pos R.le hgs hH (fun T hst hc => R.sound T _ _ _ _ _ hst hc) (R.putL _ p hs16 hl.le) hs16 hl.le h3 h4 h5 hek hev hl.side).mono fun cv w' ⟨hleft, sl, xs, k1, k2, k3⟩ => ⟨hleft, sl, xs, _, k1, k2, hI', hmem, hlen, ?_⟩
    have hent : ∀ x, x ∈ insE p e es' → EntOk (upd H w w') x := insE_sub (EntOk.mono ⟨hek, vb, hev⟩ (upd_mono hH)) fun x hx => (h5 x hx).mono (upd_mono hH)
    rw [hsg]
    rw [← insE_kvs] at k3
    rcases k3 with ⟨q1, x', rfl, q2⟩ | ⟨q1, x', y', g, rfl, q2, q3, q4⟩
    · rw [kvs_len] at q1
      refine .inl ⟨x', rfl, .one x' f' (insE p e es') rfl ?_ h3 q2 hent⟩
      unfold newSigs
      rw [if_pos q1]
    · rw [kvs_len] at q1
      rw [← kvs_take] at q2
      rw [← kvs_drop] at q3
      have h8 : 8 < (insE p e es').length := by rw [q1]; decide
      have hg : keyV (insE p e es') 8 = g := by
        cases hq : (kvs (insE p e es'))[8]? with
        | none => rw [hq] at q4; cases q4
        | some q => rw [hq] at q4; cases q4; exact (kvs_get hq).1
      obtain ⟨K1, a1, a2, a3⟩ := leafAt_kid q2 (fun x hx => hent x (List.mem_of_mem_take hx)) ⟨[], by rw [hf]; exact .inl ⟨rfl, rfl⟩⟩
      obtain ⟨K2, b1, b2, b3⟩ := leafAt_kid q3 (fun x hx => hent x (List.mem_of_mem_drop hx)) ⟨(insE p e es')[8].kb, by
        rw [← hg]
        unfold keyV
        rw [List.getElem?_eq_getElem h8]
        exact (hent _ (List.getElem_mem h8)).1⟩
      refine .inr ⟨K1, K2, by rw [a1, b1], ?_, a3, b3⟩
      unfold newSigs
      rw [if_neg (by rw [q1]; decide), a2, b2, hg]
  | many x f0 ls h1 h2 h3 h4 h5 =>
    subst h1
    subst h2
    have hat := hl.at_
    rw [List.getElem?_map] at hat
    cases hK : ls[c]? with
    | none => rw [hK] at hat; cases hat
    | some Kc =>
      rw [hK] at hat
      simp only [Option.map_some, Option.some.injEq] at hat
      have hf : Kc.f = f := congrArg Prod.fst hat
      have hes : Kc.es = es := congrArg Prod.snd hat
      subst hf
      subst hes
      have hml : (ls.map sig).length = ls.length := List.length_map _
      have hbig := hI.big (by rw [hml]; exact h5)
      have h8 : 8 ≤ Kc.es.length := hbig _ (List.mem_of_getElem? hl.at_)
      have hcl := getElem?_lt hK
      have hsum := len_one hbig hl.at_
      rw [hml] at hsum
      have hkids : ∀ K, K ∈ ls → KidAt H K := by obtain ⟨_, _, _, t⟩ := h4; exact t
      refine (putN_ok R.glob R.pos R.le hgs hH h4 hK (fun T hst hc => R.sound T _ _ _ _ _ hst hc) (R.putN _ c _ p h5 hcl h8 hs16 (by omega) hl.le) (by omega) hs16 hl.le (by omega) h3 he hl.side (firsts_at hI hkids hne hl)).mono fun cv w' ⟨hleft, sl, x', ks, k1, k2, k3, k4⟩ => ⟨hleft, sl, [x'], _, k1, k2, hI', hmem, hlen, .inl ⟨x', rfl, ?_⟩⟩
      have hsg : newSg (ls.map sig) c p e Kc.f Kc.es = ks.map sig := by
        rw [k4]
        unfold newSg
        rw [List.map_take, List.map_drop]
      rw [hsg]
      refine .many x' f0 ks rfl rfl h3 k3 ?_
      have e1 := congrArg List.length k4
      rw [List.length_map, List.length_append, List.length_append, List.length_map, List.length_map, List.length_take, List.length_drop, newSigs_len] at e1
      split at e1 <;> omega
/-- what a look for the least key above tells -/
def IsNext (kb : List UInt8) (l : List Ent) (r : Option Ent) : Prop := match r with
  | none => ∀ x, x ∈ l → Lt x.kb kb
  | some x => x ∈ l ∧ Lt kb x.kb ∧ ∀ y, y ∈ l → Lt kb y.kb → y = x ∨ Lt x.kb y.kb
/-- NEXT -/
theorem tree_next {G fp fn N : Nat} {KB : Nat → Nat → Nat → Nat → Nat → KH} (R : BRuns P G fp fn KB N) (hN90 : N ≤ 700) {w : World} (hgs : G ≤ w.heap.size) {H : Heap} (hH : In H w) {root : Value} {sg : Sigs} {k : Value} {kb : List UInt8} (h : TreeIs H root sg) (hI : TInv sg) (hN : (allOf sg).length ≤ N) (hk : BytesAt H k kb) (hne : kb ≠ [])
    (hnew : ∀ x, x ∈ allOf sg → x.kb ≠ kb) : Ends P fn #[root, k, .bool false] w fun cv w' => Left' w w' ∧ ∃ r, Told cv r ∧ IsNext kb (allOf sg) r := by
  obtain ⟨c, f, es, p, hl⟩ := locate hI.ne hI.sorted hnew fun i s hi hs => by
    obtain ⟨a, r, k1, _⟩ := hI.firsts i s hi hs
    rw [k1]; simp
  have hs16 := hI.small _ (List.mem_of_getElem? hl.at_)
  have hsorted := hI.sorted
  rw [sg_split hl.at_] at hsorted
  obtain ⟨s1, s2, s3⟩ := List.pairwise_append.1 hsorted
  obtain ⟨s4, s5, s6⟩ := List.pairwise_append.1 s1
  have hlo : ∀ x, x ∈ allOf (sg.take c) → Lt x.kb kb := by
    intro x hx
    obtain ⟨s, hs, hxs⟩ := List.mem_flatMap.1 hx
    obtain ⟨i, hi, rfl⟩ := List.getElem_of_mem hs
    have h1 := List.getElem?_eq_getElem hi
    rw [List.getElem?_take] at h1
    split at h1
    · exact hl.lo i _ ‹_› h1 x hxs
    · cases h1
  have notlt : ∀ {a b : List UInt8}, Lt a b → Lt b a → False := fun h1 h2 => by have := (h1.trans h2); have e := lexC_refl; unfold Lt at this; rw [e] at this; cases this
  -- the pair at p
  have here : ∀ hp : p < es.length, IsNext kb (allOf sg) es[p]? := by
    intro hp
    rw [List.getElem?_eq_getElem hp]
    have hgt := Lt.of_gt ((hl.side p _ (List.getElem?_eq_getElem hp)).2 (Nat.le_refl _))
    refine ⟨by rw [sg_split hl.at_]; exact List.mem_append.2 (.inl (List.mem_append.2 (.inr (List.getElem_mem hp)))), hgt, fun y hy hky => ?_⟩
    rw [sg_split hl.at_] at hy
    rcases List.mem_append.1 hy with hy | hy
    · rcases List.mem_append.1 hy with hy | hy
      · exact (notlt (hlo y hy) hky).elim
      · obtain ⟨j, hj, rfl⟩ := List.getElem_of_mem hy
        rcases Nat.lt_or_ge j p with hjp | hjp
        · exact (notlt ((hl.side j _ (List.getElem?_eq_getElem hj)).1 hjp) hky).elim
        · rcases Nat.lt_or_eq_of_le hjp with hjp | hjp
          · exact .inr (List.pairwise_iff_getElem.1 s5 p j hp hj hjp)
          · subst hjp; exact .inl rfl
    · exact .inr (s3 _ (List.mem_append.2 (.inr (List.getElem_mem hp))) y hy)
  -- none in this leaf
  have below : es.length ≤ p → ∀ x, x ∈ allOf (sg.take c) ++ es → Lt x.kb kb := by
    intro hp x hx
    rcases List.mem_append.1 hx with hx | hx
    · exact hlo x hx
    · obtain ⟨j, hj, rfl⟩ := List.getElem_of_mem hx
      exact (hl.side j _ (List.getElem?_eq_getElem hj)).1 (by omega)
  cases h with
  | one x f' es' h1 h2 h3 h4 h5 =>
    subst h1
    subst h2
    have hc0 : c = 0 := by have := getElem?_lt hl.at_; simp at this; omega
    subst hc0
    have hat := hl.at_
    simp only [List.getElem?_cons_zero, Option.some.injEq, Prod.mk.injEq] at hat
    obtain ⟨rfl, rfl⟩ := hat
    refine (nextL_ok R.glob R.pos R.le hgs hH (fun T hst hc => R.sound T _ _ _ _ _ hst hc) (R.nextL _ p hs16 hl.le) hs16 hl.le h3 h4 h5 hk hl.side).mono fun cv w' ⟨hleft, ht⟩ => ⟨hleft, _, ht, ?_⟩
    rcases Nat.lt_or_ge p es'.length with hp | hp
    · exact here hp
    · rw [List.getElem?_eq_none hp]
      intro x hx
      refine below hp x ?_
      have e1 : allOf [(f', es')] = es' := by simp [allOf]
      rw [e1] at hx
      exact List.mem_append.2 (.inr hx)
  | many x f0 ls h1 h2 h3 h4 h5 =>
    subst h1
    subst h2
    have hat := hl.at_
    rw [List.getElem?_map] at hat
    cases hK : ls[c]? with
    | none => rw [hK] at hat; cases hat
    | some Kc =>
      rw [hK] at hat
      simp only [Option.map_some, Option.some.injEq] at hat
      have hf : Kc.f = f := congrArg Prod.fst hat
      have hes : Kc.es = es := congrArg Prod.snd hat
      subst hf
      subst hes
      have hml : (ls.map sig).length = ls.length := List.length_map _
      have hbig := hI.big (by rw [hml]; exact h5)
      have h8 : 8 ≤ Kc.es.length := hbig _ (List.mem_of_getElem? hl.at_)
      have hcl := getElem?_lt hK
      have hsum := len_one hbig hl.at_
      rw [hml] at hsum
      have hkids : ∀ K, K ∈ ls → KidAt H K := by obtain ⟨_, _, _, t⟩ := h4; exact t
      have hF := firsts_at hI hkids hne hl
      have run0 : p < Kc.es.length ∨ c + 1 = ls.length → Ends P fn #[ptrV x, k, .bool false] w fun cv w' => Left' w w' ∧ Told cv (if p < Kc.es.length then Kc.es[p]? else ([] : List Ent)[0]?) := fun hcase =>
        nextN_ok R.glob R.pos R.le hgs hH h4 hK (.inl rfl) (fun T hst hc => R.sound T _ _ _ _ _ hst hc) (R.nextN _ c _ p h5 hcl h8 hs16 (by omega) hl.le hcase) (by omega) hs16 (Nat.zero_le _) hl.le (by omega) h3 hk hl.side (fun j e h => by simp at h) hF
      rcases Nat.lt_or_ge p Kc.es.length with hp | hp
      · refine (run0 (.inl hp)).mono fun cv w' ⟨hleft, ht⟩ => ⟨hleft, _, ht, ?_⟩
        rw [if_pos hp]
        exact here hp
      · have hpe : p = Kc.es.length := by have := hl.le; omega
        rcases Nat.lt_or_ge (c + 1) ls.length with hc1 | hc1
        · -- the next leaf
          have hK2 := List.getElem?_eq_getElem hc1
          generalize ls[c + 1] = K2 at hK2
          have hs2 : (ls.map sig)[c + 1]? = some (K2.f, K2.es) := by rw [List.getElem?_map, hK2]; rfl
          have hmem2 := List.mem_of_getElem? hs2
          have h82 : 8 ≤ K2.es.length := hbig _ hmem2
          have h162 : K2.es.length ≤ 16 := hI.small _ hmem2
          have hsum2 := len_two hbig hl.at_ hs2
          rw [hml] at hsum2
          have hS2 : Side 0 kb K2.es := fun j e hj => ⟨fun h => by omega, fun _ => (hl.hi (c + 1) _ (by omega) hs2 e (List.mem_of_getElem? hj)).gt⟩
          refine (nextN_ok R.glob R.pos R.le hgs hH h4 hK (.inr ⟨K2, hK2, rfl, by omega⟩) (fun T hst hc => R.sound T _ _ _ _ _ hst hc) (by rw [hpe]; exact R.nextE _ c _ _ hc1 h8 hs16 h82 h162 (by omega)) (by omega) hs16 h162 hl.le (by omega) h3 hk hl.side hS2 hF).mono fun cv w' ⟨hleft, ht⟩ => ⟨hleft, _, ht, ?_⟩
          rw [if_neg (by omega), List.getElem?_eq_getElem (by omega : 0 < K2.es.length)]
          have hd : (K2.f, K2.es) ∈ (ls.map sig).drop (c + 1) := List.mem_of_getElem? (i := 0) (by rw [List.getElem?_drop]; exact hs2)
          have h0 : K2.es[0] ∈ allOf ((ls.map sig).drop (c + 1)) := List.mem_flatMap.2 ⟨_, hd, List.getElem_mem _⟩
          refine ⟨by rw [sg_split hl.at_]; exact List.mem_append.2 (.inr h0), hl.hi (c + 1) _ (by omega) hs2 _ (List.getElem_mem _), fun y hy hky => ?_⟩
          rw [sg_split hl.at_] at hy
          rcases List.mem_append.1 hy with hy | hy
          · exact (notlt (below hp y hy) hky).elim
          · have e2 : allOf ((ls.map sig).drop (c + 1)) = K2.es ++ allOf ((ls.map sig).drop (c + 2)) := by
              have := sg_split (sg := (ls.map sig).drop (c + 1)) (c := 0) (f := K2.f) (es := K2.es) (by rw [List.getElem?_drop]; exact hs2)
              rw [this, List.take_zero, List.drop_drop]
              simp [allOf]
            obtain ⟨a, r, hr⟩ : ∃ a r, K2.es = a :: r := by cases hq : K2.es with
              | nil => rw [hq] at h82; simp at h82
              | cons a r => exact ⟨a, r, rfl⟩
            rw [e2] at hy s2
            have h00 : K2.es[0] = a := by simp [hr]
            rw [h00]
            rw [hr, List.cons_append] at hy s2
            rcases List.mem_cons.1 hy with rfl | hy
            · exact .inl rfl
            · exact .inr ((List.pairwise_cons.1 s2).1 y hy)
        · refine (run0 (.inr (by omega))).mono fun cv w' ⟨hleft, ht⟩ => ⟨hleft, _, ht, ?_⟩
          rw [if_neg (by omega)]
          intro y hy
          rw [sg_split hl.at_] at hy
          rcases List.mem_append.1 hy with hy | hy
          · exact below hp y hy
          · rw [List.drop_of_length_le (by rw [hml]; omega)] at hy
            cases hy
end Go.AM

namespace Go.AM
variable {P : Program}

/- ### memories with blocks that are written; what lies in new blocks -/
def freshNs (n : Nat) : List Nat → Bool
  | [] => true
  | x :: l => and (Nat.ble n x) (freshNs n l)
theorem freshNs_ok {n : Nat} : ∀ {l : List Nat}, freshNs n l = true → ∀ x, x ∈ l → n ≤ x
  | [], _, x, h => by cases h
  | y :: l, h, x, hx => by
    have h' : and (Nat.ble n y) (freshNs n l) = true := h
    simp only [Bool.and_eq_true, ble_true] at h'
    rcases List.mem_cons.1 hx with rfl | hx
    · exact h'.1
    · exact freshNs_ok h'.2 x hx
def noH : Heap := fun _ => none
theorem upd_no {H : Heap} {w w' : World} : ∀ b o, upd noH w w' b = some o → upd H w w' b = some o := fun b o h => by
  unfold upd at h ⊢
  split at h
  · cases h
  · rename_i hb
    rw [if_neg hb]; exact h
theorem upd_in {H : Heap} {w w' : World} (hH : In H w) (hl : Left' w w') : In (upd H w w') w' := fun b o h => by
  unfold upd at h
  split at h
  · rename_i hb
    rw [hl.1 b hb]; exact hH b o h
  · exact h
theorem upd_none {H : Heap} {w w' : World} {p : Nat} (hp : p < w.heap.size) (h : H p = none) : upd H w w' p = none := by
  unfold upd
  rw [if_pos hp]; exact h
theorem tells_new {T : Tok} {G : Nat} (h0 : 0 < G) {ns : List Nat} {φ φ' : Phi} {m m' : Mem} {w w' : World} {E : List Blk} (hst : @Step T P φ m w φ' m' w') (hro : ∀ q, q < m.next → (m.get q).wr = false) (hf : freshNs m.next ns = true) (h : absMem (idMap G ns) 0 .none E m' = true) :
    Tells (absPhi (idMap G ns) φ') (mkMem G 0 .none E) (upd noH w w') w' := by
  intro p x hp hl
  unfold absPhi at hp
  split at hp
  · rename_i hlt
    obtain ⟨h1, h2⟩ := absMem_live (@Rel.bound T P _ _ _ (@Step.rel T P _ _ _ _ _ _ hst)) h rfl hlt hl
    unfold upd
    split
    · rename_i hx
      have hpG : G < p := by
        rcases Nat.lt_or_ge G p with hg | hg
        · exact hg
        · exfalso
          have hb : (idMap G ns).top ≤ 65536 := by
            unfold absMem at h
            simp only [Bool.and_eq_true, ble_true] at h
            exact h.1.1.2
          have hlen : E.length = ns.length := by
            unfold absMem at h
            simp only [Bool.and_eq_true, ble_true] at h
            exact (chkL_ok h.2.2).1
          rw [top_eq] at hb
          have hb' : G + 1 + ns.length ≤ 65536 := hb
          rw [mkMem_get h0 (by rw [hlen]; exact hb') (by omega), if_neg (by omega)] at hl
          split at hl <;> cases hl
      have hq : m.next ≤ (idMap G ns).nm p := by
        rw [nm_high (show (idMap G ns).G < p from hpG)]
        rw [top_eq] at hlt
        have hlt' : p < G + 1 + ns.length := hlt
        have h4 : p - (G + 1) < ns.length := by omega
        show m.next ≤ (ns[p - (G + 1)]?).getD 0
        rw [List.getElem?_eq_getElem h4]
        exact freshNs_ok hf _ (List.getElem_mem h4)
      obtain ⟨q, o', s', g1, g2, _⟩ := @Step.img T P _ _ _ _ _ _ hst _ x.1 x.2.1 x.2.2 hq h1 h2 hp hx
      rw [hro q g1] at g2; cases g2
    · rfl
  · cases hp
end Go.AM

namespace Go.AM
variable {P : Program}

/- ### a row's clone -/
def oqs : Nat → Nat → List AVal
  | 0, _ => []
  | n + 1, a => .opq a :: oqs n (Nat.succ a)
noncomputable def cloneRun (K : KH) (f G n : Nat) : Bool :=
  match K f [.slice (Nat.succ G) 0 n n false 1] (mkMem G 0 .none [.cells true (oqs n 0)]) with
  | .ok x m => and (freshNs (Nat.add 2 G) [nmOf x]) (putChk (idMap G [nmOf x]) 0 .none n [.cells true (oqs n 0)] x true m)
  | .fail _ => false
theorem oqs_len : ∀ n a : Nat, (oqs n a).length = n
  | 0, _ => rfl
  | n + 1, a => by show (oqs n (a + 1)).length + 1 = _; rw [oqs_len n (a + 1)]
theorem oqs_opq : ∀ {n a : Nat} {v : AVal}, v ∈ oqs n a → isOpqB v = true
  | 0, _, _, h => by cases h
  | n + 1, a, v, h => by
    rcases List.mem_cons.1 h with rfl | h
    · rfl
    · exact oqs_opq h
theorem isOpq_cell {v : AVal} (h : isOpqB v = true) : v.isCell = true := by cases v <;> first | rfl | (cases h; done)
theorem oqs_rel {T : Tok} {φ : Phi} : ∀ (vs : List Value) (a : Nat), (∀ j v, vs[j]? = some v → T.val (a + j) = v) → @VsRel T φ (oqs vs.length a) vs
  | [], _, _ => @VsRel.nil T φ
  | v :: vs, a, h => by
    have ih := oqs_rel (T := T) (φ := φ) vs (a + 1) fun j u hj => by
      have := h (j + 1) u (by rw [List.getElem?_cons_succ]; exact hj)
      rwa [show a + (j + 1) = a + 1 + j by omega] at this
    refine @VsRel.cons T φ _ _ _ _ ?_ ih
    have h0 := h 0 v rfl
    rw [Nat.add_zero] at h0
    rw [← h0]; exact @VRel.opq T φ a
/-- a row as a block, its slice -/
theorem row_rel {T : Tok} {H : Heap} {n z : Nat} {pl : Value} {vs : List Value} (hn : 0 < n) (h : RowAt H z pl n vs) : ∃ x, CellsAt H x vs ∧ ∀ φ A, φ A = some x → @VRel T φ (.slice A 0 n n false z) pl := by
  rcases h with ⟨e, _⟩ | ⟨x, cap, h1, h2, rfl, h4, h5, h6⟩
  · omega
  · exact ⟨x, h6, fun φ A hφ => @VRel.slice T φ A 0 n n false z x.1 x.2.1 x.2.2 x.2.1 cap hφ (Nat.le_refl _) h4 (fun h => by cases h) (fun _ => rfl) h5⟩
/-- the row that a slice of a memory shows -/
theorem row_back {T : Tok} {m : Mem} {φ : Phi} {H : Heap} {w : World} (hI : Tells φ m H w) (hr : @Rel T P φ m w) {A n z : Nat} (hn : 0 < n) {ro : Bool} {L : List AVal} {vs : List Value} (hA : A < m.next) (hg : m.get A = .cells ro L) (hlen : vs.length = n * z) (hL : ∀ us, @VsRel T φ L us → us = vs) {cv : Value}
    (hv : @VRel T φ (.slice A 0 n n false z) cv) : RowAt H z cv n vs := by
  obtain ⟨x, us, h1, h2, h3⟩ := of_brel hI hr hA hg
  have e := hL us h3
  subst e
  cases hv with
  | slice _ _ _ _ _ _ cb co sz o' cap' q1 q2 q3 q4 q5 q6 =>
    rw [h1] at q1
    cases q1
    have ho := q5 (by omega)
    exact .inr ⟨(cb, co, sz), cap', hn, hlen, by rw [ho]; rfl, q3, by show co + cap' * z ≤ sz; omega, h2⟩
theorem clone_ok {K : KH} {f G n : Nat} (hG : P.globals.size = G) (h0 : 0 < G) (hGb : G ≤ 60000) (hK : ∀ T : Tok, T.strong = true → @KSound T P K) (hrun : cloneRun K f G n = true) (hn : 0 < n) {w : World} (hgs : G ≤ w.heap.size) {H : Heap} (hH : In H w) {v : Value} {vs : List Value} (hv : RowAt H 1 v n vs) (hc : ∀ u, u ∈ vs → u.oneCell' = true) :
    Ends P f #[v] w fun cv w' => Left' w w' ∧ RowAt (upd noH w w') 1 cv n vs := by
  have hlen : vs.length = n := by rcases hv with ⟨e, _⟩ | ⟨_, _, _, h, _⟩ <;> omega
  have hcell : ∀ j : Nat, ((vs[j]?).getD nilS).oneCell' = true := fun j => by
    cases hj : vs[j]? with
    | none => rfl
    | some u => exact hc u (List.mem_of_getElem? hj)
  let T : Tok := tokB H (fun j : Nat => (vs[j]?).getD nilS) hcell
  have hval : ∀ j u, vs[j]? = some u → T.val (0 + j) = u := fun j u hj => by
    show (vs[0 + j]?).getD nilS = u
    rw [Nat.zero_add, hj]; rfl
  have hL : ∀ φ, @VsRel T φ (oqs n 0) vs := fun φ => by
    have := oqs_rel (T := T) (φ := φ) vs 0 hval
    rwa [hlen] at this
  obtain ⟨x, hx, hxv⟩ := row_rel (T := T) hn hv
  have hφ : phiOf G [x] (G + 1) = some x := by rw [phiOf_hi (i := 0)]; rfl
  have hone : ∀ z : Img, z ∈ [x] → z = x := fun z hz => List.mem_singleton.1 hz
  have hr : @Rel T P (phiOf G [x]) (mkMem G 0 .none [.cells true (oqs n 0)]) w :=
    mkRel hG h0 hgs rfl (by show G + 1 + 1 ≤ _; omega) (fun b hb => by rw [List.mem_singleton] at hb; subst hb; rfl) (fun z hz => by rw [hone z hz]; exact hx.lt hH) (fun i b hb => by
      match i, hb with
      | 0, hb =>
        simp only [List.getElem?_cons_zero, Option.some.injEq] at hb
        subst hb
        exact brel_of hH hx hφ (hL _) fun v hv => isOpq_cell (oqs_opq hv)
      | i + 1, hb => simp at hb) hH
  have hI : Tells (phiOf G [x]) (mkMem G 0 .none [.cells true (oqs n 0)]) H w := tells_mk h0 (by show G + 1 + 1 ≤ _; omega) fun z hz => by rw [hone z hz]; exact hx.img hH
  have hargs : @VsRel T (phiOf G [x]) [.slice (Nat.succ G) 0 n n false 1] (#[v] : Array Value).toList :=
    @VsRel.cons T _ _ _ _ _ (hxv _ _ hφ) (@VsRel.nil T _)
  have hro : ∀ q, q < (mkMem G 0 .none [Blk.cells true (oqs n 0)]).next → ((mkMem G 0 .none [Blk.cells true (oqs n 0)]).get q).wr = false :=
    mkMem_ro h0 (by show G + 1 + 1 ≤ _; omega) rfl fun b hb => by rw [List.mem_singleton] at hb; subst hb; rfl
  unfold cloneRun at hrun
  split at hrun
  · rename_i y m hq
    unfold putChk at hrun
    simp only [Bool.and_eq_true] at hrun
    obtain ⟨hfr, _, h1, h2⟩ := hrun
    refine (hK T rfl f _ _ _ m hq _ w _ hr hargs).mono fun cv w' ⟨φ', hst, hvc⟩ => ⟨Left'.of hst hro, ?_⟩
    obtain ⟨r1, r2⟩ := idRel (T := T) rfl hG (@Step.rel T P _ _ _ _ _ _ hst) h2
    have hsl := r2 _ _ (absN_up h1) _ hvc
    obtain ⟨a1, a2⟩ := mkMem_at (G := G) h0 (l := [.cells true (oqs n 0)]) (by show G + 1 + 1 ≤ _; omega) (i := 0) (b := .cells true (oqs n 0)) rfl
    exact row_back (tells_new h0 hst hro (by rw [show (mkMem G 0 .none [Blk.cells true (oqs n 0)]).next = Nat.add 2 G by show G + 1 + 1 = 2 + G; omega]; exact hfr) h2) r1 hn a1 a2 (by omega) (fun us hus => opq_unique (fun v hv => oqs_opq hv) hus (hL (phiOf G [x]))) hsl
  · cases hrun
end Go.AM

namespace Go.AM
variable {P : Program}

/-- a memory some of whose blocks are written -/
theorem mkRelW {T : Tok} {G : Nat} (hG : P.globals.size = G) (h0 : 0 < G) {w : World} (hgs : G ≤ w.heap.size) {l : List Blk} {imgs : List Img} (hl : l.length = imgs.length) (hb : G + 1 + l.length ≤ 65536)
    (hW : ∀ (i : Nat) (b : Blk) (x : Img), l[i]? = some b → b.wr = true → imgs[i]? = some x → T.hold x.1 = none ∧ ∀ (j : Nat) (y : Img), imgs[j]? = some y → j ≠ i → y.1 ≠ x.1)
    (hlt : ∀ x, x ∈ imgs → x.1 < w.heap.size) (hB : ∀ i b, l[i]? = some b → @BRel T (phiOf G imgs) w (G + 1 + i) b) (hheld : ∀ b o, T.hold b = some o → w.heap[b]? = some o) : @Rel T P (phiOf G imgs) (mkMem G 0 .none l) w := by
  have hn : (mkMem G 0 .none l).next = G + 1 + l.length := addL_next l _
  have get : ∀ p, p < 65536 → (mkMem G 0 .none l).get p = if G + 1 ≤ p ∧ p < G + 1 + l.length then (l[p - (G + 1)]?).getD .none else if p = 0 then .none else .none := fun p hp => mkMem_get h0 hb hp
  have hlive : ∀ p, p < 65536 → ((mkMem G 0 .none l).get p).live = true → G + 1 ≤ p ∧ ∃ b, l[p - (G + 1)]? = some b ∧ (mkMem G 0 .none l).get p = b := by
    intro p hp hv
    rw [get p hp] at hv ⊢
    split
    · rename_i h1
      have h2 : p - (G + 1) < l.length := by omega
      rw [List.getElem?_eq_getElem h2]
      exact ⟨h1.1, _, rfl, rfl⟩
    · rename_i h1
      rw [if_neg h1] at hv
      split at hv <;> cases hv
  have hwl : ∀ b : Blk, b.wr = true → b.live = true := fun b hb => by cases b <;> first | rfl | (cases hb; done)
  refine @Rel.mk T P _ _ _ (by rw [hn]; omega) ?_ ?_ ?_ ?_ ?_ ?_ ?_ ?_ hheld ?_ (fun _ => by
    rw [get 0 (by decide), if_neg (by omega), if_pos rfl]; rfl)
  · intro p x hp
    rw [hn]
    unfold phiOf at hp
    split at hp
    · omega
    · split at hp
      · omega
      · have : p - (G + 1) < imgs.length := by
          rcases Nat.lt_or_ge (p - (G + 1)) imgs.length with h | h
          · exact h
          · rw [List.getElem?_eq_none h] at hp; cases hp
        omega
  · intro p b o s hp hne
    rw [hG] at hne
    unfold phiOf at hp
    split at hp
    · cases hp; omega
    · first
        | exact hlt _ (List.mem_of_getElem? hp)
        | (rw [if_neg hne] at hp; exact hlt _ (List.mem_of_getElem? hp))
  · rw [hG]
    unfold phiOf
    rw [if_neg (by omega), if_pos rfl]
  · rw [hG, get G (by omega), if_neg (by omega)]
    split <;> rfl
  · intro g hg
    rw [hG] at hg
    exact ⟨0, by unfold phiOf; rw [if_pos hg]⟩
  · intro p hp
    rw [hn] at hp
    rw [get p (by omega)]
    split
    · rename_i h1
      have h2 : p - (G + 1) < l.length := by omega
      rw [List.getElem?_eq_getElem h2]
      have := hB (p - (G + 1)) _ (List.getElem?_eq_getElem h2)
      rwa [show G + 1 + (p - (G + 1)) = p by omega] at this
    · split <;> trivial
  · intro p q b o s o' s' hp hq hne hw hv hφp hφq
    rw [hn] at hp hq
    obtain ⟨e1, bp, e2, e3⟩ := hlive p (by omega) (hwl _ hw)
    obtain ⟨f1, bq, f2, f3⟩ := hlive q (by omega) hv
    rw [e3] at hw
    have i1 : imgs[p - (G + 1)]? = some (b, o, s) := by rw [← phiOf_hi (G := G), show G + 1 + (p - (G + 1)) = p by omega]; exact hφp
    have i2 : imgs[q - (G + 1)]? = some (b, o', s') := by rw [← phiOf_hi (G := G), show G + 1 + (q - (G + 1)) = q by omega]; exact hφq
    exact (hW _ _ _ e2 hw i1).2 _ _ i2 (by omega) rfl
  · intro p hp hlt'
    rw [hn] at hp
    rw [get p hlt', if_neg (by omega)]
    split <;> rfl
  · intro p b o s hp hw hφp
    rw [hn] at hp
    obtain ⟨e1, bp, e2, e3⟩ := hlive p (by omega) (hwl _ hw)
    rw [e3] at hw
    have i1 : imgs[p - (G + 1)]? = some (b, o, s) := by rw [← phiOf_hi (G := G), show G + 1 + (p - (G + 1)) = p by omega]; exact hφp
    exact (hW _ _ _ e2 hw i1).1
/-- a struct that is written -/
def StructAt (w : World) (p : Nat) (vs : List Value) : Prop := ∃ c el fz, w.heap[p]? = some (.cells c el fz) ∧ c.toList = vs ∧ (∀ v, v ∈ vs → v.oneCell' = true) ∧ ∀ i, i ≤ vs.length → ¬ (fz.1 ≤ i ∧ i < fz.2)
theorem StructAt.lt {w : World} {p : Nat} {vs : List Value} (h : StructAt w p vs) : p < w.heap.size := by
  obtain ⟨c, el, fz, h1, _⟩ := h
  exact @lt_of_some tok0 w p _ h1
theorem StructAt.brel {T : Tok} {φ : Phi} {w : World} {p q : Nat} {vs : List Value} {cs : List AVal} {ro : Bool} (h : StructAt w p vs) (hφ : φ q = some (p, 0, vs.length)) (hv : @VsRel T φ cs vs) (hc : ∀ v, v ∈ cs → v.isCell = true) : @BRel T φ w q (.cells ro cs) := by
  obtain ⟨c, el, fz, h1, h2, h3, h4⟩ := h
  have hl := @VsRel.length T φ _ _ hv
  have hs : c.size = vs.length := by rw [← h2, Array.length_toList]
  refine ⟨p, 0, c, el, fz, by rw [hφ, hs], h1, by omega, ?_, hc, fun _ i _ hi => ⟨h4 i (by omega), fun x hx => ?_⟩⟩
  · rw [List.drop_zero, h2, List.take_of_length_le (by omega)]; exact hv
  · rw [← Array.getElem?_toList, h2] at hx
    exact h3 x (List.mem_of_getElem? hx)
theorem StructAt.of {T : Tok} (hst : T.strong = true) {φ : Phi} {m : Mem} {w : World} {p q n : Nat} {cs : List AVal} (hr : @Rel T P φ m w) (hq : q < m.next) (hg : m.get q = .cells false cs) (hφ : φ q = some (p, 0, n)) (hn : cs.length = n) : ∃ vs, StructAt w p vs ∧ @VsRel T φ cs vs := by
  have := @Rel.blk T P φ m w hr q hq
  rw [hg] at this
  obtain ⟨cb, co, c, el, fz, h1, h2, h3, h4, h5, h6⟩ := this
  rw [hφ] at h1
  cases h1
  have e : (c.toList.drop 0).take cs.length = c.toList := by
    rw [List.drop_zero, List.take_of_length_le (by rw [Array.length_toList]; omega)]
  rw [e] at h4
  refine ⟨c.toList, ⟨c, el, fz, h2, rfl, fun v hv => ?_, fun i hi => ?_⟩, h4⟩
  · obtain ⟨i, hi, rfl⟩ := List.getElem_of_mem hv
    exact (h6 rfl i (Nat.zero_le _) (.inl (by simpa using hi))).2 _ (by rw [← Array.getElem?_toList, List.getElem?_eq_getElem hi])
  · rw [Array.length_toList] at hi
    exact (h6 rfl i (Nat.zero_le _) (by
      rcases Nat.lt_or_eq_of_le hi with h | h
      · exact .inl h
      · exact .inr ⟨h, hst⟩)).1
end Go.AM

namespace Go.AM
variable {P : Program}

/- ### a region whose order is drawn: its first operations by the abstract machine, the rest by hand -/
theorem any_mono {ops : Array Oper} {Q : Exit → Act → World → Prop} : ∀ (f : Nat) {L : Array Bool} {a : Act} {w : World}, wpAny P .any ops Q f L a w → wpAny P .any ops Q (f + 1) L a w
  | 0, L, a, w, ⟨h1, h2⟩ => ⟨fun _ => h2, by rw [h1]; intro i hi; cases hi⟩
  | f + 1, L, a, w, ⟨h1, h2⟩ => ⟨h1, fun i hi => wpOp_mono (fun a' w' h => any_mono f h) (h2 i hi)⟩
theorem any_add {ops : Array Oper} {Q : Exit → Act → World → Prop} {f : Nat} {L : Array Bool} {a : Act} {w : World} (h : wpAny P .any ops Q f L a w) : ∀ k, wpAny P .any ops Q (k + f) L a w
  | 0 => by rw [Nat.zero_add]; exact h
  | k + 1 => by rw [show k + 1 + f = k + f + 1 by omega]; exact any_mono _ (any_add h k)
structure FullTo (n s : Nat) (L : Array Bool) : Prop where
  size : L.size = s
  lo : ∀ i, i < n → L.getD i false = true
  hi : ∀ j, n ≤ j → L.getD j false = false
def cutQ (P : Program) (ops : Array Oper) (n r : Nat) (Q : Exit → Act → World → Prop) : Exit → Act → World → Prop
  | .normal, a, w => ∀ L, FullTo n ops.size L → wpAny P .any ops Q r L a w
  | e, a, w => Q e a w
theorem wpOp_cut {ops pre : Array Oper} {n r i : Nat} {Q : Exit → Act → World → Prop} (hi : pre[i]? = ops[i]?) (hs : i < pre.size) (hgd : ∀ o, pre[i]? = some o → o.guard = none) {K K' : Act → World → Prop} (hK : ∀ a w, K a w → K' a w) {a : Act} {w : World}
    (h : wpOp P pre (cutQ P ops n r Q) i K a w) : wpOp P ops Q i K' a w := by
  have ho := Array.getElem?_eq_getElem hs
  generalize pre[i] = o at ho
  have hg := hgd o ho
  unfold wpOp at h ⊢
  rw [ho] at h
  rw [← hi, ho]
  have hw : ∀ y : Array Oper, Region.wanted o (yielded y a.tmps) = true := fun y => by unfold Region.wanted; rw [hg]
  simp only [hw, if_true] at h ⊢
  rcases h with h | ⟨h1, h2⟩
  · left
    unfold Oper.wp at *
    generalize (execOp a.eval o).run P w = res at *
    cases res with
    | ok nx w' =>
      cases nx <;> simp only [Oper.upon] at h ⊢ <;>
        first
          | exact hK _ _ h
          | exact Calls.mono h (fun e w'' he => by cases e <;> first | exact hK _ _ he | exact he)
          | exact Rows.mono h (fun _ _ he => hK _ _ he)
    | halt x w' => cases x <;> simp only [Oper.upon] at h ⊢ <;> exact h
  · exact .inr ⟨h1, h2⟩
theorem any_cut {ops pre : Array Oper} {n r : Nat} {A : List Nat} {Q : Exit → Act → World → Prop} (hlin : @Lin ops A) (hn : pre.size = n) (hle : n ≤ ops.size) (hpre : ∀ i, i < n → pre[i]? = ops[i]?) (hgd : ∀ (i : Nat) (o : Oper), pre[i]? = some o → o.guard = none)
    (hcov : ∀ j, n ≤ j → j < ops.size → ∀ i, i < n → tb (ancAt A j) i = true) : ∀ (f : Nat) {L L' : Array Bool} {a : Act} {w : World}, L.size = n → L'.size = ops.size → (∀ i, i < n → L'.getD i false = L.getD i false) → (∀ j, n ≤ j → L'.getD j false = false) →
    (∀ i, i < n → L.getD i false = true → ∀ y, tb (ancAt A i) y = true → L.getD y false = true) → wpAny P .any pre (cutQ P ops n r Q) f L a w → wpAny P .any ops Q (f + r) L' a w := by
  -- an operation that is not listed: the first such may come up
  have first : ∀ {L : Array Bool}, L.size = n → (∃ i, i < n ∧ L.getD i false = false) → ∃ i, i < n ∧ L.getD i false = false ∧ ∀ k, k < i → L.getD k false = true := by
    intro L hL ⟨i, hi, hf⟩
    induction i using Nat.strongRecOn with
    | ind i ih =>
      by_cases h : ∃ k, k < i ∧ L.getD k false = false
      · obtain ⟨k, hk, hkf⟩ := h
        exact ih k hk (by omega) hkf
      · refine ⟨i, hi, hf, fun k hk => ?_⟩
        cases hv : L.getD k false with
        | true => rfl
        | false => exact absurd ⟨k, hk, hv⟩ h
  have getT : ∀ {L : Array Bool} {i : Nat}, i < L.size → L.getD i true = L.getD i false := by
    intro L i hi
    simp [hi]
  have rdy : ∀ {L L' : Array Bool} {i : Nat}, L.size = n → L'.size = ops.size → (∀ i, i < n → L'.getD i false = L.getD i false) → i < n → (i ∈ Region.ready .any pre L ↔ i ∈ Region.ready .any ops L') := by
    intro L L' i hL hL' hs hi
    rw [@ready_iff tok0, @ready_iff tok0]
    have e1 : L.getD i true = L'.getD i true := by rw [getT (by omega), getT (by omega)]; exact (hs i hi).symm
    constructor
    · rintro ⟨g1, g2, o, g3, g4⟩
      refine ⟨by omega, by rw [← e1]; exact g2, o, by rw [← hpre i hi]; exact g3, fun e he hb => ?_⟩
      have hlt := hlin.back i o (by rw [← hpre i hi]; exact g3) e he hb
      rw [hs _ (by omega)]; exact g4 e he hb
    · rintro ⟨g1, g2, o, g3, g4⟩
      refine ⟨by omega, by rw [e1]; exact g2, o, by rw [hpre i hi]; exact g3, fun e he hb => ?_⟩
      have hlt := hlin.back i o g3 e he hb
      rw [← hs _ (by omega)]; exact g4 e he hb
  have full : ∀ {L L' : Array Bool}, L'.size = ops.size → (∀ i, i < n → L'.getD i false = L.getD i false) → (∀ j, n ≤ j → L'.getD j false = false) → (∀ i, i < n → L.getD i false = true) → FullTo n ops.size L' :=
    fun h1 h2 h3 h4 => ⟨h1, fun i hi => (h2 i hi).trans (h4 i hi), h3⟩
  intro f
  induction f with
  | zero =>
    intro L L' a w hL hL' hs hhi hdn ⟨h1, h2⟩
    rw [Nat.zero_add]
    refine h2 L' (full hL' hs hhi fun i hi => ?_)
    cases hv : L.getD i false with
    | true => rfl
    | false =>
      obtain ⟨k, hk, hkf, hlt⟩ := first hL ⟨i, hi, hv⟩
      have : k ∈ Region.ready .any pre L := by
        rw [rdy hL hL' hs hk, @ready_iff tok0]
        have ho := Array.getElem?_eq_getElem (show k < ops.size by omega)
        refine ⟨by omega, by rw [getT (by omega), hs k hk]; exact hkf, _, ho, fun e he hb => ?_⟩
        have hb' := hlin.back k _ ho e he hb
        rw [hs _ (by omega)]; exact hlt _ hb'
      rw [h1] at this; cases this
  | succ f ih =>
    intro L L' a w hL hL' hs hhi hdn ⟨h1, h2⟩
    by_cases hall : ∀ i, i < n → L.getD i false = true
    · have hnil : Region.ready .any pre L = [] := by
        apply List.eq_nil_iff_forall_not_mem.2
        intro i hi
        obtain ⟨g1, g2, _⟩ := (@ready_iff tok0 _ _ _).1 hi
        rw [getT (by omega), hall i (by omega)] at g2; cases g2
      exact any_add (h1 hnil L' (full hL' hs hhi hall)) (f + 1)
    · obtain ⟨i0, hi0, hf0⟩ : ∃ i, i < n ∧ L.getD i false = false := by
        apply Classical.byContradiction
        intro hno
        refine hall fun i hi => ?_
        cases hv : L.getD i false with
        | true => rfl
        | false => exact absurd ⟨i, hi, hv⟩ hno
      obtain ⟨k, hk, hkf, hlt⟩ := first hL ⟨i0, hi0, hf0⟩
      rw [show f + 1 + r = f + r + 1 by omega]
      refine ⟨fun hnil => ?_, fun i hi => ?_⟩
      · have : k ∈ Region.ready .any ops L' := by
          rw [@ready_iff tok0]
          have ho := Array.getElem?_eq_getElem (show k < ops.size by omega)
          refine ⟨by omega, by rw [getT (by omega), hs k hk]; exact hkf, _, ho, fun e he hb => ?_⟩
          have hb' := hlin.back k _ ho e he hb
          rw [hs _ (by omega)]; exact hlt _ hb'
        rw [hnil] at this; cases this
      · obtain ⟨g1, g2, o, g3, g4⟩ := (@ready_iff tok0 _ _ _).1 hi
        have listedE : ∀ e, e ∈ o.after.toList → Region.binds .any e = true → e.on < n ∧ L.getD e.on false = true := by
          intro e he hb
          have h3 := g4 e he hb
          rcases Nat.lt_or_ge e.on n with h4 | h4
          · exact ⟨h4, by rw [← hs _ h4]; exact h3⟩
          · rw [hhi _ h4] at h3; cases h3
        have hin : i < n := by
          rcases Nat.lt_or_ge i n with h | h
          · exact h
          · exfalso
            have hc := hcov i h g1 k hk
            rw [hlin.anc i o g3, @anc_iff tok0] at hc
            obtain ⟨e, he, hb, hy⟩ := hc
            obtain ⟨q1, q2⟩ := listedE e he hb
            rcases hy with rfl | hy
            · rw [hkf] at q2; cases q2
            · have := hdn _ q1 q2 k hy
              rw [hkf] at this; cases this
        have hi' := (rdy hL hL' hs hin).2 hi
        refine wpOp_cut (hpre i hin) (by omega) (hgd i) (fun a' w' h => ?_) (h2 i hi')
        have getS : ∀ {M : Array Bool} {j : Nat}, i < M.size → (M.setIfInBounds i true).getD j false = if i = j then true else M.getD j false := by
          intro M j hM
          rw [Array.getD_eq_getD_getElem?, Array.getElem?_setIfInBounds, Array.getD_eq_getD_getElem?]
          by_cases e : i = j
          · rw [if_pos e, if_pos e, if_pos hM]; rfl
          · rw [if_neg e, if_neg e]
        refine ih (by simp [hL]) (by simp [hL']) (fun j hj => ?_) (fun j hj => ?_) (fun j hj hjt y hy => ?_) h
        · rw [getS (by omega), getS (by omega), hs j hj]
        · rw [getS (by omega), if_neg (by omega)]; exact hhi j hj
        · rw [getS (by omega)] at hjt ⊢
          by_cases e : i = y
          · rw [if_pos e]
          · rw [if_neg e]
            by_cases e2 : i = j
            · subst e2
              rw [hlin.anc i o g3, @anc_iff tok0] at hy
              obtain ⟨e', he, hb, hy⟩ := hy
              obtain ⟨q1, q2⟩ := listedE e' he hb
              rcases hy with rfl | hy
              · exact q2
              · exact hdn _ q1 q2 y hy
            · rw [if_neg e2] at hjt
              exact hdn j hj hjt y hy
section
variable [Tok]
/-- the abstract machine's order is one of all -/
theorem draw_any {K : KH} (hK : KSound P K) {nt : Nat} {ops : Array Oper} (hg : ops.toList.all (gOper P.globals.size) = true) {r : Regs} {m : Mem} {k : Ct} {v : AVal} {mf : Mem} (h : (cDraw P nt ops).run K r m k = .ok v mf)
    {φ : Phi} {w : World} {a : Act} {Q : Exit → Act → World → Prop} (hr : Rel P φ m w) (ha : RRel φ nt r a) (hn : ∀ φ' r' m' a' w', Step P φ m w φ' m' w' → RRel φ' nt r' a' → k r' m' = .ok v mf → Q .normal a' w') :
    Lin ops (ancs ops.toList []) ∧ wpAny P .any ops Q ops.size (Array.replicate ops.size false) a { w with drawn := w.drawn + 1 } := by
  unfold cDraw at h
  simp only at h
  split at h
  · rename_i hd
    unfold drawOk at hd
    simp only [Bool.and_eq_true] at hd
    obtain ⟨⟨⟨⟨⟨h1, h2⟩, h3⟩, h4⟩, h5⟩, h6⟩ := hd
    obtain ⟨hroom, h7⟩ := cond_t h
    rw [forceN_eq] at h7
    rw [ble_true] at hroom
    rw [List.all_eq_true] at h5 h6
    obtain ⟨sf, hR, hk⟩ := runs_of_seq (P := P) (s := ⟨r, ⟨m.next + _, m.t⟩, fun _ => .none, fun _ => none⟩) h7
    have hsz := beq_true.1 h4
    have hst := (Step.raise (n := _) hr hroom).congr (w'' := { w with drawn := w.drawn + 1 }) rfl rfl rfl rfl
    refine ⟨lin_ok h1, any_ok (m0 := m) (φ0 := φ) (w0 := w) (φ := φ) hK h3 hg (lin_ok h1) (fun j o ho hh => heavies_ok ho hh) ha.le (sf := sf) (fun φ' a' w' hs hr' => hn φ' _ _ a' w' hs hr' hk) ops.size hsz h2 ?_ ?_ hR⟩
    · refine ⟨fun j hj => ?_, fun j hj hno => ?_, fun j hj => ?_, fun j hj hno => ?_⟩
      · have := h5 j hj
        rw [Nat.blt_eq] at this
        simp [this]
      · exact absurd (List.contains_iff_mem.1 (h6 j (List.mem_range.2 hj))) hno
      · have := h5 j hj
        rw [Nat.blt_eq] at this; exact this
      · exact absurd (List.contains_iff_mem.1 (h6 j (List.mem_range.2 hj))) hno
    · have hput : ∀ (l : List (Nat × Nat)) (m1 : Mem), putAll m.next (fun _ => Blk.none) l m1 = m1 := by
        intro l
        induction l with
        | nil => intro m1; rfl
        | cons y l ih => intro m1; obtain ⟨j, q⟩ := y; exact ih m1
      refine ⟨by rw [hput]; exact hst, ha, Nat.le_refl _, fun e he hl => (by cases hl), fun e he _ => ⟨?_, ?_, rfl⟩, fun _ _ => rfl⟩
      · cases hq : φ (m.next + e.2) with
        | none => rfl
        | some y => have := hr.dom _ _ hq; omega
      · exact hr.clean _ (Nat.le_add_right _ _) (by have := alOk_lt h3 e he; have hroom' : m.next + (allocsOf 0 0 (List.map (cOper P) ops.toList)).length ≤ 65536 := hroom; omega)
  · cases h
end
noncomputable def cutOk (ops pre : Array Oper) (n : Nat) : Bool :=
  Nat.beq pre.size n && Nat.ble n ops.size && (pre.toList.all fun o => o.guard.isNone) && linOk ops (ancs ops.toList []) (ops.toList.map fun o => (looksBits ops o, dstBits o)) &&
    ((List.range ops.size).all fun j => Nat.blt j n || ((List.range n).all fun i => tb (ancAt (ancs ops.toList []) j) i))
noncomputable def preRun (P : Program) (nt : Nat) (K : KH) (pre : Array Oper) (l : List (Nat × AVal)) (ts : List Nat) (m : Mem) : R := (cDraw P nt pre).run K (pickR l) m fun r m => .ok (outT ts r) m
/-- THE FIRST n OPERATIONS OF A DRAWN REGION BY THE ABSTRACT MACHINE -/
theorem region_cut (hm : P.follows .mixedOrders = true) {T : Tok} {K : KH} (hK : @KSound T P K) {nt n : Nat} {ops pre : Array Oper} (hcut : cutOk ops pre n = true) (hpre : ∀ i, i < n → pre[i]? = ops[i]?) (hg : pre.toList.all (gOper P.globals.size) = true) {l : List (Nat × AVal)} {ts : List Nat} {vs : List AVal} {m mf : Mem}
    (h : preRun P nt K pre l ts m = .ok (.tuple vs) mf) {φ : Phi} {w : World} {a : Act} {Q : Exit → Act → World → Prop} (hr : @Rel T P φ m w) (ha : ActIs nt a) (hnt : nt ≤ 4096) (hl : ∀ p, p ∈ l → p.1 < 4096 ∧ @VRel T φ p.2 (a.tmps.getD p.1 undef))
    (hn : ∀ φ' a' w', @Step T P φ m w φ' mf w' → ActIs nt a' → @VsRel T φ' vs (valsT ts a') → wpAny P .any ops Q (ops.size - n) (Array.replicate n true ++ Array.replicate (ops.size - n) false) a' w') {id : Nat} : (Code.region id ops true).wp P Q a w := by
  unfold cutOk at hcut
  simp only [Bool.and_eq_true, beq_true, ble_true] at hcut
  obtain ⟨⟨⟨⟨h1, h2⟩, h3⟩, h4⟩, h5⟩ := hcut
  rw [List.all_eq_true] at h3 h5
  have hlin := @lin_ok tok0 _ _ h4
  obtain ⟨_, hany⟩ := @draw_any P T K hK nt pre hg _ _ _ _ _ h φ w a (cutQ P ops n (ops.size - n) Q) hr (@pick_rel T _ _ _ ha hnt _ hl) (fun φ' r' m' a' w' hst ha' h1 => by
    have h4 : R.ok (.tuple (ts.map fun t => (opd (.tmp t)).get r')) m' = .ok (.tuple vs) mf := h1
    injection h4 with h5 h6
    injection h5 with h5
    subst h5
    subst h6
    intro L hL
    have e : L = Array.replicate n true ++ Array.replicate (ops.size - n) false := by
      refine Array.ext (by rw [hL.size]; simp; omega) fun i hi1 hi2 => ?_
      have key : ∀ b, L.getD i false = b → L[i] = b := fun b hb => by rw [← hb]; simp [hi1]
      rw [Array.getElem_append]
      split
      · rename_i hlt
        exact key _ ((hL.lo i (by simpa using hlt)).trans (by simp))
      · rename_i hge
        exact key _ ((hL.hi i (by simpa using hge)).trans (by simp))
    rw [e]
    exact hn φ' a' w' hst (@RRel.is T _ _ _ _ ha') (@out_rel T _ _ _ _ ha' ts))
  have rep : ∀ s j : Nat, (Array.replicate s false).getD j false = false := fun s j => by
    rw [Array.getD_eq_getD_getElem?, Array.getElem?_replicate]; split <;> rfl
  refine wp_region_any hm ?_
  have := any_cut (Q := Q) (r := ops.size - n) hlin h1 h2 hpre (fun i o ho => by
    have := h3 o (Array.mem_toList_iff.2 (Array.mem_of_getElem? ho))
    cases hg : o.guard with
    | none => rfl
    | some g => rw [hg] at this; cases this) (fun j hj hjs i hi => by
    have := h5 j (List.mem_range.2 hjs)
    rw [Bool.or_eq_true] at this
    rcases this with h6 | h6
    · rw [Nat.blt_eq] at h6; omega
    · exact (List.all_eq_true.1 h6) i (List.mem_range.2 hi)) pre.size (L' := Array.replicate ops.size false) (by simp [h1]) (by simp) (fun i hi => by rw [rep, rep]) (fun j hj => rep _ _) (fun i hi hf => by rw [rep] at hf; cases hf) hany
  rwa [show pre.size + (ops.size - n) = ops.size by omega] at this
end Go.AM

namespace Go.AM
variable {P : Program}

/- ### steps by hand -/
/-- a code as a piece -/
noncomputable def oneRun (P : Program) (nt : Nat) (K : KH) (X : Code) (W : Ways) (l : List (Nat × AVal)) (ts : List Nat) (m : Mem) : R :=
  (cCode P nt X).run K (fun i r m => cond' (.ok (outT ts r) m) (.fail 87) (W.ex i)) (fun r m => cond' (.ok (outT ts r) m) (.fail 87) W.rr) (fun r m => cond' (.ok (outT ts r) m) (.fail 87) W.nn) (pickR l) m
section
variable [Tok]
theorem one_ok {K : KH} (hK : KSound P K) (hD : DrawOk P K) {nt : Nat} {X : Code} (hg : gCode P.globals.size X = true) {W : Ways} {l : List (Nat × AVal)} {ts : List Nat} {vs : List AVal} {m mf : Mem} (h : oneRun P nt K X W l ts m = .ok (.tuple vs) mf)
    {φ : Phi} {w : World} {a : Act} {Q : Exit → Act → World → Prop} (hr : Rel P φ m w) (ha : ActIs nt a) (hnt : nt ≤ 4096) (hl : ∀ p, p ∈ l → p.1 < 4096 ∧ VRel φ p.2 (a.tmps.getD p.1 undef))
    (hn : W.nn = true → ∀ φ' a' w', Step P φ m w φ' mf w' → ActIs nt a' → VsRel φ' vs (valsT ts a') → Q .normal a' w')
    (he : ∀ i, W.ex i = true → ∀ φ' a' w', Step P φ m w φ' mf w' → ActIs nt a' → VsRel φ' vs (valsT ts a') → Q (.exit i) a' w')
    (hrt : W.rr = true → ∀ φ' a' w', Step P φ m w φ' mf w' → ActIs nt a' → VsRel φ' vs (valsT ts a') → Q .ret a' w') : X.wp P Q a w := by
  have inj : ∀ {b : Bool} {r' : Regs} {m' : Mem}, cond' (R.ok (outT ts r') m') (.fail 87) b = .ok (.tuple vs) mf → b = true ∧ m' = mf ∧ (ts.map fun t => (opd (.tmp t)).get r') = vs := by
    intro b r' m' h1
    obtain ⟨h2, h3⟩ := cond_t h1
    have h4 : R.ok (.tuple (ts.map fun t => (opd (.tmp t)).get r')) m' = .ok (.tuple vs) mf := h3
    injection h4 with h5 h6
    injection h5 with h5
    exact ⟨h2, h6, h5⟩
  refine cCode_ok hK hD X hg h hr (pick_rel ha hnt hl) ?_ ?_ ?_
  · intro φ' r' m' a' w' hst ha' h1
    obtain ⟨h2, rfl, rfl⟩ := inj h1
    exact hn h2 φ' a' w' hst ha'.is (out_rel ha' ts)
  · intro i φ' r' m' a' w' hst ha' h1
    obtain ⟨h2, rfl, rfl⟩ := inj h1
    exact he i h2 φ' a' w' hst ha'.is (out_rel ha' ts)
  · intro φ' r' m' a' w' hst ha' h1
    obtain ⟨h2, rfl, rfl⟩ := inj h1
    exact hrt h2 φ' a' w' hst ha'.is (out_rel ha' ts)
end
/-- what stays but for one block -/
def LeftX (p : Nat) (w w' : World) : Prop := (∀ b, b < w.heap.size → b ≠ p → w'.heap[b]? = w.heap[b]?) ∧ w.heap.size ≤ w'.heap.size ∧ w'.os = w.os ∧ w'.output = w.output ∧ w'.tape = w.tape
theorem LeftX.of {w w' : World} {p : Nat} (h : Left' w w') : LeftX p w w' := ⟨fun b hb _ => h.1 b hb, h.2⟩
theorem LeftX.trans {w w' w'' : World} {p : Nat} (h : LeftX p w w') (h' : LeftX p w' w'') : LeftX p w w'' :=
  ⟨fun b hb hne => (h'.1 b (Nat.lt_of_lt_of_le hb h.2.1) hne).trans (h.1 b hb hne), Nat.le_trans h.2.1 h'.2.1, h'.2.2.1.trans h.2.2.1, h'.2.2.2.1.trans h.2.2.2.1, h'.2.2.2.2.trans h.2.2.2.2⟩
/-- a call of a function by its name -/
structure CallAt (ops : Array Oper) (i d : Nat) (g : FuncId) (ts : List Nat) : Prop where
  is : ∃ o, ops[i]? = some o ∧ o.guard = none ∧ o.dst = some d ∧ callOf o.op = some (.value (.func g), ts.map Operand.tmp)
theorem callAt_run {o : Oper} {g : FuncId} {ts : List Nat} (h : callOf o.op = some (.value (.func g), ts.map Operand.tmp)) {a : Act} {w : World} : (execOp a.eval o).run P w = (callFunc g (ts.map fun t => a.tmps.getD t undef).toArray).run P w := by
  cases ho : o.op <;> first | (rw [ho] at h; cases h; done) | skip
  rename_i c
  rw [ho] at h
  simp only [callOf, Option.some.injEq, Prod.mk.injEq] at h
  obtain ⟨h1, h2⟩ := h
  have h3 : c.args = (ts.map Operand.tmp).toArray := by rw [← h2]
  have e : (fun x : Operand => a.eval x) = a.eval := rfl
  have h4 : c.args.map a.eval = (ts.map fun t => a.tmps.getD t undef).toArray := by
    rw [h3]
    simp [Act.eval, Function.comp_def]
  simp [execOp, ho, resolve, h1, h4, Act.eval, Deferred.ofValue, invoke]
theorem any_call {ops : Array Oper} {Q : Exit → Act → World → Prop} {i d : Nat} {g : FuncId} {ts : List Nat} {fuel : Nat} {L : Array Bool} {a : Act} {w : World} (h : CallAt ops i d g ts) (hr : Region.ready .any ops L = [i]) {R' : Value → World → Prop} (hE : Ends P g (ts.map fun t => a.tmps.getD t undef).toArray w R')
    (hn : ∀ c w', R' c w' → wpAny P .any ops Q fuel (L.setIfInBounds i true) (a.put (some d) c) w') : wpAny P .any ops Q (fuel + 1) L a w := by
  obtain ⟨o, h1, h2, h3, h4⟩ := h.is
  refine wpAny_all hr (by simp) fun j hj => ?_
  rw [List.mem_singleton] at hj
  subst hj
  unfold wpOp
  rw [h1]
  simp only
  have hwant : Region.wanted o (yielded ops a.tmps) = true := by unfold Region.wanted; rw [h2]
  rw [if_pos hwant]
  left
  letI := tok0
  exact ends_wp (callAt_run h4) hE fun c w' hR => by rw [h3]; exact hn c w' hR
theorem any_val {ops : Array Oper} {Q : Exit → Act → World → Prop} {i d : Nat} {op : Op} {fuel : Nat} {L : Array Bool} {a : Act} {w : World} (h : OpAt ops i d op) (hr : Region.ready .any ops L = [i]) {v : Value} (hx : ∀ o : Oper, o.op = op → (execOp a.eval o).run P w = .ok (.value v) w)
    (hn : wpAny P .any ops Q fuel (L.setIfInBounds i true) (a.put (some d) v) w) : wpAny P .any ops Q (fuel + 1) L a w := by
  obtain ⟨o, h1, h2, h3, h4⟩ := h.is
  refine wpAny_all hr (by simp) fun j hj => ?_
  rw [List.mem_singleton] at hj
  subst hj
  unfold wpOp
  rw [h1]
  simp only
  have hwant : Region.wanted o (yielded ops a.tmps) = true := by unfold Region.wanted; rw [h2]
  rw [if_pos hwant]
  left
  unfold Oper.wp
  rw [hx o h4, Oper.upon_value, h3]
  exact hn
/-- of two that may come up the first yields its value in whatever world -/
theorem any_first {ops : Array Oper} {Q : Exit → Act → World → Prop} {i d : Nat} {op : Op} {fuel : Nat} {L : Array Bool} {a : Act} {w : World} (h : OpAt ops i d op) (hs : Region.noSelect ops = true) (hf : Region.free .any ops L i = true) (hr : (Region.ready .any ops L).contains i = true)
    (hQ : ∀ c a w v, Q (.panic c) (a.put (some d) v) w → Q (.panic c) a w) {v : Value} (hx : ∀ (o : Oper) (w : World), o.op = op → (execOp a.eval o).run P w = .ok (.value v) w)
    (hn : wpAny P .any ops Q fuel (L.setIfInBounds i true) (a.put (some d) v) w) : wpAny P .any ops Q (fuel + 1) L a w := by
  obtain ⟨o, h1, h2, h3, h4⟩ := h.is
  refine wpAny_take h1 hs hf hr (fun c a w hc => hQ c a w v (by rw [h3] at hc; exact hc)) (.inl ⟨?_, fun w => hx o w h4⟩) (by rw [h3]; exact hn)
  unfold Region.wanted; rw [h2]
theorem run_ex {a : Act} {w : World} {o : Oper} {t i : Nat} (h : o.op = .extract (.tmp t) i) {vs : Array Value} {v : Value} (ht : a.tmps.getD t undef = .tuple vs) (hv : vs[i]? = some v) : (execOp a.eval o).run P w = .ok (.value v) w := by
  simp [execOp, h, Act.eval, ht, Instr.extract, hv]
theorem enter_run {f : FuncId} {fn : Func} {B : Code} (hf : P.funcs[f]? = some fn) (hname : fn.name ≠ "runtime.NumGoroutine") (hb : fn.body = some B) {args : Array Value} {w : World} : (callFunc f args).run P w = .ok (.enter f args) w := by
  simp [callFunc, hf, hname, hb]
/-- arguments in the registers that a call begins with -/
theorem args_reg {T : Tok} {φ : Phi} {fn : Func} {cargs : Array Value} {l : List AVal} (hv : @VsRel T φ l cargs.toList) {t : Nat} {v : AVal} (ht : l[t]? = some v) : @VRel T φ v ((cargs ++ Array.replicate (fn.ntmps - cargs.size) undef).getD t undef) := by
  obtain ⟨c, h1, h2⟩ := @VsRel.get T φ _ _ hv t v ht
  rw [Array.getElem?_toList] at h1
  have h3 : t < cargs.size := by
    rcases Nat.lt_or_ge t cargs.size with h | h
    · exact h
    · rw [Array.getElem?_eq_none h] at h1; cases h1
  rw [Array.getD_eq_getD_getElem?, Array.getElem?_append_left h3, h1]
  exact h2
end Go.AM
