/- Parts of a proof about conditions: Base Tree Canon Bld Idx Data Typ Range Is T2 T3 Obj Mem. -/
import Derived.Test.YtodlkjjoenglgaaRows
import Derived.WalkKit
import Derived.WalkSpells
import Derived.WalkLawsBesides
import Derived.Lib.Hide
import Derived.Orders
import Derived.Shelf.Abstract
import Derived.RangeFuncNested
import Derived.RangeFuncBound
import Derived.RangeFuncCalls
import Derived.RangeFuncLeaves
import Derived.Shelf.RegionOpen
import Derived.OwnWalkIn
import Derived.TacticsInMore
import Derived.LoopNIn
import Derived.LoopIn
import Derived.Deep.AppendLies
/- The words in which the contracts of this seat speak of memory: 'Ext' (the world has only grown), 'Sl' (a slice whose elements are rows of cells). -/
namespace Go.Proofs.Ytodlkjjoenglgaa
open Go.RowKit

/-- The world has grown: all that lay lies as it lay. -/
def Ext (w w' : World) : Prop := Below w.heap.size w w'

theorem Ext.refl (w : World) : Ext w w := Below.refl _ w
theorem Ext.trans {a b c : World} (h : Ext a b) (k : Ext b c) : Ext a c := Below.trans h (Below.mono k (Below.size h))
theorem Ext.alloc {a w : World} (h : Ext a w) (o : Obj) : Ext a (w.alloc o) := Below.alloc h (Below.size h) o
theorem Ext.drew {a w : World} (h : Ext a w) : Ext a w.drew := Below.drew h
theorem Ext.size {a w : World} (h : Ext a w) : a.heap.size ≤ w.heap.size := Below.size h
theorem Ext.setCell {a w : World} (h : Ext a w) {p : Addr} (hp : a.heap.size ≤ p.block) (u : Value) : Ext a (w.setCell p u) := Below.setCell h hp u
theorem Ext.cell {a w : World} (h : Ext a w) {p : Addr} {v : Value} (hv : a.cell? p = some v) : w.cell? p = some v :=
  (Below.cell h (World.block_lt_of_cell? a p hv)).trans hv
theorem Ext.block {a w : World} (h : Ext a w) {k : Nat} {o : Obj} (hv : a.heap[k]? = some o) : w.heap[k]? = some o :=
  (Below.block h k (Array.getElem?_eq_some_iff.1 hv).1).trans hv
theorem Ext.frozen {a w : World} (h : Ext a w) {p : Addr} {v : Value} (hv : a.cell? p = some v) : w.frozen? p = a.frozen? p :=
  Below.frozen h (World.block_lt_of_cell? a p hv)
theorem Ext.of_grown {a w w' : World} {row : Option Nat} (h : Ext a w) (hg : w.grownBy w' row) (hr : ∀ k, row = some k → a.heap.size ≤ k) : Ext a w' := Below.grown h hg (Below.size h) hr

theorem Ext.of_new {w w1 : World} {o : Obj} (h : Ext (w.alloc o) w1) : Ext w w1 := ((Ext.refl w).alloc o).trans h
theorem new_block {w w1 : World} {o : Obj} (h : Ext (w.alloc o) w1) : w1.heap[w.heap.size]? = some o := h.block (heap_alloc_new w o)

/-- Element i of a slice at address a with rows of sz cells lies as the cells c. -/
def RowAt (w : World) (a : Option Addr) (sz i : Nat) (c : List Value) : Prop :=
  ∃ b off, a = some ⟨b, off, none⟩ ∧ ∀ j y, c[j]? = some y → w.cell? ⟨b, off + i * sz + j, none⟩ = some y

theorem RowAt.ext {w w' : World} {a : Option Addr} {sz i : Nat} {c : List Value} (h : RowAt w a sz i c) (e : Ext w w') : RowAt w' a sz i c := by
  obtain ⟨b, off, rfl, hc⟩ := h
  exact ⟨b, off, rfl, fun j y hj => e.cell (hc j y hj)⟩

/-- The slice value v reads, in w, as the list l: element i is a row of sz cells that R holds to be l's i-th; 'by' bytes an element. -/
def Sl {X : Type} (w : World) (sz bytes : Nat) (R : World → List Value → X → Prop) (v : Value) (l : List X) : Prop :=
  ∃ a cap, v = .slice a l.length cap ∧ l.length ≤ cap ∧ cap ≤ maxLen ∧ l.length * bytes ≤ 140737488351232 ∧
    ∀ i x, l[i]? = some x → ∃ c, c.length = sz ∧ R w c x ∧ RowAt w a sz i c

theorem Sl.ext {X : Type} {w w' : World} {sz bytes : Nat} {R : World → List Value → X → Prop} {v : Value} {l : List X} (h : Sl w sz bytes R v l) (e : Ext w w')
    (hR : ∀ c x, R w c x → R w' c x) : Sl w' sz bytes R v l := by
  obtain ⟨a, cap, rfl, h1, h2, h3, h4⟩ := h
  exact ⟨a, cap, rfl, h1, h2, h3, fun i x hx => let ⟨c, hc, hr, hrow⟩ := h4 i x hx; ⟨c, hc, hR c x hr, hrow.ext e⟩⟩

end Go.Proofs.Ytodlkjjoenglgaa

/- Conditions as trees (forests in binary form), and how a tree lies in memory. -/
namespace Go.Proofs.Ytodlkjjoenglgaa
open Go Go.RowKit

/-- A node's own data. -/
structure Nd where
  kind : Int
  pred : Int
  args : List Int
  left : Int
  right : Int
  typ : Int

/-- A forest: a list of trees. -/
inductive Fo where
  | nil
  | cons (n : Nd) (kids rest : Fo)

namespace Fo
def app : Fo → Fo → Fo
  | nil, g => g
  | cons n k r, g => cons n k (r.app g)
def one (n : Nd) (k : Fo) : Fo := cons n k nil
def len : Fo → Nat
  | nil => 0
  | cons _ _ r => r.len + 1
/-- The number of nodes. -/
def count : Fo → Nat
  | nil => 0
  | cons _ k r => k.count + r.count + 1
/-- No node has more arguments than a slice holds. -/
def ArgsLe : Fo → Prop
  | nil => True
  | cons n k r => n.args.length * 8 ≤ 140737488351232 ∧ k.ArgsLe ∧ r.ArgsLe
theorem app_nil (f : Fo) : f.app nil = f := by induction f with
  | nil => rfl
  | cons n k r _ ih => simp [app, ih]
theorem app_assoc (f g h : Fo) : (f.app g).app h = f.app (g.app h) := by induction f with
  | nil => rfl
  | cons n k r _ ih => simp [app, ih]
theorem len_app (f g : Fo) : (f.app g).len = f.len + g.len := by induction f with
  | nil => simp [app, len]
  | cons n k r _ ih => simp [app, len, ih]; omega
theorem count_app (f g : Fo) : (f.app g).count = f.count + g.count := by induction f with
  | nil => simp [app, count]
  | cons n k r _ ih => simp [app, count, ih]; omega
theorem len_le_count (f : Fo) : f.len ≤ f.count := by induction f with
  | nil => simp [len, count]
  | cons n k r _ ih => simp [len, count]; omega
end Fo

abbrev ptr (b : Nat) : Value := .pointer (some ⟨b, 0, none⟩)
abbrev i64 (n : Int) : Value := .int .i64 n

/-- The slice value v reads, in w, as the one-cell elements xs. -/
def Rd (w : World) (v : Value) (xs : List Value) : Prop :=
  ∃ a cap, v = .slice a xs.length cap ∧ xs.length ≤ cap ∧ cap ≤ maxLen ∧
    ∀ i x, xs[i]? = some x → ∃ b off, a = some ⟨b, off, none⟩ ∧ w.cell? ⟨b, off + i, none⟩ = some x

theorem Rd.ext {w w' : World} {v : Value} {xs : List Value} (h : Rd w v xs) (e : Ext w w') : Rd w' v xs := by
  obtain ⟨a, cap, rfl, h1, h2, h3⟩ := h
  exact ⟨a, cap, rfl, h1, h2, fun i x hx => let ⟨b, off, ha, hc⟩ := h3 i x hx; ⟨b, off, ha, e.cell hc⟩⟩

theorem Rd.nil (w : World) (a : Option Addr) (cap : Nat) (h : cap ≤ maxLen) : Rd w (.slice a 0 cap) [] := ⟨a, cap, rfl, Nat.zero_le _, h, fun i x hx => by simp at hx⟩

/-- An array of its own: f: its block, if it has cells at all. -/
def Arr (w : World) (f : List Nat) (v : Value) (xs : List Value) : Prop :=
  ∃ a cap, v = .slice a xs.length cap ∧ xs.length ≤ cap ∧ cap ≤ maxLen ∧
    ((xs = [] ∧ f = []) ∨ ∃ g off cur e, a = some ⟨g, off, none⟩ ∧ f = [g] ∧ w.heap[g]? = some (.cells cur e (0, 0)) ∧ ∀ i x, xs[i]? = some x → cur[off + i]? = some x)

theorem cell_of_heap {w : World} {g : Nat} {cur : Array Value} {e : TypeId} {fr : Nat × Nat} (h : w.heap[g]? = some (.cells cur e fr)) (i : Nat) : w.cell? ⟨g, i, none⟩ = cur[i]? := by
  simp [World.cell?, h]
theorem free_of_heap {w : World} {g : Nat} {cur : Array Value} {e : TypeId} (h : w.heap[g]? = some (.cells cur e (0, 0))) (i : Nat) : w.frozen? ⟨g, i, none⟩ = false := by
  simp [World.frozen?, h]

theorem heap_setCell_at {w : World} {b j : Nat} {cs : Array Value} {e : TypeId} {fr : Nat × Nat} (u : Value) (h : w.heap[b]? = some (.cells cs e fr)) :
    (w.setCell ⟨b, j, none⟩ u).heap[b]? = some (.cells (cs.setIfInBounds j u) e fr) := by
  simp [World.setCell, Array.getElem?_modify, h]

theorem heap_setCell_ne {w : World} {p : Addr} {b : Nat} (u : Value) (h : b ≠ p.block) : (w.setCell p u).heap[b]? = w.heap[b]? := Below.heap_setCell w p u b h

theorem heap_alloc_lt {w : World} {o : Obj} {b : Nat} (h : b < w.heap.size) : (w.alloc o).heap[b]? = w.heap[b]? := Below.heap_alloc w o b h

theorem heap_lt {w : World} {b : Nat} {o : Obj} (h : w.heap[b]? = some o) : b < w.heap.size := (Array.getElem?_eq_some_iff.1 h).1

theorem Arr.rd {w : World} {f : List Nat} {v : Value} {xs : List Value} (h : Arr w f v xs) : Rd w v xs := by
  obtain ⟨a, cap, rfl, h1, h2, h3⟩ := h
  refine ⟨a, cap, rfl, h1, h2, fun i x hx => ?_⟩
  rcases h3 with ⟨rfl, _⟩ | ⟨g, off, cur, e, rfl, _, hg, hc⟩
  · simp at hx
  · exact ⟨g, off, rfl, by rw [cell_of_heap hg]; exact hc i x hx⟩

theorem Arr.lt {w : World} {f : List Nat} {v : Value} {xs : List Value} (h : Arr w f v xs) : ∀ x ∈ f, x < w.heap.size := by
  obtain ⟨a, cap, rfl, h1, h2, h3⟩ := h
  rcases h3 with ⟨rfl, rfl⟩ | ⟨g, off, cur, e, rfl, rfl, hg, hc⟩
  · intro x hx; cases hx
  · intro x hx
    simp only [List.mem_singleton] at hx
    subst hx
    exact (Array.getElem?_eq_some_iff.1 hg).1

theorem Arr.kept {w w' : World} {f : List Nat} {v : Value} {xs : List Value} (h : Arr w f v xs) (hk : ∀ x ∈ f, w'.heap[x]? = w.heap[x]?) : Arr w' f v xs := by
  obtain ⟨a, cap, rfl, h1, h2, h3⟩ := h
  refine ⟨a, cap, rfl, h1, h2, ?_⟩
  rcases h3 with h3 | ⟨g, off, cur, e, ha, rfl, hg, hc⟩
  · exact .inl h3
  · exact .inr ⟨g, off, cur, e, ha, rfl, (hk g (by simp)).trans hg, hc⟩

theorem Arr.ext {w w' : World} {f : List Nat} {v : Value} {xs : List Value} (h : Arr w f v xs) (e : Ext w w') : Arr w' f v xs :=
  h.kept fun x hx => Below.block e x (h.lt x hx)

theorem Arr.nil (w : World) (a : Option Addr) (cap : Nat) (h : cap ≤ maxLen) : Arr w [] (.slice a 0 cap) [] := ⟨a, cap, rfl, Nat.zero_le _, h, .inl ⟨rfl, rfl⟩⟩

/-- What the call owns is an array of its own. -/
theorem Arr.of_owns {w : World} {base : Nat} {e : TypeId} {v : Value} {n : Nat} {xs : List Value} (h : w.ownsRow base e 1 v n xs) : ∃ f, Arr w f v xs ∧ (∀ x ∈ f, base ≤ x) ∧ (f = [] ∨ ∃ g, f = [g] ∧ v.ownBlock = some g) := by
  obtain ⟨hl, h⟩ := h
  simp only [Nat.mul_one] at hl h
  rcases h with ⟨rfl, rfl⟩ | ⟨g, cap, cur, rfl, hb, hg, hn, hm, hs, ht⟩
  · have : xs = [] := List.eq_nil_of_length_eq_zero hl
    subst this
    exact ⟨[], Arr.nil _ _ _ (Nat.zero_le _), by simp, .inl rfl⟩
  · refine ⟨[g], ⟨some ⟨g, 0, none⟩, cap, by rw [hl], by rw [hl]; exact hn, hm, .inr ⟨g, 0, cur, e, rfl, rfl, hg, fun i x hx => ?_⟩⟩, by simpa using hb, .inr ⟨g, rfl, rfl⟩⟩
    rw [← ht, List.getElem?_take] at hx
    split at hx
    · simpa using hx
    · cases hx

def sliceV (v : Value) : Prop := ∃ a l c, v = .slice a l c

def nodeCells (n : Nd) (cv av kv : Value) : Array Value := #[i64 n.kind, cv, i64 n.pred, av, i64 n.left, i64 n.right, i64 n.typ, kv]

/-- A forest in memory: bs: the blocks of its roots; fp: all its blocks. -/
def isF (w : World) : Fo → List Nat → List Nat → Prop
  | .nil, bs, fp => bs = [] ∧ fp = []
  | .cons n k r, bs, fp => ∃ b bs' cv av kv ks fa fk fpk fpr, bs = b :: bs' ∧ fp = b :: (fa ++ (fk ++ (fpk ++ fpr))) ∧
      w.heap[b]? = some (.cells (nodeCells n cv av kv) 50 (0, 0)) ∧ sliceV cv ∧ Arr w fa av (n.args.map i64) ∧ Arr w fk kv (ks.map ptr) ∧ isF w k ks fpk ∧ isF w r bs' fpr

theorem isF.lt {w : World} {f : Fo} {bs fp : List Nat} (h : isF w f bs fp) : ∀ x ∈ fp, x < w.heap.size := by
  induction f generalizing bs fp with
  | nil => obtain ⟨_, rfl⟩ := h; intro x hx; cases hx
  | cons n k r ihk ihr =>
    obtain ⟨b, bs', cv, av, kv, ks, fa, fk, fpk, fpr, rfl, rfl, hb, _, ha, hk, hfk, hfr⟩ := h
    intro x hx
    simp only [List.mem_cons, List.mem_append] at hx
    rcases hx with rfl | hx | hx | hx | hx
    · exact (Array.getElem?_eq_some_iff.1 hb).1
    · exact ha.lt x hx
    · exact hk.lt x hx
    · exact ihk hfk x hx
    · exact ihr hfr x hx

theorem isF.kept {w w' : World} {f : Fo} {bs fp : List Nat} (h : isF w f bs fp) (hk : ∀ x ∈ fp, w'.heap[x]? = w.heap[x]?) : isF w' f bs fp := by
  induction f generalizing bs fp with
  | nil => exact h
  | cons n k r ihk ihr =>
    obtain ⟨b, bs', cv, av, kv, ks, fa, fk, fpk, fpr, rfl, rfl, hb, hc, ha, hkk, hfk, hfr⟩ := h
    refine ⟨b, bs', cv, av, kv, ks, fa, fk, fpk, fpr, rfl, rfl, (hk b (by simp)).trans hb, hc, ha.kept fun x hx => hk x (by simp [hx]), hkk.kept fun x hx => hk x (by simp [hx]), ihk hfk fun x hx => hk x (by simp [hx]), ihr hfr fun x hx => hk x (by simp [hx])⟩

theorem isF.ext {w w' : World} {f : Fo} {bs fp : List Nat} (h : isF w f bs fp) (e : Ext w w') : isF w' f bs fp :=
  h.kept fun x hx => Below.block e x (h.lt x hx)

theorem isF.len {w : World} {f : Fo} {bs fp : List Nat} (h : isF w f bs fp) : bs.length = f.len := by
  induction f generalizing bs fp with
  | nil => obtain ⟨rfl, rfl⟩ := h; rfl
  | cons n k r ihk ihr =>
    obtain ⟨b, bs', cv, av, kv, ks, fa, fk, fpk, fpr, rfl, rfl, hb, hc, ha, hkk, hfk, hfr⟩ := h
    simp [Fo.len, ihr hfr]

theorem isF.app {w : World} {f g : Fo} {bs cs fp gp : List Nat} (h : isF w f bs fp) (h' : isF w g cs gp) : isF w (f.app g) (bs ++ cs) (fp ++ gp) := by
  induction f generalizing bs fp with
  | nil => obtain ⟨rfl, rfl⟩ := h; exact h'
  | cons n k r ihk ihr =>
    obtain ⟨b, bs', cv, av, kv, ks, fa, fk, fpk, fpr, rfl, rfl, hb, hc, ha, hkk, hfk, hfr⟩ := h
    exact ⟨b, bs' ++ cs, cv, av, kv, ks, fa, fk, fpk, fpr ++ gp, rfl, by simp, hb, hc, ha, hkk, hfk, ihr hfr⟩

theorem isF.split {w : World} {f g : Fo} {bs fp : List Nat} (h : isF w (f.app g) bs fp) : ∃ b1 b2 f1 f2, bs = b1 ++ b2 ∧ fp = f1 ++ f2 ∧ isF w f b1 f1 ∧ isF w g b2 f2 := by
  induction f generalizing bs fp with
  | nil => exact ⟨[], bs, [], fp, rfl, rfl, ⟨rfl, rfl⟩, h⟩
  | cons n k r ihk ihr =>
    obtain ⟨b, bs', cv, av, kv, ks, fa, fk, fpk, fpr, rfl, rfl, hb, hc, ha, hkk, hfk, hfr⟩ := h
    obtain ⟨b1, b2, f1, f2, rfl, rfl, h1, h2⟩ := ihr hfr
    exact ⟨b :: b1, b2, b :: (fa ++ (fk ++ (fpk ++ f1))), f2, rfl, by simp, ⟨b, b1, cv, av, kv, ks, fa, fk, fpk, f1, rfl, rfl, hb, hc, ha, hkk, hfk, h1⟩, h2⟩

end Go.Proofs.Ytodlkjjoenglgaa

/- A region that draws its order of evaluation, walked once, in one canonical order: its loud operations stand in one forced order, and the others yield the same value wherever they come up. -/
namespace Go.Proofs.Ytodlkjjoenglgaa
open Go Go.RowKit

section canon
variable {P : Program} {ops : Array Oper} {Q : Exit → Act → World → Prop} {G : World → World → Prop}

def dstOf (ops : Array Oper) (i : Nat) : Option Tmp := (ops[i]?).bind (·.dst)

/-- Q, but 'False' at a panic. -/
def NP (Q : Exit → Act → World → Prop) : Exit → Act → World → Prop
  | .panic _, _, _ => False
  | e, a, w => Q e a w

/-- Operation i, which only yields, in the frame ac: 0: in whatever world; 1: in whatever world has grown from w. -/
def Stays (G : World → World → Prop) (P : Program) (o : Oper) (k : Nat) (a : Act) (w : World) (v : Value) : Prop :=
  ∀ w', (k = 0 ∨ G w w') → (execOp a.eval o).run P w' = .ok (.value v) w'

/-- The region in its canonical order: (i, k): operation i, of kind k: 0: it yields in whatever world; 1: it reads; 2: it only makes the world grow; 3: whatever else. -/
def seqW (G : World → World → Prop) (P : Program) (ops : Array Oper) (Q : Exit → Act → World → Prop) : List (Nat × Nat) → Act → World → Prop
  | [], a, w => Q .normal a w
  | (i, k) :: r, a, w => ∃ o, ops[i]? = some o ∧
      if k ≤ 1 then
        (Region.wanted o (yielded ops a.tmps) = true ∧ ∃ v, Stays G P o k a w v ∧ seqW G P ops Q r (a.put o.dst v) w) ∨
        (Region.wanted o (yielded ops a.tmps) = false ∧ seqW G P ops Q r (a.put o.dst undef) w)
      else if Region.wanted o (yielded ops a.tmps) then o.wp P a w (fun a' w' => (k = 2 → G w w') ∧ seqW G P ops Q r a' w') (NP Q)
      else seqW G P ops Q r (a.put o.dst undef) w

def anc (B : Array Nat) (i k : Nat) : Bool := (B.getD i 0).testBit k

/-- i stands ahead of j in the canonical order. -/
def Ahead (ops : Array Oper) (B : Array Nat) (x y : Nat × Nat) : Prop :=
  (2 ≤ x.2 → anc B y.1 x.1 = true) ∧ anc B x.1 y.1 = false ∧ (x.2 = 1 → 3 ≤ y.2 → anc B y.1 x.1 = true) ∧ x.1 ≠ y.1 ∧ (dstOf ops x.1 = none ∨ dstOf ops x.1 ≠ dstOf ops y.1)

instance (ops : Array Oper) (B : Array Nat) (x y : Nat × Nat) : Decidable (Ahead ops B x y) := by unfold Ahead; infer_instance

structure Canon (ops : Array Oper) (B : Array Nat) (ord : List (Nat × Nat)) : Prop where
  pair : ord.Pairwise (Ahead ops B)
  all : ∀ i, i < ops.size → i ∈ ord.map (·.1)
  lt : ∀ x ∈ ord, x.1 < ops.size
  self : ∀ i, i < ops.size → anc B i i = false
  edge : ∀ i, i < ops.size → ∀ e ∈ (ops.getD i default).after.toList, Region.binds .any e = true → e.on < ops.size ∧ anc B i e.on = true
  root : ∀ i, i < ops.size → ∀ k, k < ops.size → anc B i k = true → ∃ e ∈ (ops.getD i default).after.toList, Region.binds .any e = true ∧ (e.on = k ∨ anc B e.on k = true)
  looks : ∀ i, i < ops.size → ∀ t ∈ (ops.getD i default).looksAt ops, ∀ j, j < ops.size → dstOf ops j = some t → anc B i j = true
  len : ord.length ≤ ops.size
  plain : ∀ i, i < ops.size → (match (ops.getD i default).op with | .select .. => false | _ => true) = true

/-- The kernel's look at a region: what 'Canon' asks. -/
def canonB (ops : Array Oper) (ord : List (Nat × Nat)) : Bool :=
  let B := Region.before ops
  let r := List.range ops.size
  decide (ord.Pairwise (Ahead ops B)) && decide (ord.length ≤ ops.size) && r.all (fun i => (ord.map (·.1)).contains i) && ord.all (fun x => decide (x.1 < ops.size)) &&
  r.all (fun i => !anc B i i) &&
  r.all (fun i => (ops.getD i default).after.toList.all fun e => !Region.binds .any e || (decide (e.on < ops.size) && anc B i e.on)) &&
  r.all (fun i => r.all fun k => !anc B i k || (ops.getD i default).after.toList.any fun e => Region.binds .any e && (e.on == k || anc B e.on k)) &&
  r.all (fun i => ((ops.getD i default).looksAt ops).all fun t => r.all fun j => !(dstOf ops j == some t) || anc B i j) &&
  r.all (fun i => match (ops.getD i default).op with | .select .. => false | _ => true)

theorem canon_of_B {ord : List (Nat × Nat)} (h : canonB ops ord = true) : Canon ops (Region.before ops) ord := by
  unfold canonB at h
  simp only [Bool.and_eq_true, decide_eq_true_eq, List.all_eq_true, List.mem_range, List.contains_eq_mem, Bool.or_eq_true, Bool.not_eq_true', List.any_eq_true, beq_iff_eq] at h
  obtain ⟨⟨⟨⟨⟨⟨⟨⟨h1, h0⟩, h2⟩, h3⟩, h4⟩, h5⟩, h6⟩, h7⟩, h8⟩ := h
  refine ⟨h1, h2, h3, h4, ?_, ?_, ?_, h0, h8⟩
  · intro i hi e he hb
    rcases h5 i hi e he with h | h
    · rw [h] at hb; cases hb
    · exact h
  · intro i hi k hk ha
    rcases h6 i hi k hk with h | ⟨e, he, hb, h⟩
    · rw [h] at ha; cases ha
    · exact ⟨e, he, hb, h⟩
  · intro i hi t ht j hj hd
    rcases h7 i hi t ht j hj with h | h
    · rw [hd] at h; simp at h
    · exact h

/-- ac is a with the slots of the pending operations written. -/
structure Rel (ops : Array Oper) (pend : List (Nat × Nat)) (a ac : Act) : Prop where
  defers : ac.defers = a.defers
  size : ac.tmps.size = a.tmps.size
  same : ∀ t : Nat, (∀ x ∈ pend, dstOf ops x.1 ≠ some t) → ac.tmps[t]? = a.tmps[t]?

/-- A pending operation, looked at from the canonical frame. -/
def Yd (G : World → World → Prop) (P : Program) (ops : Array Oper) (x : Nat × Nat) (ac : Act) (w : World) : Prop :=
  ∃ o v, ops[x.1]? = some o ∧ ac.put o.dst v = ac ∧
    ((Region.wanted o (yielded ops ac.tmps) = true ∧ Stays G P o x.2 ac w v) ∨ (Region.wanted o (yielded ops ac.tmps) = false ∧ v = undef))

theorem dstOf_eq {i : Nat} {o : Oper} (h : ops[i]? = some o) : dstOf ops i = o.dst := by simp [dstOf, h]

theorem eval_same {a ac : Act} {o : Oper} (h : ∀ t ∈ o.looksAt ops, ac.tmps[t]? = a.tmps[t]?) (x : Operand) (hx : x ∈ o.op.operands) : ac.eval x = a.eval x := by
  cases x with
  | tmp t =>
    have ht : t ∈ o.looksAt ops := List.mem_append_left _ (List.mem_filterMap.2 ⟨.tmp t, by simpa using hx, rfl⟩)
    simp [Act.eval, Array.getD_eq_getD_getElem?, h t ht]
  | _ => rfl

theorem wanted_same {a ac : Act} {o : Oper} (h : ∀ t ∈ o.looksAt ops, ac.tmps[t]? = a.tmps[t]?) : Region.wanted o (yielded ops ac.tmps) = Region.wanted o (yielded ops a.tmps) := by
  unfold Region.wanted
  cases hg : o.guard with
  | none => rfl
  | some gw =>
    obtain ⟨g, want⟩ := gw
    have hy : yielded ops ac.tmps g = yielded ops a.tmps g := by
      unfold yielded
      cases ht : (ops[g]?).bind (·.dst) with
      | none => rfl
      | some t =>
        have : t ∈ o.looksAt ops := by
          unfold Oper.looksAt
          exact List.mem_append_right _ (by simp [hg, ht])
        simp [h t this]
    simp only [hy]

theorem put_get {a : Act} {d : Option Tmp} {v : Value} {t : Nat} (h : d ≠ some t) : (a.put d v).tmps[t]? = a.tmps[t]? := by
  cases d with
  | none => rfl
  | some d =>
    have : d ≠ t := fun e => h (by rw [e])
    simp [Act.put, Array.getElem?_setIfInBounds_ne this]

theorem put_size {a : Act} {d : Option Tmp} {v : Value} : (a.put d v).tmps.size = a.tmps.size := by cases d <;> simp [Act.put]
theorem put_defers {a : Act} {d : Option Tmp} {v : Value} : (a.put d v).defers = a.defers := by cases d <;> rfl
theorem put_put {a : Act} {d : Option Tmp} {v : Value} : (a.put d v).put d v = a.put d v := by cases d <;> simp [Act.put]
theorem put_same {a : Act} {d : Tmp} {v : Value} (h : d < a.tmps.size) : (a.put (some d) v).tmps[d]? = some v := by simp [Act.put, h]

variable {B : Array Nat} {ord : List (Nat × Nat)}

theorem Canon.exec_same (hc : Canon ops B ord) {i : Nat} {o : Oper} (hi : ops[i]? = some o) {a ac : Act}
    (h : ∀ t ∈ o.looksAt ops, ac.tmps[t]? = a.tmps[t]?) : execOp ac.eval o = execOp a.eval o := by
  have hlt : i < ops.size := (Array.getElem?_eq_some_iff.1 hi).1
  have hp := hc.plain i hlt
  have hgo : ops.getD i default = o := by simp [Array.getD_eq_getD_getElem?, hi]
  rw [hgo] at hp
  exact execOp_congr o (fun cs b e => by rw [e] at hp; cases hp) (fun x hx => eval_same h x hx)

/-- What operation i looks at is written by none that is no ancestor of i's. -/
theorem Canon.looks_ne (hc : Canon ops B ord) {i j : Nat} {o : Oper} (hi : ops[i]? = some o) (hj : j < ops.size) (h : anc B i j = false) : ∀ t ∈ o.looksAt ops, dstOf ops j ≠ some t := by
  intro t ht e
  have hlt : i < ops.size := (Array.getElem?_eq_some_iff.1 hi).1
  have hgo : ops.getD i default = o := by simp [Array.getD_eq_getD_getElem?, hi]
  have := hc.looks i hlt t (by rw [hgo]; exact ht) j hj e
  rw [h] at this; cases this

/-- The frame turned at a slot at which the pending operation does not look, and which it does not write. -/
theorem Yd.put (hc : Canon ops B ord) {x : Nat × Nat} {ac : Act} {w : World} (h : Yd G P ops x ac w) {j : Nat} (hj : j < ops.size) (ha : anc B x.1 j = false)
    (hd : dstOf ops x.1 = none ∨ dstOf ops x.1 ≠ dstOf ops j) (u : Value) : Yd G P ops x (ac.put (dstOf ops j) u) w := by
  obtain ⟨o, v, ho, hput, hy⟩ := h
  have hl := hc.looks_ne ho hj ha
  have hsame : ∀ t ∈ o.looksAt ops, (ac.put (dstOf ops j) u).tmps[t]? = ac.tmps[t]? := fun t ht => put_get (hl t ht)
  refine ⟨o, v, ho, ?_, ?_⟩
  · rw [dstOf_eq ho] at hd
    rw [Act.put_comm ac u v (x := dstOf ops j) (y := o.dst) (fun d hd' e => by
      rcases hd with hd | hd
      · rw [hd] at e; cases e
      · exact hd (by rw [hd', e])), hput]
  · rw [wanted_same hsame]
    unfold Stays
    rw [hc.exec_same ho hsame]
    exact hy

theorem Yd.ext (ht : ∀ {a b c : World}, G a b → G b c → G a c) {x : Nat × Nat} {ac : Act} {w w' : World} (h : Yd G P ops x ac w) (hk : x.2 = 0 ∨ G w w') : Yd G P ops x ac w' := by
  obtain ⟨o, v, ho, hput, hy⟩ := h
  refine ⟨o, v, ho, hput, ?_⟩
  rcases hy with ⟨h1, h2⟩ | h
  · refine .inl ⟨h1, fun w'' h'' => h2 w'' ?_⟩
    rcases hk with hk | hk
    · exact .inl hk
    · rcases h'' with h'' | h''
      · exact .inl h''
      · exact .inr (ht hk h'')
  · exact .inr h

/-- The head of the rest, which only yields, is carried out in the canonical frame: it is pending now. -/
theorem advance (hc : Canon ops B ord) {pend rest : List (Nat × Nat)} {x : Nat × Nat} {a ac : Act} {w : World}
    (hpw : (pend ++ x :: rest).Pairwise (Ahead ops B)) (hlt : ∀ y ∈ pend ++ x :: rest, y.1 < ops.size) (hk : x.2 ≤ 1)
    (hrel : Rel ops pend a ac) (hy : ∀ y ∈ pend, Yd G P ops y ac w) (hs : seqW G P ops Q (x :: rest) ac w) :
    ∃ ac', Rel ops (pend ++ [x]) a ac' ∧ (∀ y ∈ pend ++ [x], Yd G P ops y ac' w) ∧ seqW G P ops Q rest ac' w := by
  obtain ⟨i, k⟩ := x
  have hi : i < ops.size := hlt (i, k) (by simp)
  obtain ⟨o, ho, hs⟩ := hs
  simp only at hk
  rw [if_pos hk] at hs
  have hself : ∀ t ∈ o.looksAt ops, dstOf ops i ≠ some t := hc.looks_ne ho hi (hc.self i hi)
  have key : ∀ v, ((Region.wanted o (yielded ops ac.tmps) = true ∧ Stays G P o k ac w v) ∨ (Region.wanted o (yielded ops ac.tmps) = false ∧ v = undef)) → seqW G P ops Q rest (ac.put o.dst v) w →
      ∃ ac', Rel ops (pend ++ [(i, k)]) a ac' ∧ (∀ y ∈ pend ++ [(i, k)], Yd G P ops y ac' w) ∧ seqW G P ops Q rest ac' w := by
    intro v hv hs
    refine ⟨ac.put o.dst v, ⟨put_defers.trans hrel.defers, put_size.trans hrel.size, fun t ht => ?_⟩, fun y hyM => ?_, hs⟩
    · have h1 : o.dst ≠ some t := by rw [← dstOf_eq ho]; exact ht (i, k) (by simp)
      rw [put_get h1]
      exact hrel.same t (fun x hx => ht x (by simp [hx]))
    · rcases List.mem_append.1 hyM with hm | hm
      · have ha := (List.pairwise_append.1 hpw).2.2 y hm (i, k) (by simp)
        have := (hy y hm).put hc hi ha.2.1 ha.2.2.2.2 v
        rwa [dstOf_eq ho] at this
      · simp only [List.mem_singleton] at hm
        subst hm
        have hsame : ∀ t ∈ o.looksAt ops, (ac.put o.dst v).tmps[t]? = ac.tmps[t]? := fun t ht => put_get (by rw [← dstOf_eq ho]; exact hself t ht)
        refine ⟨o, v, ho, put_put, ?_⟩
        rw [wanted_same hsame]
        unfold Stays
        rw [hc.exec_same ho hsame]
        exact hv
  rcases hs with ⟨h1, v, h2, h3⟩ | ⟨h1, h3⟩
  · exact key v (.inl ⟨h1, h2⟩) h3
  · exact key undef (.inr ⟨h1, rfl⟩) h3

theorem advance_all (hc : Canon ops B ord) {a : Act} {w : World} : ∀ (r1 : List (Nat × Nat)) (pend rest : List (Nat × Nat)) (ac : Act),
    (pend ++ (r1 ++ rest)).Pairwise (Ahead ops B) → (∀ y ∈ pend ++ (r1 ++ rest), y.1 < ops.size) → (∀ x ∈ r1, x.2 ≤ 1) →
    Rel ops pend a ac → (∀ y ∈ pend, Yd G P ops y ac w) → seqW G P ops Q (r1 ++ rest) ac w →
    ∃ ac', Rel ops (pend ++ r1) a ac' ∧ (∀ y ∈ pend ++ r1, Yd G P ops y ac' w) ∧ seqW G P ops Q rest ac' w := by
  intro r1
  induction r1 with
  | nil => intro pend rest ac _ _ _ hrel hy hs; exact ⟨ac, by simpa using hrel, by simpa using hy, by simpa using hs⟩
  | cons x r1 ih =>
    intro pend rest ac hpw hlt hk hrel hy hs
    obtain ⟨ac1, h1, h2, h3⟩ := advance hc (by simpa using hpw) (by simpa using hlt) (hk x (by simp)) hrel hy hs
    obtain ⟨ac2, g1, g2, g3⟩ := ih (pend ++ [x]) rest ac1 (by simpa using hpw) (by simpa using hlt) (fun y hy => hk y (by simp [hy])) h1 h2 h3
    exact ⟨ac2, by simpa using g1, by simpa using g2, g3⟩

theorem getD_set {l : Array Bool} {i j : Nat} (hi : i < l.size) (d : Bool) : (l.setIfInBounds i true).getD j d = if j = i then true else l.getD j d := by
  simp only [Array.getD_eq_getD_getElem?]
  by_cases h : j = i
  · subst h; simp [hi]
  · rw [if_neg h, Array.getElem?_setIfInBounds_ne (Ne.symm h)]

theorem canon_any (hr : ∀ w : World, G w w) (ht : ∀ {a b c : World}, G a b → G b c → G a c) (hc : Canon ops B ord) : ∀ (fuel : Nat) (pend rest : List (Nat × Nat)) (listed : Array Bool) (a ac : Act) (w : World),
    listed.size = ops.size → (pend ++ rest).length ≤ fuel →
    (pend ++ rest).Pairwise (Ahead ops B) → (∀ y ∈ pend ++ rest, y.1 < ops.size) →
    (∀ i, i < ops.size → (listed.getD i false = false ↔ i ∈ (pend ++ rest).map (·.1))) →
    (∀ i, i < ops.size → listed.getD i false = true → ∀ k, k < ops.size → anc B i k = true → listed.getD k false = true) →
    (∀ x ∈ pend, x.2 ≤ 1) →
    Rel ops pend a ac → (∀ y ∈ pend, Yd G P ops y ac w) → seqW G P ops Q rest ac w →
    wpAny P .any ops Q fuel listed a w := by
  intro fuel
  induction fuel with
  | zero =>
    intro pend rest listed a ac w hsz hlen hpw hlt hun hcl hk hrel hy hs
    have h0 : pend ++ rest = [] := List.eq_nil_of_length_eq_zero (by omega)
    obtain ⟨rfl, rfl⟩ := List.append_eq_nil_iff.1 h0
    have hac : a = ac := by
      obtain ⟨tm, df⟩ := a
      obtain ⟨tm', df'⟩ := ac
      obtain ⟨e1, e2, e3⟩ := hrel
      simp only at e1 e2 e3
      subst e1
      have : tm' = tm := Array.ext_getElem? (fun t => e3 t (fun x hx => by cases hx))
      rw [this]
    subst hac
    refine ⟨?_, hs⟩
    rw [List.eq_nil_iff_forall_not_mem]
    intro i hi
    rw [mem_ready] at hi
    obtain ⟨h1, o, ho, _⟩ := hi
    have hlt : i < ops.size := (Array.getElem?_eq_some_iff.1 ho).1
    have : listed.getD i false = false := by
      rw [Array.getD_eq_getD_getElem?] at h1 ⊢
      rw [Array.getElem?_eq_getElem (by omega)] at h1 ⊢
      exact h1
    have := (hun i hlt).1 this
    simp at this
  | succ fuel ih =>
    intro pend rest listed a ac w hsz hlen hpw hlt hun hcl hk hrel hy hs
    -- the pending case, whatever has been moved into 'pend'
    have stepPend : ∀ (pend rest : List (Nat × Nat)) (ac : Act) (p1 p2 : List (Nat × Nat)) (x : Nat × Nat), pend = p1 ++ x :: p2 → (pend ++ rest).length ≤ fuel + 1 →
        (pend ++ rest).Pairwise (Ahead ops B) → (∀ y ∈ pend ++ rest, y.1 < ops.size) → (∀ i, i < ops.size → (listed.getD i false = false ↔ i ∈ (pend ++ rest).map (·.1))) →
        (∀ x ∈ pend, x.2 ≤ 1) → Rel ops pend a ac → (∀ y ∈ pend, Yd G P ops y ac w) → seqW G P ops Q rest ac w → x.1 ∈ Region.ready .any ops listed →
        wpOp P ops Q x.1 (wpAny P .any ops Q fuel (listed.setIfInBounds x.1 true)) a w := by
      intro pend rest ac p1 p2 x hp hlen hpw hlt hun hk hrel hy hs hready
      subst hp
      have hxlt : x.1 < ops.size := hlt x (by simp)
      obtain ⟨hul, o', ho', hedges⟩ := mem_ready.1 hready
      obtain ⟨o, v, ho, hput, hyv⟩ := hy x (by simp)
      -- i looks at no slot of a pending one
      have hanc : ∀ k, k < ops.size → anc B x.1 k = true → listed.getD k false = true := by
        intro k hk' ha
        have hgo : ops.getD x.1 default = o := by simp [Array.getD_eq_getD_getElem?, ho]
        obtain ⟨e, he, hb, h⟩ := hc.root x.1 hxlt k hk' ha
        rw [hgo] at he
        rw [ho] at ho'; cases ho'
        have hl := hedges e (Array.mem_toList_iff.1 he) hb
        rcases h with h | h
        · rw [← h]; exact hl
        · have helt := (hc.edge x.1 hxlt e (by rw [hgo]; exact he) hb).1
          exact hcl e.on helt hl k hk' h
      have hsame : ∀ t ∈ o.looksAt ops, ac.tmps[t]? = a.tmps[t]? := by
        intro t ht
        refine hrel.same t (fun y hyM e => ?_)
        have hylt := hlt y (List.mem_append_left _ hyM)
        have hgo : ops.getD x.1 default = o := by simp [Array.getD_eq_getD_getElem?, ho]
        have := hanc y.1 hylt (hc.looks x.1 hxlt t (by rw [hgo]; exact ht) y.1 hylt e)
        have h2 := (hun y.1 hylt).2 (List.mem_map.2 ⟨y, List.mem_append_left _ hyM, rfl⟩)
        rw [h2] at this; cases this
      have hpw' : (p1 ++ p2 ++ rest).Pairwise (Ahead ops B) := by
        refine List.Pairwise.sublist ?_ hpw
        rw [List.append_assoc, List.append_assoc]
        exact (List.Sublist.refl p1).append ((List.sublist_cons_self x p2).append_right rest)
      have hne : ∀ y ∈ p1 ++ p2 ++ rest, y.1 ≠ x.1 ∧ (dstOf ops x.1 = none ∨ dstOf ops x.1 ≠ dstOf ops y.1) := by
        intro y hyM
        rw [List.append_assoc, List.pairwise_append] at hpw
        obtain ⟨_, hq, hr'⟩ := hpw
        rw [List.cons_append, List.pairwise_cons] at hq
        rw [List.append_assoc] at hyM
        rcases List.mem_append.1 hyM with h | h
        · have := hr' y h x (by simp)
          refine ⟨this.2.2.2.1, ?_⟩
          rcases this.2.2.2.2 with e | e
          · by_cases ex : dstOf ops x.1 = none
            · exact .inl ex
            · exact .inr (by rw [e]; exact ex)
          · exact .inr (Ne.symm e)
        · have := hq.1 y h
          exact ⟨Ne.symm this.2.2.2.1, this.2.2.2.2⟩
      have hnext : wpAny P .any ops Q fuel (listed.setIfInBounds x.1 true) (a.put o.dst v) w := by
        refine ih (p1 ++ p2) rest (listed.setIfInBounds x.1 true) (a.put o.dst v) ac w (by simpa using hsz) (by simp at hlen ⊢; omega) hpw'
          (fun y hyM => hlt y (by grind)) ?_ ?_ (fun y hyM => hk y (by grind)) ?_ (fun y hyM => hy y (by grind)) hs
        · intro i hi
          rw [getD_set (by omega)]
          by_cases hix : i = x.1
          · subst hix
            simp only [if_true, Bool.true_eq_false, false_iff]
            intro hm
            obtain ⟨y, hyM, hyE⟩ := List.mem_map.1 hm
            exact (hne y hyM).1 hyE
          · rw [if_neg hix, hun i hi]
            simp only [List.map_append, List.map_cons, List.mem_append, List.mem_cons]
            constructor
            · rintro ((h | h | h) | h)
              · exact .inl (.inl h)
              · exact absurd h hix
              · exact .inl (.inr h)
              · exact .inr h
            · rintro ((h | h) | h)
              · exact .inl (.inl h)
              · exact .inl (.inr (.inr h))
              · exact .inr h
        · intro i hi hli k hk' ha
          rw [getD_set (by omega)] at hli ⊢
          by_cases hkx : k = x.1
          · rw [if_pos hkx]
          · rw [if_neg hkx]
            by_cases hix : i = x.1
            · subst hix; exact hanc k hk' ha
            · rw [if_neg hix] at hli; exact hcl i hi hli k hk' ha
        · refine ⟨hrel.defers.trans put_defers.symm, hrel.size.trans put_size.symm, fun t ht => ?_⟩
          by_cases hd : o.dst = some t
          · rw [hd]
            by_cases hts : t < a.tmps.size
            · rw [put_same hts]
              have := hput
              rw [hd] at this
              rw [← this, put_same (by rw [hrel.size]; exact hts)]
            · rw [Array.getElem?_eq_none (by rw [hrel.size]; omega), Array.getElem?_eq_none (by rw [put_size]; omega)]
          · rw [put_get hd]
            refine hrel.same t (fun y hyM => ?_)
            by_cases hyx : y = x
            · subst hyx; rw [dstOf_eq ho]; exact hd
            · exact ht y (by grind)
      unfold wpOp
      rw [ho]
      simp only
      rcases hyv with ⟨hw, hst⟩ | ⟨hw, rfl⟩
      · rw [wanted_same hsame] at hw
        rw [if_pos hw]
        refine .inl ?_
        unfold Oper.wp
        rw [← hc.exec_same ho hsame, hst w (.inr (hr w))]
        exact hnext
      · rw [wanted_same hsame] at hw
        rw [if_neg (by rw [hw]; simp)]
        exact hnext
    refine ⟨fun hnil => ?_, fun i hi => ?_⟩
    · -- nothing may come up: nothing is left
      cases hpr : pend ++ rest with
      | nil =>
        obtain ⟨rfl, rfl⟩ := List.append_eq_nil_iff.1 hpr
        have hac : a = ac := by
          obtain ⟨tm, df⟩ := a
          obtain ⟨tm', df'⟩ := ac
          obtain ⟨e1, e2, e3⟩ := hrel
          simp only at e1 e2 e3
          subst e1
          have : tm' = tm := Array.ext_getElem? (fun t => e3 t (fun x hx => by cases hx))
          rw [this]
        subst hac
        exact hs
      | cons y l =>
        exfalso
        have hylt : y.1 < ops.size := hlt y (by rw [hpr]; simp)
        have hyu : listed.getD y.1 false = false := (hun y.1 hylt).2 (by rw [hpr]; simp)
        obtain ⟨o, ho⟩ : ∃ o, ops[y.1]? = some o := ⟨ops[y.1], Array.getElem?_eq_getElem hylt⟩
        have hgo : ops.getD y.1 default = o := by simp [Array.getD_eq_getD_getElem?, ho]
        have : y.1 ∈ Region.ready .any ops listed := by
          rw [mem_ready]
          refine ⟨?_, o, ho, fun e he hb => ?_⟩
          · rw [Array.getD_eq_getD_getElem?] at hyu ⊢
            rw [Array.getElem?_eq_getElem (by omega)] at hyu ⊢
            exact hyu
          · obtain ⟨hel, hea⟩ := hc.edge y.1 hylt e (by rw [hgo]; exact Array.mem_toList_iff.2 he) hb
            cases hle : listed.getD e.on false with
            | true => rfl
            | false =>
              exfalso
              have hm := (hun e.on hel).1 hle
              rw [hpr] at hm
              simp only [List.map_cons, List.mem_cons] at hm
              rcases hm with h | h
              · rw [h, hc.self y.1 hylt] at hea; cases hea
              · obtain ⟨z, hz, hzE⟩ := List.mem_map.1 h
                rw [hpr, List.pairwise_cons] at hpw
                have := (hpw.1 z hz).2.1
                rw [hzE, hea] at this; cases this
        rw [hnil] at this
        cases this
    · -- operation i comes up
      obtain ⟨hul, o, ho, hedges⟩ := mem_ready.1 hi
      have hilt : i < ops.size := (Array.getElem?_eq_some_iff.1 ho).1
      have hgo : ops.getD i default = o := by simp [Array.getD_eq_getD_getElem?, ho]
      have hiu : listed.getD i false = false := by
        rw [Array.getD_eq_getD_getElem?] at hul ⊢
        rw [Array.getElem?_eq_getElem (by omega)] at hul ⊢
        exact hul
      have hanc : ∀ k, k < ops.size → anc B i k = true → listed.getD k false = true := by
        intro k hk' ha
        obtain ⟨e, he, hb, h⟩ := hc.root i hilt k hk' ha
        rw [hgo] at he
        have hl := hedges e (Array.mem_toList_iff.1 he) hb
        rcases h with h | h
        · rw [← h]; exact hl
        · exact hcl e.on (hc.edge i hilt e (by rw [hgo]; exact he) hb).1 hl k hk' h
      obtain ⟨x, hx, rfl⟩ := List.mem_map.1 ((hun i hilt).1 hiu)
      rcases List.mem_append.1 hx with hx | hx
      · obtain ⟨p1, p2, hp⟩ := List.append_of_mem hx
        exact stepPend pend rest ac p1 p2 x hp hlen hpw hlt hun hk hrel hy hs hi
      · obtain ⟨r1, r2, hrr⟩ := List.append_of_mem hx
        subst hrr
        -- nothing loud stands ahead of it
        have hr1 : ∀ y ∈ r1, y.2 ≤ 1 := by
          intro y hyM
          rcases Nat.lt_or_ge y.2 2 with h | h
          · omega
          · exfalso
            have hpw2 := (List.pairwise_append.1 hpw).2.1
            have := (List.pairwise_append.1 hpw2).2.2 y hyM x (by simp)
            have hylt := hlt y (by simp [hyM])
            have h1 := hanc y.1 hylt (this.1 h)
            have h2 := (hun y.1 hylt).2 (List.mem_map.2 ⟨y, by simp [hyM], rfl⟩)
            rw [h2] at h1; cases h1
        obtain ⟨ac1, hrel1, hy1, hs1⟩ := advance_all hc (a := a) (w := w) r1 pend (x :: r2) ac hpw hlt hr1 hrel hy hs
        have hpw1 : ((pend ++ r1) ++ x :: r2).Pairwise (Ahead ops B) := by simpa using hpw
        have hlt1 : ∀ y ∈ (pend ++ r1) ++ x :: r2, y.1 < ops.size := by simpa using hlt
        have hk1 : ∀ y ∈ pend ++ r1, y.2 ≤ 1 := fun y hyM => by
          rcases List.mem_append.1 hyM with h | h
          · exact hk y h
          · exact hr1 y h
        by_cases hkx : x.2 ≤ 1
        · obtain ⟨ac2, hrel2, hy2, hs2⟩ := advance hc hpw1 hlt1 hkx hrel1 hy1 hs1
          refine stepPend ((pend ++ r1) ++ [x]) r2 ac2 (pend ++ r1) [] x rfl (by simp at hlen ⊢; omega) (by simpa using hpw) (by simpa using hlt) (by simpa using hun) ?_ hrel2 hy2 hs2 hi
          intro y hyM
          rcases List.mem_append.1 hyM with h | h
          · exact hk1 y h
          · simp only [List.mem_singleton] at h; subst h; exact hkx
        · -- a loud one
          obtain ⟨xi, xk⟩ := x
          simp only at ho hgo hanc hkx hiu hilt hedges hi hul
          obtain ⟨o2, ho2, hs1⟩ := hs1
          rw [ho] at ho2; cases ho2
          rw [if_neg hkx] at hs1
          have hpa : ∀ y ∈ pend ++ r1, Ahead ops B y (xi, xk) := fun y hyM => (List.pairwise_append.1 hpw1).2.2 y hyM (xi, xk) (by simp)
          have hsame : ∀ t ∈ o.looksAt ops, ac1.tmps[t]? = a.tmps[t]? := by
            intro t ht
            refine hrel1.same t (fun y hyM e => ?_)
            have hylt := hlt1 y (List.mem_append_left _ hyM)
            have := hanc y.1 hylt (hc.looks xi hilt t (by rw [hgo]; exact ht) y.1 hylt e)
            have h2 := (hun y.1 hylt).2 (List.mem_map.2 ⟨y, by grind, rfl⟩)
            rw [h2] at this; cases this
          have hnext : ∀ (u : Value) (w' : World) (ds : List Deferred), (xk = 2 → G w w') → seqW G P ops Q r2 (({ ac1 with defers := ds } : Act).put o.dst u) w' →
              wpAny P .any ops Q fuel (listed.setIfInBounds xi true) (({ a with defers := ds } : Act).put o.dst u) w' := by
            intro u w' ds hE hs2
            refine ih (pend ++ r1) r2 (listed.setIfInBounds xi true) _ (({ ac1 with defers := ds } : Act).put o.dst u) w' (by simpa using hsz) (by simp at hlen ⊢; omega) ?_
              (fun y hyM => hlt1 y (by grind)) ?_ ?_ hk1 ?_ ?_ hs2
            · exact List.Pairwise.sublist ((List.Sublist.refl (pend ++ r1)).append (List.sublist_cons_self (xi, xk) r2)) hpw1
            · intro j hj
              rw [getD_set (by omega)]
              by_cases hjx : j = xi
              · subst hjx
                simp only [if_true, Bool.true_eq_false, false_iff]
                intro hm
                obtain ⟨y, hyM, hyE⟩ := List.mem_map.1 hm
                rcases List.mem_append.1 hyM with h | h
                · exact (hpa y h).2.2.2.1 hyE
                · have h3 := (List.pairwise_append.1 hpw1).2.1
                  rw [List.pairwise_cons] at h3
                  exact (h3.1 y h).2.2.2.1 hyE.symm
              · rw [if_neg hjx, hun j hj]
                simp only [List.map_append, List.map_cons, List.mem_append, List.mem_cons]
                constructor
                · rintro (h | h | h | h)
                  · exact .inl (.inl h)
                  · exact .inl (.inr h)
                  · exact absurd h hjx
                  · exact .inr h
                · rintro ((h | h) | h)
                  · exact .inl h
                  · exact .inr (.inl h)
                  · exact .inr (.inr (.inr h))
            · intro j hj hlj k hk' ha
              rw [getD_set (by omega)] at hlj ⊢
              by_cases hkx' : k = xi
              · rw [if_pos hkx']
              · rw [if_neg hkx']
                by_cases hjx : j = xi
                · subst hjx; exact hanc k hk' ha
                · rw [if_neg hjx] at hlj; exact hcl j hj hlj k hk' ha
            · refine ⟨by rw [put_defers, put_defers], by rw [put_size, put_size]; exact hrel1.size, fun t ht => ?_⟩
              by_cases hd : o.dst = some t
              · rw [hd]
                by_cases hts : t < a.tmps.size
                · rw [put_same (a := { a with defers := ds }) hts, put_same (a := { ac1 with defers := ds }) (by show t < ac1.tmps.size; rw [hrel1.size]; exact hts)]
                · rw [Array.getElem?_eq_none (by rw [put_size]; show ac1.tmps.size ≤ t; rw [hrel1.size]; omega), Array.getElem?_eq_none (by rw [put_size]; show a.tmps.size ≤ t; omega)]
              · rw [put_get hd, put_get hd]
                exact hrel1.same t ht
            · intro y hyM
              have hA := hpa y hyM
              have h1 : Yd G P ops y ({ ac1 with defers := ds } : Act) w := by
                obtain ⟨oy, v, hoy, hput, hyy⟩ := hy1 y hyM
                refine ⟨oy, v, hoy, ?_, hyy⟩
                have := congrArg Act.tmps hput
                cases hdd : oy.dst with
                | none => rfl
                | some d => rw [hdd] at this; simp only [Act.put] at this ⊢; rw [this]
              have h2 := h1.put hc hilt hA.2.1 hA.2.2.2.2 u
              rw [dstOf_eq ho] at h2
              refine Yd.ext (G := G) ht h2 ?_
              rcases Nat.lt_or_ge y.2 1 with h | h
              · exact .inl (by omega)
              · have hy1' : y.2 = 1 := by have := hk1 y hyM; omega
                by_cases hx2 : xk = 2
                · exact .inr (hE hx2)
                · exfalso
                  have hylt := hlt1 y (List.mem_append_left _ hyM)
                  have h3 := hanc y.1 hylt (hA.2.2.1 hy1' (by simp only at hkx ⊢; omega))
                  have h4 := (hun y.1 hylt).2 (List.mem_map.2 ⟨y, by grind, rfl⟩)
                  rw [h4] at h3; cases h3
          unfold wpOp
          rw [ho]
          simp only
          rw [wanted_same hsame] at hs1
          by_cases hw : Region.wanted o (yielded ops a.tmps) = true
          · rw [if_pos hw] at hs1 ⊢
            refine .inl ?_
            unfold Oper.wp at hs1 ⊢
            rw [hc.exec_same ho hsame] at hs1
            have hdef : ac1.defers = a.defers := hrel1.defers
            generalize (execOp a.eval o).run P w = r at hs1 ⊢
            cases r with
            | ok n w' =>
              cases n <;> simp only [Oper.upon] at hs1 ⊢
              case value u =>
                have := hnext u w' ac1.defers hs1.1 hs1.2
                rwa [hdef] at this
              case skip =>
                have := hnext undef w' ac1.defers hs1.1 hs1.2
                rwa [hdef] at this
              case defer d =>
                have := hnext undef w' (d :: ac1.defers) hs1.1 hs1.2
                rwa [hdef] at this
              case enter f args =>
                refine Calls.mono hs1 fun e w'' he => ?_
                cases e with
                | returned u =>
                  have := hnext u w'' ac1.defers he.1 he.2
                  rwa [hdef] at this
                | panicked c => exact he.elim
                | outgrown => exact he
              case row row args =>
                refine Rows.mono hs1 fun u w'' he => ?_
                have := hnext u w'' ac1.defers he.1 he.2
                rwa [hdef] at this
            | halt x w' =>
              cases x <;> simp only [Oper.upon] at hs1 ⊢
              case panic u => exact hs1.elim
          · rw [if_neg hw] at hs1 ⊢
            have := hnext undef w ac1.defers (fun _ => hr w) hs1
            rwa [hrel1.defers] at this

/-- **A REGION THAT DRAWS, WALKED ONCE IN A CANONICAL ORDER.** -/
theorem wp_region_canon (hr : ∀ w : World, G w w) (ht : ∀ {a b c : World}, G a b → G b c → G a c) {id : Nat} {a : Act} {w : World} (ord : List (Nat × Nat)) (hm : P.follows .mixedOrders = true) (hok : canonB ops ord = true)
    (h : seqW G P ops Q ord a w.drew) : (Code.region id ops true).wp P Q a w := by
  have hc := canon_of_B hok
  refine wp_region_any hm (canon_any hr ht hc ops.size [] ord (Array.replicate ops.size false) a a w.drew (by simp) ?_ (by simpa using hc.pair) (by simpa using hc.lt) ?_ ?_ (by simp) ⟨rfl, rfl, fun _ _ => rfl⟩ (by simp) h)
  · simpa using hc.len
  · intro i hi
    simp only [List.nil_append]
    constructor
    · intro _; exact hc.all i hi
    · intro _; simp [Array.getD_eq_getD_getElem?, hi]
  · intro i hi hl
    simp [Array.getD_eq_getD_getElem?, hi] at hl

/-! ### The steps of a walk in the canonical order, the operations written out -/

def nthOp : List Oper → Nat → Option Oper
  | [], _ => none
  | o :: _, 0 => some o
  | _ :: l, n + 1 => nthOp l n

theorem nthOp_eq (l : List Oper) (i : Nat) : nthOp l i = l[i]? := by
  induction l generalizing i with
  | nil => rfl
  | cons o l ih => cases i with
    | zero => rfl
    | succ i => simpa [nthOp] using ih i

/-- 'seqW', the operations at hand written out. -/
def seqL (G : World → World → Prop) (P : Program) (ops : Array Oper) (Q : Exit → Act → World → Prop) : List (Option Oper × Nat) → Act → World → Prop
  | [], a, w => Q .normal a w
  | (o?, k) :: r, a, w => ∃ o, o? = some o ∧
      if k ≤ 1 then
        (Region.wanted o (yielded ops a.tmps) = true ∧ ∃ v, Stays G P o k a w v ∧ seqL G P ops Q r (a.put o.dst v) w) ∨
        (Region.wanted o (yielded ops a.tmps) = false ∧ seqL G P ops Q r (a.put o.dst undef) w)
      else if Region.wanted o (yielded ops a.tmps) then o.wp P a w (fun a' w' => (k = 2 → G w w') ∧ seqL G P ops Q r a' w') (NP Q)
      else seqL G P ops Q r (a.put o.dst undef) w

theorem seqW_of_seqL (l : List Oper) : ∀ (ord : List (Nat × Nat)) (a : Act) (w : World), seqL G P l.toArray Q (ord.map fun x => (nthOp l x.1, x.2)) a w → seqW G P l.toArray Q ord a w := by
  intro ord
  induction ord with
  | nil => intro a w h; exact h
  | cons x ord ih =>
    obtain ⟨i, k⟩ := x
    rintro a w ⟨o, ho, h⟩
    rw [nthOp_eq] at ho
    refine ⟨o, by simpa using ho, ?_⟩
    split at h
    · rename_i hk
      rw [if_pos hk]
      rcases h with ⟨h1, v, h2, h3⟩ | ⟨h1, h3⟩
      · exact .inl ⟨h1, v, h2, ih _ _ h3⟩
      · exact .inr ⟨h1, ih _ _ h3⟩
    · rename_i hk
      rw [if_neg hk]
      split at h
      · rename_i hw
        rw [if_pos hw]
        exact Oper.wp_mono (fun a w h => ⟨h.1, ih _ _ h.2⟩) h
      · rename_i hw
        rw [if_neg hw]
        exact ih _ _ h

theorem wp_region_seqG (G : World → World → Prop) (hr : ∀ w : World, G w w) (ht : ∀ {a b c : World}, G a b → G b c → G a c) {id : Nat} {l : List Oper} {a : Act} {w : World} (ord : List (Nat × Nat)) (hm : P.follows .mixedOrders = true) (hok : canonB l.toArray ord = true)
    (h : seqL G P l.toArray Q (ord.map fun x => (nthOp l x.1, x.2)) a w.drew) : (Code.region id l.toArray true).wp P Q a w :=
  wp_region_canon hr ht ord hm hok (seqW_of_seqL l ord a w.drew h)

/-- The relation that a condition on worlds makes: what held goes on to hold. -/
def Goes (S : World → Prop) (a b : World) : Prop := S a → S b

theorem wp_region_seq (S : World → Prop) {id : Nat} {l : List Oper} {a : Act} {w : World} (ord : List (Nat × Nat)) (hm : P.follows .mixedOrders = true) (hok : canonB l.toArray ord = true) (hS : S w.drew)
    (h : S w.drew → seqL (Goes S) P l.toArray Q (ord.map fun x => (nthOp l x.1, x.2)) a w.drew) : (Code.region id l.toArray true).wp P Q a w :=
  wp_region_seqG (Goes S) (fun _ h => h) (fun h k x => k (h x)) ord hm hok (h hS)

variable {S : World → Prop} {o : Oper} {r : List (Option Oper × Nat)} {a : Act} {w : World}

theorem seqL_nil (h : Q .normal a w) : seqL (Goes S) P ops Q [] a w := h
theorem seqL_yield {v : Value} (hw : Region.wanted o (yielded ops a.tmps) = true) (hr : ∀ w', (execOp a.eval o).run P w' = .ok (.value v) w') (h : seqL (Goes S) P ops Q r (a.put o.dst v) w) : seqL (Goes S) P ops Q ((some o, 0) :: r) a w :=
  ⟨o, rfl, .inl ⟨hw, v, fun w' _ => hr w', h⟩⟩
theorem seqL_read {v : Value} (hS : S w) (hw : Region.wanted o (yielded ops a.tmps) = true) (hr : ∀ w', S w' → (execOp a.eval o).run P w' = .ok (.value v) w') (h : seqL (Goes S) P ops Q r (a.put o.dst v) w) : seqL (Goes S) P ops Q ((some o, 1) :: r) a w :=
  ⟨o, rfl, .inl ⟨hw, v, fun w' hw' => hr w' ((hw'.resolve_left (by simp)) hS), h⟩⟩
theorem seqL_pass0 (hw : Region.wanted o (yielded ops a.tmps) = false) (h : seqL (Goes S) P ops Q r (a.put o.dst undef) w) : seqL (Goes S) P ops Q ((some o, 0) :: r) a w := ⟨o, rfl, .inr ⟨hw, h⟩⟩
theorem seqL_pass1 (hw : Region.wanted o (yielded ops a.tmps) = false) (h : seqL (Goes S) P ops Q r (a.put o.dst undef) w) : seqL (Goes S) P ops Q ((some o, 1) :: r) a w := ⟨o, rfl, .inr ⟨hw, h⟩⟩
/-- A loud operation that keeps S. -/
theorem seqL_grow (hw : Region.wanted o (yielded ops a.tmps) = true) (h : ∀ K : Act → World → Prop, (∀ a' w', S w' → (S w' → seqL (Goes S) P ops Q r a' w') → K a' w') → o.wp P a w K (NP Q)) : seqL (Goes S) P ops Q ((some o, 2) :: r) a w :=
  ⟨o, rfl, by rw [if_neg (by omega), if_pos hw]; exact h _ fun a' w' h1 h2 => ⟨fun _ _ => h1, h2 h1⟩⟩
theorem seqL_loud (hw : Region.wanted o (yielded ops a.tmps) = true) (h : ∀ K : Act → World → Prop, (∀ a' w', seqL (Goes S) P ops Q r a' w' → K a' w') → o.wp P a w K (NP Q)) : seqL (Goes S) P ops Q ((some o, 3) :: r) a w :=
  ⟨o, rfl, by rw [if_neg (by omega), if_pos hw]; exact h _ fun a' w' h2 => ⟨fun h => by omega, h2⟩⟩
end canon
end Go.Proofs.Ytodlkjjoenglgaa

/- A tree's root while its children are being made: what holds between two rounds of the loop that appends them. -/
namespace Go.Proofs.Ytodlkjjoenglgaa
open Go Go.RowKit

/-- B: the heap's size when the call began; bt: the root's block; G: the children that stand already; kv: the slice that holds them. -/
structure Bld (B : Nat) (wr : World) (bt : Nat) (n : Nd) (kv : Value) (G : Fo) (gs : List Nat) : Prop where
  root : ∃ cv av fa fp, wr.heap[bt]? = some (.cells (nodeCells n cv av kv) 50 (0, 0)) ∧ sliceV cv ∧ Arr wr fa av (n.args.map i64) ∧ isF wr G gs fp ∧
    (bt :: (fa ++ fp)).Nodup ∧ (∀ x ∈ fa ++ fp, B ≤ x) ∧ (∀ g, kv.ownBlock = some g → g ∉ bt :: (fa ++ fp))
  low : B ≤ bt
  own : wr.ownsRow B 37 1 kv gs.length (gs.map ptr)

theorem Bld.cells {B : Nat} {wr : World} {bt : Nat} {n : Nd} {kv : Value} {G : Fo} {gs : List Nat} (h : Bld B wr bt n kv G gs) :
    ∃ cv av, wr.heap[bt]? = some (.cells (nodeCells n cv av kv) 50 (0, 0)) := by
  obtain ⟨⟨cv, av, fa, fp, h, _⟩, _⟩ := h
  exact ⟨cv, av, h⟩

/-- The kids' cell reads the slice, in the world and in whatever grows out of it. -/
theorem Bld.kids {B : Nat} {wr : World} {bt : Nat} {n : Nd} {kv : Value} {G : Fo} {gs : List Nat} (h : Bld B wr bt n kv G gs) :
    wr.cell? ⟨bt, 7, none⟩ = some kv ∧ wr.frozen? ⟨bt, 7, none⟩ = false := by
  obtain ⟨cv, av, h⟩ := h.cells
  exact ⟨by rw [cell_of_heap h]; rfl, free_of_heap h 7⟩

theorem Bld.ext {B : Nat} {wr w1 : World} {bt : Nat} {n : Nd} {kv : Value} {G : Fo} {gs : List Nat} (h : Bld B wr bt n kv G gs) (e : Ext wr w1) : Bld B w1 bt n kv G gs := by
  obtain ⟨⟨cv, av, fa, fp, h1, h2, h3, h4, h5⟩, h6, h7⟩ := h
  refine ⟨⟨cv, av, fa, fp, e.block h1, h2, h3.ext e, h4.ext e, h5⟩, h6, ?_⟩
  exact h7.kept (row := none) ⟨e.os, e.tape, e.output, e.size, fun k hk _ => Below.block e k hk⟩ (by cases kv.ownBlock <;> simp)

/-- A child more: w1: behind the call that made it; w3: behind the append (which a new block of one cell came ahead of); then the kids' cell is written. -/
theorem Bld.step {B : Nat} {wr w1 w3 : World} {bt : Nat} {n : Nd} {kv : Value} {G : Fo} {gs : List Nat} (h : Bld B wr bt n kv G gs) (e : Ext wr w1)
    {n' : Nd} {k' : Fo} {b' : Nat} {fp1 : List Nat} (ht : isF w1 (Fo.one n' k') [b'] fp1) (hnd : fp1.Nodup) (hnew : ∀ x ∈ fp1, wr.heap.size ≤ x)
    {o : Obj} {g cap : Nat} (hown : w3.ownsRow B 37 1 (.slice (some ⟨g, 0, none⟩) (gs.length + 1) cap) (gs.length + 1) (gs.map ptr ++ [ptr b']))
    (hg : (w1.alloc o).grownBy w3 kv.ownBlock) (hat : kv.ownBlock = some g ∨ g = w1.heap.size + 1) :
    Bld B (w3.setCell ⟨bt, 7, none⟩ (.slice (some ⟨g, 0, none⟩) (gs.length + 1) cap)) bt n (.slice (some ⟨g, 0, none⟩) (gs.length + 1) cap) (G.app (Fo.one n' k')) (gs ++ [b']) := by
  obtain ⟨⟨cv, av, fa, fp, h1, h2, h3, h4, h5, h6, h7⟩, hlow, hrow⟩ := h
  -- what lies in wr or in the new tree lies on
  have hbt := heap_lt h1
  have keep : ∀ x, x < w1.heap.size → kv.ownBlock ≠ some x → w3.heap[x]? = w1.heap[x]? := fun x hx hne =>
    (hg.block x (by simp; omega) (fun e => hne e.symm)).trans (heap_alloc_lt hx)
  have keep0 : ∀ x, x < wr.heap.size → kv.ownBlock ≠ some x → w3.heap[x]? = wr.heap[x]? := fun x hx hne =>
    (keep x (Nat.lt_of_lt_of_le hx e.size) hne).trans (Below.block e x hx)
  have hsz := e.size
  have gne : ∀ x, x < w1.heap.size → x ∈ bt :: (fa ++ fp) ∨ wr.heap.size ≤ x → x ≠ g := by
    intro x hx hin hxg
    subst hxg
    rcases hat with hat | hat
    · rcases hin with hin | hin
      · exact h7 _ hat hin
      · have := (hrow.lt _ hat).2; omega
    · omega
  have hne : ∀ x, x ∈ bt :: (fa ++ fp) ∨ wr.heap.size ≤ x → kv.ownBlock ≠ some x := by
    intro x hin hx
    rcases hin with hin | hin
    · exact h7 x hx hin
    · have := (hrow.lt x hx).2; omega
  have hfa := h3.lt
  have hfp := h4.lt
  have hf1 := ht.lt
  rw [List.nodup_cons] at h5
  have hbt2 : w3.heap[bt]? = some (.cells (nodeCells n cv av kv) 50 (0, 0)) := (keep0 bt hbt (hne bt (.inl (by simp)))).trans h1
  have hcell : (w3.setCell ⟨bt, 7, none⟩ (.slice (some ⟨g, 0, none⟩) (gs.length + 1) cap)).heap[bt]? = some (.cells (nodeCells n cv av (.slice (some ⟨g, 0, none⟩) (gs.length + 1) cap)) 50 (0, 0)) :=
    heap_setCell_at _ hbt2
  have other : ∀ x, x < w1.heap.size → x ∈ fa ++ fp ∨ wr.heap.size ≤ x → (w3.setCell ⟨bt, 7, none⟩ (.slice (some ⟨g, 0, none⟩) (gs.length + 1) cap)).heap[x]? = w1.heap[x]? := by
    intro x hx hin
    have hxb : x ≠ bt := by
      rcases hin with hin | hin
      · intro e; subst e; exact h5.1 hin
      · intro e; omega
    rw [heap_setCell_ne _ hxb]
    exact keep x hx (hne x (by rcases hin with h | h; exact .inl (List.mem_cons_of_mem _ h); exact .inr h))
  have hfa' : ∀ x ∈ fa, x < w1.heap.size := fun x hx => Nat.lt_of_lt_of_le (hfa x hx) hsz
  have hfp' : ∀ x ∈ fp, x < w1.heap.size := fun x hx => Nat.lt_of_lt_of_le (hfp x hx) hsz
  refine ⟨⟨cv, av, fa, fp ++ fp1, hcell, h2, (h3.ext e).kept fun x hx => other x (hfa' x hx) (.inl (by simp [hx])),
    isF.app ((h4.ext e).kept fun x hx => other x (hfp' x hx) (.inl (by simp [hx]))) (ht.kept fun x hx => other x (hf1 x hx) (.inr (hnew x hx))), ?_, ?_, ?_⟩, hlow, ?_⟩
  · rw [List.nodup_cons, ← List.append_assoc]
    refine ⟨?_, ?_⟩
    · intro hm
      rcases List.mem_append.1 hm with hm | hm
      · exact h5.1 hm
      · have := hnew bt hm; omega
    · rw [List.nodup_append]
      refine ⟨h5.2, hnd, fun x hx y hy hxy => ?_⟩
      subst hxy
      have := hnew x hy
      rcases List.mem_append.1 hx with hx | hx
      · have := hfa x hx; omega
      · have := hfp x hx; omega
  · intro x hx
    rw [← List.append_assoc] at hx
    rcases List.mem_append.1 hx with hx | hx
    · exact h6 x hx
    · have := hnew x hx; omega
  · intro x hx hm
    have hxg : x = g := by simpa [Value.ownBlock, eq_comm] using hx
    have hm' : x ∈ bt :: (fa ++ fp) ∨ x ∈ fp1 := by
      rw [← List.append_assoc] at hm
      rcases List.mem_cons.1 hm with rfl | hm
      · exact .inl (by simp)
      · rcases List.mem_append.1 hm with hm | hm
        · exact .inl (List.mem_cons_of_mem _ hm)
        · exact .inr hm
    rcases hm' with hm' | hm'
    · refine gne x ?_ (.inl hm') hxg
      rcases List.mem_cons.1 hm' with rfl | hm'
      · omega
      · rcases List.mem_append.1 hm' with hm' | hm'
        · exact hfa' x hm'
        · exact hfp' x hm'
    · exact gne x (hf1 x hm') (.inr (hnew x hm')) hxg
  · have hgb : g ≠ bt := fun e => gne bt (by omega) (.inl (by simp)) e.symm
    have := hown.kept (w' := w3.setCell ⟨bt, 7, none⟩ (.slice (some ⟨g, 0, none⟩) (gs.length + 1) cap)) (row := some bt)
      ⟨rfl, rfl, rfl, by simp, fun k _ hk => heap_setCell_ne _ (by simpa using hk)⟩ (.inr (by simpa [Value.ownBlock] using hgb))
    simpa using this

/-- The kids' cell behind the append, ahead of the store. -/
theorem Bld.kidsAt {B : Nat} {wr w1 w3 : World} {bt : Nat} {n : Nd} {kv : Value} {G : Fo} {gs : List Nat} (h : Bld B wr bt n kv G gs) (e : Ext wr w1) {o : Obj} (hg : (w1.alloc o).grownBy w3 kv.ownBlock) :
    w3.cell? ⟨bt, 7, none⟩ = some kv ∧ w3.frozen? ⟨bt, 7, none⟩ = false := by
  obtain ⟨⟨cv, av, fa, fp, h1, h2, h3, h4, h5, h6, h7⟩, hlow, hrow⟩ := h.ext e
  have hbt := heap_lt h1
  have hb : w3.heap[bt]? = some (.cells (nodeCells n cv av kv) 50 (0, 0)) := by
    rw [hg.block bt (by simp; omega) (fun e => h7 bt e.symm (by simp)), heap_alloc_lt hbt]; exact h1
  exact ⟨by rw [cell_of_heap hb]; rfl, free_of_heap hb 7⟩

theorem Bld.len {B : Nat} {wr : World} {bt : Nat} {n : Nd} {kv : Value} {G : Fo} {gs : List Nat} (h : Bld B wr bt n kv G gs) : gs.length = G.len := by
  obtain ⟨⟨cv, av, fa, fp, h1, h2, h3, h4, _⟩, _⟩ := h
  exact h4.len

/-- The root as it is laid: no child yet. -/
theorem Bld.start {B : Nat} {wr : World} {bt : Nat} {n : Nd} {cv av : Value} {fa : List Nat} (h1 : wr.heap[bt]? = some (.cells (nodeCells n cv av (.slice none 0 0)) 50 (0, 0))) (h2 : sliceV cv) (h3 : Arr wr fa av (n.args.map i64))
    (hnd : fa.Nodup) (hne : bt ∉ fa) (hB : ∀ x ∈ fa, B ≤ x) (hlow : B ≤ bt) : Bld B wr bt n (.slice none 0 0) .nil [] :=
  ⟨⟨cv, av, fa, [], h1, h2, h3, ⟨rfl, rfl⟩, by simp [hnd, hne], by simpa using hB, fun g hg => by cases hg⟩, hlow, World.ownsRow_nil ..⟩

/-- The tree is made. -/
theorem Bld.done {B : Nat} {wr : World} {bt : Nat} {n : Nd} {kv : Value} {G : Fo} {gs : List Nat} (h : Bld B wr bt n kv G gs) :
    ∃ fp, isF wr (Fo.one n G) [bt] fp ∧ fp.Nodup ∧ ∀ x ∈ fp, B ≤ x := by
  obtain ⟨⟨cv, av, fa, fp, h1, h2, h3, h4, h5, h6, h7⟩, hlow, hrow⟩ := h
  obtain ⟨fk, hk, hkb, hkc⟩ := Arr.of_owns hrow
  refine ⟨bt :: (fa ++ (fk ++ (fp ++ []))), ⟨bt, [], cv, av, kv, gs, fa, fk, fp, [], rfl, rfl, h1, h2, h3, hk, h4, ⟨rfl, rfl⟩⟩, ?_, ?_⟩
  · rw [List.append_nil]
    rw [List.nodup_cons] at h5 ⊢
    rcases hkc with rfl | ⟨g, rfl, hg⟩
    · simpa using h5
    · have := h7 g hg
      simp only [List.mem_cons, List.mem_append, not_or] at this h5
      refine ⟨by simp only [List.mem_append, List.mem_singleton, not_or]; exact ⟨h5.1.1, Ne.symm this.1, h5.1.2⟩, ?_⟩
      rw [List.nodup_append] at h5 ⊢
      obtain ⟨_, ha, hb, hc⟩ := h5
      refine ⟨ha, by simp only [List.singleton_append, List.nodup_cons]; exact ⟨this.2.2, hb⟩, fun x hx y hy => ?_⟩
      simp only [List.singleton_append, List.mem_cons] at hy
      rcases hy with rfl | hy
      · intro e; subst e; exact this.2.1 hx
      · exact hc x hx y hy
  · intro x hx
    simp only [List.mem_cons, List.mem_append, List.not_mem_nil, or_false] at hx
    rcases hx with rfl | hx | hx | hx
    · exact hlow
    · exact h6 x (by simp [hx])
    · exact hkb x hx
    · exact h6 x (by simp [hx])

end Go.Proofs.Ytodlkjjoenglgaa

/- The instances of slices.IndexFunc and slices.ContainsFunc: the first index at which the function value says yes. PRINTED by tools/gen_idx.py. -/
namespace Go.Proofs.Ytodlkjjoenglgaa
open Go Go.RowKit
/-- The first index below n at which p says yes, or -1. -/
def firstIdx (p : Nat → Bool) (n : Nat) : Int := match (List.range n).find? p with | some i => (i : Int) | none => -1
theorem firstIdx_hit {p : Nat → Bool} {n k : Nat} (hk : k < n) (h : ∀ j, j < k → p j = false) (hp : p k = true) : firstIdx p n = k := by
  unfold firstIdx
  have : (List.range n).find? p = some k := by
    rw [List.find?_range_eq_some]
    exact ⟨hp, by simpa using hk, fun j hj => by simp [h j hj]⟩
  rw [this]
theorem firstIdx_none {p : Nat → Bool} {n : Nat} (h : ∀ j, j < n → p j = false) : firstIdx p n = -1 := by
  unfold firstIdx
  have : (List.range n).find? p = none := by
    rw [List.find?_eq_none]
    intro x hx
    simp [h x (by simpa using hx)]
  rw [this]
theorem firstIdx_spec (p : Nat → Bool) (n : Nat) : (∃ k, k < n ∧ (∀ j, j < k → p j = false) ∧ p k = true ∧ firstIdx p n = k) ∨ ((∀ j, j < n → p j = false) ∧ firstIdx p n = -1) := by
  cases h : (List.range n).find? p with
  | none =>
    right
    rw [List.find?_eq_none] at h
    have h' : ∀ j, j < n → p j = false := fun j hj => by have := h j (by simpa using hj); simpa using this
    exact ⟨h', firstIdx_none h'⟩
  | some k =>
    left
    rw [List.find?_range_eq_some] at h
    have hj : ∀ j, j < k → p j = false := fun j hj => by have := h.2.2 j hj; simpa using this
    have hk : k < n := by simpa using h.2.1
    exact ⟨k, hk, hj, h.1, firstIdx_hit hk hj h.1⟩
theorem firstIdx_nonneg (p : Nat → Bool) (n : Nat) : decide (0 ≤ firstIdx p n) = (List.range n).any p := by
  rcases firstIdx_spec p n with ⟨k, hk, _, hp, he⟩ | ⟨h, he⟩
  · rw [he]
    have : (List.range n).any p = true := List.any_eq_true.2 ⟨k, by simpa using hk, hp⟩
    rw [this]; simp
  · rw [he]
    have : (List.range n).any p = false := by rw [List.any_eq_false]; intro x hx; simp [h x (by simpa using hx)]
    rw [this]; rfl
theorem ret_i64 {a b : Int} (h : a = b) : Ending.returned (.int .i64 a) = .returned (.int .i64 b) := by rw [h]
theorem ret_bool {a b : Bool} (h : a = b) : Ending.returned (.bool a) = .returned (.bool b) := by rw [h]
/-- f's body is Go text: a call of the function value enters it. -/
def EntersF (f : FuncId) : Prop := ∀ args W, (callFunc f args).run Try.prog W = .ok (.enter f args) W

set_option maxHeartbeats 400000 in
theorem idxType (w : World) (a : Option Addr) (n cap : Nat) (hn : n ≤ 140737488351232) (f : FuncId) (he : EntersF f) (cpt : Array Value) (c0 c1 : Nat → Value)
    (hc : ∀ i, i < n → RowAt w a 2 i [c0 i, c1 i])
    (p : Nat → Bool) (hf : ∀ i, i < n → ∀ W, Ext w W → Calls Try.prog f (#[.agg #[c0 i, c1 i]] ++ cpt) W fun e W' => e = .returned (.bool (p i)) ∧ Ext W W') :
    Calls Try.prog 116 #[.slice a n cap, .func (.func f) #[] cpt] w fun e w' => e = .returned (.int .i64 (firstIdx p n)) ∧ Ext w w' := by
  have he' := he
  unfold EntersF at he'
  have hp0 : Hid (∀ j, j < 0 → p j = false) := fun j hj => absurd hj (Nat.not_lt_zero j)
  go_enter Try.func116, Try.ntmps116
  go_wp2_with fail
  go_loopw [5, 8] (fun _ i wr => ∃ k : Nat, k ≤ n ∧ i = .int .i64 k ∧ Hid (∀ j, j < k → p j = false) ∧ Ext w wr) (fun _ i _ => n - (intOf i).toNat)
  case atStart => exact ⟨0, Nat.zero_le _, rfl, hp0, Ext.refl w⟩
  case round =>
    obtain ⟨k, hk, rfl, H, hE⟩ := hrel
    by_cases hlt : k < n
    · have hff := Lib.hid (hf k hlt)
      obtain ⟨b, off, rfl, hcell⟩ := hc k hlt
      have h0 := hE.cell (hcell 0 _ rfl)
      have h1 := hE.cell (hcell 1 _ rfl)
      simp only [Nat.add_zero] at h0
      clear hc hf hcell
      go_wp2_with fail
      refine (hff.out _ hE).mono ?_
      rintro e w1 ⟨rfl, hE1⟩
      have hE2 := hE.trans hE1
      have hmiss : p k = false → Hid (∀ j, j < k + 1 → p j = false) := fun h j hj => by
        rcases Nat.lt_succ_iff_lt_or_eq.1 hj with h' | rfl
        · exact H.out j h'
        · exact h
      clear h0 h1 he he'
      cases hpk : p k with
      | true =>
        have hit := Lib.hid (firstIdx_hit hlt H.out hpk)
        clear hpk hmiss
        go_wp2_with fail
        go_ret
        exact ⟨ret_i64 hit.out.symm, hE2⟩
      | false =>
        have hm := hmiss hpk
        clear hpk hmiss
        go_wp2_with fail
        go_roundw
        case rel => exact ⟨k + 1, by omega, by go_num, hm, hE2⟩
        case measure => simp [intOf]; omega
    · go_wp2
      go_ret
      exact ⟨ret_i64 (firstIdx_none (by have hkn : k = n := by omega
                                        subst hkn; exact H.out)).symm, hE⟩

set_option maxHeartbeats 400000 in
theorem hasType (w : World) (a : Option Addr) (n cap : Nat) (hn : n ≤ 140737488351232) (f : FuncId) (he : EntersF f) (cpt : Array Value) (c0 c1 : Nat → Value)
    (hc : ∀ i, i < n → RowAt w a 2 i [c0 i, c1 i])
    (p : Nat → Bool) (hf : ∀ i, i < n → ∀ W, Ext w W → Calls Try.prog f (#[.agg #[c0 i, c1 i]] ++ cpt) W fun e W' => e = .returned (.bool (p i)) ∧ Ext W W') :
    Calls Try.prog 100 #[.slice a n cap, .func (.func f) #[] cpt] w fun e w' => e = .returned (.bool ((List.range n).any p)) ∧ Ext w w' := by
  have hcall := Lib.hid (idxType w a n cap hn f he cpt c0 c1 hc p hf)
  clear hc hf he hn
  go_enter Try.func100, Try.ntmps100
  go_wp2_with (go_at_call 116; refine (hcall.out).mono ?_; rintro e w' ⟨rfl, hE⟩)
  go_ret
  exact ⟨ret_bool (firstIdx_nonneg p n), hE⟩

set_option maxHeartbeats 400000 in
theorem idxObj (w : World) (a : Option Addr) (n cap : Nat) (hn : n ≤ 140737488351232) (f : FuncId) (he : EntersF f) (cpt : Array Value) (c0 c1 : Nat → Value)
    (hc : ∀ i, i < n → RowAt w a 2 i [c0 i, c1 i])
    (p : Nat → Bool) (hf : ∀ i, i < n → ∀ W, Ext w W → Calls Try.prog f (#[.agg #[c0 i, c1 i]] ++ cpt) W fun e W' => e = .returned (.bool (p i)) ∧ Ext W W') :
    Calls Try.prog 102 #[.slice a n cap, .func (.func f) #[] cpt] w fun e w' => e = .returned (.int .i64 (firstIdx p n)) ∧ Ext w w' := by
  have he' := he
  unfold EntersF at he'
  have hp0 : Hid (∀ j, j < 0 → p j = false) := fun j hj => absurd hj (Nat.not_lt_zero j)
  go_enter Try.func102, Try.ntmps102
  go_wp2_with fail
  go_loopw [5, 8] (fun _ i wr => ∃ k : Nat, k ≤ n ∧ i = .int .i64 k ∧ Hid (∀ j, j < k → p j = false) ∧ Ext w wr) (fun _ i _ => n - (intOf i).toNat)
  case atStart => exact ⟨0, Nat.zero_le _, rfl, hp0, Ext.refl w⟩
  case round =>
    obtain ⟨k, hk, rfl, H, hE⟩ := hrel
    by_cases hlt : k < n
    · have hff := Lib.hid (hf k hlt)
      obtain ⟨b, off, rfl, hcell⟩ := hc k hlt
      have h0 := hE.cell (hcell 0 _ rfl)
      have h1 := hE.cell (hcell 1 _ rfl)
      simp only [Nat.add_zero] at h0
      clear hc hf hcell
      go_wp2_with fail
      refine (hff.out _ hE).mono ?_
      rintro e w1 ⟨rfl, hE1⟩
      have hE2 := hE.trans hE1
      have hmiss : p k = false → Hid (∀ j, j < k + 1 → p j = false) := fun h j hj => by
        rcases Nat.lt_succ_iff_lt_or_eq.1 hj with h' | rfl
        · exact H.out j h'
        · exact h
      clear h0 h1 he he'
      cases hpk : p k with
      | true =>
        have hit := Lib.hid (firstIdx_hit hlt H.out hpk)
        clear hpk hmiss
        go_wp2_with fail
        go_ret
        exact ⟨ret_i64 hit.out.symm, hE2⟩
      | false =>
        have hm := hmiss hpk
        clear hpk hmiss
        go_wp2_with fail
        go_roundw
        case rel => exact ⟨k + 1, by omega, by go_num, hm, hE2⟩
        case measure => simp [intOf]; omega
    · go_wp2
      go_ret
      exact ⟨ret_i64 (firstIdx_none (by have hkn : k = n := by omega
                                        subst hkn; exact H.out)).symm, hE⟩

set_option maxHeartbeats 400000 in
theorem hasObj (w : World) (a : Option Addr) (n cap : Nat) (hn : n ≤ 140737488351232) (f : FuncId) (he : EntersF f) (cpt : Array Value) (c0 c1 : Nat → Value)
    (hc : ∀ i, i < n → RowAt w a 2 i [c0 i, c1 i])
    (p : Nat → Bool) (hf : ∀ i, i < n → ∀ W, Ext w W → Calls Try.prog f (#[.agg #[c0 i, c1 i]] ++ cpt) W fun e W' => e = .returned (.bool (p i)) ∧ Ext W W') :
    Calls Try.prog 75 #[.slice a n cap, .func (.func f) #[] cpt] w fun e w' => e = .returned (.bool ((List.range n).any p)) ∧ Ext w w' := by
  have hcall := Lib.hid (idxObj w a n cap hn f he cpt c0 c1 hc p hf)
  clear hc hf he hn
  go_enter Try.func75, Try.ntmps75
  go_wp2_with (go_at_call 102; refine (hcall.out).mono ?_; rintro e w' ⟨rfl, hE⟩)
  go_ret
  exact ⟨ret_bool (firstIdx_nonneg p n), hE⟩

set_option maxHeartbeats 400000 in
theorem idxPred (w : World) (a : Option Addr) (n cap : Nat) (hn : n ≤ 140737488351232) (f : FuncId) (he : EntersF f) (cpt : Array Value) (c0 c1 : Nat → Value)
    (hc : ∀ i, i < n → RowAt w a 2 i [c0 i, c1 i])
    (p : Nat → Bool) (hf : ∀ i, i < n → ∀ W, Ext w W → Calls Try.prog f (#[.agg #[c0 i, c1 i]] ++ cpt) W fun e W' => e = .returned (.bool (p i)) ∧ Ext W W') :
    Calls Try.prog 118 #[.slice a n cap, .func (.func f) #[] cpt] w fun e w' => e = .returned (.int .i64 (firstIdx p n)) ∧ Ext w w' := by
  have he' := he
  unfold EntersF at he'
  have hp0 : Hid (∀ j, j < 0 → p j = false) := fun j hj => absurd hj (Nat.not_lt_zero j)
  go_enter Try.func118, Try.ntmps118
  go_wp2_with fail
  go_loopw [5, 8] (fun _ i wr => ∃ k : Nat, k ≤ n ∧ i = .int .i64 k ∧ Hid (∀ j, j < k → p j = false) ∧ Ext w wr) (fun _ i _ => n - (intOf i).toNat)
  case atStart => exact ⟨0, Nat.zero_le _, rfl, hp0, Ext.refl w⟩
  case round =>
    obtain ⟨k, hk, rfl, H, hE⟩ := hrel
    by_cases hlt : k < n
    · have hff := Lib.hid (hf k hlt)
      obtain ⟨b, off, rfl, hcell⟩ := hc k hlt
      have h0 := hE.cell (hcell 0 _ rfl)
      have h1 := hE.cell (hcell 1 _ rfl)
      simp only [Nat.add_zero] at h0
      clear hc hf hcell
      go_wp2_with fail
      refine (hff.out _ hE).mono ?_
      rintro e w1 ⟨rfl, hE1⟩
      have hE2 := hE.trans hE1
      have hmiss : p k = false → Hid (∀ j, j < k + 1 → p j = false) := fun h j hj => by
        rcases Nat.lt_succ_iff_lt_or_eq.1 hj with h' | rfl
        · exact H.out j h'
        · exact h
      clear h0 h1 he he'
      cases hpk : p k with
      | true =>
        have hit := Lib.hid (firstIdx_hit hlt H.out hpk)
        clear hpk hmiss
        go_wp2_with fail
        go_ret
        exact ⟨ret_i64 hit.out.symm, hE2⟩
      | false =>
        have hm := hmiss hpk
        clear hpk hmiss
        go_wp2_with fail
        go_roundw
        case rel => exact ⟨k + 1, by omega, by go_num, hm, hE2⟩
        case measure => simp [intOf]; omega
    · go_wp2
      go_ret
      exact ⟨ret_i64 (firstIdx_none (by have hkn : k = n := by omega
                                        subst hkn; exact H.out)).symm, hE⟩

set_option maxHeartbeats 400000 in
theorem hasPred (w : World) (a : Option Addr) (n cap : Nat) (hn : n ≤ 140737488351232) (f : FuncId) (he : EntersF f) (cpt : Array Value) (c0 c1 : Nat → Value)
    (hc : ∀ i, i < n → RowAt w a 2 i [c0 i, c1 i])
    (p : Nat → Bool) (hf : ∀ i, i < n → ∀ W, Ext w W → Calls Try.prog f (#[.agg #[c0 i, c1 i]] ++ cpt) W fun e W' => e = .returned (.bool (p i)) ∧ Ext W W') :
    Calls Try.prog 106 #[.slice a n cap, .func (.func f) #[] cpt] w fun e w' => e = .returned (.bool ((List.range n).any p)) ∧ Ext w w' := by
  have hcall := Lib.hid (idxPred w a n cap hn f he cpt c0 c1 hc p hf)
  clear hc hf he hn
  go_enter Try.func106, Try.ntmps106
  go_wp2_with (go_at_call 118; refine (hcall.out).mono ?_; rintro e w' ⟨rfl, hE⟩)
  go_ret
  exact ⟨ret_bool (firstIdx_nonneg p n), hE⟩

set_option maxHeartbeats 400000 in
theorem idxSchema (w : World) (a : Option Addr) (n cap : Nat) (hn : n ≤ 140737488351232) (f : FuncId) (he : EntersF f) (cpt : Array Value) (c0 c1 c2 c3 c4 c5 c6 : Nat → Value)
    (hc : ∀ i, i < n → RowAt w a 7 i [c0 i, c1 i, c2 i, c3 i, c4 i, c5 i, c6 i])
    (p : Nat → Bool) (hf : ∀ i, i < n → ∀ W, Ext w W → Calls Try.prog f (#[.agg #[c0 i, c1 i, c2 i, c3 i, c4 i, c5 i, c6 i]] ++ cpt) W fun e W' => e = .returned (.bool (p i)) ∧ Ext W W') :
    Calls Try.prog 119 #[.slice a n cap, .func (.func f) #[] cpt] w fun e w' => e = .returned (.int .i64 (firstIdx p n)) ∧ Ext w w' := by
  have he' := he
  unfold EntersF at he'
  have hp0 : Hid (∀ j, j < 0 → p j = false) := fun j hj => absurd hj (Nat.not_lt_zero j)
  go_enter Try.func119, Try.ntmps119
  go_wp2_with fail
  go_loopw [5, 8] (fun _ i wr => ∃ k : Nat, k ≤ n ∧ i = .int .i64 k ∧ Hid (∀ j, j < k → p j = false) ∧ Ext w wr) (fun _ i _ => n - (intOf i).toNat)
  case atStart => exact ⟨0, Nat.zero_le _, rfl, hp0, Ext.refl w⟩
  case round =>
    obtain ⟨k, hk, rfl, H, hE⟩ := hrel
    by_cases hlt : k < n
    · have hff := Lib.hid (hf k hlt)
      obtain ⟨b, off, rfl, hcell⟩ := hc k hlt
      have h0 := hE.cell (hcell 0 _ rfl)
      have h1 := hE.cell (hcell 1 _ rfl)
      have h2 := hE.cell (hcell 2 _ rfl)
      have h3 := hE.cell (hcell 3 _ rfl)
      have h4 := hE.cell (hcell 4 _ rfl)
      have h5 := hE.cell (hcell 5 _ rfl)
      have h6 := hE.cell (hcell 6 _ rfl)
      simp only [Nat.add_zero] at h0
      clear hc hf hcell
      go_wp2_with fail
      refine (hff.out _ hE).mono ?_
      rintro e w1 ⟨rfl, hE1⟩
      have hE2 := hE.trans hE1
      have hmiss : p k = false → Hid (∀ j, j < k + 1 → p j = false) := fun h j hj => by
        rcases Nat.lt_succ_iff_lt_or_eq.1 hj with h' | rfl
        · exact H.out j h'
        · exact h
      clear h0 h1 h2 h3 h4 h5 h6 he he'
      cases hpk : p k with
      | true =>
        have hit := Lib.hid (firstIdx_hit hlt H.out hpk)
        clear hpk hmiss
        go_wp2_with fail
        go_ret
        exact ⟨ret_i64 hit.out.symm, hE2⟩
      | false =>
        have hm := hmiss hpk
        clear hpk hmiss
        go_wp2_with fail
        go_roundw
        case rel => exact ⟨k + 1, by omega, by go_num, hm, hE2⟩
        case measure => simp [intOf]; omega
    · go_wp2
      go_ret
      exact ⟨ret_i64 (firstIdx_none (by have hkn : k = n := by omega
                                        subst hkn; exact H.out)).symm, hE⟩

set_option maxHeartbeats 400000 in
theorem hasSchema (w : World) (a : Option Addr) (n cap : Nat) (hn : n ≤ 140737488351232) (f : FuncId) (he : EntersF f) (cpt : Array Value) (c0 c1 c2 c3 c4 c5 c6 : Nat → Value)
    (hc : ∀ i, i < n → RowAt w a 7 i [c0 i, c1 i, c2 i, c3 i, c4 i, c5 i, c6 i])
    (p : Nat → Bool) (hf : ∀ i, i < n → ∀ W, Ext w W → Calls Try.prog f (#[.agg #[c0 i, c1 i, c2 i, c3 i, c4 i, c5 i, c6 i]] ++ cpt) W fun e W' => e = .returned (.bool (p i)) ∧ Ext W W') :
    Calls Try.prog 108 #[.slice a n cap, .func (.func f) #[] cpt] w fun e w' => e = .returned (.bool ((List.range n).any p)) ∧ Ext w w' := by
  have hcall := Lib.hid (idxSchema w a n cap hn f he cpt c0 c1 c2 c3 c4 c5 c6 hc p hf)
  clear hc hf he hn
  go_enter Try.func108, Try.ntmps108
  go_wp2_with (go_at_call 119; refine (hcall.out).mono ?_; rintro e w' ⟨rfl, hE⟩)
  go_ret
  exact ⟨ret_bool (firstIdx_nonneg p n), hE⟩

set_option maxHeartbeats 400000 in
theorem idxPair (w : World) (a : Option Addr) (n cap : Nat) (hn : n ≤ 140737488351232) (f : FuncId) (he : EntersF f) (cpt : Array Value) (c0 c1 : Nat → Value)
    (hc : ∀ i, i < n → RowAt w a 2 i [c0 i, c1 i])
    (p : Nat → Bool) (hf : ∀ i, i < n → ∀ W, Ext w W → Calls Try.prog f (#[.agg #[c0 i, c1 i]] ++ cpt) W fun e W' => e = .returned (.bool (p i)) ∧ Ext W W') :
    Calls Try.prog 120 #[.slice a n cap, .func (.func f) #[] cpt] w fun e w' => e = .returned (.int .i64 (firstIdx p n)) ∧ Ext w w' := by
  have he' := he
  unfold EntersF at he'
  have hp0 : Hid (∀ j, j < 0 → p j = false) := fun j hj => absurd hj (Nat.not_lt_zero j)
  go_enter Try.func120, Try.ntmps120
  go_wp2_with fail
  go_loopw [5, 8] (fun _ i wr => ∃ k : Nat, k ≤ n ∧ i = .int .i64 k ∧ Hid (∀ j, j < k → p j = false) ∧ Ext w wr) (fun _ i _ => n - (intOf i).toNat)
  case atStart => exact ⟨0, Nat.zero_le _, rfl, hp0, Ext.refl w⟩
  case round =>
    obtain ⟨k, hk, rfl, H, hE⟩ := hrel
    by_cases hlt : k < n
    · have hff := Lib.hid (hf k hlt)
      obtain ⟨b, off, rfl, hcell⟩ := hc k hlt
      have h0 := hE.cell (hcell 0 _ rfl)
      have h1 := hE.cell (hcell 1 _ rfl)
      simp only [Nat.add_zero] at h0
      clear hc hf hcell
      go_wp2_with fail
      refine (hff.out _ hE).mono ?_
      rintro e w1 ⟨rfl, hE1⟩
      have hE2 := hE.trans hE1
      have hmiss : p k = false → Hid (∀ j, j < k + 1 → p j = false) := fun h j hj => by
        rcases Nat.lt_succ_iff_lt_or_eq.1 hj with h' | rfl
        · exact H.out j h'
        · exact h
      clear h0 h1 he he'
      cases hpk : p k with
      | true =>
        have hit := Lib.hid (firstIdx_hit hlt H.out hpk)
        clear hpk hmiss
        go_wp2_with fail
        go_ret
        exact ⟨ret_i64 hit.out.symm, hE2⟩
      | false =>
        have hm := hmiss hpk
        clear hpk hmiss
        go_wp2_with fail
        go_roundw
        case rel => exact ⟨k + 1, by omega, by go_num, hm, hE2⟩
        case measure => simp [intOf]; omega
    · go_wp2
      go_ret
      exact ⟨ret_i64 (firstIdx_none (by have hkn : k = n := by omega
                                        subst hkn; exact H.out)).symm, hE⟩

set_option maxHeartbeats 400000 in
theorem hasPair (w : World) (a : Option Addr) (n cap : Nat) (hn : n ≤ 140737488351232) (f : FuncId) (he : EntersF f) (cpt : Array Value) (c0 c1 : Nat → Value)
    (hc : ∀ i, i < n → RowAt w a 2 i [c0 i, c1 i])
    (p : Nat → Bool) (hf : ∀ i, i < n → ∀ W, Ext w W → Calls Try.prog f (#[.agg #[c0 i, c1 i]] ++ cpt) W fun e W' => e = .returned (.bool (p i)) ∧ Ext W W') :
    Calls Try.prog 111 #[.slice a n cap, .func (.func f) #[] cpt] w fun e w' => e = .returned (.bool ((List.range n).any p)) ∧ Ext w w' := by
  have hcall := Lib.hid (idxPair w a n cap hn f he cpt c0 c1 hc p hf)
  clear hc hf he hn
  go_enter Try.func111, Try.ntmps111
  go_wp2_with (go_at_call 120; refine (hcall.out).mono ?_; rintro e w' ⟨rfl, hE⟩)
  go_ret
  exact ⟨ret_bool (firstIdx_nonneg p n), hE⟩

set_option maxHeartbeats 400000 in
theorem idxAtom (w : World) (a : Option Addr) (n cap : Nat) (hn : n ≤ 140737488351232) (f : FuncId) (he : EntersF f) (cpt : Array Value) (c0 c1 : Nat → Value)
    (hc : ∀ i, i < n → RowAt w a 2 i [c0 i, c1 i])
    (p : Nat → Bool) (hf : ∀ i, i < n → ∀ W, Ext w W → Calls Try.prog f (#[.agg #[c0 i, c1 i]] ++ cpt) W fun e W' => e = .returned (.bool (p i)) ∧ Ext W W') :
    Calls Try.prog 79 #[.slice a n cap, .func (.func f) #[] cpt] w fun e w' => e = .returned (.int .i64 (firstIdx p n)) ∧ Ext w w' := by
  have he' := he
  unfold EntersF at he'
  have hp0 : Hid (∀ j, j < 0 → p j = false) := fun j hj => absurd hj (Nat.not_lt_zero j)
  go_enter Try.func79, Try.ntmps79
  go_wp2_with fail
  go_loopw [5, 8] (fun _ i wr => ∃ k : Nat, k ≤ n ∧ i = .int .i64 k ∧ Hid (∀ j, j < k → p j = false) ∧ Ext w wr) (fun _ i _ => n - (intOf i).toNat)
  case atStart => exact ⟨0, Nat.zero_le _, rfl, hp0, Ext.refl w⟩
  case round =>
    obtain ⟨k, hk, rfl, H, hE⟩ := hrel
    by_cases hlt : k < n
    · have hff := Lib.hid (hf k hlt)
      obtain ⟨b, off, rfl, hcell⟩ := hc k hlt
      have h0 := hE.cell (hcell 0 _ rfl)
      have h1 := hE.cell (hcell 1 _ rfl)
      simp only [Nat.add_zero] at h0
      clear hc hf hcell
      go_wp2_with fail
      refine (hff.out _ hE).mono ?_
      rintro e w1 ⟨rfl, hE1⟩
      have hE2 := hE.trans hE1
      have hmiss : p k = false → Hid (∀ j, j < k + 1 → p j = false) := fun h j hj => by
        rcases Nat.lt_succ_iff_lt_or_eq.1 hj with h' | rfl
        · exact H.out j h'
        · exact h
      clear h0 h1 he he'
      cases hpk : p k with
      | true =>
        have hit := Lib.hid (firstIdx_hit hlt H.out hpk)
        clear hpk hmiss
        go_wp2_with fail
        go_ret
        exact ⟨ret_i64 hit.out.symm, hE2⟩
      | false =>
        have hm := hmiss hpk
        clear hpk hmiss
        go_wp2_with fail
        go_roundw
        case rel => exact ⟨k + 1, by omega, by go_num, hm, hE2⟩
        case measure => simp [intOf]; omega
    · go_wp2
      go_ret
      exact ⟨ret_i64 (firstIdx_none (by have hkn : k = n := by omega
                                        subst hkn; exact H.out)).symm, hE⟩

set_option maxHeartbeats 400000 in
theorem hasAtom (w : World) (a : Option Addr) (n cap : Nat) (hn : n ≤ 140737488351232) (f : FuncId) (he : EntersF f) (cpt : Array Value) (c0 c1 : Nat → Value)
    (hc : ∀ i, i < n → RowAt w a 2 i [c0 i, c1 i])
    (p : Nat → Bool) (hf : ∀ i, i < n → ∀ W, Ext w W → Calls Try.prog f (#[.agg #[c0 i, c1 i]] ++ cpt) W fun e W' => e = .returned (.bool (p i)) ∧ Ext W W') :
    Calls Try.prog 62 #[.slice a n cap, .func (.func f) #[] cpt] w fun e w' => e = .returned (.bool ((List.range n).any p)) ∧ Ext w w' := by
  have hcall := Lib.hid (idxAtom w a n cap hn f he cpt c0 c1 hc p hf)
  clear hc hf he hn
  go_enter Try.func62, Try.ntmps62
  go_wp2_with (go_at_call 79; refine (hcall.out).mono ?_; rintro e w' ⟨rfl, hE⟩)
  go_ret
  exact ⟨ret_bool (firstIdx_nonneg p n), hE⟩

set_option maxHeartbeats 400000 in
theorem idxInt (w : World) (a : Option Addr) (n cap : Nat) (hn : n ≤ 140737488351232) (f : FuncId) (he : EntersF f) (cpt : Array Value) (c0 : Nat → Value)
    (hc : ∀ i, i < n → RowAt w a 1 i [c0 i])
    (p : Nat → Bool) (hf : ∀ i, i < n → ∀ W, Ext w W → Calls Try.prog f (#[c0 i] ++ cpt) W fun e W' => e = .returned (.bool (p i)) ∧ Ext W W') :
    Calls Try.prog 105 #[.slice a n cap, .func (.func f) #[] cpt] w fun e w' => e = .returned (.int .i64 (firstIdx p n)) ∧ Ext w w' := by
  have he' := he
  unfold EntersF at he'
  have hp0 : Hid (∀ j, j < 0 → p j = false) := fun j hj => absurd hj (Nat.not_lt_zero j)
  go_enter Try.func105, Try.ntmps105
  go_wp2_with fail
  go_loopw [5, 8] (fun _ i wr => ∃ k : Nat, k ≤ n ∧ i = .int .i64 k ∧ Hid (∀ j, j < k → p j = false) ∧ Ext w wr) (fun _ i _ => n - (intOf i).toNat)
  case atStart => exact ⟨0, Nat.zero_le _, rfl, hp0, Ext.refl w⟩
  case round =>
    obtain ⟨k, hk, rfl, H, hE⟩ := hrel
    by_cases hlt : k < n
    · have hff := Lib.hid (hf k hlt)
      obtain ⟨b, off, rfl, hcell⟩ := hc k hlt
      have h0 := hE.cell (hcell 0 _ rfl)
      simp only [Nat.add_zero, Nat.mul_one] at h0
      clear hc hf hcell
      go_wp2_with fail
      refine (hff.out _ hE).mono ?_
      rintro e w1 ⟨rfl, hE1⟩
      have hE2 := hE.trans hE1
      have hmiss : p k = false → Hid (∀ j, j < k + 1 → p j = false) := fun h j hj => by
        rcases Nat.lt_succ_iff_lt_or_eq.1 hj with h' | rfl
        · exact H.out j h'
        · exact h
      clear h0 he he'
      cases hpk : p k with
      | true =>
        have hit := Lib.hid (firstIdx_hit hlt H.out hpk)
        clear hpk hmiss
        go_wp2_with fail
        go_ret
        exact ⟨ret_i64 hit.out.symm, hE2⟩
      | false =>
        have hm := hmiss hpk
        clear hpk hmiss
        go_wp2_with fail
        go_roundw
        case rel => exact ⟨k + 1, by omega, by go_num, hm, hE2⟩
        case measure => simp [intOf]; omega
    · go_wp2
      go_ret
      exact ⟨ret_i64 (firstIdx_none (by have hkn : k = n := by omega
                                        subst hkn; exact H.out)).symm, hE⟩

set_option maxHeartbeats 400000 in
theorem hasInt (w : World) (a : Option Addr) (n cap : Nat) (hn : n ≤ 140737488351232) (f : FuncId) (he : EntersF f) (cpt : Array Value) (c0 : Nat → Value)
    (hc : ∀ i, i < n → RowAt w a 1 i [c0 i])
    (p : Nat → Bool) (hf : ∀ i, i < n → ∀ W, Ext w W → Calls Try.prog f (#[c0 i] ++ cpt) W fun e W' => e = .returned (.bool (p i)) ∧ Ext W W') :
    Calls Try.prog 87 #[.slice a n cap, .func (.func f) #[] cpt] w fun e w' => e = .returned (.bool ((List.range n).any p)) ∧ Ext w w' := by
  have hcall := Lib.hid (idxInt w a n cap hn f he cpt c0 hc p hf)
  clear hc hf he hn
  go_enter Try.func87, Try.ntmps87
  go_wp2_with (go_at_call 105; refine (hcall.out).mono ?_; rintro e w' ⟨rfl, hE⟩)
  go_ret
  exact ⟨ret_bool (firstIdx_nonneg p n), hE⟩

set_option maxHeartbeats 400000 in
theorem idxPtr (w : World) (a : Option Addr) (n cap : Nat) (hn : n ≤ 140737488351232) (f : FuncId) (he : EntersF f) (cpt : Array Value) (c0 : Nat → Value)
    (hc : ∀ i, i < n → RowAt w a 1 i [c0 i])
    (p : Nat → Bool) (hf : ∀ i, i < n → ∀ W, Ext w W → Calls Try.prog f (#[c0 i] ++ cpt) W fun e W' => e = .returned (.bool (p i)) ∧ Ext W W') :
    Calls Try.prog 43 #[.slice a n cap, .func (.func f) #[] cpt] w fun e w' => e = .returned (.int .i64 (firstIdx p n)) ∧ Ext w w' := by
  have he' := he
  unfold EntersF at he'
  have hp0 : Hid (∀ j, j < 0 → p j = false) := fun j hj => absurd hj (Nat.not_lt_zero j)
  go_enter Try.func43, Try.ntmps43
  go_wp2_with fail
  go_loopw [5, 8] (fun _ i wr => ∃ k : Nat, k ≤ n ∧ i = .int .i64 k ∧ Hid (∀ j, j < k → p j = false) ∧ Ext w wr) (fun _ i _ => n - (intOf i).toNat)
  case atStart => exact ⟨0, Nat.zero_le _, rfl, hp0, Ext.refl w⟩
  case round =>
    obtain ⟨k, hk, rfl, H, hE⟩ := hrel
    by_cases hlt : k < n
    · have hff := Lib.hid (hf k hlt)
      obtain ⟨b, off, rfl, hcell⟩ := hc k hlt
      have h0 := hE.cell (hcell 0 _ rfl)
      simp only [Nat.add_zero, Nat.mul_one] at h0
      clear hc hf hcell
      go_wp2_with fail
      refine (hff.out _ hE).mono ?_
      rintro e w1 ⟨rfl, hE1⟩
      have hE2 := hE.trans hE1
      have hmiss : p k = false → Hid (∀ j, j < k + 1 → p j = false) := fun h j hj => by
        rcases Nat.lt_succ_iff_lt_or_eq.1 hj with h' | rfl
        · exact H.out j h'
        · exact h
      clear h0 he he'
      cases hpk : p k with
      | true =>
        have hit := Lib.hid (firstIdx_hit hlt H.out hpk)
        clear hpk hmiss
        go_wp2_with fail
        go_ret
        exact ⟨ret_i64 hit.out.symm, hE2⟩
      | false =>
        have hm := hmiss hpk
        clear hpk hmiss
        go_wp2_with fail
        go_roundw
        case rel => exact ⟨k + 1, by omega, by go_num, hm, hE2⟩
        case measure => simp [intOf]; omega
    · go_wp2
      go_ret
      exact ⟨ret_i64 (firstIdx_none (by have hkn : k = n := by omega
                                        subst hkn; exact H.out)).symm, hE⟩

set_option maxHeartbeats 400000 in
theorem idxSpot (w : World) (a : Option Addr) (n cap : Nat) (hn : n ≤ 140737488351232) (f : FuncId) (he : EntersF f) (cpt : Array Value) (c0 c1 : Nat → Value)
    (hc : ∀ i, i < n → RowAt w a 2 i [c0 i, c1 i])
    (p : Nat → Bool) (hf : ∀ i, i < n → ∀ W, Ext w W → Calls Try.prog f (#[.agg #[c0 i, c1 i]] ++ cpt) W fun e W' => e = .returned (.bool (p i)) ∧ Ext W W') :
    Calls Try.prog 54 #[.slice a n cap, .func (.func f) #[] cpt] w fun e w' => e = .returned (.int .i64 (firstIdx p n)) ∧ Ext w w' := by
  have he' := he
  unfold EntersF at he'
  have hp0 : Hid (∀ j, j < 0 → p j = false) := fun j hj => absurd hj (Nat.not_lt_zero j)
  go_enter Try.func54, Try.ntmps54
  go_wp2_with fail
  go_loopw [5, 8] (fun _ i wr => ∃ k : Nat, k ≤ n ∧ i = .int .i64 k ∧ Hid (∀ j, j < k → p j = false) ∧ Ext w wr) (fun _ i _ => n - (intOf i).toNat)
  case atStart => exact ⟨0, Nat.zero_le _, rfl, hp0, Ext.refl w⟩
  case round =>
    obtain ⟨k, hk, rfl, H, hE⟩ := hrel
    by_cases hlt : k < n
    · have hff := Lib.hid (hf k hlt)
      obtain ⟨b, off, rfl, hcell⟩ := hc k hlt
      have h0 := hE.cell (hcell 0 _ rfl)
      have h1 := hE.cell (hcell 1 _ rfl)
      simp only [Nat.add_zero] at h0
      clear hc hf hcell
      go_wp2_with fail
      refine (hff.out _ hE).mono ?_
      rintro e w1 ⟨rfl, hE1⟩
      have hE2 := hE.trans hE1
      have hmiss : p k = false → Hid (∀ j, j < k + 1 → p j = false) := fun h j hj => by
        rcases Nat.lt_succ_iff_lt_or_eq.1 hj with h' | rfl
        · exact H.out j h'
        · exact h
      clear h0 h1 he he'
      cases hpk : p k with
      | true =>
        have hit := Lib.hid (firstIdx_hit hlt H.out hpk)
        clear hpk hmiss
        go_wp2_with fail
        go_ret
        exact ⟨ret_i64 hit.out.symm, hE2⟩
      | false =>
        have hm := hmiss hpk
        clear hpk hmiss
        go_wp2_with fail
        go_roundw
        case rel => exact ⟨k + 1, by omega, by go_num, hm, hE2⟩
        case measure => simp [intOf]; omega
    · go_wp2
      go_ret
      exact ⟨ret_i64 (firstIdx_none (by have hkn : k = n := by omega
                                        subst hkn; exact H.out)).symm, hE⟩

end Go.Proofs.Ytodlkjjoenglgaa

/- The data of this seat's functions (domains, conditions), and how they lie in memory. -/
namespace Go.Proofs.Ytodlkjjoenglgaa
open Go Go.RowKit

structure AtD where
  pred : Int
  args : List Int
structure LitD where
  neg : Bool
  atom : AtD
structure ScD where
  name : ByteArray
  types : List Int
  diff : List (Int × Int)
  pre : List LitD
  add : List AtD
  del : List AtD
  cost : Int
structure Dom where
  types : List (ByteArray × Int)
  objects : List (ByteArray × Int)
  preds : List (ByteArray × List Int)
  schemas : List ScD
  init : List AtD
  goal : List LitD
structure Cnd where
  types : List Int
  nodes : List (Nd × List Int)

def rNI (_ : World) (c : List Value) (x : ByteArray × Int) : Prop := c = [.string x.1, i64 x.2] ∧ x.1.size ≤ maxLen
def rInt (_ : World) (c : List Value) (x : Int) : Prop := c = [i64 x]
def rPair (_ : World) (c : List Value) (x : Int × Int) : Prop := c = [i64 x.1, i64 x.2]
abbrev IntsAt (w : World) (v : Value) (l : List Int) : Prop := Sl w 1 8 rInt v l
def rAtom (w : World) (c : List Value) (a : AtD) : Prop := ∃ av, c = [i64 a.pred, av] ∧ IntsAt w av a.args
def rLit (w : World) (c : List Value) (a : LitD) : Prop := ∃ av, c = [.bool a.neg, i64 a.atom.pred, av] ∧ IntsAt w av a.atom.args
def rPred (w : World) (c : List Value) (p : ByteArray × List Int) : Prop := ∃ tv, c = [.string p.1, tv] ∧ IntsAt w tv p.2 ∧ p.1.size ≤ maxLen
def rSc (w : World) (c : List Value) (s : ScD) : Prop := ∃ tv dv pv av lv, c = [.string s.name, tv, dv, pv, av, lv, i64 s.cost] ∧ s.name.size ≤ maxLen ∧
  IntsAt w tv s.types ∧ Sl w 2 16 rPair dv s.diff ∧ Sl w 3 40 rLit pv s.pre ∧ Sl w 2 32 rAtom av s.add ∧ Sl w 2 32 rAtom lv s.del
def rNode (w : World) (c : List Value) (x : Nd × List Int) : Prop := ∃ cv av, c = [i64 x.1.kind, cv, i64 x.1.pred, av, i64 x.1.left, i64 x.1.right, i64 x.1.typ] ∧ IntsAt w cv x.2 ∧ IntsAt w av x.1.args

theorem IntsAt.ext {w w' : World} {v : Value} {l : List Int} (h : IntsAt w v l) (e : Ext w w') : IntsAt w' v l := Sl.ext h e fun _ _ h => h
theorem rAtom.ext {w w' : World} (e : Ext w w') (c : List Value) (a : AtD) (h : rAtom w c a) : rAtom w' c a := let ⟨av, h1, h2⟩ := h; ⟨av, h1, IntsAt.ext h2 e⟩
theorem rLit.ext {w w' : World} (e : Ext w w') (c : List Value) (a : LitD) (h : rLit w c a) : rLit w' c a := let ⟨av, h1, h2⟩ := h; ⟨av, h1, IntsAt.ext h2 e⟩
theorem rPred.ext {w w' : World} (e : Ext w w') (c : List Value) (a : ByteArray × List Int) (h : rPred w c a) : rPred w' c a := let ⟨av, h1, h2, h3⟩ := h; ⟨av, h1, IntsAt.ext h2 e, h3⟩
theorem rNode.ext {w w' : World} (e : Ext w w') (c : List Value) (a : Nd × List Int) (h : rNode w c a) : rNode w' c a := let ⟨cv, av, h1, h2, h3⟩ := h; ⟨cv, av, h1, IntsAt.ext h2 e, IntsAt.ext h3 e⟩
theorem rSc.ext {w w' : World} (e : Ext w w') (c : List Value) (s : ScD) (h : rSc w c s) : rSc w' c s :=
  let ⟨tv, dv, pv, av, lv, h1, h2, h3, h4, h5, h6, h7⟩ := h
  ⟨tv, dv, pv, av, lv, h1, h2, IntsAt.ext h3 e, Sl.ext h4 e fun _ _ h => h, Sl.ext h5 e (rLit.ext e), Sl.ext h6 e (rAtom.ext e), Sl.ext h7 e (rAtom.ext e)⟩

/-- The six slices of a domain. -/
structure DomV where
  tv : Value
  ov : Value
  pv : Value
  sv : Value
  iv : Value
  gv : Value
abbrev DomV.cells (d : DomV) : Array Value := #[d.tv, d.ov, d.pv, d.sv, d.iv, d.gv]
structure DomAt (w : World) (d : DomV) (D : Dom) : Prop where
  types : Sl w 2 24 rNI d.tv D.types
  objects : Sl w 2 24 rNI d.ov D.objects
  preds : Sl w 2 40 rPred d.pv D.preds
  schemas : Sl w 7 144 rSc d.sv D.schemas
  init : Sl w 2 32 rAtom d.iv D.init
  goal : Sl w 3 40 rLit d.gv D.goal
theorem DomAt.ext {w w' : World} {d : DomV} {D : Dom} (h : DomAt w d D) (e : Ext w w') : DomAt w' d D :=
  ⟨Sl.ext h.types e fun _ _ h => h, Sl.ext h.objects e fun _ _ h => h, Sl.ext h.preds e (rPred.ext e), Sl.ext h.schemas e (rSc.ext e), Sl.ext h.init e (rAtom.ext e), Sl.ext h.goal e (rLit.ext e)⟩

structure CndAt (w : World) (tv nv : Value) (C : Cnd) : Prop where
  types : IntsAt w tv C.types
  nodes : Sl w 7 88 rNode nv C.nodes
theorem CndAt.ext {w w' : World} {tv nv : Value} {C : Cnd} (h : CndAt w tv nv C) (e : Ext w w') : CndAt w' tv nv C := ⟨h.types.ext e, Sl.ext h.nodes e (rNode.ext e)⟩

/-- A slice's reading, opened: its address, its capacity, and of each element its cells. -/
theorem Sl.open {X : Type} {w : World} {sz bytes : Nat} {R : World → List Value → X → Prop} {v : Value} {l : List X} (h : Sl w sz bytes R v l) :
    ∃ a cap, v = .slice a l.length cap ∧ l.length ≤ cap ∧ cap ≤ maxLen ∧ l.length * bytes ≤ 140737488351232 ∧ ∀ i x, l[i]? = some x → ∃ c, c.length = sz ∧ R w c x ∧ RowAt w a sz i c := h

theorem IntsAt.rd {w : World} {v : Value} {l : List Int} (h : IntsAt w v l) : Rd w v (l.map i64) := by
  obtain ⟨a, cap, rfl, h1, h2, h3, h4⟩ := h
  refine ⟨a, cap, by rw [List.length_map], by rw [List.length_map]; exact h1, h2, fun i x hx => ?_⟩
  rw [List.getElem?_map] at hx
  obtain ⟨y, hy, rfl⟩ := Option.map_eq_some_iff.1 hx
  obtain ⟨c, hc, hr, b, off, rfl, hcell⟩ := h4 i y hy
  cases hr
  exact ⟨b, off, rfl, by simpa using hcell 0 _ rfl⟩

theorem IntsAt.of_rd {w : World} {v : Value} {l : List Int} (h : Rd w v (l.map i64)) (hb : l.length * 8 ≤ 140737488351232) : IntsAt w v l := by
  obtain ⟨a, cap, rfl, h1, h2, h3⟩ := h
  rw [List.length_map] at h1
  refine ⟨a, cap, by rw [List.length_map], h1, h2, hb, fun i x hx => ⟨[i64 x], rfl, rfl, ?_⟩⟩
  obtain ⟨b, off, rfl, hc⟩ := h3 i (i64 x) (by rw [List.getElem?_map, hx]; rfl)
  refine ⟨b, off, rfl, fun j y hj => ?_⟩
  match j with
  | 0 => simp at hj; subst hj; simpa using hc
  | j + 1 => simp at hj

end Go.Proofs.Ytodlkjjoenglgaa

/- Package types: names, hierarchies, objects. -/
namespace Go.Proofs.Ytodlkjjoenglgaa
open Go Go.RowKit

/-- Byte i of a name. -/
def nameByte (i : Nat) (c : Int) : Bool := (decide (97 ≤ c) && decide (c ≤ 122)) || (decide (0 < i) && ((decide (48 ≤ c) && decide (c ≤ 57)) || decide (c = 45)))
def nameByteAt (s : ByteArray) (i : Nat) : Bool := nameByte i (s.data[i]?.getD 0).toNat
def isNameB (s : ByteArray) : Bool := (List.range s.size).all (nameByteAt s) && (decide (1 ≤ s.size) && decide (s.size ≤ 12))

set_option maxHeartbeats 400000 in
theorem isName_any (s : ByteArray) (w : World) (hs : s.size ≤ maxLen) :
    Calls Try.prog 74 #[.string s] w fun e w' => e = .returned (.bool (isNameB s)) ∧ w = w' := by
  unfold maxLen at hs
  go_enter Try.func74, Try.ntmps74
  go_wp2_with fail
  go_loop [3, 7] (fun _ i => ∃ k : Nat, k ≤ s.size ∧ i = .int .i64 k ∧ Hid (∀ j, j < k → nameByteAt s j = true)) (fun _ i => s.size - (intOf i).toNat)
  case atStart => exact ⟨0, Nat.zero_le _, rfl, fun j hj => absurd hj (Nat.not_lt_zero j)⟩
  case round =>
    obtain ⟨k, hk, rfl, H⟩ := hrel
    by_cases hlt : k < s.size
    · have hbyte : nameByteAt s k = nameByte k (s[k].toNat : Int) := by
        unfold nameByteAt
        have : s.data[k]? = some s[k] := by rw [Array.getElem?_eq_getElem (by simpa using hlt)]; rfl
        rw [this]; rfl
      have hbad : nameByte k (s[k].toNat : Int) = false → isNameB s = false := fun h => by
        unfold isNameB
        have : (List.range s.size).all (nameByteAt s) = false := by
          rw [List.all_eq_false]
          exact ⟨k, by simpa using hlt, by rw [hbyte, h]; simp⟩
        rw [this, Bool.false_and]
      have hgood : nameByte k (s[k].toNat : Int) = true → Hid (∀ j, j < k + 1 → nameByteAt s j = true) := fun h j hj => by
        rcases Nat.lt_succ_iff_lt_or_eq.1 hj with h' | rfl
        · exact H.out j h'
        · rw [hbyte]; exact h
      have HB := Lib.hid hbad
      have HG := Lib.hid hgood
      clear hbyte hbad hgood
      go_wp2_with fail
      all_goals first
        | (go_ret
           refine ⟨ret_bool (HB.out ?_).symm, rfl⟩
           clear HB HG H
           simp [nameByte] at *
           omega)
        | (go_round
           case rel =>
             refine ⟨k + 1, by omega, by go_num, HG.out ?_⟩
             clear HB HG H
             simp [nameByte] at *
             omega
           case measure => simp [intOf]; omega)
    · have hks : k = s.size := by omega
      have hall : isNameB s = (decide (1 ≤ s.size) && decide (s.size ≤ 12)) := by
        unfold isNameB
        have : (List.range s.size).all (nameByteAt s) = true := by
          rw [List.all_eq_true]
          intro j hj
          exact H.out j (by rw [hks]; simpa using hj)
        rw [this, Bool.true_and]
      have HA := Lib.hid hall
      clear hall hks
      go_wp2
      all_goals
        go_ret
        refine ⟨ret_bool ?_, rfl⟩
        rw [HA.out, Bool.eq_iff_iff]
        simp
        omega

/-- The closure that compares a name with the one at hand. -/
theorem tyEq (w : World) (u nm : ByteArray) (c1 : Value) (bt : Nat) (h : w.cell? ⟨bt, 0, none⟩ = some (.string nm)) :
    Calls Try.prog 101 (#[.agg #[.string u, c1]] ++ #[.pointer (some ⟨bt, 0, none⟩)]) w fun e w' => e = .returned (.bool (u.toList == nm.toList)) ∧ Ext w w' := by
  have hlt := World.block_lt_of_cell? w _ h
  simp only at hlt
  go_enter Try.func101, Try.ntmps101
  go_wp2
  go_ret
  exact ⟨rfl, (Ext.refl w).alloc _⟩
theorem enters101 : EntersF 101 := fun args W => enters_of Try.func101 (by kernel_rfl) rfl args W

/-- The closure that compares a name with the one at hand. -/
theorem obEq (w : World) (u nm : ByteArray) (c1 : Value) (bt : Nat) (h : w.cell? ⟨bt, 0, none⟩ = some (.string nm)) :
    Calls Try.prog 76 (#[.agg #[.string u, c1]] ++ #[.pointer (some ⟨bt, 0, none⟩)]) w fun e w' => e = .returned (.bool (u.toList == nm.toList)) ∧ Ext w w' := by
  have hlt := World.block_lt_of_cell? w _ h
  simp only at hlt
  go_enter Try.func76, Try.ntmps76
  go_wp2
  go_ret
  exact ⟨rfl, (Ext.refl w).alloc _⟩
theorem enters76 : EntersF 76 := fun args W => enters_of Try.func76 (by kernel_rfl) rfl args W

/-- The closure that compares a name with the one at hand. -/
theorem prEq (w : World) (u nm : ByteArray) (c1 : Value) (bt : Nat) (h : w.cell? ⟨bt, 0, none⟩ = some (.string nm)) :
    Calls Try.prog 107 (#[.agg #[.string u, c1]] ++ #[.pointer (some ⟨bt, 0, none⟩)]) w fun e w' => e = .returned (.bool (u.toList == nm.toList)) ∧ Ext w w' := by
  have hlt := World.block_lt_of_cell? w _ h
  simp only at hlt
  go_enter Try.func107, Try.ntmps107
  go_wp2
  go_ret
  exact ⟨rfl, (Ext.refl w).alloc _⟩
theorem enters107 : EntersF 107 := fun args W => enters_of Try.func107 (by kernel_rfl) rfl args W

/-- The closure that compares a name with the one at hand. -/
theorem scEq (w : World) (u nm : ByteArray) (c1 c2 c3 c4 c5 c6 : Value) (bt : Nat) (h : w.cell? ⟨bt, 0, none⟩ = some (.string nm)) :
    Calls Try.prog 109 (#[.agg #[.string u, c1, c2, c3, c4, c5, c6]] ++ #[.pointer (some ⟨bt, 0, none⟩)]) w fun e w' => e = .returned (.bool (u.toList == nm.toList)) ∧ Ext w w' := by
  have hlt := World.block_lt_of_cell? w _ h
  simp only at hlt
  go_enter Try.func109, Try.ntmps109
  go_wp2
  go_ret
  exact ⟨rfl, (Ext.refl w).alloc _⟩
theorem enters109 : EntersF 109 := fun args W => enters_of Try.func109 (by kernel_rfl) rfl args W

def dNI : ByteArray × Int := (ByteArray.empty, 0)
def objectName : List UInt8 := [111, 98, 106, 101, 99, 116]
/-- The code of type i. -/
def tyCode (ts : List (ByteArray × Int)) (i : Nat) : Int :=
  if isNameB (ts.getD i dNI).1 = false ∨ (ts.getD i dNI).1.toList = objectName then 12
  else if ((List.range i).any fun j => (ts.getD j dNI).1.toList == (ts.getD i dNI).1.toList) = true then 7
  else if (ts.getD i dNI).2 < -1 ∨ (i : Int) ≤ (ts.getD i dNI).2 then 3 else 0
/-- The first index below n at which f is not 0. -/
def firstBad (f : Nat → Int) (n : Nat) : Option Nat := (List.range n).find? fun i => decide (f i ≠ 0)
theorem firstBad_hit {f : Nat → Int} {n k : Nat} (hk : k < n) (h : ∀ j, j < k → f j = 0) (hp : f k ≠ 0) : firstBad f n = some k := by
  unfold firstBad
  rw [List.find?_range_eq_some]
  exact ⟨by simpa using hp, by simpa using hk, fun j hj => by simp [h j hj]⟩
theorem firstBad_none {f : Nat → Int} {n : Nat} (h : ∀ j, j < n → f j = 0) : firstBad f n = none := by
  unfold firstBad
  rw [List.find?_eq_none]
  intro x hx
  simp [h x (by simpa using hx)]
theorem firstBad_of_none {f : Nat → Int} {n : Nat} (h : firstBad f n = none) : ∀ j, j < n → f j = 0 := by
  unfold firstBad at h
  rw [List.find?_eq_none] at h
  intro j hj
  have := h j (by simpa using hj)
  simpa using this
theorem firstBad_of_some {f : Nat → Int} {n k : Nat} (h : firstBad f n = some k) : k < n ∧ f k ≠ 0 := by
  unfold firstBad at h
  rw [List.find?_range_eq_some] at h
  exact ⟨by simpa using h.2.1, by simpa using h.1⟩
def typesV (ts : List (ByteArray × Int)) : Int × Int :=
  if 8 < ts.length then (2, -1) else match firstBad (tyCode ts) ts.length with | some i => (tyCode ts i, (i : Int)) | none => (0, 0)
abbrev faultV (f : Int × Int) : Value := .agg #[i64 f.1, i64 f.2]

theorem heap_two {w : World} {b : Nat} {c0 c1 : Value} {T : TypeId} {fr : Nat × Nat} (u v : Value) (h : w.heap[b]? = some (.cells #[c0, c1] T fr)) :
    ((w.setCell ⟨b, 0, none⟩ u).setCell ⟨b, 1, none⟩ v).heap[b]? = some (.cells #[u, v] T fr) :=
  heap_setCell_at v (heap_setCell_at u h)
/-- A fault that lies in the result's variable. -/
theorem results_fault {fn : Func} {p : Tmp} {tmps : Array Value} {b : Nat} {w : World} {x y : Int} (h : fn.results = #[.cell p 70]) (ht : tmps.getD p undef = .pointer (some ⟨b, 0, none⟩)) (hb : w.heap[b]? = some (.cells #[i64 x, i64 y] 70)) :
    (results fn tmps).run Try.prog w = .ok (faultV (x, y)) w := by
  have h0 : w.cell? ⟨b, 0, none⟩ = some (i64 x) := by rw [cell_of_heap hb]; rfl
  have h1 : w.cell? ⟨b, 1, none⟩ = some (i64 y) := by rw [cell_of_heap hb]; rfl
  rw [Array.getD_eq_getD_getElem?] at ht
  simp only [results, h]
  simp [go_sem, ht, h0, h1, Sem.run_bind, Result.andThen]

/-- What a walk wants of a block of two cells. -/
theorem two_facts {w : World} {b : Nat} {c0 c1 : Value} {T : TypeId} (h : w.heap[b]? = some (.cells #[c0, c1] T)) :
    w.cell? ⟨b, 0, none⟩ = some c0 ∧ w.cell? ⟨b, 1, none⟩ = some c1 ∧ w.frozen? ⟨b, 0, none⟩ = false ∧ w.frozen? ⟨b, 1, none⟩ = false ∧ b < w.heap.size :=
  ⟨by rw [cell_of_heap h]; rfl, by rw [cell_of_heap h]; rfl, free_of_heap h 0, free_of_heap h 1, heap_lt h⟩
theorem new_cell {w W : World} {c : Array Value} {T : TypeId} (e : Ext (w.alloc (.cells c T)) W) {i : Nat} {v : Value} (h : c[i]? = some v) : W.cell? ⟨w.heap.size, i, none⟩ = some v :=
  e.cell (by rw [World.cell?_alloc_new]; exact h)

/-- A slice of rows of two cells, opened. -/
theorem Sl.rows2 {w : World} {bytes : Nat} {v : Value} {l : List (ByteArray × Int)} (h : Sl w 2 bytes rNI v l) :
    ∃ a cap, v = .slice a l.length cap ∧ l.length ≤ cap ∧ cap ≤ maxLen ∧ l.length * bytes ≤ 140737488351232 ∧ (∀ i, i < l.length → RowAt w a 2 i [.string (l.getD i dNI).1, i64 (l.getD i dNI).2]) ∧ ∀ i, i < l.length → (l.getD i dNI).1.size ≤ maxLen := by
  obtain ⟨a, cap, rfl, h1, h2, h3, h4⟩ := h
  refine ⟨a, cap, rfl, h1, h2, h3, fun i hi => ?_, fun i hi => ?_⟩
  · obtain ⟨c, hc, ⟨rfl, _⟩, hrow⟩ := h4 i l[i] (List.getElem?_eq_getElem hi)
    simpa [hi] using hrow
  · obtain ⟨c, hc, ⟨rfl, hs⟩, hrow⟩ := h4 i l[i] (List.getElem?_eq_getElem hi)
    simpa [hi] using hs

set_option maxHeartbeats 1000000 in
theorem typesV_any (w : World) (v : Value) (ts : List (ByteArray × Int)) (h : Sl w 2 24 rNI v ts) :
    Calls Try.prog 73 #[v] w fun e w' => e = .returned (faultV (typesV ts)) ∧ Ext w w' := by
  obtain ⟨a, cap, rfl, h1, h2, h3, hrow, hsz⟩ := h.rows2
  obtain ⟨n, hn⟩ : ∃ n, ts.length = n := ⟨_, rfl⟩
  have HN := Lib.hid hn
  rw [hn] at h1 h3 hrow hsz ⊢
  have HROW := Lib.hid hrow
  have HSZ := Lib.hid hsz
  clear hn h hrow hsz
  unfold maxLen at h2
  by_cases h8 : 8 < n
  · have hv : typesV ts = (2, -1) := by unfold typesV; rw [if_pos (by rw [HN.out]; exact h8)]
    have HV := Lib.hid hv
    clear hv
    go_enter Try.func73, Try.ntmps73
    go_wp2
    rw [HV.out]
    exact bodyPost_ret (v := faultV (2, -1)) (by simp [results, Try.results73, go_sem]) rfl ⟨rfl, (Ext.refl w).alloc _⟩
  · go_enter Try.func73, Try.ntmps73
    go_wp2_with fail
    have H0 : Hid (∀ j, j < 0 → tyCode ts j = 0) := fun j hj => absurd hj (Nat.not_lt_zero j)
    go_loopw [11] (fun i wr => ∃ k : Nat, k ≤ n ∧ i = .int .i64 k ∧ Hid (∀ j, j < k → tyCode ts j = 0) ∧ Ext (w.alloc (.cells #[i64 0, i64 0] 70)) wr) (fun i _ => n - (intOf i).toNat)
    case atStart => exact ⟨0, Nat.zero_le _, rfl, H0, Ext.refl _⟩
    case round =>
      obtain ⟨k, hk, rfl, H, hE⟩ := hrel
      clear H0
      have hres : wr.heap[w.heap.size]? = some (.cells #[i64 0, i64 0] 70) := new_block hE
      obtain ⟨hr0, hr1, hz0, hz1, hl0⟩ := two_facts hres
      have HE := Lib.hid hE
      have HRES := Lib.hid hres
      clear hE hres
      by_cases hlt : k < n
      · obtain ⟨b, off, rfl, hcell⟩ := HROW.out k hlt
        obtain ⟨nm, hnm⟩ : ∃ nm, (ts.getD k dNI).1 = nm := ⟨_, rfl⟩
        obtain ⟨pr, hpr⟩ : ∃ pr, (ts.getD k dNI).2 = pr := ⟨_, rfl⟩
        rw [hnm, hpr] at hcell
        have hs := HSZ.out k hlt
        rw [hnm] at hs
        have h0 : wr.cell? ⟨b, off + k * 2, none⟩ = some (.string nm) := (Ext.of_new HE.out).cell (hcell 0 _ rfl)
        have h1' : wr.cell? ⟨b, off + k * 2 + 1, none⟩ = some (i64 pr) := (Ext.of_new HE.out).cell (hcell 1 _ rfl)
        have HNM := Lib.hid hnm
        have HPR := Lib.hid hpr
        clear hcell hnm hpr
        go_wp2_with fail
        refine (isName_any nm _ hs).mono ?_
        rintro e w2 ⟨rfl, rfl⟩
        cases hN : isNameB nm with
        | false => 
          have hv : typesV ts = (12, (k : Int)) := by
            have hc : tyCode ts k = 12 := by unfold tyCode; rw [if_pos (Or.inl (by rw [HNM.out]; exact hN))]
            unfold typesV
            rw [if_neg (by rw [HN.out]; exact h8), HN.out, firstBad_hit hlt H.out (by rw [hc]; decide)]
            simp only [hc]
          have HV := Lib.hid hv
          have HEE := Lib.hid (Ext.of_new HE.out)
          clear hv hN
          go_wp2_with fail
          rw [HV.out]
          refine bodyPost_ret (results_fault rfl rfl ((heap_alloc_lt (by simpa using hl0)).trans (heap_two _ _ HRES.out))) rfl ⟨rfl, ?_⟩
          exact ((HEE.out.setCell (p := ⟨w.heap.size, 0, none⟩) (Nat.le_refl _) _).setCell (p := ⟨w.heap.size, 1, none⟩) (Nat.le_refl _) _).alloc _
        | true =>
          by_cases hO : nm.toList = objectName
          · have hv : typesV ts = (12, (k : Int)) := by
              have hc : tyCode ts k = 12 := by unfold tyCode; rw [if_pos (Or.inr (by rw [HNM.out]; exact hO))]
              unfold typesV
              rw [if_neg (by rw [HN.out]; exact h8), HN.out, firstBad_hit hlt H.out (by rw [hc]; decide)]
              simp only [hc]
            have HV := Lib.hid hv
            have HEE := Lib.hid (Ext.of_new HE.out)
            have ho : (nm.toList == [111, 98, 106, 101, 99, 116]) = true := by rw [hO]; rfl
            clear hv hN hO
            go_wp2_with fail
            rw [HV.out]
            refine bodyPost_ret (results_fault rfl rfl ((heap_alloc_lt (by simpa using hl0)).trans (heap_two _ _ HRES.out))) rfl ⟨rfl, ?_⟩
            exact ((HEE.out.setCell (p := ⟨w.heap.size, 0, none⟩) (Nat.le_refl _) _).setCell (p := ⟨w.heap.size, 1, none⟩) (Nat.le_refl _) _).alloc _
          · have ho : (nm.toList == [111, 98, 106, 101, 99, 116]) = false := by simpa [objectName] using hO
            have hno : ¬(isNameB (ts.getD k dNI).1 = false ∨ (ts.getD k dNI).1.toList = objectName) := by
              rw [HNM.out]; rintro (h | h)
              · rw [hN] at h; cases h
              · exact hO h
            have HNO := Lib.hid hno
            have HEE := Lib.hid (Ext.of_new HE.out)
            clear hN hO hno
            go_wp2_with fail
            have hcall := hasType (wr.alloc (.cells #[.string nm, i64 pr] 142)) (some ⟨b, off, none⟩) k cap (by omega) 101 enters101 #[.pointer (some ⟨wr.heap.size, 0, none⟩)]
              (fun i => .string (ts.getD i dNI).1) (fun i => i64 (ts.getD i dNI).2) (fun i hi => (HROW.out i (by omega)).ext (HEE.out.alloc _))
              (fun i => (ts.getD i dNI).1.toList == nm.toList) (fun i _ W hW => tyEq W _ nm _ _ (new_cell hW rfl))
            refine hcall.mono ?_
            rintro e w2 ⟨rfl, hE2⟩
            clear hcall hr0 hr1 hz0 hz1 hl0 h0 h1'
            have hE3 : Ext wr w2 := (Ext.refl wr).alloc _ |>.trans hE2
            have hres2 := hE3.block HRES.out
            obtain ⟨hr0, hr1, hz0, hz1, hl0⟩ := two_facts hres2
            have ht0 : w2.cell? ⟨wr.heap.size, 0, none⟩ = some (.string nm) := new_cell hE2 rfl
            have ht1 : w2.cell? ⟨wr.heap.size, 1, none⟩ = some (i64 pr) := new_cell hE2 rfl
            have HRES2 := Lib.hid hres2
            have HE2 := Lib.hid (HEE.out.trans hE3)
            have HE3 := Lib.hid (HE.out.trans hE3)
            clear hE2 hE3 hres2
            obtain ⟨d, hd⟩ : ∃ d, ((List.range k).any fun i => (ts.getD i dNI).1.toList == nm.toList) = d := ⟨_, rfl⟩
            rw [hd]
            have HD := Lib.hid hd
            clear hd
            cases d with
            | true =>
              have hv : typesV ts = (7, (k : Int)) := by
                have hc : tyCode ts k = 7 := by
                  unfold tyCode
                  rw [if_neg HNO.out, if_pos (by rw [HNM.out]; exact HD.out)]
                unfold typesV
                rw [if_neg (by rw [HN.out]; exact h8), HN.out, firstBad_hit hlt H.out (by rw [hc]; decide)]
                simp only [hc]
              have HV := Lib.hid hv
              clear hv
              go_wp2_with fail
              rw [HV.out]
              refine bodyPost_ret (results_fault rfl rfl (heap_two _ _ HRES2.out)) rfl ⟨rfl, ?_⟩
              exact (HE2.out.setCell (p := ⟨w.heap.size, 0, none⟩) (Nat.le_refl _) _).setCell (p := ⟨w.heap.size, 1, none⟩) (Nat.le_refl _) _
            | false =>
              have hc : tyCode ts k = if pr < -1 ∨ (k : Int) ≤ pr then 3 else 0 := by
                unfold tyCode
                rw [if_neg HNO.out, if_neg (by rw [HNM.out, HD.out]; simp), HPR.out]
              have HC := Lib.hid hc
              clear hc
              by_cases hp : pr < -1 ∨ (k : Int) ≤ pr
              · have hv : typesV ts = (3, (k : Int)) := by
                  have hc : tyCode ts k = 3 := by rw [HC.out, if_pos hp]
                  unfold typesV
                  rw [if_neg (by rw [HN.out]; exact h8), HN.out, firstBad_hit hlt H.out (by rw [hc]; decide)]
                  simp only [hc]
                have HV := Lib.hid hv
                clear hv
                by_cases hp1 : pr < -1
                · clear hp
                  go_wp2_with fail
                  rw [HV.out]
                  refine bodyPost_ret (results_fault rfl rfl (heap_two _ _ HRES2.out)) rfl ⟨rfl, ?_⟩
                  exact (HE2.out.setCell (p := ⟨w.heap.size, 0, none⟩) (Nat.le_refl _) _).setCell (p := ⟨w.heap.size, 1, none⟩) (Nat.le_refl _) _
                · have hp2 : (k : Int) ≤ pr := hp.resolve_left hp1
                  clear hp
                  go_wp2_with fail
                  rw [HV.out]
                  refine bodyPost_ret (results_fault rfl rfl (heap_two _ _ HRES2.out)) rfl ⟨rfl, ?_⟩
                  exact (HE2.out.setCell (p := ⟨w.heap.size, 0, none⟩) (Nat.le_refl _) _).setCell (p := ⟨w.heap.size, 1, none⟩) (Nat.le_refl _) _
              · have hok : Hid (∀ j, j < k + 1 → tyCode ts j = 0) := fun j hj => by
                  rcases Nat.lt_succ_iff_lt_or_eq.1 hj with h' | rfl
                  · exact H.out j h'
                  · rw [HC.out, if_neg hp]
                have hp1 : ¬ pr < -1 := fun h => hp (.inl h)
                have hp2 : ¬ (k : Int) ≤ pr := fun h => hp (.inr h)
                clear hp
                go_wp2_with fail
                go_roundw
                case rel => exact ⟨k + 1, by omega, by go_num, hok, HE3.out⟩
                case measure => simp [intOf]; omega
      · have hkn : k = n := by omega
        have hv : typesV ts = (0, 0) := by
          unfold typesV
          rw [if_neg (by rw [HN.out]; exact h8), HN.out, firstBad_none (by rw [← hkn]; exact H.out)]
        have HV := Lib.hid hv
        have HEE := Lib.hid (Ext.of_new HE.out)
        clear hv hkn
        go_wp2
        rw [HV.out]
        refine bodyPost_ret (results_fault rfl rfl (heap_two _ _ HRES.out)) rfl ⟨rfl, ?_⟩
        exact (HEE.out.setCell (p := ⟨w.heap.size, 0, none⟩) (Nat.le_refl _) _).setCell (p := ⟨w.heap.size, 1, none⟩) (Nat.le_refl _) _
end Go.Proofs.Ytodlkjjoenglgaa

/- A range over a function, in the wide fence: the statement, and one round, with the loop's record in plain sight. -/
namespace Go.Proofs.Ytodlkjjoenglgaa
open Go Go.RowKit

/-- The loop's record. -/
def recOf (fn : FuncId) (tmps : Array Value) (ps : Array Tmp) (assign body : Code) (D : Nat) (st : LoopState) (pe : Option Code) : Loop :=
  { state := st, pending := pe, fn, tmps, params := ps, assign, body, defers := D }

variable {P : Program} {n : Nat}

/-- What is asked when the iterator has returned. -/
def rangeEnd (n : Nat) (P : Program) (l : Nat) (R : LoopState → Option Code → Loop) (Q : Exit → Act → World → Prop) (a' : Act) (e : Ending) (W : World) : Prop :=
  ∃ v st pe, e = .returned v ∧ W.heap[l]? = some (.loop (R st pe)) ∧ st ≠ .busy ∧
    (match pe with
     | none => Q .normal a' (W.putObj l (.loop (R .exhausted none)))
     | some c => c.wpIn Fence.wide n P Q a' (W.putObj l (.loop (R .exhausted (some c)))))

theorem wpIn_range_wide {g : Operand} {ps : Array Tmp} {assign body : Code} {Q : Exit → Act → World → Prop} {a : Act} {w : World} {gf : Nat} {lb : Array Value} (hg : a.eval g = .func (.func gf) #[] lb)
    (eg : ∀ args w, (callFunc gf args).run P w = .ok (.enter gf args) w)
    (h : ∀ fn, CallsIn Fence.wide (n - 1) P gf (#[.func (.yield (w.heap.size + 1)) #[] #[]] ++ lb) ((w.alloc (.deferred (some []))).alloc (.loop (recOf fn a.tmps ps assign body w.heap.size .ready none)))
      (rangeEnd n P (w.heap.size + 1) (recOf fn a.tmps ps assign body w.heap.size) Q { a with defers := { target := .collected w.heap.size, args := #[] } :: a.defers })) :
    (Code.rangeFunc g ps assign body).wpIn Fence.wide n P Q a w := by
  refine wpIn_rangeFunc ?_
  intro fn _
  obtain ⟨W1, hW1⟩ : ∃ W1, (w.alloc (.deferred (some []))).alloc (.loop (recOf fn a.tmps ps assign body w.heap.size .ready none)) = W1 := ⟨_, rfl⟩
  have h := h fn
  rw [hW1] at h
  refine ⟨w.heap.size + 1, [{ target := .collected w.heap.size, args := #[] }], W1, { target := .fn (.func gf) lb, args := #[.func (.yield (w.heap.size + 1)) #[] #[]] }, W1, gf,
    #[.func (.yield (w.heap.size + 1)) #[] #[]] ++ lb, W1, ?_, ?_, ?_, ?_, ?_, ?_⟩
  · rw [← hW1]; exact run_enterLoop_outer _ _ _ _ _
  · simp only [resolve, hg]
    simp [go_sem]
  · intro _ _; trivial
  · simp [invoke, go_sem, eg]
  · intro h; cases h
  · refine h.mono ?_
    rintro e W ⟨v, st, pe, rfl, hl, hst, hq⟩
    refine ⟨pe, _, run_endLoop hl hst, ?_⟩
    cases pe with
    | none => exact hq
    | some c => exact hq

/-- What is asked at a round's end. -/
def roundEnd (l : Nat) (R : LoopState → Option Code → Loop) (K : Ending → World → Prop) : Exit → Act → World → Prop
  | .normal, _, W => W.heap[l]? = some (.loop (R .busy none)) ∧ K (.returned (.bool true)) (W.putObj l (.loop (R .ready none)))
  | .ret, _, W => W.heap[l]? = some (.loop (R .busy none)) ∧ K (.returned (.bool false)) (W.putObj l (.loop (R .done (some .ret))))
  | _, _, _ => False

theorem yield_wide {l D : Nat} {fn : FuncId} {tmps : Array Value} {ps : Array Tmp} {assign body : Code} {args : Array Value} {W : World} {K : Ending → World → Prop}
    (hl : W.heap[l]? = some (.loop (recOf fn tmps ps assign body D .ready none))) (hs : args.size = ps.size)
    (h : assign.wpIn (Fence.wide.inRound l) n P
      (Exit.then (fun a₁ w₁ => w₁ = W ∧ body.wpIn (Fence.wide.inRound l) n P (roundEnd l (recOf fn tmps ps assign body D) K) a₁ (W.putObj l (.loop (recOf fn tmps ps assign body D .busy none)))) (fun _ _ _ => False))
      { tmps := (ps.zip args).foldl (fun t (p, v) => t.setIfInBounds p v) tmps, defers := [] } W) :
    YieldAt Fence.wide n P l args W K := by
  refine ⟨fn, _, assign, body, run_yield hl hs, roundIn_of_wpIn trivial (wpIn_mono h ?_)⟩
  intro e a1 w1 hq
  cases e with
  | normal =>
    obtain ⟨rfl, hb⟩ := hq
    refine ⟨_, run_beginRound hl rfl, wpIn_mono hb ?_⟩
    intro e a3 W3 hq
    cases e with
    | normal => exact ⟨_, _, run_endRound none hq.1, hq.2⟩
    | ret => exact ⟨_, _, run_endRound (some .ret) hq.1, hq.2⟩
    | exit id => exact hq.elim
    | goto t => exact hq.elim
    | panic c => exact hq.elim
    | outgrown => exact hq.elim
  | exit id => exact hq.elim
  | goto l => exact hq.elim
  | ret => exact hq.elim
  | panic c => exact hq.elim
  | outgrown => exact hq.elim

end Go.Proofs.Ytodlkjjoenglgaa

/- types.Is: a range over types.Above. -/
namespace Go.Proofs.Ytodlkjjoenglgaa
open Go Go.RowKit
attribute [local go_sem] Oper.semAt_some

abbrev par (ts : List (ByteArray × Int)) (x : Int) : Int := (ts.getD x.toNat dNI).2
/-- A type and its ancestors. -/
def up (ts : List (ByteArray × Int)) : Nat → Int → List Int
  | 0, _ => [-1]
  | f + 1, x => if x < 0 then [-1] else x :: up ts f (par ts x)
def isA (ts : List (ByteArray × Int)) (a b : Int) : Bool := (up ts (a.toNat + 1) a).contains b
def HierOK (ts : List (ByteArray × Int)) : Prop := ∀ x : Int, 0 ≤ x → x < ts.length → -1 ≤ par ts x ∧ par ts x < x

theorem up_neg (ts : List (ByteArray × Int)) (f : Nat) {x : Int} (h : x < 0) : up ts f x = [-1] := by cases f <;> simp [up, h]
theorem up_eq {ts : List (ByteArray × Int)} (h : HierOK ts) : ∀ (f g : Nat) (x : Int), x < ts.length → (x < 0 ∨ x.toNat < f) → (x < 0 ∨ x.toNat < g) → up ts f x = up ts g x := by
  intro f
  induction f with
  | zero =>
    intro g x _ h0 _
    have : x < 0 := by omega
    rw [up_neg ts 0 this, up_neg ts g this]
  | succ f ih =>
    intro g x hx h0 h1
    by_cases hn : x < 0
    · rw [up_neg ts _ hn, up_neg ts g hn]
    · obtain ⟨g', rfl⟩ : ∃ g', g = g' + 1 := ⟨g - 1, by omega⟩
      have hp := h x (by omega) hx
      simp only [up, if_neg hn]
      rw [ih g' (par ts x) (by omega) (by omega) (by omega)]
theorem isA_neg (ts : List (ByteArray × Int)) {a : Int} (b : Int) (h : a < 0) : isA ts a b = decide (b = -1) := by
  unfold isA
  rw [up_neg ts _ h, Bool.eq_iff_iff]
  simp
theorem isA_step {ts : List (ByteArray × Int)} (h : HierOK ts) {a : Int} (b : Int) (h0 : 0 ≤ a) (hn : a < ts.length) : isA ts a b = (decide (b = a) || isA ts (par ts a) b) := by
  have hp := h a h0 hn
  unfold isA
  simp only [up, if_neg (show ¬ a < 0 by omega)]
  rw [up_eq h a.toNat ((par ts a).toNat + 1) (par ts a) (by omega) (by omega) (by omega), List.contains_cons]
  rfl

/-- The number in a cell, one more: a measure. -/
def cellNat (w : World) (b : Nat) : Nat := match w.cell? ⟨b, 0, none⟩ with | some (.int _ x) => (x + 1).toNat | _ => 0

set_option maxRecDepth 100000 in
set_option maxHeartbeats 1000000 in
theorem above_iter (l : Nat) (m : Nat) (bt bs : Nat) (a0 : Option Addr) (n cap : Nat) (ts : List (ByteArray × Int)) (hn : ts.length = n) (hok : HierOK ts) (y a : Int) (ha : -1 ≤ a) (han : a < n)
    (Inv : Int → World → Prop) (Fin : World → Prop)
    (hcell : ∀ x W, Inv x W → W.cell? ⟨bt, 0, none⟩ = some (i64 x) ∧ W.frozen? ⟨bt, 0, none⟩ = false ∧ W.cell? ⟨bs, 0, none⟩ = some (.slice a0 n cap))
    (hrow : ∀ x W, Inv x W → ∀ i : Nat, i < n → ∃ b off, a0 = some ⟨b, off, none⟩ ∧ W.cell? ⟨b, off + i * 2 + 1, none⟩ = some (i64 (par ts i)))
    (hstore : ∀ x W, Inv x W → 0 ≤ x → Inv (par ts x) (W.setCell ⟨bt, 0, none⟩ (i64 (par ts x))))
    (hY : ∀ x W, Inv x W → YieldAt Fence.wide (m - 1) Try.prog l #[i64 x] W fun e W' => (e = .returned (.bool true) ∧ x ≠ y ∧ Inv x W') ∨ (e = .returned (.bool false) ∧ x = y ∧ Fin W'))
    (W0 : World) (h0 : Inv a W0) :
    CallsIn Fence.wide m Try.prog 117 #[.func (.yield l) #[] #[], .pointer (some ⟨bt, 0, none⟩), .pointer (some ⟨bs, 0, none⟩)] W0 fun e W' => (∃ v, e = .returned v) ∧
      ((isA ts a y = true ∧ Fin W') ∨ (isA ts a y = false ∧ ∃ x, Inv x W')) := by
  refine callsIn_of_wp Try.func117 rfl trivial ?_ rfl
  simp only [Try.ntmps117, List.size_toArray, List.length_cons, List.length_nil, Nat.reduceAdd, Nat.reduceSub, Array.replicate_succ, Array.replicate_zero, List.push_toArray, List.append_toArray, List.nil_append, List.cons_append]
  have HC := Lib.hid hcell
  have HR := Lib.hid hrow
  have HS := Lib.hid hstore
  have HY := Lib.hid hY
  have HOK := Lib.hid hok
  have HN := Lib.hid hn
  clear hcell hrow hstore hY hok hn
  obtain ⟨g, hg⟩ : ∃ g, isA ts a y = g := ⟨_, rfl⟩
  have HA := Lib.hid hg
  rw [hg]
  clear hg
  gi_wp2
  gi_loopw [4] (fun _ wr => ∃ x : Int, -1 ≤ x ∧ x < n ∧ Hid (Inv x wr) ∧ Hid (isA ts x y = g)) (fun _ wr => cellNat wr bt)
  case atStart => exact ⟨a, ha, han, h0, HA⟩
  case round =>
    obtain ⟨x, hx1, hxn, HI, HX⟩ := hrel
    clear HA h0
    obtain ⟨c0, z0, cs⟩ := HC.out x wr HI.out
    by_cases hneg : x < 0
    · obtain rfl : x = -1 := by omega
      obtain ⟨fn, tmps, assign, body, hy, hR⟩ := HY.out (-1) wr HI.out
      have HRR := Lib.hid hR
      clear hR
      gi_wp2
      refine ⟨fun h => (by cases h), HRR.out.mono ?_⟩
      have hfin := isA_neg ts y (show (-1 : Int) < 0 by omega)
      rw [HX.out] at hfin
      have HF := Lib.hid hfin
      clear hfin
      rintro e W' (⟨rfl, hne, hI⟩ | ⟨rfl, rfl, hF⟩)
      · have hres : g = false ∧ ∃ x, Inv x W' := ⟨by rw [HF.out]; simp; exact fun e => hne e.symm, -1, hI⟩
        have HRES := Lib.hid hres
        clear hres hne hI
        gi_wp2
        go_end0
        exact ⟨⟨_, rfl⟩, .inr HRES.out⟩
      · have hres : g = true ∧ Fin W' := ⟨by rw [HF.out]; simp, hF⟩
        have HRES := Lib.hid hres
        clear hres hF
        gi_wp2
        go_end0
        exact ⟨⟨_, rfl⟩, .inl HRES.out⟩
    · obtain ⟨fn, tmps, assign, body, hy, hR⟩ := HY.out x wr HI.out
      have HRR := Lib.hid hR
      clear hR
      have hst := isA_step HOK.out y (show (0 : Int) ≤ x by omega) (by rw [HN.out]; exact hxn)
      rw [HX.out] at hst
      have HST := Lib.hid hst
      clear hst
      obtain ⟨k, rfl⟩ : ∃ k : Nat, x = k := ⟨x.toNat, by omega⟩
      gi_wp2
      refine ⟨fun h => (by cases h), HRR.out.mono ?_⟩
      rintro e W' (⟨rfl, hne, hI⟩ | ⟨rfl, rfl, hF⟩)
      · obtain ⟨c1, z1, cs1⟩ := HC.out _ W' hI
        obtain ⟨b, off, rfl, hr⟩ := HR.out _ W' hI k (by omega)
        have hS := HS.out _ W' hI (by omega)
        have hp := HOK.out k (by omega) (by rw [HN.out]; exact hxn)
        obtain ⟨p, hpp⟩ : ∃ p, par ts k = p := ⟨_, rfl⟩
        rw [hpp] at hr hS hp
        have hg2 : isA ts p y = g := by rw [HST.out, hpp]; simp; intro e; exact absurd e.symm hne
        have HG2 := Lib.hid hg2
        have HSS := Lib.hid hS
        have HP := Lib.hid hpp
        clear hI hS hpp hg2 hne
        gi_wp2
        go_roundw
        case rel => exact ⟨p, by omega, by omega, HSS, HG2⟩
        case measure =>
          have e1 : cellNat wr bt = ((k : Int) + 1).toNat := by unfold cellNat; rw [c0]
          have e2 : (W'.setCell ⟨bt, 0, none⟩ (i64 p)).cell? ⟨bt, 0, none⟩ = some (i64 p) := World.cell?_setCell_same _ _ _ c1
          unfold cellNat
          rw [e2]
          show (p + 1).toNat < cellNat wr bt
          rw [e1]
          omega
      · have hres : g = true ∧ Fin W' := ⟨by rw [HST.out]; simp, hF⟩
        have HRES := Lib.hid hres
        clear hres hF
        gi_wp2
        refine bodyPost_ret (results_none rfl _ _ _) rfl ?_
        exact ⟨⟨_, rfl⟩, .inl HRES.out⟩

theorem enters117 : ∀ args W, (callFunc 117 args).run Try.prog W = .ok (.enter 117 args) W := fun args W => enters_of Try.func117 (by kernel_rfl) rfl args W

theorem above_any (w : World) (a0 : Option Addr) (n cap : Nat) (a : Int) :
    Calls Try.prog 103 #[.slice a0 n cap, i64 a] w fun e w' => e = .returned (.func (.func 117) #[] #[.pointer (some ⟨w.heap.size + 1, 0, none⟩), .pointer (some ⟨w.heap.size, 0, none⟩)]) ∧
      (w.alloc (.cells #[.slice a0 n cap] 22)).alloc (.cells #[i64 a] 3) = w' := by
  go_enter Try.func103, Try.ntmps103
  go_wp2
  go_ret
  exact ⟨rfl, rfl⟩

theorem below_putObj {B : Nat} {w W : World} {l : Nat} {o : Obj} (h : Below B w W) (hl : B ≤ l) : Below B w (W.putObj l o) :=
  h.trans ⟨rfl, rfl, rfl, by simp, fun k hk => World.putObj_heap_other (by omega)⟩

/-- What lies in memory between two rounds of types.Is. -/
structure IsInv (w : World) (y : Int) (tv : Value) (R : LoopState → Option Code → Loop) (x : Int) (W : World) : Prop where
  below : Below w.heap.size w W
  b0 : W.heap[w.heap.size]? = some (.cells #[i64 y] 3)
  b1 : W.heap[w.heap.size + 1]? = some (.cells #[.bool false] 4)
  b2 : W.heap[w.heap.size + 2]? = some (.cells #[tv] 22)
  b3 : W.heap[w.heap.size + 3]? = some (.cells #[i64 x] 3)
  b4 : W.heap[w.heap.size + 4]? = some (.deferred (some []))
  b5 : W.heap[w.heap.size + 5]? = some (.loop (R .ready none))
structure IsFin (w : World) (R : LoopState → Option Code → Loop) (W : World) : Prop where
  below : Below w.heap.size w W
  b1 : W.heap[w.heap.size + 1]? = some (.cells #[.bool true] 4)
  b4 : W.heap[w.heap.size + 4]? = some (.deferred (some []))
  b5 : W.heap[w.heap.size + 5]? = some (.loop (R .done (some .ret)))

theorem results_boolCell {fn : Func} {p : Tmp} {tmps : Array Value} {b : Nat} {w : World} {x : Bool} (h : fn.results = #[.cell p 4]) (ht : tmps.getD p undef = .pointer (some ⟨b, 0, none⟩)) (hb : w.heap[b]? = some (.cells #[.bool x] 4)) :
    (results fn tmps).run Try.prog w = .ok (.bool x) w := by
  have h0 : w.cell? ⟨b, 0, none⟩ = some (.bool x) := by rw [cell_of_heap hb]; rfl
  rw [Array.getD_eq_getD_getElem?] at ht
  simp only [results, h]
  simp [go_sem, ht, h0, Sem.run_bind, Result.andThen]

set_option maxRecDepth 100000 in
set_option maxHeartbeats 2000000 in
theorem is_any (w : World) (v : Value) (ts : List (ByteArray × Int)) (h : Sl w 2 24 rNI v ts) (hok : HierOK ts) (a y : Int) (ha : -1 ≤ a) (han : a < ts.length) :
    Calls Try.prog 77 #[v, i64 a, i64 y] w fun e w' => e = .returned (.bool (isA ts a y)) ∧ Ext w w' := by
  obtain ⟨a0, cap, rfl, h1, h2, h3, hrow, hsz⟩ := h.rows2
  have HROW := Lib.hid hrow
  have HOK := Lib.hid hok
  clear h h2 h3 hrow hsz hok
  refine (callsIn_wide (n := 6)).1 ?_
  refine callsIn_of_wp_marks Try.func77 rfl trivial ?_ rfl
  simp only [Try.ntmps77, List.size_toArray, List.length_cons, List.length_nil, Nat.reduceAdd, Nat.reduceSub, Array.replicate_succ, Array.replicate_zero, List.push_toArray, List.append_toArray, List.nil_append, List.cons_append]
  gi_wp2_with fail
  refine ⟨trivial, callsIn_wide.2 ((above_any _ _ _ _ _).mono ?_)⟩
  rintro e w' ⟨rfl, rfl⟩
  gi_wp2_with fail
  refine wpIn_range_wide rfl enters117 (fun fn => ?_)
  simp only [World.size_alloc, Nat.add_assoc, Nat.reduceAdd]
  generalize hR : recOf fn (_ : Array Value) (_ : Array Tmp) (_ : Code) (_ : Code) (_ : Nat) = R
  have HRR := Lib.hid hR
  clear hR
  have hb0 : Below w.heap.size w (((((((w.alloc (.cells #[i64 y] 3)).alloc (.cells #[.bool false] 4)).alloc (.cells #[.slice a0 ts.length cap] 22)).alloc (.cells #[i64 a] 3))).alloc (.deferred (some []))).alloc (.loop (R .ready none))) :=
    (((((((Ext.refl w).alloc _).alloc _).alloc _).alloc _).alloc _).alloc _)
  refine (above_iter (w.heap.size + 5) _ (w.heap.size + 3) (w.heap.size + 2) a0 ts.length cap ts rfl HOK.out y a ha han (IsInv w y (.slice a0 ts.length cap) R) (IsFin w R) ?c1 ?c2 ?c3 ?c4 _ ?c5).mono ?_
  case c1 =>
    intro x W h
    exact ⟨by rw [cell_of_heap h.b3]; rfl, free_of_heap h.b3 0, by rw [cell_of_heap h.b2]; rfl⟩
  case c2 =>
    intro x W h i hi
    obtain ⟨b, off, rfl, hc⟩ := HROW.out i hi
    have := hc 1 _ rfl
    exact ⟨b, off, rfl, (Ext.cell h.below this).trans (by simp [par])⟩
  case c3 =>
    intro x W h _
    exact ⟨h.below.setCell (p := ⟨w.heap.size + 3, 0, none⟩) (by simp) _, by rw [heap_setCell_ne _ (by simp)]; exact h.b0, by rw [heap_setCell_ne _ (by simp)]; exact h.b1, by rw [heap_setCell_ne _ (by simp)]; exact h.b2,
      heap_setCell_at _ h.b3, by rw [heap_setCell_ne _ (by simp)]; exact h.b4, by rw [heap_setCell_ne _ (by simp)]; exact h.b5⟩
  case c4 =>
    intro x W h
    obtain rfl := HRR.out
    clear HRR
    refine yield_wide h.b5 rfl ?_
    have hp : ∀ k o, k ≠ w.heap.size + 5 → (W.putObj (w.heap.size + 5) o).heap[k]? = W.heap[k]? := fun k o hk => World.putObj_heap_other hk
    have q0 : ∀ o, (W.putObj (w.heap.size + 5) o).heap[w.heap.size]? = some (.cells #[i64 y] 3) := fun o => (hp (w.heap.size) o (by omega)).trans h.b0
    have q1 : ∀ o, (W.putObj (w.heap.size + 5) o).heap[w.heap.size + 1]? = some (.cells #[.bool false] 4) := fun o => (hp (w.heap.size + 1) o (by omega)).trans h.b1
    have q5 : ∀ o, (W.putObj (w.heap.size + 5) o).heap[w.heap.size + 5]? = some o := fun o => World.putObj_heap_same (heap_lt h.b5)
    have HI := Lib.hid h
    have HQ0 := Lib.hid q0
    have HQ1 := Lib.hid q1
    have HQ5 := Lib.hid q5
    clear h hp q0 q1 q5 hb0
    gi_wp2
    refine ⟨trivial, ?_⟩
    generalize hW2 : W.putObj (w.heap.size + 5) _ = W2
    have d0 : W2.cell? ⟨w.heap.size, 0, none⟩ = some (i64 y) := by rw [← hW2, cell_of_heap (HQ0.out _)]; rfl
    have d1 : W2.cell? ⟨w.heap.size + 1, 0, none⟩ = some (.bool false) := by rw [← hW2, cell_of_heap (HQ1.out _)]; rfl
    have z1 : W2.frozen? ⟨w.heap.size + 1, 0, none⟩ = false := by rw [← hW2]; exact free_of_heap (HQ1.out _) 0
    have HW := Lib.hid hW2
    clear hW2
    by_cases hxy : x = y
    · have hb : (x == y) = true := by simpa using hxy
      have HXY := Lib.hid hxy
      clear hxy
      gi_wp2
      refine ⟨?_, .inr ⟨rfl, HXY.out, ?_⟩⟩
      · rw [heap_setCell_ne _ (by simp), ← HW.out]; exact HQ5.out _
      · rw [← HW.out]
        have h := HI.out
        refine ⟨below_putObj ((below_putObj h.below (by omega)).setCell (p := ⟨w.heap.size + 1, 0, none⟩) (by simp) _) (by omega), ?_, ?_, ?_⟩
        · rw [World.putObj_heap_other (by omega)]
          exact heap_setCell_at _ (HQ1.out _)
        · rw [World.putObj_heap_other (by omega), heap_setCell_ne _ (by simp), World.putObj_heap_other (by omega)]; exact h.b4
        · exact World.putObj_heap_same (by simp; exact heap_lt h.b5)
    · have hb : (x == y) = false := by simpa using hxy
      have HXY := Lib.hid hxy
      clear hxy
      gi_wp2
      refine ⟨?_, .inl ⟨rfl, HXY.out, ?_⟩⟩
      · rw [← HW.out]; exact HQ5.out _
      · rw [← HW.out]
        have h := HI.out
        have k : ∀ j o o', j ≠ w.heap.size + 5 → ((W.putObj (w.heap.size + 5) o).putObj (w.heap.size + 5) o').heap[j]? = W.heap[j]? := fun j o o' hj => (World.putObj_heap_other hj).trans (World.putObj_heap_other hj)
        exact ⟨below_putObj (below_putObj h.below (by omega)) (by omega), (k _ _ _ (by omega)).trans h.b0, (k _ _ _ (by omega)).trans h.b1, (k _ _ _ (by omega)).trans h.b2, (k _ _ _ (by omega)).trans h.b3, (k _ _ _ (by omega)).trans h.b4,
          World.putObj_heap_same (by simp; exact heap_lt h.b5)⟩
  case c5 =>
    clear HRR
    refine ⟨hb0, ?_, ?_, ?_, ?_, ?_, ?_⟩ <;> simp only [World.alloc, Array.getElem?_push, Array.size_push] <;> (repeat rw [if_neg (by omega)]) <;> (first | rfl | simp)
  · obtain rfl := HRR.out
    clear HRR hb0
    rintro e W' ⟨⟨v, rfl⟩, ⟨hA, hF⟩ | ⟨hA, x, hI⟩⟩
    · refine ⟨v, .done, some .ret, rfl, hF.b5, by simp, ?_⟩
      have HF := Lib.hid hF
      have HA := Lib.hid hA
      clear hF hA
      gi_wp2
      refine ⟨by simp, .inl ⟨_, _, rfl, run_takeDeferred ((World.putObj_heap_other (by omega)).trans HF.out.b4), ?_⟩⟩
      refine ⟨_, results_boolCell rfl rfl ((World.putObj_heap_other (by omega)).trans ((World.putObj_heap_other (by omega)).trans HF.out.b1)), by rw [HA.out], ?_⟩
      exact below_putObj (below_putObj HF.out.below (by omega)) (by omega)
    · refine ⟨v, .ready, none, rfl, hI.b5, by simp, ?_⟩
      have HI := Lib.hid hI
      have HA := Lib.hid hA
      clear hI hA
      have c1 := cell_of_heap HI.out.b1 0
      generalize hW2 : W'.putObj (w.heap.size + 5) _ = W2
      have d1 : W2.heap[w.heap.size + 1]? = some (.cells #[.bool false] 4) := by rw [← hW2]; exact (World.putObj_heap_other (by omega)).trans HI.out.b1
      have d4 : W2.heap[w.heap.size + 4]? = some (.deferred (some [])) := by rw [← hW2]; exact (World.putObj_heap_other (by omega)).trans HI.out.b4
      have hb : Below w.heap.size w W2 := by rw [← hW2]; exact below_putObj HI.out.below (by omega)
      have e1 : W2.cell? ⟨w.heap.size + 1, 0, none⟩ = some (.bool false) := by rw [cell_of_heap d1]; rfl
      have z1 : W2.frozen? ⟨w.heap.size + 1, 0, none⟩ = false := free_of_heap d1 0
      have D1 := Lib.hid d1
      have D4 := Lib.hid d4
      have HB := Lib.hid hb
      clear hW2 d1 d4 hb c1 HI
      gi_wp2
      refine ⟨by simp, .inl ⟨_, _, rfl, run_takeDeferred (by rw [heap_setCell_ne _ (by simp)]; exact D4.out), ?_⟩⟩
      refine ⟨_, results_boolCell rfl rfl ((World.putObj_heap_other (by omega)).trans (heap_setCell_at _ D1.out)), by rw [HA.out], ?_⟩
      exact below_putObj (HB.out.setCell (p := ⟨w.heap.size + 1, 0, none⟩) (by simp) _) (by omega)
end Go.Proofs.Ytodlkjjoenglgaa

namespace Go.Proofs.Ytodlkjjoenglgaa
open Go Go.RowKit
theorem info3c : (Try.prog.info? 3).map (fun i => (i.zero, i.size, i.bytes)) = some (some (.int .i64 0), 1, 8) := by kernel_rfl

theorem eqNil30 (w : World) (a : Option Addr) (n c n' c' : Nat) : (binOp .eql 30 (.slice a n c) (.slice none n' c')).run Try.prog w = .ok (.bool a.isNone) w := Lib.run_eql_slice_nil w _ _ a n c n' c' Try.underlying30

set_option maxHeartbeats 400000 in
theorem clone_nil (w : World) (n cap : Nat) :
    Calls Try.prog 52 #[.slice none n cap] w fun e w' => e = .returned (.slice none 0 0) ∧ w = w' := by
  have q := eqNil30
  go_enter Try.func52, Try.ntmps52
  go_wp2
  go_ret
  exact ⟨rfl, rfl⟩

set_option maxHeartbeats 400000 in
theorem clone_some (w : World) (g off : Nat) (s : Option Nat) (xs : List Value) (cap : Nat) (hc : ∀ i x, xs[i]? = some x → w.cell? ((⟨g, off, s⟩ : Addr).add i) = some x) (h1 : ∀ x ∈ xs, x.oneCell' = true) (hn : xs.length * 8 ≤ 140737488351232) :
    Calls Try.prog 52 #[.slice (some ⟨g, off, s⟩) xs.length cap] w fun e w' => ∃ v', e = .returned v' ∧ Ext w w' ∧ w'.ownsRow w.heap.size 3 1 v' xs.length xs := by
  obtain ⟨i0, hi, hz0, hz1, hz2⟩ := info_parts info3c
  have q := eqNil30
  have HC := Lib.hid hc
  have H1 := Lib.hid h1
  clear hc h1
  obtain ⟨n, hnn⟩ : ∃ n, xs.length = n := ⟨_, rfl⟩
  have HN := Lib.hid hnn
  rw [hnn] at hn ⊢
  clear hnn
  have hrow : (w.alloc (.cells #[] 3)).ownsRow w.heap.size 3 1 (.slice (some ⟨w.heap.size, 0, none⟩) 0 0) 0 [] := World.ownsRow_made w #[] 0 (Nat.le_refl _) (Nat.zero_le _) rfl
  have HR := Lib.hid hrow
  clear hrow
  go_enter Try.func52, Try.ntmps52
  go_wp2_with (at_builtin; refine wpList_append_own _ rfl _ _ 30 rfl w.heap.size 3 i0 (.int .i64 0) 1 8 Try.underlying30 hi hz0 hz1 hz2 rfl (by decide) _ _ _ rfl HR.out ⟨g, off, s⟩ n cap xs rfl ?c1 ?c2 ?c3 ?c4 ?c5 ?c6 ?_)
  case c1 => rw [HN.out]; omega
  case c2 => exact fun j u hj => (World.cell?_alloc_lt w _ _ (World.block_lt_of_cell? w _ (HC.out j u hj))).trans (HC.out j u hj)
  case c3 => exact H1.out
  case c4 => unfold maxLen; omega
  case c5 => omega
  case c6 => simp
  intro v' w' hown hg _
  have HO := Lib.hid hown
  have HG := Lib.hid hg
  clear hown hg
  go_wp2
  go_ret
  exact ⟨v', rfl, ((Ext.refl w).alloc _).of_grown HG.out (fun k hk => by simp [Value.ownBlock] at hk; omega), by simpa using HO.out⟩

theorem clone_ints (w : World) (v : Value) (xs : List Int) (h : Rd w v (xs.map i64)) (hn : xs.length * 8 ≤ 140737488351232) :
    Calls Try.prog 52 #[v] w fun e w' => ∃ v' f, e = .returned v' ∧ Ext w w' ∧ Arr w' f v' (xs.map i64) ∧ (∀ x ∈ f, w.heap.size ≤ x) ∧ f.Nodup := by
  obtain ⟨a, cap, rfl, h1, h2, h3⟩ := h
  cases a with
  | none =>
    have hx : xs = [] := by
      cases xs with
      | nil => rfl
      | cons x xs => obtain ⟨b, off, e, _⟩ := h3 0 (i64 x) rfl; cases e
    subst hx
    refine (clone_nil w _ cap).mono ?_
    rintro e w' ⟨rfl, rfl⟩
    exact ⟨_, [], rfl, Ext.refl w, Arr.nil w none 0 (Nat.zero_le _), by simp, by simp⟩
  | some a =>
    obtain ⟨g, off, s⟩ := a
    refine (clone_some w g off s (xs.map i64) cap (fun i x hx => ?_) (fun x hx => ?_) (by simpa using hn)).mono ?_
    · obtain ⟨b, off', e, hc⟩ := h3 i x hx
      cases e
      have : (⟨g, off, none⟩ : Addr).add i = ⟨g, off + i, none⟩ := by unfold Addr.add; split <;> simp_all
      rw [this]; exact hc
    · obtain ⟨y, _, rfl⟩ := List.mem_map.1 hx; rfl
    · rintro e w' ⟨v', rfl, hE, hown⟩
      obtain ⟨f, hf, hb, hnd⟩ := Arr.of_owns hown
      refine ⟨v', f, rfl, hE, hf, hb, ?_⟩
      rcases hnd with rfl | ⟨g, rfl, _⟩ <;> simp
end Go.Proofs.Ytodlkjjoenglgaa

namespace Go.Proofs.Ytodlkjjoenglgaa
open Go Go.RowKit
theorem info37 : (Try.prog.info? 37).map (fun i => (i.zero, i.size, i.bytes)) = some (some (.pointer none), 1, 8) := by kernel_rfl

/-- What a call on each tree of a forest must do. -/
def CopyAll (f : Fo) : Prop := ∀ (w : World) (bs fp : List Nat), isF w f bs fp → ∀ (G : Fo) (n : Nd) (k R : Fo), f = G.app (.cons n k R) → ∀ (gs : List Nat) (b : Nat) (rs : List Nat), bs = gs ++ b :: rs → gs.length = G.len →
  Calls Try.prog 19 #[ptr b] w fun e w' => ∃ b' fp', e = .returned (ptr b') ∧ Ext w w' ∧ isF w' (Fo.one n k) [b'] fp' ∧ fp'.Nodup ∧ ∀ x ∈ fp', w.heap.size ≤ x


/-- Between two rounds of the loop over the children: j of them are made. -/
def KidsInv (w : World) (bt : Nat) (n : Nd) (k : Fo) (j : Nat) (wr : World) : Prop :=
  ∃ G R kv gs, k = G.app R ∧ G.len = j ∧ Ext w wr ∧ Bld w.heap.size wr bt n kv G gs

set_option maxRecDepth 100000 in
set_option maxHeartbeats 2000000 in
theorem copy_node (n : Nd) (k : Fo) (ih : CopyAll k) (w : World) (b : Nat) (cv av kv : Value) (ks fa fk fpk : List Nat)
    (hb : w.heap[b]? = some (.cells (nodeCells n cv av kv) 50 (0, 0))) (hcv : sliceV cv) (ha : Arr w fa av (n.args.map i64)) (hk : Arr w fk kv (ks.map ptr)) (hf : isF w k ks fpk) (hna : n.args.length * 8 ≤ 140737488351232) (hnk : ks.length ≤ 1000000) :
    Calls Try.prog 19 #[ptr b] w fun e w' => ∃ b' fp', e = .returned (ptr b') ∧ Ext w w' ∧ isF w' (Fo.one n k) [b'] fp' ∧ fp'.Nodup ∧ ∀ x ∈ fp', w.heap.size ≤ x := by
  obtain ⟨i0, hi, hz0, hz1, hz2⟩ := info_parts info37
  have f0 : w.cell? ⟨b, 0, none⟩ = some (i64 n.kind) := by rw [cell_of_heap hb]; rfl
  have f1 : w.cell? ⟨b, 1, none⟩ = some cv := by rw [cell_of_heap hb]; rfl
  have f2 : w.cell? ⟨b, 2, none⟩ = some (i64 n.pred) := by rw [cell_of_heap hb]; rfl
  have f3 : w.cell? ⟨b, 3, none⟩ = some av := by rw [cell_of_heap hb]; rfl
  have f4 : w.cell? ⟨b, 4, none⟩ = some (i64 n.left) := by rw [cell_of_heap hb]; rfl
  have f5 : w.cell? ⟨b, 5, none⟩ = some (i64 n.right) := by rw [cell_of_heap hb]; rfl
  have f6 : w.cell? ⟨b, 6, none⟩ = some (i64 n.typ) := by rw [cell_of_heap hb]; rfl
  have f7 : w.cell? ⟨b, 7, none⟩ = some kv := by rw [cell_of_heap hb]; rfl
  have hlt := heap_lt hb
  have HB := Lib.hid hb
  have HA := Lib.hid ha
  have HK := Lib.hid hk
  have HF := Lib.hid hf
  have HI := Lib.hid ih
  clear hb ha hk hf ih
  go_enter Try.func19, Try.ntmps19
  go_wp2_with fail
  refine (clone_ints _ av n.args ((HA.out.rd).ext ((Ext.refl w).alloc _)) hna).mono ?_
  rintro e w1 ⟨v1, f1', rfl, hE1, hA1, hfr1, hnd1⟩
  obtain ⟨va, vcap, rfl, hva⟩ := id hA1
  clear hva
  simp only [List.length_map] at hA1
  have hE := hE1.of_new
  have hbn := new_block hE1
  have g3 : w1.cell? ⟨w.heap.size, 3, none⟩ = some av := by rw [cell_of_heap hbn]; rfl
  have g7 : w1.cell? ⟨w.heap.size, 7, none⟩ = some (.slice none 0 0) := by rw [cell_of_heap hbn]; rfl
  have z3 : w1.frozen? ⟨w.heap.size, 3, none⟩ = false := free_of_heap hbn 3
  have k7 : w1.cell? ⟨b, 7, none⟩ = some kv := hE.cell f7
  clear f0 f1 f2 f3 f4 f5 f6 f7
  have HE1 := Lib.hid hE1
  have HA1 := Lib.hid hA1
  have HFR := Lib.hid hfr1
  have HBN := Lib.hid hbn
  have HE := Lib.hid hE
  have HND := Lib.hid hnd1
  clear hE1 hA1 hfr1 hbn hE hnd1
  obtain ⟨ka, kcap, rfl, hk1, hk2, hk3⟩ := HK.out.rd
  have HK3 := Lib.hid hk3
  rw [List.length_map] at hk1
  simp only [List.length_map] at k7 ⊢
  clear hk3
  go_wp2_with fail
  have hlk : ks.length = k.len := HF.out.len
  have HLK := Lib.hid hlk
  clear hlk
  have hst : Bld w.heap.size (w1.setCell ⟨w.heap.size, 3, none⟩ (.slice va n.args.length vcap)) w.heap.size n (.slice none 0 0) .nil [] := by
    refine Bld.start (cv := cv) (av := .slice va n.args.length vcap) (fa := f1') ?_ hcv ?_ HND.out ?_ ?_ (Nat.le_refl _)
    · exact heap_setCell_at _ HBN.out
    · refine HA1.out.kept fun x hx => heap_setCell_ne _ ?_
      have := HFR.out x hx
      simp at this
      show x ≠ w.heap.size
      omega
    · intro hm
      have := HFR.out _ hm
      simp at this
      omega
    · intro x hx
      have := HFR.out x hx
      simp at this
      omega
  have HST : Hid (KidsInv w w.heap.size n k 0 (w1.setCell ⟨w.heap.size, 3, none⟩ (.slice va n.args.length vcap))) := ⟨.nil, k, _, [], rfl, rfl, HE.out.setCell (Nat.le_refl _) _, hst⟩
  clear hst
  go_loopw [29] (fun i wr => ∃ j : Nat, j ≤ ks.length ∧ i = .int .i64 j ∧ Hid (KidsInv w w.heap.size n k j wr)) (fun i _ => ks.length - (intOf i).toNat)
  case atStart => exact ⟨0, Nat.zero_le _, rfl, HST⟩
  case round =>
    obtain ⟨j, hj, rfl, HJ⟩ := hrel
    clear HST HE1 HA1 HFR HBN HND g3 g7 z3 k7
    by_cases hlt : j < ks.length
    · obtain ⟨G, R, kv, gs, hG, hGl, hEr, hBld⟩ := HJ.out
      cases R with
      | nil =>
        exfalso
        rw [Fo.app_nil] at hG
        have := HLK.out
        rw [hG, hGl] at this
        omega
      | cons n' k' R' =>
        obtain ⟨bk, hbk⟩ : ∃ bk, ks[j]? = some bk := ⟨ks[j], List.getElem?_eq_getElem hlt⟩
        obtain ⟨g, off, rfl, hcell⟩ := HK3.out j (ptr bk) (by simp [hbk])
        have c0 := hEr.cell hcell
        have hks : ks = ks.take j ++ bk :: ks.drop (j + 1) := by
          have h2 : ks[j] = bk := by rw [List.getElem?_eq_getElem hlt] at hbk; exact Option.some.inj hbk
          rw [← h2, ← List.drop_eq_getElem_cons hlt, List.take_append_drop]
        have hcall : ∀ W, Ext w W → Calls Try.prog 19 #[ptr bk] W fun e w' => ∃ b' fp', e = .returned (ptr b') ∧ Ext W w' ∧ isF w' (Fo.one n' k') [b'] fp' ∧ fp'.Nodup ∧ ∀ x ∈ fp', W.heap.size ≤ x :=
          fun W hW => HI.out W ks fpk (HF.out.ext hW) G n' k' R' hG (ks.take j) bk (ks.drop (j + 1)) hks (by simp [hGl]; omega)
        have HC := Lib.hid hcall
        have HKS := Lib.hid hks
        have HG := Lib.hid hG
        have HGL := Lib.hid hGl
        have HBLD := Lib.hid hBld
        have hcell7 : ∀ W, Ext wr W → W.cell? ⟨w.heap.size, 7, none⟩ = some kv := fun W hW => hW.cell HBLD.out.kids.1
        have HER := Lib.hid hEr
        clear hcall hks hG hGl hBld hEr hbk hcell
        go_wp2_with fail
        refine wp_region_seq (Ext wr) [(0, 0), (1, 0), (2, 0), (3, 0), (4, 1), (5, 0), (6, 2), (7, 2), (8, 3), (9, 0), (10, 0), (11, 3)] (by kernel_rfl) (by kernel_rfl) (Ext.refl wr).drew (fun hS => ?_)
        simp only [List.map, nthOp]
        iterate 4
          refine seqL_yield rfl (fun w' => by go_simp; rfl) ?_
          try simp only [Act.put, List.setIfInBounds_toArray, List.set_cons_zero, List.set_cons_succ]
        refine seqL_read hS rfl (fun w' hE => by go_simp; rfl) ?_
        try simp only [Act.put, List.setIfInBounds_toArray, List.set_cons_zero, List.set_cons_succ]
        refine seqL_yield rfl (fun w' => by go_simp; rfl) ?_
        try simp only [Act.put, List.setIfInBounds_toArray, List.set_cons_zero, List.set_cons_succ]
        -- the call
        refine seqL_grow rfl (fun K hK => ?_)
        have HKK := Lib.hid hK
        clear hK
        go_simp
        refine (HC.out _ (HER.out.trans hS)).mono ?_
        rintro e w2 ⟨b', fp', rfl, hE2, ht, htn, htf⟩
        have hS2 : Ext wr w2 := hS.trans hE2
        have hsz := hS.size
        have HT := Lib.hid (And.intro ht (And.intro htn (fun x hx => Nat.le_trans hsz (htf x hx))))
        refine HKK.out _ _ hS2 (fun hS => ?_)
        clear HKK K ht htn htf hE2 hsz hS2
        -- the slice of one
        refine seqL_grow rfl (fun K hK => ?_)
        have HKK := Lib.hid hK
        clear hK
        go_simp
        refine HKK.out _ _ (hS.alloc _) (fun hS1 => ?_)
        clear HKK K
        try simp only [Act.put, List.setIfInBounds_toArray, List.set_cons_zero, List.set_cons_succ]
        -- the append
        refine seqL_loud rfl (fun K hK => ?_)
        have HKK := Lib.hid hK
        clear hK
        have HGLL := Lib.hid (HBLD.out.len.trans HGL.out)
        refine wp_append_lies _ _ _ 40 rfl w.heap.size 37 i0 (.pointer none) 1 8 Try.underlying40 hi hz0 hz1 hz2 rfl (by decide) kv gs.length (gs.map ptr) rfl ((HBLD.out.ext hS1).own) ⟨w2.heap.size, 0, none⟩ 1 1 [ptr b'] rfl rfl (cell_one_new _ _ _) (by simp [Value.oneCell']) (by decide) (by have := HGLL.out; unfold maxLen; omega) (by have := HGLL.out; omega) (by have := HER.out.size; have := hS1.size; omega) _ rfl ?_
        intro g' cap' w3 hown hgrow hat hlt'
        refine HKK.out _ _ ?_
        clear HKK K
        simp only [World.size_alloc] at hat
        obtain ⟨hc7, hz7⟩ := HBLD.out.kidsAt hS hgrow
        have hnew := HBLD.out.step hS HT.out.1 HT.out.2.1 HT.out.2.2 hown hgrow hat
        have HNEW := Lib.hid hnew
        have hEw : Ext w w3 := (HER.out.trans hS1).of_grown hgrow (fun k hk => ((HBLD.out.ext hS1).own.lt k hk).1)
        have HEW := Lib.hid hEw
        clear hown hgrow hat hlt' hnew hEw
        try simp only [Act.put, List.setIfInBounds_toArray, List.set_cons_zero, List.set_cons_succ]
        iterate 2
          refine seqL_yield rfl (fun w' => by go_simp; rfl) ?_
          try simp only [Act.put, List.setIfInBounds_toArray, List.set_cons_zero, List.set_cons_succ]
        -- the store
        refine seqL_loud rfl (fun K hK => ?_)
        have HKK := Lib.hid hK
        clear hK
        go_simp
        refine HKK.out _ _ (seqL_nil ?_)
        clear HKK K
        try simp only [Act.put, List.setIfInBounds_toArray, List.set_cons_zero, List.set_cons_succ]
        go_wp2_with fail
        go_roundw
        case rel =>
          exact ⟨j + 1, by omega, by go_num, G.app (Fo.one n' k'), R', _, gs ++ [b'], by rw [Fo.app_assoc]; exact HG.out, by rw [Fo.len_app, HGL.out]; rfl, HEW.out.setCell (Nat.le_refl _) _, HNEW.out⟩
        case measure => simp [intOf]; omega
    · have hjk : j = ks.length := by omega
      subst hjk
      have hfin : ∃ fp', isF wr (Fo.one n k) [w.heap.size] fp' ∧ fp'.Nodup ∧ ∀ x ∈ fp', w.heap.size ≤ x := by
        obtain ⟨G, R, kv, gs, hG, hGl, hEr, hBld⟩ := HJ.out
        have hl := HLK.out
        rw [hG, Fo.len_app, hGl] at hl
        have : R = .nil := by
          cases R with
          | nil => rfl
          | cons n' k' R' => simp [Fo.len] at hl
        subst this
        rw [Fo.app_nil] at hG
        subst hG
        exact hBld.done
      have HFIN := Lib.hid hfin
      have HEE : Hid (Ext w wr) := HJ.out.choose_spec.choose_spec.choose_spec.choose_spec.2.2.1
      clear hfin
      go_wp2
      go_ret
      obtain ⟨fp', h1, h2, h3⟩ := HFIN.out
      exact ⟨_, fp', rfl, HEE.out, h1, h2, h3⟩

theorem copy_all (f : Fo) (hc : f.count ≤ 1000000) (ha : f.ArgsLe) : CopyAll f := by
  induction f with
  | nil => intro w bs fp _ G n k R h; cases G <;> cases h
  | cons n k r ihk ihr =>
    simp only [Fo.count] at hc
    simp only [Fo.ArgsLe] at ha
    intro w bs fp h G n' k' R hG gs b rs hbs hl
    obtain ⟨b0, bs', cv, av, kv, ks, fa, fk, fpk, fpr, rfl, rfl, hb, hcv, haa, hkk, hfk, hfr⟩ := h
    cases G with
    | nil =>
      simp only [Fo.app, Fo.cons.injEq] at hG
      obtain ⟨rfl, rfl, rfl⟩ := hG
      have : gs = [] := List.eq_nil_of_length_eq_zero hl
      subst this
      simp only [List.nil_append, List.cons.injEq] at hbs
      obtain ⟨rfl, rfl⟩ := hbs
      have hlen := hfk.len
      have := k.len_le_count
      exact copy_node n k (ihk (by omega) ha.2.1) w b0 cv av kv ks fa fk fpk hb hcv haa hkk hfk ha.1 (by omega)
    | cons n0 k0 G =>
      simp only [Fo.app, Fo.cons.injEq] at hG
      obtain ⟨rfl, rfl, rfl⟩ := hG
      cases gs with
      | nil => simp [Fo.len] at hl
      | cons g0 gs =>
        simp only [List.cons_append, List.cons.injEq] at hbs
        obtain ⟨rfl, rfl⟩ := hbs
        exact ihr (by omega) ha.2.2 w _ fpr hfr G n' k' R rfl gs b rs rfl (by simpa [Fo.len] using hl)

theorem copy_one (n : Nd) (k : Fo) (hc : (Fo.one n k).count ≤ 1000000) (ha : (Fo.one n k).ArgsLe) (w : World) (b : Nat) (fp : List Nat) (h : isF w (Fo.one n k) [b] fp) :
    Calls Try.prog 19 #[ptr b] w fun e w' => ∃ b' fp', e = .returned (ptr b') ∧ Ext w w' ∧ isF w' (Fo.one n k) [b'] fp' ∧ fp'.Nodup ∧ ∀ x ∈ fp', w.heap.size ≤ x :=
  copy_all _ hc ha w [b] fp h .nil n k .nil rfl [] b [] rfl rfl
end Go.Proofs.Ytodlkjjoenglgaa

/- types.Objects, types.Of, types.Members. -/
namespace Go.Proofs.Ytodlkjjoenglgaa
open Go Go.RowKit

def obCode (nt : Nat) (os : List (ByteArray × Int)) (i : Nat) : Int :=
  if isNameB (os.getD i dNI).1 = false then 12
  else if ((List.range i).any fun j => (os.getD j dNI).1.toList == (os.getD i dNI).1.toList) = true then 7
  else if (os.getD i dNI).2 < -1 ∨ (nt : Int) ≤ (os.getD i dNI).2 then 3 else 0
def objectsV (nt : Nat) (os : List (ByteArray × Int)) : Int × Int :=
  if 8 < os.length then (2, -3) else match firstBad (obCode nt os) os.length with | some i => (obCode nt os i, -10 - (i : Int)) | none => (0, 0)

set_option maxHeartbeats 2000000 in
theorem objectsV_any (w : World) (tv v : Value) (ts os : List (ByteArray × Int)) (ht : Sl w 2 24 rNI tv ts) (h : Sl w 2 24 rNI v os) :
    Calls Try.prog 56 #[tv, v] w fun e w' => e = .returned (faultV (objectsV ts.length os)) ∧ Ext w w' := by
  obtain ⟨ta, tcap, rfl, -, -, ht3, -, -⟩ := ht.rows2
  obtain ⟨a, cap, rfl, h1, h2, h3, hrow, hsz⟩ := h.rows2
  obtain ⟨nt, hnt⟩ : ∃ nt, ts.length = nt := ⟨_, rfl⟩
  rw [hnt] at ht3 ⊢
  obtain ⟨n, hn⟩ : ∃ n, os.length = n := ⟨_, rfl⟩
  have HN := Lib.hid hn
  rw [hn] at h1 h3 hrow hsz ⊢
  have HROW := Lib.hid hrow
  have HSZ := Lib.hid hsz
  clear hn h hrow hsz hnt ht
  unfold maxLen at h2
  by_cases h8 : 8 < n
  · have hv : objectsV nt os = (2, -3) := by unfold objectsV; rw [if_pos (by rw [HN.out]; exact h8)]
    have HV := Lib.hid hv
    clear hv
    go_enter Try.func56, Try.ntmps56
    go_wp2
    rw [HV.out]
    exact bodyPost_ret (v := faultV (2, -3)) (by simp [results, Try.results56, go_sem]) rfl ⟨rfl, (Ext.refl w).alloc _⟩
  · have hbad : ∀ k, k < n → (∀ j, j < k → obCode nt os j = 0) → obCode nt os k ≠ 0 → objectsV nt os = (obCode nt os k, -10 - (k : Int)) := fun k hk hj hc => by
      unfold objectsV
      rw [if_neg (by rw [HN.out]; exact h8), HN.out, firstBad_hit hk hj hc]
    have HBAD := Lib.hid hbad
    clear hbad
    go_enter Try.func56, Try.ntmps56
    go_wp2_with fail
    have H0 : Hid (∀ j, j < 0 → obCode nt os j = 0) := fun j hj => absurd hj (Nat.not_lt_zero j)
    go_loopw [14] (fun i wr => ∃ k : Nat, k ≤ n ∧ i = .int .i64 k ∧ Hid (∀ j, j < k → obCode nt os j = 0) ∧ Ext (w.alloc (.cells #[i64 0, i64 0] 70)) wr) (fun i _ => n - (intOf i).toNat)
    case atStart => exact ⟨0, Nat.zero_le _, rfl, H0, Ext.refl _⟩
    case round =>
      obtain ⟨k, hk, rfl, H, hE⟩ := hrel
      clear H0
      have hres : wr.heap[w.heap.size]? = some (.cells #[i64 0, i64 0] 70) := new_block hE
      obtain ⟨hr0, hr1, hz0, hz1, hl0⟩ := two_facts hres
      have HE := Lib.hid hE
      have HRES := Lib.hid hres
      clear hE hres
      by_cases hlt : k < n
      · obtain ⟨b, off, rfl, hcell⟩ := HROW.out k hlt
        obtain ⟨nm, hnm⟩ : ∃ nm, (os.getD k dNI).1 = nm := ⟨_, rfl⟩
        obtain ⟨pr, hpr⟩ : ∃ pr, (os.getD k dNI).2 = pr := ⟨_, rfl⟩
        rw [hnm, hpr] at hcell
        have hs := HSZ.out k hlt
        rw [hnm] at hs
        have h0 : wr.cell? ⟨b, off + k * 2, none⟩ = some (.string nm) := (Ext.of_new HE.out).cell (hcell 0 _ rfl)
        have h1' : wr.cell? ⟨b, off + k * 2 + 1, none⟩ = some (i64 pr) := (Ext.of_new HE.out).cell (hcell 1 _ rfl)
        have HNM := Lib.hid hnm
        have HPR := Lib.hid hpr
        have HEE := Lib.hid (Ext.of_new HE.out)
        have HB := Lib.hid (HBAD.out k hlt H.out)
        clear hcell hnm hpr
        go_wp2_with fail
        refine (isName_any nm _ hs).mono ?_
        rintro e w2 ⟨rfl, rfl⟩
        cases hN : isNameB nm with
        | false =>
          have hc : obCode nt os k = 12 := by unfold obCode; rw [if_pos (by rw [HNM.out]; exact hN)]
          have hv : objectsV nt os = (12, -10 - (k : Int)) := by rw [HB.out (by rw [hc]; decide), hc]
          have HV := Lib.hid hv
          clear hv hN hc
          go_wp2_with fail
          rw [HV.out]
          refine bodyPost_ret (results_fault rfl rfl ((heap_alloc_lt (by simpa using hl0)).trans (heap_two _ _ HRES.out))) rfl ⟨rfl, ?_⟩
          exact ((HEE.out.setCell (p := ⟨w.heap.size, 0, none⟩) (Nat.le_refl _) _).setCell (p := ⟨w.heap.size, 1, none⟩) (Nat.le_refl _) _).alloc _
        | true =>
          have hno : ¬(isNameB (os.getD k dNI).1 = false) := by rw [HNM.out, hN]; simp
          have HNO := Lib.hid hno
          clear hN hno
          go_wp2_with fail
          have hcall := hasObj (wr.alloc (.cells #[.string nm, i64 pr] 113)) (some ⟨b, off, none⟩) k cap (by omega) 76 enters76 #[.pointer (some ⟨wr.heap.size, 0, none⟩)]
            (fun i => .string (os.getD i dNI).1) (fun i => i64 (os.getD i dNI).2) (fun i hi => (HROW.out i (by omega)).ext (HEE.out.alloc _))
            (fun i => (os.getD i dNI).1.toList == nm.toList) (fun i _ W hW => obEq W _ nm _ _ (new_cell hW rfl))
          refine hcall.mono ?_
          rintro e w2 ⟨rfl, hE2⟩
          clear hcall hr0 hr1 hz0 hz1 hl0 h0 h1'
          have hE3 : Ext wr w2 := (Ext.refl wr).alloc _ |>.trans hE2
          have hres2 := hE3.block HRES.out
          obtain ⟨hr0, hr1, hz0, hz1, hl0⟩ := two_facts hres2
          have ht0 : w2.cell? ⟨wr.heap.size, 0, none⟩ = some (.string nm) := new_cell hE2 rfl
          have ht1 : w2.cell? ⟨wr.heap.size, 1, none⟩ = some (i64 pr) := new_cell hE2 rfl
          have HRES2 := Lib.hid hres2
          have HE2 := Lib.hid (HEE.out.trans hE3)
          have HE3 := Lib.hid (HE.out.trans hE3)
          clear hE2 hE3 hres2
          obtain ⟨d, hd⟩ : ∃ d, ((List.range k).any fun i => (os.getD i dNI).1.toList == nm.toList) = d := ⟨_, rfl⟩
          rw [hd]
          have HD := Lib.hid hd
          clear hd
          cases d with
          | true =>
            have hc : obCode nt os k = 7 := by unfold obCode; rw [if_neg HNO.out, if_pos (by rw [HNM.out]; exact HD.out)]
            have hv : objectsV nt os = (7, -10 - (k : Int)) := by rw [HB.out (by rw [hc]; decide), hc]
            have HV := Lib.hid hv
            clear hv hc
            go_wp2_with fail
            rw [HV.out]
            refine bodyPost_ret (results_fault rfl rfl (heap_two _ _ HRES2.out)) rfl ⟨rfl, ?_⟩
            exact (HE2.out.setCell (p := ⟨w.heap.size, 0, none⟩) (Nat.le_refl _) _).setCell (p := ⟨w.heap.size, 1, none⟩) (Nat.le_refl _) _
          | false =>
            have hc : obCode nt os k = if pr < -1 ∨ (nt : Int) ≤ pr then 3 else 0 := by
              unfold obCode
              rw [if_neg HNO.out, if_neg (by rw [HNM.out, HD.out]; simp), HPR.out]
            have HC := Lib.hid hc
            clear hc
            by_cases hp : pr < -1 ∨ (nt : Int) ≤ pr
            · have hc : obCode nt os k = 3 := by rw [HC.out, if_pos hp]
              have hv : objectsV nt os = (3, -10 - (k : Int)) := by rw [HB.out (by rw [hc]; decide), hc]
              have HV := Lib.hid hv
              clear hv hc
              by_cases hp1 : pr < -1
              · clear hp
                go_wp2_with fail
                rw [HV.out]
                refine bodyPost_ret (results_fault rfl rfl (heap_two _ _ HRES2.out)) rfl ⟨rfl, ?_⟩
                exact (HE2.out.setCell (p := ⟨w.heap.size, 0, none⟩) (Nat.le_refl _) _).setCell (p := ⟨w.heap.size, 1, none⟩) (Nat.le_refl _) _
              · have hp2 : (nt : Int) ≤ pr := hp.resolve_left hp1
                clear hp
                go_wp2_with fail
                rw [HV.out]
                refine bodyPost_ret (results_fault rfl rfl (heap_two _ _ HRES2.out)) rfl ⟨rfl, ?_⟩
                exact (HE2.out.setCell (p := ⟨w.heap.size, 0, none⟩) (Nat.le_refl _) _).setCell (p := ⟨w.heap.size, 1, none⟩) (Nat.le_refl _) _
            · have hok : Hid (∀ j, j < k + 1 → obCode nt os j = 0) := fun j hj => by
                rcases Nat.lt_succ_iff_lt_or_eq.1 hj with h' | rfl
                · exact H.out j h'
                · rw [HC.out, if_neg hp]
              have hp1 : ¬ pr < -1 := fun h => hp (.inl h)
              have hp2 : ¬ (nt : Int) ≤ pr := fun h => hp (.inr h)
              clear hp
              go_wp2_with fail
              go_roundw
              case rel => exact ⟨k + 1, by omega, by go_num, hok, HE3.out⟩
              case measure => simp [intOf]; omega
      · have hkn : k = n := by omega
        have hv : objectsV nt os = (0, 0) := by
          unfold objectsV
          rw [if_neg (by rw [HN.out]; exact h8), HN.out, firstBad_none (by rw [← hkn]; exact H.out)]
        have HV := Lib.hid hv
        have HEE := Lib.hid (Ext.of_new HE.out)
        clear hv hkn
        go_wp2
        rw [HV.out]
        refine bodyPost_ret (results_fault rfl rfl (heap_two _ _ HRES.out)) rfl ⟨rfl, ?_⟩
        exact (HEE.out.setCell (p := ⟨w.heap.size, 0, none⟩) (Nat.le_refl _) _).setCell (p := ⟨w.heap.size, 1, none⟩) (Nat.le_refl _) _

/-- The objects of a type. -/
def ofL (ts os : List (ByteArray × Int)) (t : Int) : List Int := ((List.range os.length).filter fun i => isA ts (os.getD i dNI).2 t).map fun (i : Nat) => (i : Int)
def ofTo (ts os : List (ByteArray × Int)) (t : Int) (k : Nat) : List Int := ((List.range k).filter fun i => isA ts (os.getD i dNI).2 t).map fun (i : Nat) => (i : Int)
theorem ofTo_succ (ts os : List (ByteArray × Int)) (t : Int) (k : Nat) : ofTo ts os t (k + 1) = ofTo ts os t k ++ if isA ts (os.getD k dNI).2 t then [(k : Int)] else [] := by
  unfold ofTo
  rw [List.range_succ, List.filter_append, List.map_append]
  congr 1
  by_cases h : isA ts (os.getD k dNI).2 t = true <;> simp only [List.filter_cons, List.filter_nil, h, if_true, List.map_cons, List.map_nil, Bool.false_eq_true, if_false]
theorem ofTo_len (ts os : List (ByteArray × Int)) (t : Int) (k : Nat) : (ofTo ts os t k).length ≤ k := by
  unfold ofTo
  rw [List.length_map]
  exact Nat.le_trans (List.length_filter_le _ _) (by simp)

theorem info3 : (Try.prog.info? 3).map (fun i => (i.zero, i.size, i.bytes)) = some (some (.int .i64 0), 1, 8) := by kernel_rfl

set_option maxHeartbeats 2000000 in
theorem of_any (w : World) (tv v : Value) (ts os : List (ByteArray × Int)) (t : Int) (ht : Sl w 2 24 rNI tv ts) (h : Sl w 2 24 rNI v os) (hok : HierOK ts)
    (hty : ∀ i, i < os.length → -1 ≤ (os.getD i dNI).2 ∧ (os.getD i dNI).2 < ts.length) (hsm : os.length ≤ 8) :
    Calls Try.prog 57 #[tv, v, i64 t] w fun e w' => ∃ v', e = .returned v' ∧ Ext w w' ∧ w'.ownsRow w.heap.size 3 1 v' (ofL ts os t).length ((ofL ts os t).map i64) := by
  obtain ⟨i0, hi, hz0, hz1, hz2⟩ := info_parts info3
  have HT := Lib.hid ht
  obtain ⟨a, cap, rfl, h1, h2, h3, hrow, hsz⟩ := h.rows2
  obtain ⟨n, hn⟩ : ∃ n, os.length = n := ⟨_, rfl⟩
  have hfin : ofL ts os t = ofTo ts os t n := by unfold ofL ofTo; rw [hn]
  have HFIN := Lib.hid hfin
  rw [hn] at h1 h3 hrow hsm hty ⊢
  have HROW := Lib.hid hrow
  have HOK := Lib.hid hok
  have HTY := Lib.hid hty
  clear hn h hrow hsz ht hok hty hfin
  unfold maxLen at h2
  have H0 : Hid (w.ownsRow w.heap.size 3 1 (.slice none 0 0) (ofTo ts os t 0).length ((ofTo ts os t 0).map i64)) := World.ownsRow_nil ..
  go_enter Try.func57, Try.ntmps57
  go_wp2_with fail
  go_loopw [7, 12] (fun o i wr => ∃ k : Nat, k ≤ n ∧ i = .int .i64 k ∧ Ext w wr ∧ Hid (wr.ownsRow w.heap.size 3 1 o (ofTo ts os t k).length ((ofTo ts os t k).map i64))) (fun _ i _ => n - (intOf i).toNat)
  case atStart => exact ⟨0, Nat.zero_le _, rfl, Ext.refl _, H0⟩
  case round =>
    obtain ⟨k, hk, rfl, hE, HR⟩ := hrel
    clear H0
    have HE := Lib.hid hE
    clear hE
    by_cases hlt : k < n
    · obtain ⟨b, off, rfl, hcell⟩ := HROW.out k hlt
      obtain ⟨nm, hnm⟩ : ∃ nm, (os.getD k dNI).1 = nm := ⟨_, rfl⟩
      obtain ⟨pr, hpr⟩ : ∃ pr, (os.getD k dNI).2 = pr := ⟨_, rfl⟩
      rw [hnm, hpr] at hcell
      have hty := HTY.out k hlt
      rw [hpr] at hty
      have h0 : wr.cell? ⟨b, off + k * 2, none⟩ = some (.string nm) := HE.out.cell (hcell 0 _ rfl)
      have h1' : wr.cell? ⟨b, off + k * 2 + 1, none⟩ = some (i64 pr) := HE.out.cell (hcell 1 _ rfl)
      have HPR := Lib.hid hpr
      clear hcell hnm hpr
      go_wp2_with fail
      refine (is_any _ tv ts (HT.out.ext ((HE.out.alloc _)) fun _ _ h => h) HOK.out pr t hty.1 hty.2).mono ?_
      rintro e w2 ⟨rfl, hE2⟩
      have hE3 : Ext wr w2 := (Ext.refl wr).alloc _ |>.trans hE2
      have hrow2 := HR.out.kept (w' := w2) (row := none) ⟨hE3.os, hE3.tape, hE3.output, hE3.size, fun k hk _ => Below.block hE3 k hk⟩ (by cases Value.ownBlock _ <;> simp)
      have HR2 := Lib.hid hrow2
      have HE2 := Lib.hid (HE.out.trans hE3)
      clear hE2 hE3 hrow2 h0 h1'
      have hstep := ofTo_succ ts os t k
      rw [HPR.out] at hstep
      cases hd : isA ts pr t with
      | true =>
        rw [hd] at hstep
        have HS := Lib.hid hstep
        have HL := ofTo_len ts os t k
        clear hd hstep
        go_wp2_with (at_builtin; refine wpList_append_own _ rfl _ _ 30 rfl w.heap.size 3 i0 (.int .i64 0) 1 8 Try.underlying30 hi hz0 hz1 hz2 rfl (by decide) _ _ _ rfl (HR2.out.alloc _) ⟨w2.heap.size, 0, none⟩ 1 1 [i64 k] rfl rfl (cell_one_new _ _ _) (by simp [Value.oneCell']) (by unfold maxLen; omega) (by omega) (by have := HE2.out.size; simp; omega) ?_; intro v' w3 hown hgrow _)
        have HO := Lib.hid hown
        have HG := Lib.hid hgrow
        clear hown hgrow
        go_wp2_with fail
        go_roundw
        case rel =>
          refine ⟨k + 1, by omega, by go_num, (HE2.out.alloc _).of_grown HG.out (fun k hk => (HR2.out.lt k hk).1), ?_⟩
          rw [HS.out]
          have := HO.out
          simp only [if_true, List.length_append, List.map_append, List.length_singleton, List.map_cons, List.map_nil]
          exact this
        case measure => simp [intOf]; omega
      | false =>
        rw [hd] at hstep
        have HS := Lib.hid hstep
        clear hd hstep
        go_wp2_with fail
        go_roundw
        case rel =>
          refine ⟨k + 1, by omega, by go_num, HE2.out, ?_⟩
          rw [HS.out]
          simp only [Bool.false_eq_true, if_false, List.append_nil]
          exact HR2.out
        case measure => simp [intOf]; omega
    · obtain rfl : k = n := by omega
      go_wp2
      go_ret
      exact ⟨_, rfl, HE.out, by rw [HFIN.out]; exact HR.out⟩
end Go.Proofs.Ytodlkjjoenglgaa

/- types.check and types.Members. -/
namespace Go.Proofs.Ytodlkjjoenglgaa
open Go Go.RowKit

theorem heap_two_alloc {w : World} {b : Nat} {c0 c1 : Value} {T : TypeId} {fr : Nat × Nat} (u v : Value) (o : Obj) (h : w.heap[b]? = some (.cells #[c0, c1] T fr)) :
    (((w.setCell ⟨b, 0, none⟩ u).setCell ⟨b, 1, none⟩ v).alloc o).heap[b]? = some (.cells #[u, v] T fr) :=
  (heap_alloc_lt (by simpa using heap_lt h)).trans (heap_two _ _ h)
theorem Ext.two {a w : World} (h : Ext a w) {b : Nat} (hb : a.heap.size ≤ b) (u v : Value) : Ext a ((w.setCell ⟨b, 0, none⟩ u).setCell ⟨b, 1, none⟩ v) :=
  (h.setCell (p := ⟨b, 0, none⟩) hb u).setCell (p := ⟨b, 1, none⟩) hb v
theorem Ext.two_alloc {a w : World} (h : Ext a w) {b : Nat} (hb : a.heap.size ≤ b) (u v : Value) (o : Obj) : Ext a (((w.setCell ⟨b, 0, none⟩ u).setCell ⟨b, 1, none⟩ v).alloc o) :=
  (h.two hb u v).alloc o
theorem results_val_fault {fn : Func} {r p : Tmp} {tmps : Array Value} {b : Nat} {w : World} {x y : Int} {v : Value} (h : fn.results = #[.tmp r, .cell p 70]) (hr : tmps.getD r undef = v) (ht : tmps.getD p undef = .pointer (some ⟨b, 0, none⟩)) (hb : w.heap[b]? = some (.cells #[i64 x, i64 y] 70)) :
    (results fn tmps).run Try.prog w = .ok (.tuple #[v, faultV (x, y)]) w := by
  have h0 : w.cell? ⟨b, 0, none⟩ = some (i64 x) := by rw [cell_of_heap hb]; rfl
  have h1 : w.cell? ⟨b, 1, none⟩ = some (i64 y) := by rw [cell_of_heap hb]; rfl
  rw [Array.getD_eq_getD_getElem?] at ht hr
  simp only [results, h]
  simp [go_sem, ht, hr, h0, h1, Sem.run_bind, Result.andThen]
theorem heap_alloc_second (w : World) (o o' : Obj) : ((w.alloc o).alloc o').heap[w.heap.size + 1]? = some o' := by
  have := heap_alloc_new (w.alloc o) o'
  rwa [World.size_alloc] at this
theorem Ext.of_new' {w w1 : World} {o : Obj} (h : Ext (w.alloc o) w1) : Ext w w1 := h.of_new
def checkV (ts : List (ByteArray × Int)) (t : Int) : Int × Int :=
  if typesV ts = (0, 0) then (if t < -1 ∨ (ts.length : Int) ≤ t then (3, -2) else (0, 0)) else typesV ts

set_option maxHeartbeats 1000000 in
theorem check_any (w : World) (v : Value) (ts : List (ByteArray × Int)) (t : Int) (b : Nat) (h : Sl w 2 24 rNI v ts) (hb : w.cell? ⟨b, 0, none⟩ = some (i64 t)) :
    Calls Try.prog 55 #[v, .slice (some ⟨b, 0, none⟩) 1 1] w fun e w' => e = .returned (faultV (checkV ts t)) ∧ Ext w w' := by
  obtain ⟨c, hc⟩ : ∃ c, typesV ts = c := ⟨_, rfl⟩
  obtain ⟨k, hk⟩ : ∃ k, checkV ts t = k := ⟨_, rfl⟩
  have HK := Lib.hid hk
  rw [hk]
  clear hk
  have hty := fun W (hW : Ext w W) => typesV_any W v ts (Sl.ext h hW fun _ _ h => h)
  rw [hc] at hty
  have HT := Lib.hid hty
  have HC := Lib.hid hc
  obtain ⟨a, cap, rfl, h1, h2, h3, -, -⟩ := h.rows2
  clear hty hc h
  obtain ⟨c1, c2⟩ := c
  go_enter Try.func55, Try.ntmps55
  go_wp2_with fail
  refine (HT.out _ ((Ext.refl w).alloc _)).mono ?_
  rintro e w2 ⟨rfl, hE⟩
  have hres := new_block hE
  obtain ⟨hr0, hr1, hz0, hz1, hl0⟩ := two_facts hres
  have hb2 := (Ext.of_new hE).cell hb
  have hlb : b < w2.heap.size := World.block_lt_of_cell? w2 _ hb2
  have HRES := Lib.hid hres
  have HE := Lib.hid (Ext.of_new hE)
  clear hE hres hb
  have hbad : ¬(c1 = 0 ∧ c2 = 0) → k = (c1, c2) := fun h => by
    rw [← HK.out]; unfold checkV; rw [HC.out, if_neg (by simpa using h)]
  by_cases h0 : c1 = 0
  · subst h0
    by_cases h0' : c2 = 0
    · subst h0'
      clear hbad
      go_wp2_with fail
      go_loop [16] (fun i => ∃ j : Nat, j ≤ 1 ∧ i = .int .i64 j ∧ (j = 1 → ¬ (t < -1 ∨ (ts.length : Int) ≤ t))) (fun i => 1 - (intOf i).toNat)
      case atStart => exact ⟨0, Nat.zero_le _, rfl, fun h => by cases h⟩
      case round =>
        obtain ⟨j, hj, rfl, HJ⟩ := hrel
        by_cases hj0 : j = 0
        · subst hj0
          clear HJ
          by_cases hp : t < -1 ∨ (ts.length : Int) ≤ t
          · have hv : k = (3, -2) := by rw [← HK.out]; unfold checkV; rw [if_pos HC.out, if_pos hp]
            have HV := Lib.hid hv
            clear hv
            by_cases hp1 : t < -1
            · clear hp
              go_wp2_with fail
              rw [HV.out]
              refine bodyPost_ret (results_fault rfl rfl (heap_two_alloc _ _ _ HRES.out)) rfl ⟨rfl, HE.out.two_alloc (Nat.le_refl _) _ _ _⟩
            · have hp2 : (ts.length : Int) ≤ t := hp.resolve_left hp1
              clear hp
              go_wp2_with fail
              rw [HV.out]
              refine bodyPost_ret (results_fault rfl rfl (heap_two_alloc _ _ _ HRES.out)) rfl ⟨rfl, HE.out.two_alloc (Nat.le_refl _) _ _ _⟩
          · have hp1 : ¬ t < -1 := fun h => hp (.inl h)
            have hp2 : ¬ (ts.length : Int) ≤ t := fun h => hp (.inr h)
            have HP := Lib.hid hp
            clear hp
            go_wp2_with fail
            go_round
            case rel => exact ⟨1, by omega, by go_num, fun _ => HP.out⟩
            case measure => simp [intOf]
        · have hj1 : j = 1 := by omega
          subst hj1
          have hv : k = (0, 0) := by rw [← HK.out]; unfold checkV; rw [if_pos HC.out, if_neg (HJ rfl)]
          have HV := Lib.hid hv
          clear hv HJ
          go_wp2_with fail
          rw [HV.out]
          refine bodyPost_ret (results_fault rfl rfl (heap_two_alloc _ _ _ HRES.out)) rfl ⟨rfl, HE.out.two_alloc (Nat.le_refl _) _ _ _⟩
    · have HV := Lib.hid (hbad fun h => h0' h.2)
      clear hbad
      go_wp2_with fail
      rw [HV.out]
      refine bodyPost_ret (results_fault rfl rfl (heap_two_alloc _ _ _ HRES.out)) rfl ⟨rfl, HE.out.two_alloc (Nat.le_refl _) _ _ _⟩
  · have HV := Lib.hid (hbad fun h => h0 h.1)
    clear hbad
    go_wp2_with fail
    rw [HV.out]
    refine bodyPost_ret (results_fault rfl rfl (heap_two_alloc _ _ _ HRES.out)) rfl ⟨rfl, HE.out.two_alloc (Nat.le_refl _) _ _ _⟩

theorem typesV_ok {ts : List (ByteArray × Int)} (h : typesV ts = (0, 0)) : ts.length ≤ 8 ∧ HierOK ts := by
  unfold typesV at h
  split at h
  · cases h
  · rename_i h8
    refine ⟨by omega, ?_⟩
    cases hf : firstBad (tyCode ts) ts.length with
    | some i =>
      rw [hf] at h
      exact absurd (congrArg Prod.fst h) (firstBad_of_some hf).2
    | none =>
      intro i hi0 hi
      have := firstBad_of_none hf i.toNat (by omega)
      unfold tyCode at this
      split at this
      · cases this
      · split at this
        · cases this
        · split at this
          · cases this
          · rename_i h3
            have := not_or.1 h3
            unfold par
            omega
theorem objectsV_ok {nt : Nat} {os : List (ByteArray × Int)} (h : objectsV nt os = (0, 0)) : os.length ≤ 8 ∧ ∀ i, i < os.length → -1 ≤ (os.getD i dNI).2 ∧ (os.getD i dNI).2 < nt := by
  unfold objectsV at h
  split at h
  · cases h
  · rename_i h8
    refine ⟨by omega, ?_⟩
    cases hf : firstBad (obCode nt os) os.length with
    | some i =>
      rw [hf] at h
      exact absurd (congrArg Prod.fst h) (firstBad_of_some hf).2
    | none =>
      intro i hi
      have := firstBad_of_none hf i hi
      unfold obCode at this
      split at this
      · cases this
      · split at this
        · cases this
        · split at this
          · cases this
          · rename_i h3
            have := not_or.1 h3
            constructor <;> omega

def inRange (ts : List (ByteArray × Int)) (t : Int) : Prop := -1 ≤ t ∧ t < (ts.length : Int)

set_option maxHeartbeats 1000000 in
theorem members_any (w : World) (tv ov : Value) (ts os : List (ByteArray × Int)) (t : Int) (ht : Sl w 2 24 rNI tv ts) (ho : Sl w 2 24 rNI ov os) (hT : typesV ts = (0, 0)) (hO : objectsV ts.length os = (0, 0)) :
    Calls Try.prog 39 #[tv, ov, i64 t] w fun e w' => Ext w w' ∧
      ((inRange ts t ∧ ∃ v', e = .returned (.tuple #[v', faultV (0, 0)]) ∧ Rd w' v' ((ofL ts os t).map i64)) ∨ (¬ inRange ts t ∧ e = .returned (.tuple #[.slice none 0 0, faultV (3, -2)]))) := by
  have hTT := fun W (hW : Ext w W) => Sl.ext ht hW fun _ _ h => h
  have hOO := fun W (hW : Ext w W) => Sl.ext ho hW fun _ _ h => h
  have HT := Lib.hid hTT
  have HO := Lib.hid hOO
  have HT0 := Lib.hid hT
  have HO0 := Lib.hid hO
  clear hTT hOO hT hO
  obtain ⟨ta, tcap, rfl, -, -, ht3, -, -⟩ := ht.rows2
  obtain ⟨oa, ocap, rfl, -, -, ho3, -, -⟩ := ho.rows2
  clear ht ho
  have hmem : ∀ W b, Ext w W → W.cell? ⟨b, 0, none⟩ = some (i64 t) → _ := fun W b hW hb => check_any W _ ts t b (HT.out W hW) hb
  by_cases hp : t < -1 ∨ (ts.length : Int) ≤ t
  · have hv : checkV ts t = (3, -2) := by unfold checkV; rw [if_pos HT0.out, if_pos hp]
    rw [hv] at hmem
    have HM := Lib.hid hmem
    have HP : Hid (¬ inRange ts t) := fun h => by unfold inRange at h; omega
    clear hmem hp hv
    go_enter Try.func39, Try.ntmps39
    go_wp2_with fail
    refine (HM.out _ _ (((Ext.refl w).alloc _).alloc _) ?_).mono ?_
    · rw [cell_of_heap (heap_alloc_second _ _ _)]; rfl
    rintro e w2 ⟨rfl, hE⟩
    have hres := new_block hE.of_new'
    obtain ⟨hr0, hr1, hz0, hz1, hl0⟩ := two_facts hres
    have HRES := Lib.hid hres
    have HE2 := Lib.hid hE.of_new'.of_new
    clear hE hres
    go_wp2_with fail
    refine wp_region_seq (Ext (w2.alloc (.cells #[i64 3, i64 (-2)] 70))) [(0, 1), (1, 0), (2, 3)] (by kernel_rfl) (by kernel_rfl) (Ext.refl _).drew (fun hS => ?_)
    simp only [List.map, nthOp]
    refine seqL_read (v := faultV (3, -2)) hS rfl (fun w' hE => ?_) ?_
    · have hx := two_facts (hE.block (heap_alloc_new w2 (.cells #[i64 3, i64 (-2)] 70)))
      obtain ⟨x0, x1, -⟩ := hx
      clear hE
      go_simp
    try simp only [Act.put, List.setIfInBounds_toArray, List.set_cons_zero, List.set_cons_succ]
    refine seqL_yield rfl (fun w' => by go_simp; rfl) ?_
    try simp only [Act.put, List.setIfInBounds_toArray, List.set_cons_zero, List.set_cons_succ]
    refine seqL_loud rfl (fun K hK => ?_)
    have HKK := Lib.hid hK
    clear hK
    go_simp
    refine HKK.out _ _ (seqL_nil ?_)
    clear HKK K
    try simp only [Act.put, List.setIfInBounds_toArray, List.set_cons_zero, List.set_cons_succ]
    go_wp2
    refine bodyPost_ret (results_val_fault (x := 3) (y := -2) rfl rfl rfl (heap_two_alloc _ _ _ HRES.out)) rfl ⟨?_, .inr ⟨HP.out, rfl⟩⟩
    exact (HE2.out.two_alloc (Nat.le_refl _) _ _ _).drew
  · have hv : checkV ts t = (0, 0) := by unfold checkV; rw [if_pos HT0.out, if_neg hp]
    rw [hv] at hmem
    have HM := Lib.hid hmem
    have HP : Hid (inRange ts t) := by show inRange ts t; unfold inRange; omega
    have hobj := fun W (hW : Ext w W) => objectsV_any W _ _ ts os (HT.out W hW) (HO.out W hW)
    rw [HO0.out] at hobj
    have hof := fun W (hW : Ext w W) => of_any W _ _ ts os t (HT.out W hW) (HO.out W hW) (typesV_ok HT0.out).2 (objectsV_ok HO0.out).2 (objectsV_ok HO0.out).1
    have HOB := Lib.hid hobj
    have HOF := Lib.hid hof
    clear hmem hp hv hobj hof
    go_enter Try.func39, Try.ntmps39
    go_wp2_with fail
    refine (HM.out _ _ (((Ext.refl w).alloc _).alloc _) ?_).mono ?_
    · rw [cell_of_heap (heap_alloc_second _ _ _)]; rfl
    rintro e w2 ⟨rfl, hE⟩
    have HRES := Lib.hid (new_block hE.of_new')
    have HE2 := Lib.hid hE.of_new'.of_new
    clear hE
    go_wp2_with fail
    refine (HOB.out _ (HE2.out.alloc _)).mono ?_
    rintro e w3 ⟨rfl, hE⟩
    have HRES3 := Lib.hid ((hE.of_new).block HRES.out)
    have hres8 := new_block hE
    obtain ⟨hr0, hr1, hz0, hz1, hl0⟩ := two_facts hres8
    have hl9 := heap_lt HRES3.out
    have HRES8 := Lib.hid hres8
    have HE3 := Lib.hid (HE2.out.trans hE.of_new)
    have hsz := HE2.out.size
    have hl2 := heap_lt HRES.out
    clear hE hres8
    go_wp2_with fail
    refine (HOF.out _ (HE3.out.two hsz _ _)).mono ?_
    rintro e w4 ⟨v', rfl, hE, hrow⟩
    have HRES4 := Lib.hid (hE.block (((heap_setCell_ne _ (by simp; omega)).trans (heap_setCell_ne _ (by simp; omega))).trans HRES3.out))
    obtain ⟨hr0, hr1, hz0, hz1, hl0⟩ := two_facts HRES4.out
    have HROW := Lib.hid hrow
    have HE4 := Lib.hid ((HE3.out.two hsz _ _).trans hE)
    clear hE hrow
    go_wp2_with fail
    refine bodyPost_ret (results_val_fault (x := 0) (y := 0) rfl rfl rfl (heap_two _ _ HRES4.out)) rfl ⟨HE4.out.two (Nat.le_refl _) _ _, .inl ⟨HP.out, _, rfl, ?_⟩⟩
    obtain ⟨f, hf, hb, -⟩ := Arr.of_owns HROW.out
    refine (hf.kept fun x hx => ?_).rd
    have hx := hb x hx
    simp only [World.size_setCell] at hx
    have := HE3.out.size
    exact (heap_setCell_ne _ (by simp; omega)).trans (heap_setCell_ne _ (by simp; omega))
end Go.Proofs.Ytodlkjjoenglgaa
