/- TopQuantsParted: whatever the input, it returns true, and the input reads as it did. -/
import Derived.Test.YtodlkjjoenglgaaMj
import Derived.Test.YtodlkjjoenglgaaMf
import Derived.Test.YtodlkjjoenglgaaMa
/- What the laws' closures make: trees over trees, changed arguments. -/
namespace Go.Proofs.Ytodlkjjoenglgaa
open Go Go.RowKit

/-- A new node over new kids. -/
theorem con_tree {W W' : World} {k : Fo} {bs fp : List Nat} {T : TypeId} {b : Nat} {nd : Nd} (hf : isF W k bs fp) (cs : Array Value) (hcs : cs = (bs.map ptr).toArray) (l : Nat) (hl : bs.length = l) (hm : l ≤ maxLen) (e : Ext (W.alloc (.cells cs T)) W') (hargs : nd.args = [])
    (hb : W'.heap[b]? = some (.cells (nodeCells nd (.slice none 0 0) (.slice none 0 0) (.slice (some ⟨W.heap.size, 0, none⟩) l l)) 50 (0, 0))) (hbs : W.heap.size ≤ b) :
    ∃ fp', isF W' (Fo.one nd k) [b] fp' ∧ ∀ x ∈ fp', x ∈ fp ∨ W.heap.size ≤ x := by
  subst hcs
  have ha : Arr W' [] (.slice none 0 0) (nd.args.map i64) := by rw [hargs]; exact Arr.nil _ _ _ (Nat.zero_le _)
  refine ⟨_, isF_node hb ⟨_, _, _, rfl⟩ ha (arr_new e l (by rw [List.length_map, hl]) hm) (hf.ext e.of_new), fun x hx => ?_⟩
  simp only [List.append_nil, List.nil_append, List.mem_cons, List.mem_append, List.not_mem_nil, or_false] at hx
  rcases hx with rfl | rfl | hx
  · exact .inr hbs
  · exact .inr (Nat.le_refl _)
  · exact .inl hx
/-- A new node without kids. -/
theorem leaf_tree {W' : World} {b : Nat} {nd : Nd} (hargs : nd.args = []) (hb : W'.heap[b]? = some (.cells (nodeCells nd (.slice none 0 0) (.slice none 0 0) (.slice none 0 0)) 50 (0, 0))) :
    isF W' (Fo.one nd .nil) [b] [b] := by
  have ha : Arr W' [] (.slice none 0 0) (nd.args.map i64) := by rw [hargs]; exact Arr.nil _ _ _ (Nat.zero_le _)
  have h := isF_node (k := .nil) (bs := []) (fp := []) (fk := []) hb ⟨_, _, _, rfl⟩ ha (Arr.nil _ none 0 (Nat.zero_le _)) ⟨rfl, rfl⟩
  simpa using h
/-- A node over kids, as wCon and wQuant make it. -/
theorem con_alloc {W : World} {N : Nat} (hN : W.heap.size = N) {k : Fo} {bs fp : List Nat} (hf : isF W k bs fp) (cs : Array Value) (hcs : cs = (bs.map ptr).toArray) (l : Nat) (hl : bs.length = l) (hm : l ≤ maxLen) (T : TypeId) (nd : Nd) (hargs : nd.args = []) :
    ((W.alloc (.cells cs T)).alloc (.cells (nodeCells nd (.slice none 0 0) (.slice none 0 0) (.slice (some ⟨N, 0, none⟩) l l)) 50)).heap.size = N + 1 + 1 ∧
    ∃ fp', isF ((W.alloc (.cells cs T)).alloc (.cells (nodeCells nd (.slice none 0 0) (.slice none 0 0) (.slice (some ⟨N, 0, none⟩) l l)) 50)) (Fo.one nd k) [N + 1] fp' ∧ ∀ x ∈ fp', x ∈ fp ∨ N ≤ x := by
  subst hN
  refine ⟨by simp only [World.size_alloc], con_tree hf cs hcs l hl hm ((Ext.refl _).alloc _) hargs ?_ (by omega)⟩
  have h := heap_alloc_new (W.alloc (.cells cs T)) (.cells (nodeCells nd (.slice none 0 0) (.slice none 0 0) (.slice (some ⟨W.heap.size, 0, none⟩) l l)) 50)
  rwa [World.size_alloc] at h
theorem nil_of_leaf {n : Nd} {k : Fo} (hs : (Fo.one n k).Shaped) (hk : n.kind = 2 ∨ n.kind = 3) : k = .nil := by
  obtain ⟨-, s2, -⟩ := hs
  have : k.len = 0 := by
    rcases hk with hk | hk <;> rw [hk] at s2 <;> unfold arityOf at s2 <;> simp at s2 <;> exact s2
  cases k with
  | nil => rfl
  | cons _ _ _ => simp [Fo.len] at this
/-- An argument of a node is changed in place. -/
theorem arr_put {w : World} {f : List Nat} {a : Option Addr} {l cap : Nat} {xs : List Value} (h : Arr w f (.slice a l cap) xs) {j : Nat} (hj : j < xs.length) :
    ∃ g off, a = some ⟨g, off, none⟩ ∧ f = [g] ∧ g < w.heap.size ∧ w.cell? ⟨g, off + j, none⟩ = some xs[j] ∧ w.frozen? ⟨g, off + j, none⟩ = false ∧ ∀ v, Arr (w.setCell ⟨g, off + j, none⟩ v) f (.slice a l cap) (xs.set j v) := by
  obtain ⟨a', cap', hs, h1, h2, h3⟩ := h
  cases hs
  rcases h3 with ⟨rfl, -⟩ | ⟨g, off, cur, e, rfl, rfl, hg, hc⟩
  · simp at hj
  · refine ⟨g, off, rfl, rfl, heap_lt hg, ?_, free_of_heap hg _, fun v => ⟨_, _, by rw [List.length_set], by rw [List.length_set]; exact h1, h2, .inr ⟨g, off, _, e, rfl, rfl, heap_setCell_at v hg, fun i x hx => ?_⟩⟩⟩
    · rw [cell_of_heap hg]
      exact hc j _ (List.getElem?_eq_getElem hj)
    · have hjc := hc j _ (List.getElem?_eq_getElem hj)
      have hlt := (Array.getElem?_eq_some_iff.1 hjc).1
      by_cases hij : i = j
      · subst hij
        rw [List.getElem?_set_self hj] at hx
        cases hx
        rw [Array.getElem?_setIfInBounds_self_of_lt hlt]
      · rw [List.getElem?_set_ne (fun h => hij h.symm)] at hx
        rw [Array.getElem?_setIfInBounds_ne (by omega)]
        exact hc i x hx
/-- The node's argument j is x now. -/
theorem node_put {w : World} {b : Nat} {n : Nd} {cv av kv : Value} {ks fa fk fpk : List Nat} {k : Fo} (hb : w.heap[b]? = some (.cells (nodeCells n cv av kv) 50 (0, 0))) (hcv : sliceV cv) (hkk : Arr w fk kv (ks.map ptr)) (hfk : isF w k ks fpk)
    {g off j : Nat} {x : Int} (hg : fa = [g]) (hnd : (b :: (fa ++ (fk ++ (fpk ++ [])))).Nodup) (ha : Arr (w.setCell ⟨g, off + j, none⟩ (i64 x)) fa av ((n.args.map i64).set j (i64 x))) :
    isF (w.setCell ⟨g, off + j, none⟩ (i64 x)) (Fo.one { n with args := n.args.set j x } k) [b] (b :: (fa ++ (fk ++ (fpk ++ [])))) := by
  subst hg
  have hne : ∀ y ∈ b :: (fk ++ fpk), y ≠ g := by
    intro y hy h
    subst h
    simp only [List.append_nil, List.nodup_cons, List.mem_cons, List.mem_append, List.singleton_append] at hnd hy
    rcases hy with rfl | hy
    · exact hnd.1 (.inl rfl)
    · exact hnd.2.1 (by simpa using hy)
  refine isF_node (cv := cv) (av := av) (kv := kv) ((heap_setCell_ne _ (hne b (by simp))).trans hb) hcv ?_ (hkk.kept fun y hy => heap_setCell_ne _ (hne y (by simp [hy]))) (hfk.kept fun y hy => heap_setCell_ne _ (hne y (by simp [hy])))
  rw [show ({ n with args := n.args.set j x } : Nd).args = n.args.set j x from rfl, List.map_set]
  exact ha
end Go.Proofs.Ytodlkjjoenglgaa

/- A list of trees that a law's closure makes, one by one. -/
namespace Go.Proofs.Ytodlkjjoenglgaa
open Go Go.RowKit

/-- B: the heap's size when the call began; fp: the blocks of the tree that was given; v: the slice that is made; F: its trees. -/
structure Outs (B : Nat) (fp : List Nat) (w : World) (v : Value) (F : Fo) (gs : List Nat) : Prop where
  tree : ∃ fps, isF w F gs fps ∧ (∀ x ∈ fps, x ∈ fp ∨ B ≤ x) ∧ ∀ g, v.ownBlock = some g → g ∉ fps
  own : w.ownsRow B 37 1 v gs.length (gs.map ptr)
theorem Outs.start (B : Nat) (fp : List Nat) (w : World) : Outs B fp w (.slice none 0 0) .nil [] :=
  ⟨⟨[], ⟨rfl, rfl⟩, by simp, by simp⟩, World.ownsRow_nil ..⟩
theorem Outs.ext {B : Nat} {fp : List Nat} {w w' : World} {v : Value} {F : Fo} {gs : List Nat} (h : Outs B fp w v F gs) (e : Ext w w') : Outs B fp w' v F gs := by
  obtain ⟨⟨fps, h1, h2, h3⟩, h4⟩ := h
  refine ⟨⟨fps, h1.ext e, h2, h3⟩, h4.kept (row := none) ⟨e.os, e.tape, e.output, e.size, fun k hk _ => Below.block e k hk⟩ (by cases v.ownBlock <;> simp)⟩
theorem Outs.len {B : Nat} {fp : List Nat} {w : World} {v : Value} {F : Fo} {gs : List Nat} (h : Outs B fp w v F gs) : gs.length = F.len := by
  obtain ⟨⟨fps, h1, -⟩, -⟩ := h
  exact h1.len
theorem Outs.step {B : Nat} {fp : List Nat} {wr w1 w3 : World} {v : Value} {F : Fo} {gs : List Nat} (h : Outs B fp wr v F gs) (hfp : ∀ x ∈ fp, x < B) (e : Ext wr w1)
    {n' : Nd} {k' : Fo} {b' : Nat} {fp1 : List Nat} (ht : isF w1 (Fo.one n' k') [b'] fp1) (hnew : ∀ x ∈ fp1, x ∈ fp ∨ wr.heap.size ≤ x)
    {o : Obj} {g cap : Nat} (hown : w3.ownsRow B 37 1 (.slice (some ⟨g, 0, none⟩) (gs.length + 1) cap) (gs.length + 1) (gs.map ptr ++ [ptr b']))
    (hg : (w1.alloc o).grownBy w3 v.ownBlock) (hat : v.ownBlock = some g ∨ g = w1.heap.size + 1) (hB : B ≤ wr.heap.size) :
    Outs B fp w3 (.slice (some ⟨g, 0, none⟩) (gs.length + 1) cap) (F.app (Fo.one n' k')) (gs ++ [b']) := by
  obtain ⟨⟨fps, h1, h2, h3⟩, hrow⟩ := h
  have hsz := e.size
  have hlow : ∀ x, v.ownBlock = some x → B ≤ x ∧ x < wr.heap.size := fun x hx => hrow.lt x hx
  have keep : ∀ x, x < w1.heap.size → v.ownBlock ≠ some x → w3.heap[x]? = w1.heap[x]? := fun x hx hne =>
    (hg.block x (by simp; omega) (fun e => hne e.symm)).trans (heap_alloc_lt hx)
  have hf0 := h1.lt
  have hf1 := ht.lt
  have ne0 : ∀ x ∈ fps, v.ownBlock ≠ some x := fun x hx he => h3 x he hx
  have ne1 : ∀ x ∈ fp1, v.ownBlock ≠ some x := fun x hx he => by
    have h := hlow x he
    rcases hnew x hx with h' | h'
    · have := hfp x h'; omega
    · omega
  refine ⟨⟨fps ++ fp1, isF.app ((h1.ext e).kept fun x hx => keep x (Nat.lt_of_lt_of_le (hf0 x hx) hsz) (ne0 x hx)) (ht.kept fun x hx => keep x (hf1 x hx) (ne1 x hx)), fun x hx => ?_, fun y hy hm => ?_⟩, ?_⟩
  · rcases List.mem_append.1 hx with hx | hx
    · exact h2 x hx
    · rcases hnew x hx with h | h
      · exact .inl h
      · exact .inr (by omega)
  · have hyg : y = g := by simpa [Value.ownBlock, eq_comm] using hy
    subst hyg
    rcases List.mem_append.1 hm with hm | hm
    · rcases hat with hat | hat
      · exact ne0 y hm hat
      · have := hf0 y hm; omega
    · rcases hat with hat | hat
      · exact ne1 y hm hat
      · have := hf1 y hm; omega
  · simpa using hown
/-- The node over them. -/
theorem Outs.done {B : Nat} {fp : List Nat} {w : World} {v : Value} {F : Fo} {gs : List Nat} (h : Outs B fp w v F gs) (nd : Nd) (hargs : nd.args = []) (hB : B ≤ w.heap.size) :
    ∃ fp', isF (w.alloc (.cells (nodeCells nd (.slice none 0 0) (.slice none 0 0) v) 50)) (Fo.one nd F) [w.heap.size] fp' ∧ ∀ x ∈ fp', x ∈ fp ∨ B ≤ x := by
  obtain ⟨⟨fps, h1, h2, h3⟩, hrow⟩ := h
  obtain ⟨fk, hk, hkb, -⟩ := Arr.of_owns hrow
  have e : Ext w (w.alloc (.cells (nodeCells nd (.slice none 0 0) (.slice none 0 0) v) 50)) := (Ext.refl w).alloc _
  have ha : Arr (w.alloc (.cells (nodeCells nd (.slice none 0 0) (.slice none 0 0) v) 50)) [] (.slice none 0 0) (nd.args.map i64) := by rw [hargs]; exact Arr.nil _ _ _ (Nat.zero_le _)
  refine ⟨_, isF_node (heap_alloc_new _ _) ⟨_, _, _, rfl⟩ ha (hk.ext e) (h1.ext e), fun x hx => ?_⟩
  simp only [List.append_nil, List.nil_append, List.mem_cons, List.mem_append] at hx
  rcases hx with rfl | hx | hx
  · exact .inr hB
  · exact .inr (hkb x hx)
  · exact h2 x hx
theorem Outs.sl {B : Nat} {fp : List Nat} {w : World} {v : Value} {F : Fo} {gs : List Nat} (h : Outs B fp w v F gs) : ∃ a cap, v = .slice a F.len cap := by
  rw [← h.len]
  obtain ⟨a, cap, hv, -⟩ := owns_row h.own
  exact ⟨a, cap, hv⟩
theorem overAll_app (kd t : Int) (f g : Fo) : overAll kd t (f.app g) = (overAll kd t f).app (overAll kd t g) := by
  induction f with
  | nil => rfl
  | cons n k r _ ih => simp [overAll, Fo.app, ih]
/-- The part of a forest behind others. -/
theorem isF_at {w : World} {f : Fo} {n : Nd} {k r : Fo} {bs fp : List Nat} (h : isF w (f.app (.cons n k r)) bs fp) : ∃ b fp1, bs[f.len]? = some b ∧ isF w (Fo.one n k) [b] fp1 ∧ ∀ x ∈ fp1, x ∈ fp := by
  obtain ⟨b1, b2, f1, f2, rfl, rfl, h1, h2⟩ := h.split
  obtain ⟨b, bs', cv, av, kv, ks, fa, fk, fpk, fpr, rfl, rfl, q1, q2, q3, q4, q5, q6⟩ := h2
  refine ⟨b, _, ?_, isF_node q1 q2 q3 q4 q5, fun x hx => ?_⟩
  · rw [← h1.len, List.getElem?_append_right (Nat.le_refl _), Nat.sub_self]
    rfl
  · simp only [List.append_nil, List.mem_cons, List.mem_append] at hx ⊢
    grind
end Go.Proofs.Ytodlkjjoenglgaa

/- A region that draws its order of evaluation, walked once, in one canonical order, where a late operation writes a slot at which an earlier one looks. -/
namespace Go.Proofs.Ytodlkjjoenglgaa.Late
open Go Go.RowKit

section canon
variable {P : Program} {ops : Array Oper} {Q : Exit → Act → World → Prop} {G : World → World → Prop}

/-- x stands ahead of y; what x looks at is written by y only if y is loud and waits for x. -/
def AheadL (ops : Array Oper) (B : Array Nat) (x y : Nat × Nat) : Prop :=
  Ahead ops B x y ∧ (∀ t ∈ (ops.getD x.1 default).looksAt ops, dstOf ops y.1 = some t → 2 ≤ y.2 ∧ anc B y.1 x.1 = true) ∧ (∀ t ∈ (ops.getD y.1 default).looksAt ops, dstOf ops x.1 = some t → anc B y.1 x.1 = true)

instance (ops : Array Oper) (B : Array Nat) (x y : Nat × Nat) : Decidable (AheadL ops B x y) := by unfold AheadL; infer_instance

structure Canon (ops : Array Oper) (B : Array Nat) (ord : List (Nat × Nat)) : Prop where
  pair : ord.Pairwise (AheadL ops B)
  all : ∀ i, i < ops.size → i ∈ ord.map (·.1)
  lt : ∀ x ∈ ord, x.1 < ops.size
  self : ∀ i, i < ops.size → anc B i i = false
  edge : ∀ i, i < ops.size → ∀ e ∈ (ops.getD i default).after.toList, Region.binds .any e = true → e.on < ops.size ∧ anc B i e.on = true
  root : ∀ i, i < ops.size → ∀ k, k < ops.size → anc B i k = true → ∃ e ∈ (ops.getD i default).after.toList, Region.binds .any e = true ∧ (e.on = k ∨ anc B e.on k = true)
  own : ∀ i, i < ops.size → ∀ t ∈ (ops.getD i default).looksAt ops, dstOf ops i ≠ some t
  len : ord.length ≤ ops.size
  plain : ∀ i, i < ops.size → (match (ops.getD i default).op with | .select .. => false | _ => true) = true

/-- The kernel's look at a region: what 'Canon' asks. -/
def canonB (ops : Array Oper) (ord : List (Nat × Nat)) : Bool :=
  let B := Region.before ops
  let r := List.range ops.size
  decide (ord.Pairwise (AheadL ops B)) && decide (ord.length ≤ ops.size) && r.all (fun i => (ord.map (·.1)).contains i) && ord.all (fun x => decide (x.1 < ops.size)) &&
  r.all (fun i => !anc B i i) &&
  r.all (fun i => (ops.getD i default).after.toList.all fun e => !Region.binds .any e || (decide (e.on < ops.size) && anc B i e.on)) &&
  r.all (fun i => r.all fun k => !anc B i k || (ops.getD i default).after.toList.any fun e => Region.binds .any e && (e.on == k || anc B e.on k)) &&
  r.all (fun i => ((ops.getD i default).looksAt ops).all fun t => !(dstOf ops i == some t)) &&
  r.all (fun i => match (ops.getD i default).op with | .select .. => false | _ => true)

theorem canon_of_B {ord : List (Nat × Nat)} (h : canonB ops ord = true) : Canon ops (Region.before ops) ord := by
  unfold canonB at h
  simp only [Bool.and_eq_true, decide_eq_true_eq, List.all_eq_true, List.mem_range, List.contains_eq_mem, Bool.or_eq_true, Bool.not_eq_true', List.any_eq_true, beq_iff_eq] at h
  obtain ⟨⟨⟨⟨⟨⟨⟨⟨h1, h0⟩, h2⟩, h3⟩, h4⟩, h5⟩, h6⟩, h7⟩, h8⟩ := h
  refine ⟨h1, h2, h3, h4, ?_, ?_, ?_, h0, h8⟩
  · intro i hi e he hb
    rcases h5 i hi e he with h | h
    · rw [h] at hb; cases hb
    · exact h
  · intro i hi k hk ha
    rcases h6 i hi k hk with h | ⟨e, he, hb, h⟩
    · rw [h] at ha; cases ha
    · exact ⟨e, he, hb, h⟩
  · intro i hi t ht hd
    have := h7 i hi t ht
    rw [hd] at this
    simp at this

variable {B : Array Nat} {ord : List (Nat × Nat)}

theorem Canon.exec_same (hc : Canon ops B ord) {i : Nat} {o : Oper} (hi : ops[i]? = some o) {a ac : Act}
    (h : ∀ t ∈ o.looksAt ops, ac.tmps[t]? = a.tmps[t]?) : execOp ac.eval o = execOp a.eval o := by
  have hlt : i < ops.size := (Array.getElem?_eq_some_iff.1 hi).1
  have hp := hc.plain i hlt
  have hgo : ops.getD i default = o := by simp [Array.getD_eq_getD_getElem?, hi]
  rw [hgo] at hp
  exact execOp_congr o (fun cs b e => by rw [e] at hp; cases hp) (fun x hx => eval_same h x hx)

/-- The frame turned at a slot at which the pending operation does not look, and which it does not write. -/
theorem yd_put (hc : Canon ops B ord) {x : Nat × Nat} {ac : Act} {w : World} (h : Yd G P ops x ac w) {j : Nat} (hl : ∀ t ∈ (ops.getD x.1 default).looksAt ops, dstOf ops j ≠ some t)
    (hd : dstOf ops x.1 = none ∨ dstOf ops x.1 ≠ dstOf ops j) (u : Value) : Yd G P ops x (ac.put (dstOf ops j) u) w := by
  obtain ⟨o, v, ho, hput, hy⟩ := h
  have hgo : ops.getD x.1 default = o := by simp [Array.getD_eq_getD_getElem?, ho]
  rw [hgo] at hl
  have hsame : ∀ t ∈ o.looksAt ops, (ac.put (dstOf ops j) u).tmps[t]? = ac.tmps[t]? := fun t ht => put_get (hl t ht)
  refine ⟨o, v, ho, ?_, ?_⟩
  · rw [dstOf_eq ho] at hd
    rw [Act.put_comm ac u v (x := dstOf ops j) (y := o.dst) (fun d hd' e => by
      rcases hd with hd | hd
      · rw [hd] at e; cases e
      · exact hd (by rw [hd', e])), hput]
  · rw [wanted_same hsame]
    unfold Stays
    rw [hc.exec_same ho hsame]
    exact hy

/-- The head of the rest, which only yields, is carried out in the canonical frame: it is pending now. -/
theorem advance (hc : Canon ops B ord) {pend rest : List (Nat × Nat)} {x : Nat × Nat} {a ac : Act} {w : World}
    (hpw : (pend ++ x :: rest).Pairwise (AheadL ops B)) (hlt : ∀ y ∈ pend ++ x :: rest, y.1 < ops.size) (hk : x.2 ≤ 1)
    (hrel : Rel ops pend a ac) (hy : ∀ y ∈ pend, Yd G P ops y ac w) (hs : seqW G P ops Q (x :: rest) ac w) :
    ∃ ac', Rel ops (pend ++ [x]) a ac' ∧ (∀ y ∈ pend ++ [x], Yd G P ops y ac' w) ∧ seqW G P ops Q rest ac' w := by
  obtain ⟨i, k⟩ := x
  have hi : i < ops.size := hlt (i, k) (by simp)
  obtain ⟨o, ho, hs⟩ := hs
  simp only at hk
  rw [if_pos hk] at hs
  have hself : ∀ t ∈ o.looksAt ops, dstOf ops i ≠ some t := fun t ht => by
    have h := hc.own i hi
    rw [show ops.getD i default = o by simp [Array.getD_eq_getD_getElem?, ho]] at h
    exact h t ht
  have key : ∀ v, ((Region.wanted o (yielded ops ac.tmps) = true ∧ Stays G P o k ac w v) ∨ (Region.wanted o (yielded ops ac.tmps) = false ∧ v = undef)) → seqW G P ops Q rest (ac.put o.dst v) w →
      ∃ ac', Rel ops (pend ++ [(i, k)]) a ac' ∧ (∀ y ∈ pend ++ [(i, k)], Yd G P ops y ac' w) ∧ seqW G P ops Q rest ac' w := by
    intro v hv hs
    refine ⟨ac.put o.dst v, ⟨put_defers.trans hrel.defers, put_size.trans hrel.size, fun t ht => ?_⟩, fun y hyM => ?_, hs⟩
    · have h1 : o.dst ≠ some t := by rw [← dstOf_eq ho]; exact ht (i, k) (by simp)
      rw [put_get h1]
      exact hrel.same t (fun x hx => ht x (by simp [hx]))
    · rcases List.mem_append.1 hyM with hm | hm
      · have ha := (List.pairwise_append.1 hpw).2.2 y hm (i, k) (by simp)
        have := yd_put hc (hy y hm) (j := i) (fun t ht e => by have := (ha.2.1 t ht e).1; simp only at this; omega) ha.1.2.2.2.2 v
        rwa [dstOf_eq ho] at this
      · simp only [List.mem_singleton] at hm
        subst hm
        have hsame : ∀ t ∈ o.looksAt ops, (ac.put o.dst v).tmps[t]? = ac.tmps[t]? := fun t ht => put_get (by rw [← dstOf_eq ho]; exact hself t ht)
        refine ⟨o, v, ho, put_put, ?_⟩
        rw [wanted_same hsame]
        unfold Stays
        rw [hc.exec_same ho hsame]
        exact hv
  rcases hs with ⟨h1, v, h2, h3⟩ | ⟨h1, h3⟩
  · exact key v (.inl ⟨h1, h2⟩) h3
  · exact key undef (.inr ⟨h1, rfl⟩) h3

theorem advance_all (hc : Canon ops B ord) {a : Act} {w : World} : ∀ (r1 : List (Nat × Nat)) (pend rest : List (Nat × Nat)) (ac : Act),
    (pend ++ (r1 ++ rest)).Pairwise (AheadL ops B) → (∀ y ∈ pend ++ (r1 ++ rest), y.1 < ops.size) → (∀ x ∈ r1, x.2 ≤ 1) →
    Rel ops pend a ac → (∀ y ∈ pend, Yd G P ops y ac w) → seqW G P ops Q (r1 ++ rest) ac w →
    ∃ ac', Rel ops (pend ++ r1) a ac' ∧ (∀ y ∈ pend ++ r1, Yd G P ops y ac' w) ∧ seqW G P ops Q rest ac' w := by
  intro r1
  induction r1 with
  | nil => intro pend rest ac _ _ _ hrel hy hs; exact ⟨ac, by simpa using hrel, by simpa using hy, by simpa using hs⟩
  | cons x r1 ih =>
    intro pend rest ac hpw hlt hk hrel hy hs
    obtain ⟨ac1, h1, h2, h3⟩ := advance hc (by simpa using hpw) (by simpa using hlt) (hk x (by simp)) hrel hy hs
    obtain ⟨ac2, g1, g2, g3⟩ := ih (pend ++ [x]) rest ac1 (by simpa using hpw) (by simpa using hlt) (fun y hy => hk y (by simp [hy])) h1 h2 h3
    exact ⟨ac2, by simpa using g1, by simpa using g2, g3⟩

theorem canon_any (hr : ∀ w : World, G w w) (ht : ∀ {a b c : World}, G a b → G b c → G a c) (hc : Canon ops B ord) : ∀ (fuel : Nat) (pend rest : List (Nat × Nat)) (listed : Array Bool) (a ac : Act) (w : World),
    listed.size = ops.size → (pend ++ rest).length ≤ fuel →
    (pend ++ rest).Pairwise (AheadL ops B) → (∀ y ∈ pend ++ rest, y.1 < ops.size) →
    (∀ i, i < ops.size → (listed.getD i false = false ↔ i ∈ (pend ++ rest).map (·.1))) →
    (∀ i, i < ops.size → listed.getD i false = true → ∀ k, k < ops.size → anc B i k = true → listed.getD k false = true) →
    (∀ x ∈ pend, x.2 ≤ 1) →
    Rel ops pend a ac → (∀ y ∈ pend, Yd G P ops y ac w) → seqW G P ops Q rest ac w →
    wpAny P .any ops Q fuel listed a w := by
  intro fuel
  induction fuel with
  | zero =>
    intro pend rest listed a ac w hsz hlen hpw hlt hun hcl hk hrel hy hs
    have h0 : pend ++ rest = [] := List.eq_nil_of_length_eq_zero (by omega)
    obtain ⟨rfl, rfl⟩ := List.append_eq_nil_iff.1 h0
    have hac : a = ac := by
      obtain ⟨tm, df⟩ := a
      obtain ⟨tm', df'⟩ := ac
      obtain ⟨e1, e2, e3⟩ := hrel
      simp only at e1 e2 e3
      subst e1
      have : tm' = tm := Array.ext_getElem? (fun t => e3 t (fun x hx => by cases hx))
      rw [this]
    subst hac
    refine ⟨?_, hs⟩
    rw [List.eq_nil_iff_forall_not_mem]
    intro i hi
    rw [mem_ready] at hi
    obtain ⟨h1, o, ho, _⟩ := hi
    have hlt : i < ops.size := (Array.getElem?_eq_some_iff.1 ho).1
    have : listed.getD i false = false := by
      rw [Array.getD_eq_getD_getElem?] at h1 ⊢
      rw [Array.getElem?_eq_getElem (by omega)] at h1 ⊢
      exact h1
    have := (hun i hlt).1 this
    simp at this
  | succ fuel ih =>
    intro pend rest listed a ac w hsz hlen hpw hlt hun hcl hk hrel hy hs
    -- the pending case, whatever has been moved into 'pend'
    have stepPend : ∀ (pend rest : List (Nat × Nat)) (ac : Act) (p1 p2 : List (Nat × Nat)) (x : Nat × Nat), pend = p1 ++ x :: p2 → (pend ++ rest).length ≤ fuel + 1 →
        (pend ++ rest).Pairwise (AheadL ops B) → (∀ y ∈ pend ++ rest, y.1 < ops.size) → (∀ i, i < ops.size → (listed.getD i false = false ↔ i ∈ (pend ++ rest).map (·.1))) →
        (∀ x ∈ pend, x.2 ≤ 1) → Rel ops pend a ac → (∀ y ∈ pend, Yd G P ops y ac w) → seqW G P ops Q rest ac w → x.1 ∈ Region.ready .any ops listed →
        wpOp P ops Q x.1 (wpAny P .any ops Q fuel (listed.setIfInBounds x.1 true)) a w := by
      intro pend rest ac p1 p2 x hp hlen hpw hlt hun hk hrel hy hs hready
      subst hp
      have hxlt : x.1 < ops.size := hlt x (by simp)
      obtain ⟨hul, o', ho', hedges⟩ := mem_ready.1 hready
      obtain ⟨o, v, ho, hput, hyv⟩ := hy x (by simp)
      -- i looks at no slot of a pending one
      have hanc : ∀ k, k < ops.size → anc B x.1 k = true → listed.getD k false = true := by
        intro k hk' ha
        have hgo : ops.getD x.1 default = o := by simp [Array.getD_eq_getD_getElem?, ho]
        obtain ⟨e, he, hb, h⟩ := hc.root x.1 hxlt k hk' ha
        rw [hgo] at he
        rw [ho] at ho'; cases ho'
        have hl := hedges e (Array.mem_toList_iff.1 he) hb
        rcases h with h | h
        · rw [← h]; exact hl
        · have helt := (hc.edge x.1 hxlt e (by rw [hgo]; exact he) hb).1
          exact hcl e.on helt hl k hk' h
      have hsame : ∀ t ∈ o.looksAt ops, ac.tmps[t]? = a.tmps[t]? := by
        intro t ht
        refine hrel.same t (fun y hyM e => ?_)
        have hylt := hlt y (List.mem_append_left _ hyM)
        have hgo : ops.getD x.1 default = o := by simp [Array.getD_eq_getD_getElem?, ho]
        have h2 := (hun y.1 hylt).2 (List.mem_map.2 ⟨y, List.mem_append_left _ hyM, rfl⟩)
        have hpwp := (List.pairwise_append.1 hpw).1
        rcases List.mem_append.1 hyM with hm | hm
        · have hA := (List.pairwise_append.1 hpwp).2.2 y hm x (by simp)
          have := hanc y.1 hylt (hA.2.2 t (by rw [hgo]; exact ht) e)
          rw [h2] at this; cases this
        · rcases List.mem_cons.1 hm with rfl | hm
          · exact hc.own y.1 hylt t (by rw [hgo]; exact ht) e
          · have hq := (List.pairwise_append.1 hpwp).2.1
            rw [List.pairwise_cons] at hq
            have := ((hq.1 y hm).2.1 t (by rw [hgo]; exact ht) e).1
            have := hk y hyM
            omega
      have hpw' : (p1 ++ p2 ++ rest).Pairwise (AheadL ops B) := by
        refine List.Pairwise.sublist ?_ hpw
        rw [List.append_assoc, List.append_assoc]
        exact (List.Sublist.refl p1).append ((List.sublist_cons_self x p2).append_right rest)
      have hne : ∀ y ∈ p1 ++ p2 ++ rest, y.1 ≠ x.1 ∧ (dstOf ops x.1 = none ∨ dstOf ops x.1 ≠ dstOf ops y.1) := by
        intro y hyM
        rw [List.append_assoc, List.pairwise_append] at hpw
        obtain ⟨_, hq, hr'⟩ := hpw
        rw [List.cons_append, List.pairwise_cons] at hq
        rw [List.append_assoc] at hyM
        rcases List.mem_append.1 hyM with h | h
        · have := hr' y h x (by simp)
          refine ⟨this.1.2.2.2.1, ?_⟩
          rcases this.1.2.2.2.2 with e | e
          · by_cases ex : dstOf ops x.1 = none
            · exact .inl ex
            · exact .inr (by rw [e]; exact ex)
          · exact .inr (Ne.symm e)
        · have := hq.1 y h
          exact ⟨Ne.symm this.1.2.2.2.1, this.1.2.2.2.2⟩
      have hnext : wpAny P .any ops Q fuel (listed.setIfInBounds x.1 true) (a.put o.dst v) w := by
        refine ih (p1 ++ p2) rest (listed.setIfInBounds x.1 true) (a.put o.dst v) ac w (by simpa using hsz) (by simp at hlen ⊢; omega) hpw'
          (fun y hyM => hlt y (by grind)) ?_ ?_ (fun y hyM => hk y (by grind)) ?_ (fun y hyM => hy y (by grind)) hs
        · intro i hi
          rw [getD_set (by omega)]
          by_cases hix : i = x.1
          · subst hix
            simp only [if_true, Bool.true_eq_false, false_iff]
            intro hm
            obtain ⟨y, hyM, hyE⟩ := List.mem_map.1 hm
            exact (hne y hyM).1 hyE
          · rw [if_neg hix, hun i hi]
            simp only [List.map_append, List.map_cons, List.mem_append, List.mem_cons]
            constructor
            · rintro ((h | h | h) | h)
              · exact .inl (.inl h)
              · exact absurd h hix
              · exact .inl (.inr h)
              · exact .inr h
            · rintro ((h | h) | h)
              · exact .inl (.inl h)
              · exact .inl (.inr (.inr h))
              · exact .inr h
        · intro i hi hli k hk' ha
          rw [getD_set (by omega)] at hli ⊢
          by_cases hkx : k = x.1
          · rw [if_pos hkx]
          · rw [if_neg hkx]
            by_cases hix : i = x.1
            · subst hix; exact hanc k hk' ha
            · rw [if_neg hix] at hli; exact hcl i hi hli k hk' ha
        · refine ⟨hrel.defers.trans put_defers.symm, hrel.size.trans put_size.symm, fun t ht => ?_⟩
          by_cases hd : o.dst = some t
          · rw [hd]
            by_cases hts : t < a.tmps.size
            · rw [put_same hts]
              have := hput
              rw [hd] at this
              rw [← this, put_same (by rw [hrel.size]; exact hts)]
            · rw [Array.getElem?_eq_none (by rw [hrel.size]; omega), Array.getElem?_eq_none (by rw [put_size]; omega)]
          · rw [put_get hd]
            refine hrel.same t (fun y hyM => ?_)
            by_cases hyx : y = x
            · subst hyx; rw [dstOf_eq ho]; exact hd
            · exact ht y (by grind)
      unfold wpOp
      rw [ho]
      simp only
      rcases hyv with ⟨hw, hst⟩ | ⟨hw, rfl⟩
      · rw [wanted_same hsame] at hw
        rw [if_pos hw]
        refine .inl ?_
        unfold Oper.wp
        rw [← hc.exec_same ho hsame, hst w (.inr (hr w))]
        exact hnext
      · rw [wanted_same hsame] at hw
        rw [if_neg (by rw [hw]; simp)]
        exact hnext
    refine ⟨fun hnil => ?_, fun i hi => ?_⟩
    · -- nothing may come up: nothing is left
      cases hpr : pend ++ rest with
      | nil =>
        obtain ⟨rfl, rfl⟩ := List.append_eq_nil_iff.1 hpr
        have hac : a = ac := by
          obtain ⟨tm, df⟩ := a
          obtain ⟨tm', df'⟩ := ac
          obtain ⟨e1, e2, e3⟩ := hrel
          simp only at e1 e2 e3
          subst e1
          have : tm' = tm := Array.ext_getElem? (fun t => e3 t (fun x hx => by cases hx))
          rw [this]
        subst hac
        exact hs
      | cons y l =>
        exfalso
        have hylt : y.1 < ops.size := hlt y (by rw [hpr]; simp)
        have hyu : listed.getD y.1 false = false := (hun y.1 hylt).2 (by rw [hpr]; simp)
        obtain ⟨o, ho⟩ : ∃ o, ops[y.1]? = some o := ⟨ops[y.1], Array.getElem?_eq_getElem hylt⟩
        have hgo : ops.getD y.1 default = o := by simp [Array.getD_eq_getD_getElem?, ho]
        have : y.1 ∈ Region.ready .any ops listed := by
          rw [mem_ready]
          refine ⟨?_, o, ho, fun e he hb => ?_⟩
          · rw [Array.getD_eq_getD_getElem?] at hyu ⊢
            rw [Array.getElem?_eq_getElem (by omega)] at hyu ⊢
            exact hyu
          · obtain ⟨hel, hea⟩ := hc.edge y.1 hylt e (by rw [hgo]; exact Array.mem_toList_iff.2 he) hb
            cases hle : listed.getD e.on false with
            | true => rfl
            | false =>
              exfalso
              have hm := (hun e.on hel).1 hle
              rw [hpr] at hm
              simp only [List.map_cons, List.mem_cons] at hm
              rcases hm with h | h
              · rw [h, hc.self y.1 hylt] at hea; cases hea
              · obtain ⟨z, hz, hzE⟩ := List.mem_map.1 h
                rw [hpr, List.pairwise_cons] at hpw
                have := (hpw.1 z hz).1.2.1
                rw [hzE, hea] at this; cases this
        rw [hnil] at this
        cases this
    · -- operation i comes up
      obtain ⟨hul, o, ho, hedges⟩ := mem_ready.1 hi
      have hilt : i < ops.size := (Array.getElem?_eq_some_iff.1 ho).1
      have hgo : ops.getD i default = o := by simp [Array.getD_eq_getD_getElem?, ho]
      have hiu : listed.getD i false = false := by
        rw [Array.getD_eq_getD_getElem?] at hul ⊢
        rw [Array.getElem?_eq_getElem (by omega)] at hul ⊢
        exact hul
      have hanc : ∀ k, k < ops.size → anc B i k = true → listed.getD k false = true := by
        intro k hk' ha
        obtain ⟨e, he, hb, h⟩ := hc.root i hilt k hk' ha
        rw [hgo] at he
        have hl := hedges e (Array.mem_toList_iff.1 he) hb
        rcases h with h | h
        · rw [← h]; exact hl
        · exact hcl e.on (hc.edge i hilt e (by rw [hgo]; exact he) hb).1 hl k hk' h
      obtain ⟨x, hx, rfl⟩ := List.mem_map.1 ((hun i hilt).1 hiu)
      rcases List.mem_append.1 hx with hx | hx
      · obtain ⟨p1, p2, hp⟩ := List.append_of_mem hx
        exact stepPend pend rest ac p1 p2 x hp hlen hpw hlt hun hk hrel hy hs hi
      · obtain ⟨r1, r2, hrr⟩ := List.append_of_mem hx
        subst hrr
        -- nothing loud stands ahead of it
        have hr1 : ∀ y ∈ r1, y.2 ≤ 1 := by
          intro y hyM
          rcases Nat.lt_or_ge y.2 2 with h | h
          · omega
          · exfalso
            have hpw2 := (List.pairwise_append.1 hpw).2.1
            have := (List.pairwise_append.1 hpw2).2.2 y hyM x (by simp)
            have hylt := hlt y (by simp [hyM])
            have h1 := hanc y.1 hylt (this.1.1 h)
            have h2 := (hun y.1 hylt).2 (List.mem_map.2 ⟨y, by simp [hyM], rfl⟩)
            rw [h2] at h1; cases h1
        obtain ⟨ac1, hrel1, hy1, hs1⟩ := advance_all hc (a := a) (w := w) r1 pend (x :: r2) ac hpw hlt hr1 hrel hy hs
        have hpw1 : ((pend ++ r1) ++ x :: r2).Pairwise (AheadL ops B) := by simpa using hpw
        have hlt1 : ∀ y ∈ (pend ++ r1) ++ x :: r2, y.1 < ops.size := by simpa using hlt
        have hk1 : ∀ y ∈ pend ++ r1, y.2 ≤ 1 := fun y hyM => by
          rcases List.mem_append.1 hyM with h | h
          · exact hk y h
          · exact hr1 y h
        by_cases hkx : x.2 ≤ 1
        · obtain ⟨ac2, hrel2, hy2, hs2⟩ := advance hc hpw1 hlt1 hkx hrel1 hy1 hs1
          refine stepPend ((pend ++ r1) ++ [x]) r2 ac2 (pend ++ r1) [] x rfl (by simp at hlen ⊢; omega) (by simpa using hpw) (by simpa using hlt) (by simpa using hun) ?_ hrel2 hy2 hs2 hi
          intro y hyM
          rcases List.mem_append.1 hyM with h | h
          · exact hk1 y h
          · simp only [List.mem_singleton] at h; subst h; exact hkx
        · -- a loud one
          obtain ⟨xi, xk⟩ := x
          simp only at ho hgo hanc hkx hiu hilt hedges hi hul
          obtain ⟨o2, ho2, hs1⟩ := hs1
          rw [ho] at ho2; cases ho2
          rw [if_neg hkx] at hs1
          have hpa : ∀ y ∈ pend ++ r1, AheadL ops B y (xi, xk) := fun y hyM => (List.pairwise_append.1 hpw1).2.2 y hyM (xi, xk) (by simp)
          have hsame : ∀ t ∈ o.looksAt ops, ac1.tmps[t]? = a.tmps[t]? := by
            intro t ht
            refine hrel1.same t (fun y hyM e => ?_)
            have hylt := hlt1 y (List.mem_append_left _ hyM)
            have := hanc y.1 hylt ((hpa y hyM).2.2 t (by rw [hgo]; exact ht) e)
            have h2 := (hun y.1 hylt).2 (List.mem_map.2 ⟨y, by grind, rfl⟩)
            rw [h2] at this; cases this
          have hnext : ∀ (u : Value) (w' : World) (ds : List Deferred), (xk = 2 → G w w') → seqW G P ops Q r2 (({ ac1 with defers := ds } : Act).put o.dst u) w' →
              wpAny P .any ops Q fuel (listed.setIfInBounds xi true) (({ a with defers := ds } : Act).put o.dst u) w' := by
            intro u w' ds hE hs2
            refine ih (pend ++ r1) r2 (listed.setIfInBounds xi true) _ (({ ac1 with defers := ds } : Act).put o.dst u) w' (by simpa using hsz) (by simp at hlen ⊢; omega) ?_
              (fun y hyM => hlt1 y (by grind)) ?_ ?_ hk1 ?_ ?_ hs2
            · exact List.Pairwise.sublist ((List.Sublist.refl (pend ++ r1)).append (List.sublist_cons_self (xi, xk) r2)) hpw1
            · intro j hj
              rw [getD_set (by omega)]
              by_cases hjx : j = xi
              · subst hjx
                simp only [if_true, Bool.true_eq_false, false_iff]
                intro hm
                obtain ⟨y, hyM, hyE⟩ := List.mem_map.1 hm
                rcases List.mem_append.1 hyM with h | h
                · exact (hpa y h).1.2.2.2.1 hyE
                · have h3 := (List.pairwise_append.1 hpw1).2.1
                  rw [List.pairwise_cons] at h3
                  exact (h3.1 y h).1.2.2.2.1 hyE.symm
              · rw [if_neg hjx, hun j hj]
                simp only [List.map_append, List.map_cons, List.mem_append, List.mem_cons]
                constructor
                · rintro (h | h | h | h)
                  · exact .inl (.inl h)
                  · exact .inl (.inr h)
                  · exact absurd h hjx
                  · exact .inr h
                · rintro ((h | h) | h)
                  · exact .inl h
                  · exact .inr (.inl h)
                  · exact .inr (.inr (.inr h))
            · intro j hj hlj k hk' ha
              rw [getD_set (by omega)] at hlj ⊢
              by_cases hkx' : k = xi
              · rw [if_pos hkx']
              · rw [if_neg hkx']
                by_cases hjx : j = xi
                · subst hjx; exact hanc k hk' ha
                · rw [if_neg hjx] at hlj; exact hcl j hj hlj k hk' ha
            · refine ⟨by rw [put_defers, put_defers], by rw [put_size, put_size]; exact hrel1.size, fun t ht => ?_⟩
              by_cases hd : o.dst = some t
              · rw [hd]
                by_cases hts : t < a.tmps.size
                · rw [put_same (a := { a with defers := ds }) hts, put_same (a := { ac1 with defers := ds }) (by show t < ac1.tmps.size; rw [hrel1.size]; exact hts)]
                · rw [Array.getElem?_eq_none (by rw [put_size]; show ac1.tmps.size ≤ t; rw [hrel1.size]; omega), Array.getElem?_eq_none (by rw [put_size]; show a.tmps.size ≤ t; omega)]
              · rw [put_get hd, put_get hd]
                exact hrel1.same t ht
            · intro y hyM
              have hA := hpa y hyM
              have h1 : Yd G P ops y ({ ac1 with defers := ds } : Act) w := by
                obtain ⟨oy, v, hoy, hput, hyy⟩ := hy1 y hyM
                refine ⟨oy, v, hoy, ?_, hyy⟩
                have := congrArg Act.tmps hput
                cases hdd : oy.dst with
                | none => rfl
                | some d => rw [hdd] at this; simp only [Act.put] at this ⊢; rw [this]
              have hylt := hlt1 y (List.mem_append_left _ hyM)
              have h2 := yd_put hc h1 (j := xi) (fun t ht' e => by
                have h3 := hanc y.1 hylt (hA.2.1 t ht' e).2
                have h4 := (hun y.1 hylt).2 (List.mem_map.2 ⟨y, by grind, rfl⟩)
                rw [h4] at h3; cases h3) hA.1.2.2.2.2 u
              rw [dstOf_eq ho] at h2
              refine Yd.ext (G := G) ht h2 ?_
              rcases Nat.lt_or_ge y.2 1 with h | h
              · exact .inl (by omega)
              · have hy1' : y.2 = 1 := by have := hk1 y hyM; omega
                by_cases hx2 : xk = 2
                · exact .inr (hE hx2)
                · exfalso
                  have hylt := hlt1 y (List.mem_append_left _ hyM)
                  have h3 := hanc y.1 hylt (hA.1.2.2.1 hy1' (by simp only at hkx ⊢; omega))
                  have h4 := (hun y.1 hylt).2 (List.mem_map.2 ⟨y, by grind, rfl⟩)
                  rw [h4] at h3; cases h3
          unfold wpOp
          rw [ho]
          simp only
          rw [wanted_same hsame] at hs1
          by_cases hw : Region.wanted o (yielded ops a.tmps) = true
          · rw [if_pos hw] at hs1 ⊢
            refine .inl ?_
            unfold Oper.wp at hs1 ⊢
            rw [hc.exec_same ho hsame] at hs1
            have hdef : ac1.defers = a.defers := hrel1.defers
            generalize (execOp a.eval o).run P w = r at hs1 ⊢
            cases r with
            | ok n w' =>
              cases n <;> simp only [Oper.upon] at hs1 ⊢
              case value u =>
                have := hnext u w' ac1.defers hs1.1 hs1.2
                rwa [hdef] at this
              case skip =>
                have := hnext undef w' ac1.defers hs1.1 hs1.2
                rwa [hdef] at this
              case defer d =>
                have := hnext undef w' (d :: ac1.defers) hs1.1 hs1.2
                rwa [hdef] at this
              case enter f args =>
                refine Calls.mono hs1 fun e w'' he => ?_
                cases e with
                | returned u =>
                  have := hnext u w'' ac1.defers he.1 he.2
                  rwa [hdef] at this
                | panicked c => exact he.elim
                | outgrown => exact he
              case row row args =>
                refine Rows.mono hs1 fun u w'' he => ?_
                have := hnext u w'' ac1.defers he.1 he.2
                rwa [hdef] at this
            | halt x w' =>
              cases x <;> simp only [Oper.upon] at hs1 ⊢
              case panic u => exact hs1.elim
          · rw [if_neg hw] at hs1 ⊢
            have := hnext undef w ac1.defers (fun _ => hr w) hs1
            rwa [hrel1.defers] at this

/-- **A REGION THAT DRAWS, WALKED ONCE IN A CANONICAL ORDER.** -/
theorem wp_region_canon (hr : ∀ w : World, G w w) (ht : ∀ {a b c : World}, G a b → G b c → G a c) {id : Nat} {a : Act} {w : World} (ord : List (Nat × Nat)) (hm : P.follows .mixedOrders = true) (hok : canonB ops ord = true)
    (h : seqW G P ops Q ord a w.drew) : (Code.region id ops true).wp P Q a w := by
  have hc := canon_of_B hok
  refine wp_region_any hm (canon_any hr ht hc ops.size [] ord (Array.replicate ops.size false) a a w.drew (by simp) ?_ (by simpa using hc.pair) (by simpa using hc.lt) ?_ ?_ (by simp) ⟨rfl, rfl, fun _ _ => rfl⟩ (by simp) h)
  · simpa using hc.len
  · intro i hi
    simp only [List.nil_append]
    constructor
    · intro _; exact hc.all i hi
    · intro _; simp [Array.getD_eq_getD_getElem?, hi]
  · intro i hi hl
    simp [Array.getD_eq_getD_getElem?, hi] at hl

theorem wp_region_late (S : World → Prop) {id : Nat} {l : List Oper} {a : Act} {w : World} (ord : List (Nat × Nat)) (hm : P.follows .mixedOrders = true) (hok : canonB l.toArray ord = true) (hS : S w.drew)
    (h : S w.drew → seqL (Goes S) P l.toArray Q (ord.map fun x => (nthOp l x.1, x.2)) a w.drew) : (Code.region id l.toArray true).wp P Q a w :=
  wp_region_canon (G := Goes S) (fun _ h => h) (fun h k x => k (h x)) ord hm hok (seqW_of_seqL l ord a w.drew (h hS))
end canon
end Go.Proofs.Ytodlkjjoenglgaa.Late

/- TopQuantsParted's closure, walked. -/
namespace Go.Proofs.Ytodlkjjoenglgaa
open Go Go.RowKit

theorem enters23 : EntersF 23 := fun args W => enters_of Try.func23 (by kernel_rfl) rfl args W
def canPart (_ : List Int) (n : Nd) (k : Fo) : Bool := match k with
  | .cons m _ _ => (decide (n.kind = 8) && decide (m.kind = 5)) || (decide (n.kind = 7) && decide (m.kind = 6))
  | .nil => false
theorem overAll_len (kd t : Int) (f : Fo) : (overAll kd t f).len = f.len := by
  induction f with
  | nil => rfl
  | cons n k r _ ih => simp [overAll, Fo.len, ih]
theorem overAll_count (kd t : Int) (f : Fo) : (overAll kd t f).count ≤ 2 * f.count := by
  induction f with
  | nil => simp [overAll, Fo.count]
  | cons n k r _ ih => simp only [overAll, Fo.count, Fo.one] at ih ⊢; omega
theorem overAll_args (kd t : Int) (f : Fo) (h : f.ArgsLe) : (overAll kd t f).ArgsLe := by
  induction f with
  | nil => trivial
  | cons n k r _ ih => exact ⟨by simp [qNd], ⟨h.1, h.2.1, trivial⟩, ih h.2.2⟩

set_option maxRecDepth 100000 in
set_option maxHeartbeats 8000000 in
theorem part_any (w : World) (D : Dom) (atoms : List AtD) : ByOK w D atoms 23 #[] canPart := by
  refine ⟨enters23, fun W hW G n k b fp ht ho hs hc hal hG => ?_⟩
  obtain ⟨i0, hi, hz0, hz1, hz2⟩ := info_parts info37
  obtain ⟨hF, hnd, hlo⟩ := ht
  have hltF := hF.lt
  obtain ⟨bx, bs', cv, av, kv, ks, fa, fk, fpk, fpr, hbx, hfp, hb, hcv, haa, hkk, hfk, hfr⟩ := id hF
  obtain ⟨rfl, rfl⟩ := List.cons.inj hbx
  obtain ⟨-, rfl⟩ := hfr
  obtain ⟨c1, c2, c3, rfl⟩ := hcv
  obtain ⟨a1, a3, hav, -⟩ := id haa
  rw [List.length_map] at hav
  subst hav
  obtain ⟨kd, pd, ar, lf, rg, tp⟩ := n
  obtain ⟨an, han⟩ : ∃ n, ar.length = n := ⟨_, rfl⟩
  simp only [han] at hb haa
  obtain ⟨x0, x1, x2, x3, x4, x5, x6, x7, xl⟩ := eight_facts hb
  obtain ⟨gn, hgn⟩ : ∃ n, G.length = n := ⟨_, rfl⟩
  rw [hgn]
  have HO := Lib.hid ho
  have HS := Lib.hid hs
  have HAL := Lib.hid hal
  have HCNT := Lib.hid hc
  have HLT := Lib.hid hltF
  have HFP := Lib.hid hfp
  by_cases hq : kd = 8 ∨ kd = 7
  · have hk1 : k.len = 1 := by
      obtain ⟨-, s2, -⟩ := hs
      rcases hq with rfl | rfl <;> unfold arityOf at s2 <;> simp at s2 <;> exact_mod_cast s2
    obtain ⟨m, q, rfl⟩ := one_of_len hk1
    obtain ⟨mb, ms', mcv, mav, mkv, mks, mfa, mfk, mfpk, mfpr, hks, hmfp, hmb, hmcv, hmaa, hmkk, hmfk, hmfr⟩ := hfk
    obtain ⟨hms, rfl⟩ := hmfr
    subst hms hks hmfp
    obtain ⟨k1, k3, rfl, -, -, hkc⟩ := hkk.rd
    obtain ⟨kb, koff, rfl, hk0⟩ := hkc 0 (ptr mb) rfl
    rw [Nat.add_zero] at hk0
    have hkl := World.block_lt_of_cell? W _ hk0
    obtain ⟨mc1, mc2, mc3, rfl⟩ := hmcv
    obtain ⟨ma1, ma3, hmav, -⟩ := id hmaa
    obtain ⟨man, hman⟩ : ∃ n, (m.args.map i64).length = n := ⟨_, rfl⟩
    rw [hman] at hmav
    subst hmav
    obtain ⟨mk1, mk3, hmkv, -, -, hmc⟩ := hmkk.rd
    have hmkl := hmfk.len
    obtain ⟨cn, hcn⟩ : ∃ n, (mks.map ptr).length = n := ⟨_, rfl⟩
    rw [hcn] at hmkv
    rw [List.length_map] at hcn
    subst hmkv
    obtain ⟨md, mpd, mar, mlf, mrg, mtp⟩ := m
    obtain ⟨y0, y1, y2, y3, y4, y5, y6, y7, yl⟩ := eight_facts hmb
    have hcn30 : cn ≤ 30 := by
      have h1 := Fo.len_le_count q
      simp only [Fo.one, Fo.count] at hc
      omega
    have HQ := Lib.hid hmfk
    have HMC := Lib.hid hmc
    have HCN := Lib.hid hcn
    have HQL := Lib.hid (hmkl.symm.trans hcn)
    have HSUB : Hid (∀ x ∈ mfpk, x ∈ fp) := fun x hx => by rw [hfp]; simp; grind
    clear hF hnd hlo hltF hbx hfp hb haa hkk hmb hmaa hmkk hmfk hmc hcn hmkl ho hs hal hc hk1 hkc han hgn hman
    by_cases hgo : (kd = 8 ∧ md = 5) ∨ (kd = 7 ∧ md = 6)
    · rcases hgo with ⟨rfl, rfl⟩ | ⟨rfl, rfl⟩
      · go_enter Try.func23, Try.ntmps23
        go_wp2_with fail
        have H0 : Hid (Outs W.heap.size fp W (.slice none 0 0) (overAll 8 tp .nil) []) := Outs.start _ _ _
        go_loopw [5, 58] (fun v i wr => ∃ j : Nat, ∃ (f1 f2 : Fo) (gs : List Nat), j ≤ cn ∧ i = .int .i64 j ∧ q = f1.app f2 ∧ f1.len = j ∧ Hid (Ext W wr) ∧ Hid (Outs W.heap.size fp wr v (overAll 8 tp f1) gs)) (fun _ i _ => cn - (intOf i).toNat)
        case atStart => exact ⟨0, .nil, q, [], Nat.zero_le _, rfl, rfl, rfl, Ext.refl _, H0⟩
        case round =>
          obtain ⟨j, f1, f2, gs, hj, rfl, hq12, hf1, HE, HO2⟩ := hrel
          clear H0
          by_cases hlt : j < cn
          · cases f2 with
            | nil =>
              exfalso
              have h := HQL.out
              rw [hq12, Fo.app_nil, hf1] at h
              omega
            | cons n' k' r' =>
              have hQ2 := HQ.out
              rw [hq12] at hQ2
              obtain ⟨xb, fp1, hxb, hxF, hxs⟩ := isF_at hQ2
              rw [hf1] at hxb
              obtain ⟨eb, eoff, rfl, he⟩ := HMC.out j (ptr xb) (by rw [List.getElem?_map, hxb]; rfl)
              have e0 := HE.out.cell he
              have el := World.block_lt_of_cell? wr _ e0
              have HXF := Lib.hid hxF
              have HXS := Lib.hid hxs
              have hgs : gs.length = j := by rw [HO2.out.len, overAll_len, hf1]
              obtain ⟨va, vcap, hvv, -⟩ := owns_row HO2.out.own
              rw [hgs] at hvv
              subst hvv
              have HGS := Lib.hid hgs
              clear hgs
              have HQ12 := Lib.hid hq12
              have HF1 := Lib.hid hf1
              clear hQ2 hxb hxF hxs he hq12 hf1
              go_upto_region 7 with fail
              refine Late.wp_region_late (Ext wr) [(0, 0), (1, 0), (2, 0), (3, 0), (4, 0), (5, 1), (6, 0), (7, 0), (8, 0), (9, 0), (10, 1), (11, 0), (12, 2), (13, 2), (14, 3), (15, 3)] (by kernel_rfl) (by kernel_rfl) (Ext.refl wr).drew (fun hS => ?_)
              simp only [List.map, nthOp]
              refine seqL_yield rfl (fun w' => by go_simp; rfl) ?_
              try simp only [Act.put, List.setIfInBounds_toArray, List.set_cons_zero, List.set_cons_succ]
              refine seqL_yield rfl (fun w' => by go_simp; rfl) ?_
              try simp only [Act.put, List.setIfInBounds_toArray, List.set_cons_zero, List.set_cons_succ]
              refine seqL_yield rfl (fun w' => by go_simp; rfl) ?_
              try simp only [Act.put, List.setIfInBounds_toArray, List.set_cons_zero, List.set_cons_succ]
              refine seqL_yield rfl (fun w' => by go_simp; rfl) ?_
              try simp only [Act.put, List.setIfInBounds_toArray, List.set_cons_zero, List.set_cons_succ]
              refine seqL_yield rfl (fun w' => by go_simp; rfl) ?_
              try simp only [Act.put, List.setIfInBounds_toArray, List.set_cons_zero, List.set_cons_succ]
              refine seqL_read hS rfl (fun w' hE => by have q := hE.cell (HE.out.cell x0); clear hE; go_simp; rfl) ?_
              try simp only [Act.put, List.setIfInBounds_toArray, List.set_cons_zero, List.set_cons_succ]
              refine seqL_yield rfl (fun w' => by go_simp; rfl) ?_
              try simp only [Act.put, List.setIfInBounds_toArray, List.set_cons_zero, List.set_cons_succ]
              refine seqL_yield rfl (fun w' => by go_simp; rfl) ?_
              try simp only [Act.put, List.setIfInBounds_toArray, List.set_cons_zero, List.set_cons_succ]
              refine seqL_yield rfl (fun w' => by go_simp; rfl) ?_
              try simp only [Act.put, List.setIfInBounds_toArray, List.set_cons_zero, List.set_cons_succ]
              refine seqL_yield rfl (fun w' => by go_simp; rfl) ?_
              try simp only [Act.put, List.setIfInBounds_toArray, List.set_cons_zero, List.set_cons_succ]
              refine seqL_read hS rfl (fun w' hE => by have q := hE.cell (HE.out.cell x6); clear hE; go_simp; rfl) ?_
              try simp only [Act.put, List.setIfInBounds_toArray, List.set_cons_zero, List.set_cons_succ]
              refine seqL_yield rfl (fun w' => by go_simp; rfl) ?_
              try simp only [Act.put, List.setIfInBounds_toArray, List.set_cons_zero, List.set_cons_succ]
              refine seqL_grow rfl (fun K hK => ?_)
              have HKK := Lib.hid hK
              clear hK
              go_simp
              refine (quant2_any _ _ _ _).mono ?_
              rintro e w4 ⟨rfl, hw4⟩
              have hS4 : Ext wr w4 := by rw [hw4]; exact (hS.alloc _).alloc _
              have HT : Hid (∃ fpn, isF w4 (Fo.one (qNd 8 tp) (Fo.one n' k')) [wr.heap.size + 1] fpn ∧ ∀ x ∈ fpn, x ∈ fp ∨ wr.heap.size ≤ x) := by
                rw [hw4]
                obtain ⟨-, f, g1, g2⟩ := con_alloc (W := wr.drew) (N := wr.heap.size) rfl (HXF.out.ext (HE.out.trans hS)) #[ptr xb] rfl 1 rfl (by decide) 37 (qNd 8 tp) rfl
                exact ⟨f, g1, fun x hx => (g2 x hx).imp (fun h => HSUB.out x (HXS.out x h)) id⟩
              clear hw4
              refine HKK.out _ _ hS4 (fun _ => ?_)
              clear HKK K
              try simp only [Act.put, List.setIfInBounds_toArray, List.set_cons_zero, List.set_cons_succ]
              refine seqL_grow rfl (fun K hK => ?_)
              have HKK := Lib.hid hK
              clear hK
              go_simp
              refine HKK.out _ _ (hS4.alloc _) (fun hS1 => ?_)
              clear HKK K
              try simp only [Act.put, List.setIfInBounds_toArray, List.set_cons_zero, List.set_cons_succ]
              refine seqL_loud rfl (fun K hK => ?_)
              have HKK := Lib.hid hK
              clear hK
              refine wp_append_lies _ _ _ 40 rfl W.heap.size 37 i0 (.pointer none) 1 8 Try.underlying40 hi hz0 hz1 hz2 rfl (by decide) (.slice va j vcap) j (gs.map ptr) rfl (by have h := (HO2.out.ext hS1).own; rwa [HGS.out] at h) ⟨_, 0, none⟩ 1 1 [ptr (wr.heap.size + 1)] rfl rfl (cell_one_new _ _ _) (by simp [Value.oneCell']) (by decide) (by unfold maxLen; omega) (by omega) (by have h1 := HE.out.size; have h2 := hS1.size; omega) _ rfl ?_
              intro g' cap' w5 hown hgrow hat hlt'
              refine HKK.out _ _ ?_
              clear HKK K
              try simp only [Act.put, List.setIfInBounds_toArray, List.set_cons_zero, List.set_cons_succ]
              simp only [World.size_alloc] at hat
              have hE5 : Hid (Ext W w5) := (HE.out.trans hS1).of_grown hgrow (fun k hk => (HO2.out.own.lt k hk).1)
              have hO5 : Hid (Outs W.heap.size fp w5 (.slice (some ⟨g', 0, none⟩) (j + 1) cap') ((overAll 8 tp f1).app (Fo.one (qNd 8 tp) (Fo.one n' k'))) (gs ++ [wr.heap.size + 1])) := by
                obtain ⟨fpn, h1, h2⟩ := HT.out
                have h := Outs.step HO2.out HLT.out hS4 h1 h2 (o := .cells #[ptr (wr.heap.size + 1)] 37) (g := g') (cap := cap') (by rw [HGS.out]; exact hown) hgrow hat HE.out.size
                rw [HGS.out] at h
                exact h
              clear hown hgrow hat hlt'
              refine seqL_loud rfl (fun K hK => ?_)
              have HKK := Lib.hid hK
              clear hK
              go_simp
              refine HKK.out _ _ (seqL_nil ?_)
              clear HKK K
              try simp only [Act.put, List.setIfInBounds_toArray, List.set_cons_zero, List.set_cons_succ]
              clear hS hS1 hS4 x0 x6 e0
              have HREL : Hid (Outs W.heap.size fp w5 (.slice (some ⟨g', 0, none⟩) (j + 1) cap') (overAll 8 tp (f1.app (Fo.one n' k'))) (gs ++ [wr.heap.size + 1])) := by
                show Outs _ _ _ _ _ _
                rw [overAll_app]
                exact hO5.out
              go_wp2_with fail
              go_roundw
              case rel => exact ⟨j + 1, f1.app (Fo.one n' k'), r', gs ++ [wr.heap.size + 1], by omega, by go_num, by rw [Fo.app_assoc]; exact HQ12.out, by rw [Fo.len_app, HF1.out]; rfl, hE5, HREL⟩
              case measure => simp [intOf]; omega
          · have hjN : j = cn := by omega
            subst hjN
            obtain rfl : f2 = .nil := by
              have h := HQL.out
              rw [hq12, Fo.len_app, hf1] at h
              cases f2 with
              | nil => rfl
              | cons _ _ _ => simp [Fo.len] at h
            rw [Fo.app_nil] at hq12
            subst hq12
            have hgs : gs.length = j := by rw [HO2.out.len, overAll_len, hf1]
            obtain ⟨va, vcap, hvv, -⟩ := owns_row HO2.out.own
            rw [hgs] at hvv
            subst hvv
            have y0' := HE.out.cell y0
            have x7' := HE.out.cell x7
            have k0' := HE.out.cell hk0
            have hsE := HE.out.size
            clear hf1 hgs
            go_wp2_with fail
            refine (con_any _ _ _ _ _).mono ?_
            rintro e w5 ⟨rfl, hw5⟩
            have HW5 := Lib.hid hw5
            clear hw5
            go_wp2
            go_ret
            have hcan : canPart G ⟨8, pd, ar, lf, rg, tp⟩ (Fo.one ⟨5, mpd, mar, mlf, mrg, mtp⟩ q) = true := by simp [canPart, Fo.one]
            obtain ⟨fpn, h1, h2⟩ := HO2.out.done (zNd 5) rfl hsE
            rw [hcan, HW5.out]
            have hc := HCNT.out
            have ha := HAL.out
            have hoc := overAll_count 8 tp q
            simp only [Fo.one, Fo.count] at hc
            exact ⟨Ext1.of (HE.out.alloc _) _, .inr ⟨rfl, wr.heap.size, zNd 5, _, fpn, rfl, h1, fun x hx => h2 x hx, part_same D atoms G ⟨8, pd, ar, lf, rg, tp⟩ ⟨5, mpd, mar, mlf, mrg, mtp⟩ q (by simp) HO.out HS.out, by rw [Fo.count_one]; show (overAll 8 tp q).count + 1 ≤ 2000; omega, ⟨by simp [zNd], overAll_args _ _ _ ha.2.1.2.1, trivial⟩⟩⟩

      · go_enter Try.func23, Try.ntmps23
        go_wp2_with fail
        have H0 : Hid (Outs W.heap.size fp W (.slice none 0 0) (overAll 7 tp .nil) []) := Outs.start _ _ _
        go_loopw [5, 58] (fun v i wr => ∃ j : Nat, ∃ (f1 f2 : Fo) (gs : List Nat), j ≤ cn ∧ i = .int .i64 j ∧ q = f1.app f2 ∧ f1.len = j ∧ Hid (Ext W wr) ∧ Hid (Outs W.heap.size fp wr v (overAll 7 tp f1) gs)) (fun _ i _ => cn - (intOf i).toNat)
        case atStart => exact ⟨0, .nil, q, [], Nat.zero_le _, rfl, rfl, rfl, Ext.refl _, H0⟩
        case round =>
          obtain ⟨j, f1, f2, gs, hj, rfl, hq12, hf1, HE, HO2⟩ := hrel
          clear H0
          by_cases hlt : j < cn
          · cases f2 with
            | nil =>
              exfalso
              have h := HQL.out
              rw [hq12, Fo.app_nil, hf1] at h
              omega
            | cons n' k' r' =>
              have hQ2 := HQ.out
              rw [hq12] at hQ2
              obtain ⟨xb, fp1, hxb, hxF, hxs⟩ := isF_at hQ2
              rw [hf1] at hxb
              obtain ⟨eb, eoff, rfl, he⟩ := HMC.out j (ptr xb) (by rw [List.getElem?_map, hxb]; rfl)
              have e0 := HE.out.cell he
              have el := World.block_lt_of_cell? wr _ e0
              have HXF := Lib.hid hxF
              have HXS := Lib.hid hxs
              have hgs : gs.length = j := by rw [HO2.out.len, overAll_len, hf1]
              obtain ⟨va, vcap, hvv, -⟩ := owns_row HO2.out.own
              rw [hgs] at hvv
              subst hvv
              have HGS := Lib.hid hgs
              clear hgs
              have HQ12 := Lib.hid hq12
              have HF1 := Lib.hid hf1
              clear hQ2 hxb hxF hxs he hq12 hf1
              go_upto_region 7 with fail
              refine Late.wp_region_late (Ext wr) [(0, 0), (1, 0), (2, 0), (3, 0), (4, 0), (5, 1), (6, 0), (7, 0), (8, 0), (9, 0), (10, 1), (11, 0), (12, 2), (13, 2), (14, 3), (15, 3)] (by kernel_rfl) (by kernel_rfl) (Ext.refl wr).drew (fun hS => ?_)
              simp only [List.map, nthOp]
              refine seqL_yield rfl (fun w' => by go_simp; rfl) ?_
              try simp only [Act.put, List.setIfInBounds_toArray, List.set_cons_zero, List.set_cons_succ]
              refine seqL_yield rfl (fun w' => by go_simp; rfl) ?_
              try simp only [Act.put, List.setIfInBounds_toArray, List.set_cons_zero, List.set_cons_succ]
              refine seqL_yield rfl (fun w' => by go_simp; rfl) ?_
              try simp only [Act.put, List.setIfInBounds_toArray, List.set_cons_zero, List.set_cons_succ]
              refine seqL_yield rfl (fun w' => by go_simp; rfl) ?_
              try simp only [Act.put, List.setIfInBounds_toArray, List.set_cons_zero, List.set_cons_succ]
              refine seqL_yield rfl (fun w' => by go_simp; rfl) ?_
              try simp only [Act.put, List.setIfInBounds_toArray, List.set_cons_zero, List.set_cons_succ]
              refine seqL_read hS rfl (fun w' hE => by have q := hE.cell (HE.out.cell x0); clear hE; go_simp; rfl) ?_
              try simp only [Act.put, List.setIfInBounds_toArray, List.set_cons_zero, List.set_cons_succ]
              refine seqL_yield rfl (fun w' => by go_simp; rfl) ?_
              try simp only [Act.put, List.setIfInBounds_toArray, List.set_cons_zero, List.set_cons_succ]
              refine seqL_yield rfl (fun w' => by go_simp; rfl) ?_
              try simp only [Act.put, List.setIfInBounds_toArray, List.set_cons_zero, List.set_cons_succ]
              refine seqL_yield rfl (fun w' => by go_simp; rfl) ?_
              try simp only [Act.put, List.setIfInBounds_toArray, List.set_cons_zero, List.set_cons_succ]
              refine seqL_yield rfl (fun w' => by go_simp; rfl) ?_
              try simp only [Act.put, List.setIfInBounds_toArray, List.set_cons_zero, List.set_cons_succ]
              refine seqL_read hS rfl (fun w' hE => by have q := hE.cell (HE.out.cell x6); clear hE; go_simp; rfl) ?_
              try simp only [Act.put, List.setIfInBounds_toArray, List.set_cons_zero, List.set_cons_succ]
              refine seqL_yield rfl (fun w' => by go_simp; rfl) ?_
              try simp only [Act.put, List.setIfInBounds_toArray, List.set_cons_zero, List.set_cons_succ]
              refine seqL_grow rfl (fun K hK => ?_)
              have HKK := Lib.hid hK
              clear hK
              go_simp
              refine (quant2_any _ _ _ _).mono ?_
              rintro e w4 ⟨rfl, hw4⟩
              have hS4 : Ext wr w4 := by rw [hw4]; exact (hS.alloc _).alloc _
              have HT : Hid (∃ fpn, isF w4 (Fo.one (qNd 7 tp) (Fo.one n' k')) [wr.heap.size + 1] fpn ∧ ∀ x ∈ fpn, x ∈ fp ∨ wr.heap.size ≤ x) := by
                rw [hw4]
                obtain ⟨-, f, g1, g2⟩ := con_alloc (W := wr.drew) (N := wr.heap.size) rfl (HXF.out.ext (HE.out.trans hS)) #[ptr xb] rfl 1 rfl (by decide) 37 (qNd 7 tp) rfl
                exact ⟨f, g1, fun x hx => (g2 x hx).imp (fun h => HSUB.out x (HXS.out x h)) id⟩
              clear hw4
              refine HKK.out _ _ hS4 (fun _ => ?_)
              clear HKK K
              try simp only [Act.put, List.setIfInBounds_toArray, List.set_cons_zero, List.set_cons_succ]
              refine seqL_grow rfl (fun K hK => ?_)
              have HKK := Lib.hid hK
              clear hK
              go_simp
              refine HKK.out _ _ (hS4.alloc _) (fun hS1 => ?_)
              clear HKK K
              try simp only [Act.put, List.setIfInBounds_toArray, List.set_cons_zero, List.set_cons_succ]
              refine seqL_loud rfl (fun K hK => ?_)
              have HKK := Lib.hid hK
              clear hK
              refine wp_append_lies _ _ _ 40 rfl W.heap.size 37 i0 (.pointer none) 1 8 Try.underlying40 hi hz0 hz1 hz2 rfl (by decide) (.slice va j vcap) j (gs.map ptr) rfl (by have h := (HO2.out.ext hS1).own; rwa [HGS.out] at h) ⟨_, 0, none⟩ 1 1 [ptr (wr.heap.size + 1)] rfl rfl (cell_one_new _ _ _) (by simp [Value.oneCell']) (by decide) (by unfold maxLen; omega) (by omega) (by have h1 := HE.out.size; have h2 := hS1.size; omega) _ rfl ?_
              intro g' cap' w5 hown hgrow hat hlt'
              refine HKK.out _ _ ?_
              clear HKK K
              try simp only [Act.put, List.setIfInBounds_toArray, List.set_cons_zero, List.set_cons_succ]
              simp only [World.size_alloc] at hat
              have hE5 : Hid (Ext W w5) := (HE.out.trans hS1).of_grown hgrow (fun k hk => (HO2.out.own.lt k hk).1)
              have hO5 : Hid (Outs W.heap.size fp w5 (.slice (some ⟨g', 0, none⟩) (j + 1) cap') ((overAll 7 tp f1).app (Fo.one (qNd 7 tp) (Fo.one n' k'))) (gs ++ [wr.heap.size + 1])) := by
                obtain ⟨fpn, h1, h2⟩ := HT.out
                have h := Outs.step HO2.out HLT.out hS4 h1 h2 (o := .cells #[ptr (wr.heap.size + 1)] 37) (g := g') (cap := cap') (by rw [HGS.out]; exact hown) hgrow hat HE.out.size
                rw [HGS.out] at h
                exact h
              clear hown hgrow hat hlt'
              refine seqL_loud rfl (fun K hK => ?_)
              have HKK := Lib.hid hK
              clear hK
              go_simp
              refine HKK.out _ _ (seqL_nil ?_)
              clear HKK K
              try simp only [Act.put, List.setIfInBounds_toArray, List.set_cons_zero, List.set_cons_succ]
              clear hS hS1 hS4 x0 x6 e0
              have HREL : Hid (Outs W.heap.size fp w5 (.slice (some ⟨g', 0, none⟩) (j + 1) cap') (overAll 7 tp (f1.app (Fo.one n' k'))) (gs ++ [wr.heap.size + 1])) := by
                show Outs _ _ _ _ _ _
                rw [overAll_app]
                exact hO5.out
              go_wp2_with fail
              go_roundw
              case rel => exact ⟨j + 1, f1.app (Fo.one n' k'), r', gs ++ [wr.heap.size + 1], by omega, by go_num, by rw [Fo.app_assoc]; exact HQ12.out, by rw [Fo.len_app, HF1.out]; rfl, hE5, HREL⟩
              case measure => simp [intOf]; omega
          · have hjN : j = cn := by omega
            subst hjN
            obtain rfl : f2 = .nil := by
              have h := HQL.out
              rw [hq12, Fo.len_app, hf1] at h
              cases f2 with
              | nil => rfl
              | cons _ _ _ => simp [Fo.len] at h
            rw [Fo.app_nil] at hq12
            subst hq12
            have hgs : gs.length = j := by rw [HO2.out.len, overAll_len, hf1]
            obtain ⟨va, vcap, hvv, -⟩ := owns_row HO2.out.own
            rw [hgs] at hvv
            subst hvv
            have y0' := HE.out.cell y0
            have x7' := HE.out.cell x7
            have k0' := HE.out.cell hk0
            have hsE := HE.out.size
            clear hf1 hgs
            go_wp2_with fail
            refine (con_any _ _ _ _ _).mono ?_
            rintro e w5 ⟨rfl, hw5⟩
            have HW5 := Lib.hid hw5
            clear hw5
            go_wp2
            go_ret
            have hcan : canPart G ⟨7, pd, ar, lf, rg, tp⟩ (Fo.one ⟨6, mpd, mar, mlf, mrg, mtp⟩ q) = true := by simp [canPart, Fo.one]
            obtain ⟨fpn, h1, h2⟩ := HO2.out.done (zNd 6) rfl hsE
            rw [hcan, HW5.out]
            have hc := HCNT.out
            have ha := HAL.out
            have hoc := overAll_count 7 tp q
            simp only [Fo.one, Fo.count] at hc
            exact ⟨Ext1.of (HE.out.alloc _) _, .inr ⟨rfl, wr.heap.size, zNd 6, _, fpn, rfl, h1, fun x hx => h2 x hx, part_same D atoms G ⟨7, pd, ar, lf, rg, tp⟩ ⟨6, mpd, mar, mlf, mrg, mtp⟩ q (by simp) HO.out HS.out, by rw [Fo.count_one]; show (overAll 7 tp q).count + 1 ≤ 2000; omega, ⟨by simp [zNd], overAll_args _ _ _ ha.2.1.2.1, trivial⟩⟩⟩

    · have hcan : canPart G ⟨kd, pd, ar, lf, rg, tp⟩ (Fo.one ⟨md, mpd, mar, mlf, mrg, mtp⟩ q) = false := by
        simp only [canPart, Fo.one]
        have h1 : (kd = 8 ∧ md = 5) = False := by simpa using fun h h' => hgo (.inl ⟨h, h'⟩)
        have h2 : (kd = 7 ∧ md = 6) = False := by simpa using fun h h' => hgo (.inr ⟨h, h'⟩)
        simp only [← Bool.decide_and, h1, h2]
        rfl
      rw [hcan]
      rcases hq with rfl | rfl
      · have hm : (md == 5) = false := by simpa using fun h => hgo (.inl ⟨rfl, h⟩)
        go_enter Try.func23, Try.ntmps23
        go_wp2
        go_ret
        exact ⟨Ext1.of (Ext.refl W) _, .inl ⟨rfl, rfl⟩⟩
      · have hm : (md == 6) = false := by simpa using fun h => hgo (.inr ⟨rfl, h⟩)
        go_enter Try.func23, Try.ntmps23
        go_wp2
        go_ret
        exact ⟨Ext1.of (Ext.refl W) _, .inl ⟨rfl, rfl⟩⟩
  · have h8 : (kd == 8) = false := by simpa using fun h => hq (.inl h)
    have h7 : (kd == 7) = false := by simpa using fun h => hq (.inr h)
    have hcan : canPart G ⟨kd, pd, ar, lf, rg, tp⟩ k = false := by
      cases k with
      | nil => rfl
      | cons m q r =>
        have g8 : ¬ kd = 8 := fun h => hq (.inl h)
        have g7 : ¬ kd = 7 := fun h => hq (.inr h)
        simp [canPart, g8, g7]
    rw [hcan]
    go_enter Try.func23, Try.ntmps23
    go_wp2
    go_ret
    exact ⟨Ext1.of (Ext.refl W) _, .inl ⟨rfl, rfl⟩⟩
end Go.Proofs.Ytodlkjjoenglgaa

/- topQuantsParted. -/
namespace Go.Proofs.Ytodlkjjoenglgaa
open Go Go.RowKit Go.ChangeShapes Go.WideShapes Go.ChangeAt

set_option maxRecDepth 100000 in
set_option maxHeartbeats 8000000 in
theorem f6_any (w : World) (d : DomV) (D : Dom) (hd : DomAt w d D) (tv nv : Value) (C : Cnd) (hc : CndAt w tv nv C) (lv : Value) (atoms : List AtD) (hl : Sl w 2 32 rAtom lv atoms) (av : Value) (args : List Int) (ha : IntsAt w av args) (which : Int) :
    Calls Try.prog 6 #[.agg d.cells, .agg #[tv, nv], lv, av, i64 which] w fun e w' => e = .returned (.bool true) ∧ Ext w w' := by
  have hlaw := fun (W : World) (hW : Ext w W) (w2 : World) (h : Ext W w2) cb bb wb =>
    law_any w2 d D (hd.ext (hW.trans h)) tv nv C (hc.ext (hW.trans h)) lv atoms (Sl.ext hl (hW.trans h) (rAtom.ext (hW.trans h))) av args (ha.ext (hW.trans h)) 23 #[] canPart
      (fun hv => part_any w2 D atoms) cb bb wb which
  obtain ⟨ta, tn, tcap, htv⟩ := Sl.slice hc.types
  obtain ⟨na, nn, ncap, hnv⟩ := Sl.slice hc.nodes
  obtain ⟨la, ln, lcap, hlv⟩ := Sl.slice hl
  obtain ⟨aa, an, acap, hav⟩ := Sl.slice ha
  obtain ⟨t1, tn1, tcap1, e1⟩ := hd.types.slice
  obtain ⟨t2, tn2, tcap2, e2⟩ := hd.objects.slice
  obtain ⟨t3, tn3, tcap3, e3⟩ := hd.preds.slice
  obtain ⟨t4, tn4, tcap4, e4⟩ := hd.schemas.slice
  obtain ⟨t5, tn5, tcap5, e5⟩ := hd.init.slice
  obtain ⟨t6, tn6, tcap6, e6⟩ := hd.goal.slice
  have hdc : d.cells = #[d.tv, d.ov, d.pv, d.sv, d.iv, d.gv] := rfl
  rw [hdc] at hlaw ⊢
  subst htv hnv hlv hav
  simp only [e1, e2, e3, e4, e5, e6] at hlaw ⊢
  clear hd hc hl ha hdc e1 e2 e3 e4 e5 e6
  go_enter Try.func6, Try.ntmps6
  go_upto_region 1 with fail
  generalize hW1 : World.alloc _ _ = W1
  have HE1 : Hid (Ext w W1) := by show Ext w W1; rw [← hW1]; exact (Ext.alloc (Ext.alloc (Ext.refl w) _) _)
  have B0 : Hid (W1.heap[w.heap.size]? = some (.cells #[.slice t1 tn1 tcap1, .slice t2 tn2 tcap2, .slice t3 tn3 tcap3, .slice t4 tn4 tcap4, .slice t5 tn5 tcap5, .slice t6 tn6 tcap6] 29)) := by
    show W1.heap[_]? = _
    rw [← hW1]
    have h := heap_alloc_new w (.cells #[.slice t1 tn1 tcap1, .slice t2 tn2 tcap2, .slice t3 tn3 tcap3, .slice t4 tn4 tcap4, .slice t5 tn5 tcap5, .slice t6 tn6 tcap6] 29)
    exact Ext.block (Ext.alloc (Ext.refl _) _) h
  have B1 : Hid (W1.heap[w.heap.size + 1]? = some (.cells #[.slice ta tn tcap, .slice na nn ncap] 33)) := by
    show W1.heap[_]? = _
    rw [← hW1]
    have h := heap_alloc_new (w.alloc (.cells #[.slice t1 tn1 tcap1, .slice t2 tn2 tcap2, .slice t3 tn3 tcap3, .slice t4 tn4 tcap4, .slice t5 tn5 tcap5, .slice t6 tn6 tcap6] 29)) (.cells #[.slice ta tn tcap, .slice na nn ncap] 33)
    simp only [World.size_alloc] at h
    exact Ext.block (Ext.refl _) h
  have HLAW := Lib.hid (hlaw W1 HE1.out)
  clear hlaw hW1
  refine wp_region_seq (Ext W1) [(0, 1), (1, 1), (2, 0), (3, 0), (4, 1), (5, 0), (6, 2), (7, 2), (8, 0)] (by kernel_rfl) (by kernel_rfl) (Ext.refl W1).drew (fun hS => ?_)
  simp only [List.map, nthOp]
  refine seqL_read hS rfl (fun w' hE => by obtain ⟨q0, q1, q2, q3, q4, q5, -⟩ := six_facts (hE.block B0.out); clear hE; go_simp; rfl) ?_
  try simp only [Act.put, List.setIfInBounds_toArray, List.set_cons_zero, List.set_cons_succ]
  refine seqL_read hS rfl (fun w' hE => by obtain ⟨q0, q1, -⟩ := two_facts (hE.block B1.out); clear hE; go_simp; rfl) ?_
  try simp only [Act.put, List.setIfInBounds_toArray, List.set_cons_zero, List.set_cons_succ]
  refine seqL_yield rfl (fun w' => by go_simp; rfl) ?_
  try simp only [Act.put, List.setIfInBounds_toArray, List.set_cons_zero, List.set_cons_succ]
  refine seqL_yield rfl (fun w' => by go_simp; rfl) ?_
  try simp only [Act.put, List.setIfInBounds_toArray, List.set_cons_zero, List.set_cons_succ]
  refine seqL_read hS rfl (fun w' hE => by obtain ⟨q0, q1, -⟩ := two_facts (hE.block B1.out); clear hE; go_simp; rfl) ?_
  try simp only [Act.put, List.setIfInBounds_toArray, List.set_cons_zero, List.set_cons_succ]
  refine seqL_yield rfl (fun w' => by go_simp; rfl) ?_
  try simp only [Act.put, List.setIfInBounds_toArray, List.set_cons_zero, List.set_cons_succ]
  refine seqL_grow rfl (fun K hK => ?_)
  have HKK := Lib.hid hK
  clear hK
  go_simp
  refine (mkchange_ok _ ta na tn tcap nn ncap which 23 _).mono ?_
  rintro e w2 ⟨cb, bb, wb, rfl, hE2, hcb, hbb, hwb⟩
  refine HKK.out _ _ (hS.trans hE2) (fun _ => ?_)
  clear HKK K
  replace hS := hS.trans hE2
  try simp only [Act.put, List.setIfInBounds_toArray, List.set_cons_zero, List.set_cons_succ]
  refine seqL_grow rfl (fun K hK => ?_)
  have HKK := Lib.hid hK
  clear hK
  go_simp
  refine (HLAW.out w2 hS cb bb wb hcb hbb hwb).mono ?_
  rintro e w3 ⟨rfl, hE3⟩
  refine HKK.out _ _ (hS.trans hE3) (fun _ => ?_)
  clear HKK K
  replace hS := hS.trans hE3
  try simp only [Act.put, List.setIfInBounds_toArray, List.set_cons_zero, List.set_cons_succ]
  refine seqL_yield rfl (fun w' => by go_simp; rfl) ?_
  try simp only [Act.put, List.setIfInBounds_toArray, List.set_cons_zero, List.set_cons_succ]
  refine seqL_nil ?_
  have HS := Lib.hid (HE1.out.trans hS)
  go_wp2
  go_ret
  exact ⟨rfl, HS.out⟩

set_option maxRecDepth 100000 in
theorem f6_lifted (os : Os) (started : os.Started) (H : Type) (enc : TypeId × Value → H) :
    ReturnsInHanded {} Try.checked os 6 .any (Rows.topQuantsPartedSpec.pre6 enc Try.prog Try.f6 Rows.topQuantsPartedRow.domain false) (Rows.topQuantsPartedSpec.post enc Try.prog Try.f6 false true false false) := by
  refine returnsInHanded_of_change_sized (C := Try.checked) own started (by kernel_rfl) Try.func6
    (ChangeSpec.witness6 (enc := enc) (C := Try.checked) false ⟨#[], #[.agg #[.slice none 0 0, .slice none 0 0, .slice none 0 0, .slice none 0 0, .slice none 0 0, .slice none 0 0], .agg #[.slice none 0 0, .slice none 0 0], .slice none 0 0, .slice none 0 0, .int .i64 0], []⟩ 8 (by kernel_rfl) (by kernel_rfl) (by kernel_rfl) (by kernel_rfl)) ?_
  intro W base args ds gs before hval0 hW _ hz _
  have hval : ∀ (j : Nat) t v, Try.f6.params[j]? = some t → args[j]? = some v → Value.okWide Try.prog W .any base t v := hval0
  have hW' := hW
  obtain ⟨p, q, hA0, hV, rfl, -, -⟩ := hW
  obtain ⟨rfl, rfl⟩ := trodVars_none hV
  have hA : DataW.TrodAll enc Try.prog W 0 (fun _ => true) true [29, 33, 26, 30, 3] args.toList ds p := hA0
  have hz' : (DataW.weightsEach Try.prog [29, 33, 26, 30, 3] ds).all (· ≤ reachBytes) = true := by
    have h : (DataW.weightsEach Try.prog ([29, 33, 26, 30, 3] ++ []) (ds ++ [])).all (· ≤ reachBytes) = true := hz
    rwa [List.append_nil, List.append_nil] at h
  obtain ⟨d, D, tv, nv, C, lv, atoms, av, argl, which, vs, dr, pr, hargs, hD, hC, hl, ha, hAr, hvr, d1, d2, d3, d4, d5, rfl⟩ := args_read (ts := []) (base := base) hA (fun j t v ht hv => hval j t v (by rw [← Array.getElem?_toList]; exact ht) (by rw [← Array.getElem?_toList]; exact hv)) hz'
  obtain ⟨rfl, rfl, rfl⟩ := trodAll_nil hAr
  obtain rfl : args = #[.agg d.cells, .agg #[tv, nv], lv, av, i64 which] := Array.toList_inj.1 hargs
  refine (f6_any W d D hD tv nv C hC lv atoms hl av argl ha which).mono fun e W' ⟨he, hE⟩ => ?_
  subst he
  exact ⟨_, rfl, law_post hW' rfl (fun t ht => by
    have ht : t ∈ [29, 33, 26, 30, 3] := ht
    simp only [List.mem_cons, List.not_mem_nil, or_false] at ht
    exact param_ok (by rcases ht with h | h | h | h | h <;> simp [h])) rfl rfl rfl rfl hE⟩

theorem topQuantsParted_holds : Rows.TopQuantsPartedSaid :=
  OpenClaim.holds_of_wide 6 Try.f6 rfl rfl rfl rfl rfl rfl rfl ⟨rfl, rfl, rfl, rfl, rfl⟩ rfl rfl rfl rfl rfl (by kernel_rfl) Try.func6 (by kernel_rfl)
    (of_decide_eq_true (by kernel_rfl)) (by unfold Func.isWrapper; rw [if_neg (by decide +kernel)]; exact ⟨rfl, rfl⟩)
    (fun os started H enc _ => f6_lifted os started H enc)
end Go.Proofs.Ytodlkjjoenglgaa
