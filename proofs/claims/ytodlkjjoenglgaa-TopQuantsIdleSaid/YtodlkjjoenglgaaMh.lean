/- Parts of a proof about conditions: Ng1 Ng2 Ng3 Ng4 Ng5 Ng6. -/
import Derived.Test.YtodlkjjoenglgaaMg
import Derived.Deep.CutRange
import Derived.Test.YtodlkjjoenglgaaMf
/- The negator in memory: what holds between its calls. -/
namespace Go.Proofs.Ytodlkjjoenglgaa
open Go Go.RowKit

/-- An owned row asks for its block alone. -/
theorem owns_at {w w' : World} {base : Nat} {e : TypeId} {sz : Nat} {v : Value} {n : Nat} {xs : List Value} (h : w.ownsRow base e sz v n xs) (hk : ∀ g, v.ownBlock = some g → w'.heap[g]? = w.heap[g]?) : w'.ownsRow base e sz v n xs := by
  obtain ⟨hl, h⟩ := h
  refine ⟨hl, ?_⟩
  rcases h with h | ⟨g, cap, cur, rfl, h2, h3, h4⟩
  · exact .inl h
  · exact .inr ⟨g, cap, cur, rfl, h2, (hk g rfl).trans h3, h4⟩

abbrev ndCells (x : Nd) (cv av : Value) : List Value := [i64 x.kind, cv, i64 x.pred, av, i64 x.left, i64 x.right, i64 x.typ]
/-- A row of nodes; fp: the blocks of their arrays. -/
def OutAt (W : World) : List (Nd × List Int) → List Value → List Nat → Prop
  | [], cs, fp => cs = [] ∧ fp = []
  | (x, ks) :: r, cs, fp => ∃ cv av fc fa cs' fp', cs = ndCells x cv av ++ cs' ∧ fp = fc ++ (fa ++ fp') ∧ Arr W fc cv (ks.map i64) ∧ Arr W fa av (x.args.map i64) ∧ ks.length * 8 ≤ 140737488351232 ∧ x.args.length * 8 ≤ 140737488351232 ∧ OutAt W r cs' fp'
theorem OutAt.kept {W W' : World} : ∀ {l : List (Nd × List Int)} {cs : List Value} {fp : List Nat}, OutAt W l cs fp → (∀ x ∈ fp, W'.heap[x]? = W.heap[x]?) → OutAt W' l cs fp := by
  intro l
  induction l with
  | nil => intro cs fp h _; exact h
  | cons x r ih =>
    rintro cs fp ⟨cv, av, fc, fa, cs', fp', rfl, rfl, h1, h2, b1, b2, h3⟩ hk
    exact ⟨cv, av, fc, fa, cs', fp', rfl, rfl, h1.kept fun x hx => hk x (by simp [hx]), h2.kept fun x hx => hk x (by simp [hx]), b1, b2, ih h3 fun x hx => hk x (by simp [hx])⟩
theorem OutAt.lt {W : World} : ∀ {l : List (Nd × List Int)} {cs : List Value} {fp : List Nat}, OutAt W l cs fp → ∀ x ∈ fp, x < W.heap.size := by
  intro l
  induction l with
  | nil => rintro cs fp ⟨-, rfl⟩ x hx; cases hx
  | cons x r ih =>
    rintro cs fp ⟨cv, av, fc, fa, cs', fp', rfl, rfl, h1, h2, b1, b2, h3⟩ y hy
    simp only [List.mem_append] at hy
    rcases hy with hy | hy | hy
    · exact h1.lt y hy
    · exact h2.lt y hy
    · exact ih h3 y hy
theorem OutAt.snoc {W : World} {x : Nd} {ks : List Int} {cv av : Value} {fc fa : List Nat} (h1 : Arr W fc cv (ks.map i64)) (h2 : Arr W fa av (x.args.map i64)) (b1 : ks.length * 8 ≤ 140737488351232) (b2 : x.args.length * 8 ≤ 140737488351232) :
    ∀ {l : List (Nd × List Int)} {cs : List Value} {fp : List Nat}, OutAt W l cs fp → OutAt W (l ++ [(x, ks)]) (cs ++ ndCells x cv av) (fp ++ (fc ++ fa)) := by
  intro l
  induction l with
  | nil => rintro cs fp ⟨rfl, rfl⟩; exact ⟨cv, av, fc, fa, [], [], by simp, by simp, h1, h2, b1, b2, rfl, rfl⟩
  | cons y r ih =>
    rintro cs fp ⟨cv', av', fc', fa', cs', fp', rfl, rfl, g1, g2, c1, c2, g3⟩
    exact ⟨cv', av', fc', fa', _, _, by simp, by simp, g1, g2, c1, c2, ih g3⟩
theorem OutAt.get {W : World} : ∀ {l : List (Nd × List Int)} {cs : List Value} {fp : List Nat}, OutAt W l cs fp → ∀ (i : Nat) x ks, l[i]? = some (x, ks) →
    ∃ cv av, (∃ fc, Arr W fc cv (ks.map i64)) ∧ (∃ fa, Arr W fa av (x.args.map i64)) ∧ ks.length * 8 ≤ 140737488351232 ∧ x.args.length * 8 ≤ 140737488351232 ∧ ∀ j y, (ndCells x cv av)[j]? = some y → cs[i * 7 + j]? = some y := by
  intro l
  induction l with
  | nil => intro cs fp _ i x ks h; simp at h
  | cons z r ih =>
    rintro cs fp ⟨cv, av, fc, fa, cs', fp', rfl, rfl, h1, h2, b1, b2, h3⟩ i x ks hi
    cases i with
    | zero =>
      simp only [List.getElem?_cons_zero, Option.some.injEq] at hi
      subst hi
      exact ⟨cv, av, ⟨fc, h1⟩, ⟨fa, h2⟩, b1, b2, fun j y hj => by rw [Nat.zero_mul, Nat.zero_add, List.getElem?_append_left (List.getElem?_eq_some_iff.1 hj).1]; exact hj⟩
    | succ i =>
      obtain ⟨cv', av', g1, g2, g3, g4, g5⟩ := ih h3 i x ks (by simpa using hi)
      refine ⟨cv', av', g1, g2, g3, g4, fun j y hj => ?_⟩
      rw [List.getElem?_append_right (by simp; omega)]
      have := g5 j y hj
      simp only [List.length_cons, List.length_nil]
      rw [show (i + 1) * 7 + j - (0 + 1 + 1 + 1 + 1 + 1 + 1 + 1) = i * 7 + j by omega]
      exact this
theorem OutAt.len {W : World} : ∀ {l : List (Nd × List Int)} {cs : List Value} {fp : List Nat}, OutAt W l cs fp → cs.length = l.length * 7 := by
  intro l
  induction l with
  | nil => rintro cs fp ⟨rfl, rfl⟩; rfl
  | cons y r ih =>
    rintro cs fp ⟨cv', av', fc', fa', cs', fp', rfl, rfl, g1, g2, c1, c2, g3⟩
    simp [ih g3]; omega
theorem OutAt.sl {W : World} {base : Nat} {ov : Value} {l : List (Nd × List Int)} {cs : List Value} {fp : List Nat} (h : OutAt W l cs fp) (ho : W.ownsRow base 48 7 ov l.length cs) (hb : l.length * 88 ≤ 140737488351232) : Sl W 7 88 rNode ov l := by
  obtain ⟨a, cap, rfl, h1, h2, hr⟩ := owns_row ho
  refine ⟨a, cap, rfl, h1, h2, hb, fun i y hi => ?_⟩
  obtain ⟨x, ks⟩ := y
  obtain ⟨cv, av, ⟨fc, g1⟩, ⟨fa, g2⟩, b1, b2, g5⟩ := h.get i x ks hi
  exact ⟨ndCells x cv av, rfl, ⟨cv, av, rfl, IntsAt.of_rd g1.rd b1, IntsAt.of_rd g2.rd b2⟩, hr i (List.getElem?_eq_some_iff.1 hi).1 _ (Nat.le_refl _) g5⟩

/-- The negator in block gb: iv: what it reads; ov: what it has written. -/
structure Ng (w0 W : World) (gb : Nat) (iv ov : Value) (fp : List Nat) (out : List (Nd × List Int)) : Prop where
  ext : Ext w0 W
  cell : W.heap[gb]? = some (.cells #[iv, ov] 109)
  low : w0.heap.size ≤ gb
  nodes : ∃ cs, W.ownsRow w0.heap.size 48 7 ov out.length cs ∧ OutAt W out cs fp
  far : gb ∉ fp
  sep : ∀ g, ov.ownBlock = some g → g ≠ gb ∧ g ∉ fp
  new : ∀ x ∈ fp, w0.heap.size ≤ x

theorem Ng.own {w0 W : World} {gb : Nat} {iv ov : Value} {fp : List Nat} {out : List (Nd × List Int)} (h : Ng w0 W gb iv ov fp out) : ∀ g, ov.ownBlock = some g → w0.heap.size ≤ g ∧ g < W.heap.size := by
  obtain ⟨cs, h1, -⟩ := h.nodes
  exact h1.lt
theorem Ng.lt {w0 W : World} {gb : Nat} {iv ov : Value} {fp : List Nat} {out : List (Nd × List Int)} (h : Ng w0 W gb iv ov fp out) : ∀ x ∈ fp, x < W.heap.size := by
  obtain ⟨cs, -, h1⟩ := h.nodes
  exact h1.lt
/-- What the negator asks of a world's change. -/
theorem Ng.kept {w0 W W' : World} {gb : Nat} {iv ov : Value} {fp : List Nat} {out : List (Nd × List Int)} (h : Ng w0 W gb iv ov fp out) (e : Ext w0 W') (hg : W'.heap[gb]? = W.heap[gb]?) (ho : ∀ g, ov.ownBlock = some g → W'.heap[g]? = W.heap[g]?) (hf : ∀ x ∈ fp, W'.heap[x]? = W.heap[x]?) : Ng w0 W' gb iv ov fp out := by
  obtain ⟨cs, h1, h2⟩ := h.nodes
  exact ⟨e, hg.trans h.cell, h.low, ⟨cs, owns_at h1 ho, h2.kept hf⟩, h.far, h.sep, h.new⟩
theorem Ng.ext' {w0 W W' : World} {gb : Nat} {iv ov : Value} {fp : List Nat} {out : List (Nd × List Int)} (h : Ng w0 W gb iv ov fp out) (e : Ext W W') : Ng w0 W' gb iv ov fp out :=
  h.kept (h.ext.trans e) (Below.block e gb (heap_lt h.cell)) (fun g hg => Below.block e g (h.own g hg).2) (fun x hx => Below.block e x (h.lt x hx))

/-- What a call of the negator's has changed: the negator, and what it owned. -/
structure Frm (W W' : World) (gb : Nat) (ov ov' : Value) (fp fp' : List Nat) : Prop where
  size : W.heap.size ≤ W'.heap.size
  blk : ∀ x, x < W.heap.size → x ≠ gb → ov.ownBlock ≠ some x → W'.heap[x]? = W.heap[x]?
  own : ∀ g, ov'.ownBlock = some g → ov.ownBlock = some g ∨ W.heap.size ≤ g
  fps : ∀ x ∈ fp', x ∈ fp ∨ W.heap.size ≤ x
theorem Frm.refl (W : World) (gb : Nat) (ov : Value) (fp : List Nat) : Frm W W gb ov ov fp fp := ⟨Nat.le_refl _, fun _ _ _ _ => rfl, fun _ h => .inl h, fun _ h => .inl h⟩
theorem Frm.ext {W W' : World} (e : Ext W W') (gb : Nat) (ov : Value) (fp : List Nat) : Frm W W' gb ov ov fp fp := ⟨e.size, fun x hx _ _ => Below.block e x hx, fun _ h => .inl h, fun _ h => .inl h⟩
theorem Frm.trans {W W1 W2 : World} {gb : Nat} {ov ov1 ov2 : Value} {fp fp1 fp2 : List Nat} (h : Frm W W1 gb ov ov1 fp fp1) (k : Frm W1 W2 gb ov1 ov2 fp1 fp2) : Frm W W2 gb ov ov2 fp fp2 := by
  refine ⟨Nat.le_trans h.size k.size, fun x hx hg ho => ?_, fun g hg => ?_, fun x hx => ?_⟩
  · rw [k.blk x (Nat.lt_of_lt_of_le hx h.size) hg (fun e => ?_), h.blk x hx hg ho]
    rcases h.own x e with h' | h'
    · exact ho h'
    · omega
  · rcases k.own g hg with h' | h'
    · exact h.own g h'
    · have := h.size; right; omega
  · rcases k.fps x hx with h' | h'
    · exact h.fps x h'
    · have := h.size; right; omega
/-- Whatever changed besides is newer than W. -/
theorem Frm.more {W W1 W2 : World} {gb : Nat} {ov ov1 : Value} {fp fp1 : List Nat} (h : Frm W W1 gb ov ov1 fp fp1) (hs : W1.heap.size ≤ W2.heap.size) (hk : ∀ x, x < W.heap.size → W2.heap[x]? = W1.heap[x]?) : Frm W W2 gb ov ov1 fp fp1 :=
  ⟨Nat.le_trans h.size hs, fun x hx hg ho => (hk x hx).trans (h.blk x hx hg ho), h.own, h.fps⟩

theorem ng_count (f : Fo) : ∀ b, (ngF b f).count ≤ 2 * f.count := by
  induction f with
  | nil => intro b; simp [ngF, Fo.count]
  | cons n k r ihk ihr =>
    intro b
    rw [ngF, Fo.count_app]
    have h1 := ihr b
    have h2 := ihk b
    have h3 := ihk (!b)
    simp only [Fo.count]
    split
    · omega
    · unfold ngN
      split
      · rw [Fo.count_one]; omega
      · split
        · rw [Fo.count_one]; simp [Fo.count]; omega
        · split
          · rw [Fo.count_one, Fo.count_one]; show _ + _ + _ + _ ≤ _; omega
          · rw [Fo.count_one]; show _ + _ + _ ≤ _; omega
end Go.Proofs.Ytodlkjjoenglgaa

/- condition's negator: put, dual. -/
namespace Go.Proofs.Ytodlkjjoenglgaa
open Go Go.RowKit

theorem info48 : (Try.prog.info? 48).map (fun i => (i.zero, i.size, i.bytes)) = some (some (.agg #[.int .i64 0, .slice none 0 0, .int .i64 0, .slice none 0 0, .int .i64 0, .int .i64 0, .int .i64 0]), 7, 88) := by kernel_rfl

theorem dual_any (w : World) (k : Int) : Calls Try.prog 98 #[i64 k] w fun e w' => e = .returned (i64 (dual k)) ∧ w = w' := by
  obtain ⟨r, hr⟩ : ∃ r, dual k = r := ⟨_, rfl⟩
  rw [hr]
  unfold dual at hr
  by_cases h5 : k = 5
  · subst h5
    rw [if_pos rfl] at hr
    subst hr
    go_enter Try.func98, Try.ntmps98
    go_wp2
    go_ret
    exact ⟨rfl, rfl⟩
  · rw [if_neg h5] at hr
    by_cases h6 : k = 6
    · subst h6
      rw [if_pos rfl] at hr
      subst hr
      clear h5
      go_enter Try.func98, Try.ntmps98
      go_wp2
      go_ret
      exact ⟨rfl, rfl⟩
    · rw [if_neg h6] at hr
      by_cases h7 : k = 7
      · subst h7
        rw [if_pos rfl] at hr
        subst hr
        clear h5 h6
        go_enter Try.func98, Try.ntmps98
        go_wp2
        go_ret
        exact ⟨rfl, rfl⟩
      · rw [if_neg h7] at hr
        by_cases h8 : k = 8
        · subst h8
          rw [if_pos rfl] at hr
          subst hr
          clear h5 h6 h7
          go_enter Try.func98, Try.ntmps98
          go_wp2
          go_ret
          exact ⟨rfl, rfl⟩
        · rw [if_neg h8] at hr
          subst hr
          have b5 : (k == 5) = false := by simpa using h5
          have b6 : (k == 6) = false := by simpa using h6
          have b7 : (k == 7) = false := by simpa using h7
          have b8 : (k == 8) = false := by simpa using h8
          clear h5 h6 h7 h8
          go_enter Try.func98, Try.ntmps98
          go_wp2
          go_ret
          exact ⟨rfl, rfl⟩

def PutPost (w0 W : World) (gb : Nat) (iv ov : Value) (fp f' : List Nat) (out : List (Nd × List Int)) (x : Nd) (ks : List Int) (e : Ending) (W' : World) : Prop :=
  e = .returned (i64 (out.length : Int)) ∧ ∃ ov', Ng w0 W' gb iv ov' (fp ++ f') (out ++ [(x, ks)]) ∧ W.heap.size ≤ W'.heap.size ∧ (∀ y, y < W.heap.size → y ≠ gb → ov.ownBlock ≠ some y → W'.heap[y]? = W.heap[y]?) ∧ ∀ g, ov'.ownBlock = some g → ov.ownBlock = some g ∨ W.heap.size ≤ g

/-- A node more: W1: behind what put makes; w4: behind the append; then gb's cell 1 is written. -/
theorem Ng.step {w0 W W1 w4 : World} {gb : Nat} {iv ov : Value} {fp fc fa : List Nat} {out : List (Nd × List Int)} (h : Ng w0 W gb iv ov fp out) (e : Ext W W1) {x : Nd} {ks : List Int} {cv av : Value}
    (hcv : Arr W fc cv (ks.map i64)) (hav : Arr W fa av (x.args.map i64)) (b1 : ks.length * 8 ≤ 140737488351232) (b2 : x.args.length * 8 ≤ 140737488351232) (hsep : ∀ y ∈ fc ++ fa, w0.heap.size ≤ y ∧ y ≠ gb ∧ ov.ownBlock ≠ some y)
    {cs : List Value} (ho : OutAt W out cs fp) {g cap n : Nat} (hn : out.length = n) (hown : w4.ownsRow w0.heap.size 48 7 (.slice (some ⟨g, 0, none⟩) (n + 1) cap) (n + 1) (cs ++ ndCells x cv av)) (hg : W1.grownBy w4 ov.ownBlock) (hat : ov.ownBlock = some g ∨ g = W1.heap.size) :
    Ng w0 (w4.setCell ⟨gb, 1, none⟩ (.slice (some ⟨g, 0, none⟩) (n + 1) cap)) gb iv (.slice (some ⟨g, 0, none⟩) (n + 1) cap) (fp ++ (fc ++ fa)) (out ++ [(x, ks)]) ∧
    W.heap.size ≤ (w4.setCell ⟨gb, 1, none⟩ (.slice (some ⟨g, 0, none⟩) (n + 1) cap)).heap.size ∧
    (∀ y, y < W.heap.size → y ≠ gb → ov.ownBlock ≠ some y → (w4.setCell ⟨gb, 1, none⟩ (.slice (some ⟨g, 0, none⟩) (n + 1) cap)).heap[y]? = W.heap[y]?) ∧
    ∀ g', (Value.slice (some ⟨g, 0, none⟩) (n + 1) cap).ownBlock = some g' → ov.ownBlock = some g' ∨ W.heap.size ≤ g' := by
  have hsz := e.size
  have hsz4 := hg.size
  have hgb := heap_lt h.cell
  have keep : ∀ y, y < W.heap.size → y ≠ gb → ov.ownBlock ≠ some y → (w4.setCell ⟨gb, 1, none⟩ (.slice (some ⟨g, 0, none⟩) (n + 1) cap)).heap[y]? = W.heap[y]? := fun y hy hne ho => by
    rw [heap_setCell_ne _ hne, hg.block y (by omega) (fun e => ho e.symm)]
    exact Below.block e y hy
  have hcell : w4.heap[gb]? = some (.cells #[iv, ov] 109) := by
    rw [hg.block gb (by omega) (fun e => (h.sep gb e.symm).1 rfl), Below.block e gb hgb]
    exact h.cell
  have hgne : g ≠ gb := by
    rcases hat with h' | h'
    · exact (h.sep g h').1
    · omega
  have hfar : ∀ y, y < W.heap.size → ov.ownBlock ≠ some y → y ≠ g := fun y hy ho e => by
    rcases hat with h' | h'
    · exact ho (by rw [e]; exact h')
    · omega
  have hfl := h.lt
  have hcl := hcv.lt
  have hal := hav.lt
  refine ⟨⟨?_, heap_setCell_at _ hcell, h.low, ⟨cs ++ ndCells x cv av, ?_, ?_⟩, ?_, fun g' hg' => ?_, fun y hy => ?_⟩, by simp; omega, keep, fun g' hg' => ?_⟩
  · exact ((h.ext.trans e).of_grown hg (fun k hk => (h.own k hk).1)).setCell h.low _
  · rw [List.length_append, hn]
    exact owns_at hown fun g' hg' => by
      have : g' = g := by simpa [Value.ownBlock, eq_comm] using hg'
      subst this
      exact heap_setCell_ne _ hgne
  · refine OutAt.snoc (hcv.kept fun y hy => ?_) (hav.kept fun y hy => ?_) b1 b2 (ho.kept fun y hy => ?_)
    · have := hsep y (by simp [hy]); exact keep y (hcl y hy) this.2.1 this.2.2
    · have := hsep y (by simp [hy]); exact keep y (hal y hy) this.2.1 this.2.2
    · exact keep y (hfl y hy) (fun e => h.far (e ▸ hy)) (fun e => (h.sep y e).2 hy)
  · rw [List.mem_append, not_or]
    exact ⟨h.far, fun hm => (hsep gb hm).2.1 rfl⟩
  · have : g' = g := by simpa [Value.ownBlock, eq_comm] using hg'
    subst this
    refine ⟨hgne, ?_⟩
    rw [List.mem_append, not_or]
    refine ⟨fun hm => hfar g' (hfl g' hm) (fun e => (h.sep g' e).2 hm) rfl, fun hm => hfar g' ?_ (hsep g' hm).2.2 rfl⟩
    rcases List.mem_append.1 hm with hm | hm
    · exact hcl g' hm
    · exact hal g' hm
  · rcases List.mem_append.1 hy with hy | hy
    · exact h.new y hy
    · exact (hsep y hy).1
  · have : g' = g := by simpa [Value.ownBlock, eq_comm] using hg'
    subst this
    rcases hat with h' | h'
    · exact .inl h'
    · right; omega

set_option maxRecDepth 20000 in
set_option maxHeartbeats 2000000 in
theorem put_any (w0 W : World) (gb : Nat) (iv ov : Value) (fp : List Nat) (out : List (Nd × List Int)) (h : Ng w0 W gb iv ov fp out) (x : Nd) (ks : List Int) (cv av : Value) (fc fa : List Nat) (hcv : Arr W fc cv (ks.map i64)) (hav : Arr W fa av (x.args.map i64))
    (b1 : ks.length * 8 ≤ 140737488351232) (b2 : x.args.length * 8 ≤ 140737488351232) (hsep : ∀ y ∈ fc ++ fa, w0.heap.size ≤ y ∧ y ≠ gb ∧ ov.ownBlock ≠ some y) (hlen : out.length ≤ 1000) :
    Calls Try.prog 99 #[ptr gb, nodeAgg x cv av] W (PutPost w0 W gb iv ov fp (fc ++ fa) out x ks) := by
  obtain ⟨i0, hi, hz0, hz1, hz2⟩ := info_parts info48
  obtain ⟨cs, hown, hout⟩ := h.nodes
  have hstep := fun W1 (e : Ext W W1) w4 g cap n (hn : out.length = n) => @Ng.step w0 W W1 w4 gb iv ov fp fc fa out h e x ks cv av hcv hav b1 b2 hsep cs hout g cap n hn
  obtain ⟨oa, ocap, hov, -⟩ := owns_row hown
  obtain ⟨ca, ccap, hcv', -⟩ := hcv
  obtain ⟨aa, acap, hav', -⟩ := hav
  obtain ⟨c0, c1, cz0, cz1, cl⟩ := two_facts h.cell
  obtain ⟨n, hn⟩ : ∃ n, out.length = n := ⟨_, rfl⟩
  have hbase := h.ext.size
  have hcell := h.cell
  have hsepg := h.sep
  have hpost : ∀ e W', e = Ending.returned (i64 (n : Int)) → (∃ ov', Ng w0 W' gb iv ov' (fp ++ (fc ++ fa)) (out ++ [(x, ks)]) ∧ W.heap.size ≤ W'.heap.size ∧ (∀ y, y < W.heap.size → y ≠ gb → ov.ownBlock ≠ some y → W'.heap[y]? = W.heap[y]?) ∧ ∀ g, ov'.ownBlock = some g → ov.ownBlock = some g ∨ W.heap.size ≤ g) → PutPost w0 W gb iv ov fp (fc ++ fa) out x ks e W' := fun e W' h1 h2 => ⟨by rw [hn]; exact h1, h2⟩
  have hstep := fun W1 (e : Ext W W1) w4 g cap => hstep W1 e w4 g cap n hn
  rw [hn] at hown hlen hov
  obtain ⟨kd, pd, ar, lf, rg, tp⟩ := x
  obtain ⟨cn, hcn⟩ : ∃ n, (ks.map i64).length = n := ⟨_, rfl⟩
  obtain ⟨an, han⟩ : ∃ n, (ar.map i64).length = n := ⟨_, rfl⟩
  simp only [hcn] at hcv'
  simp only [han] at hav'
  simp only [ndCells, nodeAgg, hov, hcv', hav'] at hown hstep hpost c1 hcell hsepg ⊢
  have HOWN := Lib.hid hown
  have HSTEP := Lib.hid hstep
  have HPOST := Lib.hid hpost
  have HCELL := Lib.hid hcell
  have HSEP := Lib.hid hsepg
  clear hown hstep hpost hcell hsepg hout h hn hcn han hov hcv' hav' hsep b1 b2
  go_enter Try.func99, Try.ntmps99
  go_wp2_with fail
  generalize hW1 : W.alloc (.cells #[i64 kd, .slice ca cn ccap, i64 pd, .slice aa an acap, i64 lf, i64 rg, i64 tp] 48) = W1
  have HE1 : Hid (Ext W W1) := by show Ext W W1; rw [← hW1]; exact (Ext.refl W).alloc _
  have BX : W1.heap[W.heap.size]? = some (.cells #[i64 kd, .slice ca cn ccap, i64 pd, .slice aa an acap, i64 lf, i64 rg, i64 tp] 48) := by rw [← hW1]; exact heap_alloc_new _ _
  obtain ⟨x0, x1, x2, x3, x4, x5, x6, xl⟩ := seven_facts BX
  have d1 := HE1.out.cell c1
  clear hW1 BX
  refine wp_region_seq (Ext W1) [(0, 0), (1, 0), (2, 0), (3, 0), (4, 1), (5, 1), (6, 2), (7, 3), (8, 0), (9, 0), (10, 3)] (by kernel_rfl) (by kernel_rfl) (Ext.refl W1).drew (fun hS => ?_)
  simp only [List.map, nthOp]
  refine seqL_yield rfl (fun w' => by go_simp; rfl) ?_
  try simp only [Act.put, List.setIfInBounds_toArray, List.set_cons_zero, List.set_cons_succ]
  refine seqL_yield rfl (fun w' => by go_simp; rfl) ?_
  try simp only [Act.put, List.setIfInBounds_toArray, List.set_cons_zero, List.set_cons_succ]
  refine seqL_yield rfl (fun w' => by go_simp; rfl) ?_
  try simp only [Act.put, List.setIfInBounds_toArray, List.set_cons_zero, List.set_cons_succ]
  refine seqL_yield rfl (fun w' => by go_simp; rfl) ?_
  try simp only [Act.put, List.setIfInBounds_toArray, List.set_cons_zero, List.set_cons_succ]
  refine seqL_read hS rfl (fun w' hE => by have q := hE.cell d1; clear hE; go_simp; rfl) ?_
  try simp only [Act.put, List.setIfInBounds_toArray, List.set_cons_zero, List.set_cons_succ]
  refine seqL_read hS rfl (fun w' hE => by have q0 := hE.cell x0; have q1 := hE.cell x1; have q2 := hE.cell x2; have q3 := hE.cell x3; have q4 := hE.cell x4; have q5 := hE.cell x5; have q6 := hE.cell x6; clear hE; go_simp; rfl) ?_
  try simp only [Act.put, List.setIfInBounds_toArray, List.set_cons_zero, List.set_cons_succ]
  refine seqL_grow rfl (fun K hK => ?_)
  have HKK := Lib.hid hK
  clear hK
  go_simp
  refine HKK.out _ _ (hS.alloc _) (fun hS1 => ?_)
  clear HKK K
  try simp only [Act.put, List.setIfInBounds_toArray, List.set_cons_zero, List.set_cons_succ]
  refine seqL_loud rfl (fun K hK => ?_)
  have HKK := Lib.hid hK
  clear hK
  have hnews := World.news_of_block (heap_alloc_new W1.drew (.cells #[i64 kd, .slice ca cn ccap, i64 pd, .slice aa an acap, i64 lf, i64 rg, i64 tp] 48))
  refine wp_append_lies _ _ _ 31 rfl w0.heap.size 48 i0 (.agg #[.int .i64 0, .slice none 0 0, .int .i64 0, .slice none 0 0, .int .i64 0, .int .i64 0, .int .i64 0]) 7 88 Try.underlying31 hi hz0 hz1 hz2 rfl (by decide) (.slice oa n ocap) n cs rfl (owns_at HOWN.out fun g hg => Below.block (HE1.out.trans hS1) g ((HOWN.out.lt g hg).2)) ⟨W1.drew.heap.size, 0, none⟩ 1 1 [i64 kd, .slice ca cn ccap, i64 pd, .slice aa an acap, i64 lf, i64 rg, i64 tp] rfl rfl hnews (by simp [Value.oneCell']) (by decide) (by unfold maxLen; omega) (by omega) (by have := HE1.out.size; have := hS1.size; omega) _ rfl ?_
  intro g' cap' w4 hown4 hgrow hat hlt'
  refine HKK.out _ _ ?_
  clear HKK K
  try simp only [Act.put, List.setIfInBounds_toArray, List.set_cons_zero, List.set_cons_succ]
  have hfin := HSTEP.out _ (HE1.out.trans hS1) w4 g' cap' hown4 hgrow hat
  have h2 : w4.heap[gb]? = some (.cells #[iv, .slice oa n ocap] 109) := by
    rw [hgrow.block gb (by have := HE1.out.size; have := hS1.size; omega) (fun e => (HSEP.out gb e.symm).1 rfl), Below.block (HE1.out.trans hS1) gb cl]
    exact HCELL.out
  obtain ⟨k0, k1, kz0, kz1, kl⟩ := two_facts h2
  have HFIN := Lib.hid hfin
  clear hfin h2 hown4 hgrow hat hlt' hnews
  refine seqL_yield rfl (fun w' => by go_simp; rfl) ?_
  try simp only [Act.put, List.setIfInBounds_toArray, List.set_cons_zero, List.set_cons_succ]
  refine seqL_yield rfl (fun w' => by go_simp; rfl) ?_
  try simp only [Act.put, List.setIfInBounds_toArray, List.set_cons_zero, List.set_cons_succ]
  refine seqL_loud rfl (fun K hK => ?_)
  have HKK := Lib.hid hK
  clear hK
  go_simp
  refine HKK.out _ _ (seqL_nil ?_)
  clear HKK K
  try simp only [Act.put, List.setIfInBounds_toArray, List.set_cons_zero, List.set_cons_succ]
  have HC := Lib.hid HFIN.out.1.cell
  clear hS hS1
  go_wp2
  go_ret
  refine HPOST.out _ _ (ret_i64 (by omega)) ⟨_, HFIN.out⟩
end Go.Proofs.Ytodlkjjoenglgaa

/- condition's negator: what holds between two children's copies. -/
namespace Go.Proofs.Ytodlkjjoenglgaa
open Go Go.RowKit

theorem ngF_app (b : Bool) (f g : Fo) : ngF b (f.app g) = (ngF b f).app (ngF b g) := by
  induction f with
  | nil => rfl
  | cons n k r _ ih => simp only [Fo.app, ngF, ih, Fo.app_assoc]
theorem one_of_len {f : Fo} (h : f.len = 1) : ∃ n k, f = Fo.one n k := by
  match f, h with
  | .cons n k .nil, _ => exact ⟨n, k, rfl⟩
theorem ng_one {b : Bool} {n : Nd} {k : Fo} (hs : (Fo.one n k).Shaped) : ∃ n' k', ngF b (Fo.one n k) = Fo.one n' k' := one_of_len (by rw [ngF_len _ b hs]; rfl)

/-- Wc: the world of the call; nb: the node's variable; ob: the variable of what is made of it; outl: what has been written; rl: the children's numbers. -/
structure NgK (w0 Wc : World) (gb : Nat) (iv ovc : Value) (fpc : List Nat) (nb ob : Nat) (nc : Array Value) (kd : Int) (x : Nd) (av : Value) (fa : List Nat) (outl : List (Nd × List Int)) (rl : List Int) (W : World) (cv ov : Value) (fp : List Nat) : Prop where
  ng : Ng w0 W gb iv ov fp outl
  gbl : gb < Wc.heap.size
  frm : Frm Wc W gb ovc ov fpc fp
  nblk : W.heap[nb]? = some (.cells nc 48)
  oblk : W.heap[ob]? = some (.cells #[i64 kd, cv, i64 x.pred, av, i64 x.left, i64 x.right, i64 x.typ] 48)
  own : W.ownsRow Wc.heap.size 3 1 cv rl.length (rl.map i64)
  arr : Arr W fa av (x.args.map i64)
  nnew : Wc.heap.size ≤ nb
  onew : Wc.heap.size ≤ ob
  anew : ∀ y ∈ fa, Wc.heap.size ≤ y
  oa : ob ∉ fa
  on : ob ≠ nb
  sepc : ∀ g, cv.ownBlock = some g → g ≠ nb ∧ g ≠ ob ∧ g ∉ fa ∧ g ∉ fp ∧ ov.ownBlock ≠ some g
  sepo : ∀ g, ov.ownBlock = some g → g ≠ nb ∧ g ≠ ob ∧ g ∉ fa
  sepf : ob ∉ fp

section
variable {w0 Wc : World} {gb : Nat} {iv ovc : Value} {fpc : List Nat} {nb ob : Nat} {nc : Array Value} {kd : Int} {x : Nd} {av : Value} {fa : List Nat} {outl : List (Nd × List Int)} {rl : List Int} {W : World} {cv ov : Value} {fp : List Nat}

theorem NgK.ext {W' : World} (h : NgK w0 Wc gb iv ovc fpc nb ob nc kd x av fa outl rl W cv ov fp) (e : Ext W W') : NgK w0 Wc gb iv ovc fpc nb ob nc kd x av fa outl rl W' cv ov fp :=
  ⟨h.ng.ext' e, h.gbl, h.frm.trans (Frm.ext e gb ov fp), e.block h.nblk, e.block h.oblk, owns_at h.own fun g hg => Below.block e g (h.own.lt g hg).2, h.arr.ext e, h.nnew, h.onew, h.anew, h.oa, h.on, h.sepc, h.sepo, h.sepf⟩

/-- A child's copy. -/
theorem NgK.call {W2 : World} {ov2 : Value} {fp2 : List Nat} {outl2 : List (Nd × List Int)} (h : NgK w0 Wc gb iv ovc fpc nb ob nc kd x av fa outl rl W cv ov fp) (h2 : Ng w0 W2 gb iv ov2 fp2 outl2) (hf : Frm W W2 gb ov ov2 fp fp2) :
    NgK w0 Wc gb iv ovc fpc nb ob nc kd x av fa outl2 rl W2 cv ov2 fp2 := by
  have hnl := heap_lt h.nblk
  have hol := heap_lt h.oblk
  have hcl := h.own.lt
  have hal := h.arr.lt
  have hgb := h.gbl
  have hb : ∀ y, y < W.heap.size → Wc.heap.size ≤ y → ov.ownBlock ≠ some y → W2.heap[y]? = W.heap[y]? := fun y hy hn ho => hf.blk y hy (by omega) ho
  refine ⟨h2, hgb, h.frm.trans hf, (hb nb hnl h.nnew fun e => (h.sepo nb e).1 rfl).trans h.nblk, (hb ob hol h.onew fun e => (h.sepo ob e).2.1 rfl).trans h.oblk,
    owns_at h.own fun g hg => hb g (hcl g hg).2 (hcl g hg).1 (h.sepc g hg).2.2.2.2, h.arr.kept fun y hy => hb y (hal y hy) (h.anew y hy) fun e => (h.sepo y e).2.2 hy, h.nnew, h.onew, h.anew, h.oa, h.on, fun g hg => ?_, fun g hg => ?_, fun hm => ?_⟩
  · obtain ⟨s1, s2, s3, s4, s5⟩ := h.sepc g hg
    refine ⟨s1, s2, s3, fun hm => ?_, fun e => ?_⟩
    · rcases hf.fps g hm with h' | h'
      · exact s4 h'
      · have := (hcl g hg).2; omega
    · rcases hf.own g e with h' | h'
      · exact s5 h'
      · have := (hcl g hg).2; omega
  · rcases hf.own g hg with h' | h'
    · exact h.sepo g h'
    · exact ⟨by omega, by omega, fun hm => by have := hal g hm; omega⟩
  · rcases hf.fps ob hm with h' | h'
    · exact h.sepf h'
    · omega

/-- Its number is written down: w4: behind the append, ahead of which a block came. -/
theorem NgK.more {W1 w4 : World} (h : NgK w0 Wc gb iv ovc fpc nb ob nc kd x av fa outl rl W cv ov fp) (e : Ext W W1) {r : Int} {g cap n : Nat} (hn : rl.length = n) (hown : w4.ownsRow Wc.heap.size 3 1 (.slice (some ⟨g, 0, none⟩) (n + 1) cap) (n + 1) (rl.map i64 ++ [i64 r]))
    (hg : W1.grownBy w4 cv.ownBlock) (hat : cv.ownBlock = some g ∨ g = W1.heap.size) :
    NgK w0 Wc gb iv ovc fpc nb ob nc kd x av fa outl (rl ++ [r]) (w4.setCell ⟨ob, 1, none⟩ (.slice (some ⟨g, 0, none⟩) (n + 1) cap)) (.slice (some ⟨g, 0, none⟩) (n + 1) cap) ov fp := by
  have hsz := e.size
  have hsz4 := hg.size
  have hnl := heap_lt h.nblk
  have hol := heap_lt h.oblk
  have hcl := h.own.lt
  have hal := h.arr.lt
  have hgb := h.gbl
  have hlow := h.ng.low
  have hf := h.ng.lt
  have ho := h.ng.own
  have keep4 : ∀ y, y < W.heap.size → cv.ownBlock ≠ some y → w4.heap[y]? = W.heap[y]? := fun y hy hc => by
    rw [hg.block y (by omega) (fun e => hc e.symm)]
    exact Below.block e y hy
  have keep : ∀ y, y < W.heap.size → y ≠ ob → cv.ownBlock ≠ some y → (w4.setCell ⟨ob, 1, none⟩ (.slice (some ⟨g, 0, none⟩) (n + 1) cap)).heap[y]? = W.heap[y]? := fun y hy hne hc => by
    rw [heap_setCell_ne _ hne]
    exact keep4 y hy hc
  have hog : g ≠ ob := by
    rcases hat with h' | h'
    · exact (h.sepc g h').2.1
    · omega
  have hlo : ∀ y, y < Wc.heap.size → y ≠ ob ∧ cv.ownBlock ≠ some y := fun y hy => ⟨by have := h.onew; omega, fun e => by have := (hcl y e).1; omega⟩
  have hgl := heap_lt h.ng.cell
  have hoblk : w4.heap[ob]? = some (.cells #[i64 kd, cv, i64 x.pred, av, i64 x.left, i64 x.right, i64 x.typ] 48) := (keep4 ob hol fun e => (h.sepc ob e).2.1 rfl).trans h.oblk
  have hext : Ext w0 (w4.setCell ⟨ob, 1, none⟩ (.slice (some ⟨g, 0, none⟩) (n + 1) cap)) :=
    ((h.ng.ext.trans e).of_grown hg (fun k hk => by have := (hcl k hk).1; omega)).setCell (p := ⟨ob, 1, none⟩) (by have := h.onew; show _ ≤ ob; omega) _
  refine ⟨h.ng.kept hext ?_ (fun g' hg' => ?_) (fun y hy => ?_), hgb, ?_, ?_, ?_, ?_, h.arr.kept fun y hy => ?_, h.nnew, h.onew, h.anew, h.oa, h.on, fun g' hg' => ?_, h.sepo, h.sepf⟩
  · exact keep gb (by omega) (hlo gb hgb).1 (hlo gb hgb).2
  · refine keep g' (ho g' hg').2 (h.sepo g' hg').2.1 fun e => (h.sepc g' e).2.2.2.2 hg'
  · refine keep y (hf y hy) (fun e => h.sepf (e ▸ hy)) fun e => (h.sepc y e).2.2.2.1 hy
  · exact h.frm.more (by simp; omega) fun y hy => keep y (by have := h.frm.size; omega) (hlo y hy).1 (hlo y hy).2
  · exact (keep nb hnl (Ne.symm h.on) fun e => (h.sepc nb e).1 rfl).trans h.nblk
  · exact heap_setCell_at _ hoblk
  · rw [List.length_append, hn, List.map_append]
    exact owns_at hown fun g' hg' => by
      have : g' = g := by simpa [Value.ownBlock, eq_comm] using hg'
      subst this
      exact heap_setCell_ne _ hog
  · exact keep y (hal y hy) (fun e => h.oa (e ▸ hy)) fun e => (h.sepc y e).2.2.1 hy
  · have : g' = g := by simpa [Value.ownBlock, eq_comm] using hg'
    subst this
    rcases hat with h' | h'
    · exact h.sepc g' h'
    · refine ⟨by omega, hog, fun hm => by have := hal g' hm; omega, fun hm => by have := hf g' hm; omega, fun e => by have := (ho g' e).2; omega⟩

/-- What the last put asks. -/
theorem NgK.fin (h : NgK w0 Wc gb iv ovc fpc nb ob nc kd x av fa outl rl W cv ov fp) : ∃ fc, Arr W fc cv (rl.map i64) ∧ ∀ y ∈ fc ++ fa, Wc.heap.size ≤ y ∧ w0.heap.size ≤ y ∧ y ≠ gb ∧ ov.ownBlock ≠ some y := by
  obtain ⟨fc, h1, h2, h3⟩ := Arr.of_owns h.own
  refine ⟨fc, h1, fun y hy => ?_⟩
  have hlow := h.ng.low
  have hgb := h.gbl
  rcases List.mem_append.1 hy with hy | hy
  · have := h2 y hy
    refine ⟨this, by omega, by omega, ?_⟩
    rcases h3 with rfl | ⟨g, rfl, hg⟩
    · cases hy
    · have : y = g := by simpa using hy
      subst this
      exact (h.sepc y hg).2.2.2.2
  · have := h.anew y hy
    exact ⟨this, by omega, by omega, fun e => (h.sepo y e).2.2 hy⟩
end

/-- What copy does. -/
def CopyPost (w0 W : World) (gb : Nat) (iv ov : Value) (fp : List Nat) (out : List (Nd × List Int)) (t : Fo) (e : Ending) (W' : World) : Prop :=
  e = .returned (i64 (((out.length + t.count : Nat) : Int) - 1)) ∧ ∃ ov' fp', Ng w0 W' gb iv ov' fp' (out ++ t.flat out.length) ∧ Frm W W' gb ov ov' fp fp'
def CopyN (w0 : World) (gb : Nat) (iv : Value) (i : Int) (n : Nd) (k : Fo) : Prop :=
  ∀ neg W ov fp out, Ng w0 W gb iv ov fp out → out.length + 2 * (k.count + 1) ≤ 1000 → Calls Try.prog 72 #[ptr gb, i64 i, .bool neg] W (CopyPost w0 W gb iv ov fp out (ngF neg (Fo.one n k)))

theorem put_frm {Wc W W' : World} {gb : Nat} {ovc ov ov' : Value} {fpc fp f' : List Nat} (h : Frm Wc W gb ovc ov fpc fp) (hs : W.heap.size ≤ W'.heap.size) (hb : ∀ y, y < W.heap.size → y ≠ gb → ov.ownBlock ≠ some y → W'.heap[y]? = W.heap[y]?)
    (ho : ∀ g, ov'.ownBlock = some g → ov.ownBlock = some g ∨ W.heap.size ≤ g) (hf : ∀ y ∈ f', Wc.heap.size ≤ y) : Frm Wc W' gb ovc ov' fpc (fp ++ f') := by
  have h2 := h.trans (⟨hs, hb, ho, fun x hx => .inl hx⟩ : Frm W W' gb ov ov' fp fp)
  exact ⟨h2.size, h2.blk, h2.own, fun x hx => by
    rcases List.mem_append.1 hx with hx | hx
    · exact h2.fps x hx
    · exact .inr (hf x hx)⟩
theorem heap_seven {w : World} {b : Nat} {c0 c1 c2 c3 c4 c5 c6 : Value} {T : TypeId} (v0 v1 v2 v3 v4 v5 v6 : Value) (h : w.heap[b]? = some (.cells #[c0, c1, c2, c3, c4, c5, c6] T)) :
    (((((((w.setCell ⟨b, 0, none⟩ v0).setCell ⟨b, 1, none⟩ v1).setCell ⟨b, 2, none⟩ v2).setCell ⟨b, 3, none⟩ v3).setCell ⟨b, 4, none⟩ v4).setCell ⟨b, 5, none⟩ v5).setCell ⟨b, 6, none⟩ v6).heap[b]? = some (.cells #[v0, v1, v2, v3, v4, v5, v6] T) := by
  have h := (heap_setCell_at (j := 0) v0 h).trans (show _ = some (Obj.cells #[v0, c1, c2, c3, c4, c5, c6] T) from rfl)
  have h := (heap_setCell_at (j := 1) v1 h).trans (show _ = some (Obj.cells #[v0, v1, c2, c3, c4, c5, c6] T) from rfl)
  have h := (heap_setCell_at (j := 2) v2 h).trans (show _ = some (Obj.cells #[v0, v1, v2, c3, c4, c5, c6] T) from rfl)
  have h := (heap_setCell_at (j := 3) v3 h).trans (show _ = some (Obj.cells #[v0, v1, v2, v3, c4, c5, c6] T) from rfl)
  have h := (heap_setCell_at (j := 4) v4 h).trans (show _ = some (Obj.cells #[v0, v1, v2, v3, v4, c5, c6] T) from rfl)
  have h := (heap_setCell_at (j := 5) v5 h).trans (show _ = some (Obj.cells #[v0, v1, v2, v3, v4, v5, c6] T) from rfl)
  have h := (heap_setCell_at (j := 6) v6 h).trans (show _ = some (Obj.cells #[v0, v1, v2, v3, v4, v5, v6] T) from rfl)
  exact h
theorem heap_seven_ne {w : World} {b x : Nat} (v0 v1 v2 v3 v4 v5 v6 : Value) (h : x ≠ b) : ((((((((w.setCell ⟨b, 0, none⟩ v0).setCell ⟨b, 1, none⟩ v1).setCell ⟨b, 2, none⟩ v2).setCell ⟨b, 3, none⟩ v3).setCell ⟨b, 4, none⟩ v4).setCell ⟨b, 5, none⟩ v5).setCell ⟨b, 6, none⟩ v6)).heap[x]? = w.heap[x]? := by
  rw [heap_setCell_ne _ h, heap_setCell_ne _ h, heap_setCell_ne _ h, heap_setCell_ne _ h, heap_setCell_ne _ h, heap_setCell_ne _ h, heap_setCell_ne _ h]
theorem Ext.seven {a w : World} (h : Ext a w) {b : Nat} (hb : a.heap.size ≤ b) (v0 v1 v2 v3 v4 v5 v6 : Value) : Ext a (((((((w.setCell ⟨b, 0, none⟩ v0).setCell ⟨b, 1, none⟩ v1).setCell ⟨b, 2, none⟩ v2).setCell ⟨b, 3, none⟩ v3).setCell ⟨b, 4, none⟩ v4).setCell ⟨b, 5, none⟩ v5).setCell ⟨b, 6, none⟩ v6) :=
  ((((((h.setCell (p := ⟨b, 0, none⟩) hb v0).setCell (p := ⟨b, 1, none⟩) hb v1).setCell (p := ⟨b, 2, none⟩) hb v2).setCell (p := ⟨b, 3, none⟩) hb v3).setCell (p := ⟨b, 4, none⟩) hb v4).setCell (p := ⟨b, 5, none⟩) hb v5).setCell (p := ⟨b, 6, none⟩) hb v6

section
variable {w0 Wc : World} {gb : Nat} {iv ovc : Value} {fpc : List Nat} {nb ob : Nat} {nc : Array Value} {kd : Int} {x : Nd} {av : Value} {fa : List Nat} {outl : List (Nd × List Int)} {rl : List Int} {W : World} {cv ov : Value} {fp : List Nat}
/-- The kind is written. -/
theorem NgK.kind (h : NgK w0 Wc gb iv ovc fpc nb ob nc kd x av fa outl rl W cv ov fp) (kd' : Int) : NgK w0 Wc gb iv ovc fpc nb ob nc kd' x av fa outl rl (W.setCell ⟨ob, 0, none⟩ (i64 kd')) cv ov fp := by
  have hgb := h.gbl
  have hlow := h.ng.low
  have hon := h.onew
  have keep : ∀ y, y ≠ ob → (W.setCell ⟨ob, 0, none⟩ (i64 kd')).heap[y]? = W.heap[y]? := fun y hne => heap_setCell_ne _ hne
  refine ⟨h.ng.kept (h.ng.ext.setCell (p := ⟨ob, 0, none⟩) (by show _ ≤ ob; omega) _) (keep gb (by omega)) (fun g hg => keep g (h.sepo g hg).2.1) (fun y hy => keep y fun e => h.sepf (e ▸ hy)), hgb, h.frm.more (by simp) fun y hy => keep y (by omega), (keep nb (Ne.symm h.on)).trans h.nblk, heap_setCell_at _ h.oblk,
    owns_at h.own fun g hg => keep g (h.sepc g hg).2.1, h.arr.kept fun y hy => keep y fun e => h.oa (e ▸ hy), h.nnew, h.onew, h.anew, h.oa, h.on, h.sepc, h.sepo, h.sepf⟩
/-- The variable 'out' behind the append. -/
theorem NgK.at4 {W1 w4 : World} (h : NgK w0 Wc gb iv ovc fpc nb ob nc kd x av fa outl rl W cv ov fp) (e : Ext W W1) (hg : W1.grownBy w4 cv.ownBlock) : w4.heap[ob]? = some (.cells #[i64 kd, cv, i64 x.pred, av, i64 x.left, i64 x.right, i64 x.typ] 48) := by
  have hol := heap_lt h.oblk
  rw [hg.block ob (by have := e.size; omega) (fun e => (h.sepc ob e.symm).2.1 rfl), Below.block e ob hol]
  exact h.oblk
end
theorem copy_fin {w0 Wc W W' : World} {gb : Nat} {iv ovc ov : Value} {fpc fp f' : List Nat} {out outl : List (Nd × List Int)} {rl : List Int} {t K : Fo} {n' : Nd} {e : Ending} (hf : Frm Wc W gb ovc ov fpc fp) (ht : t = Fo.one n' K) (ho : outl = out ++ K.flat out.length) (hr : rl = K.roots out.length)
    (hp : PutPost w0 W gb iv ov fp f' outl n' rl e W') (hn : ∀ y ∈ f', Wc.heap.size ≤ y) : CopyPost w0 Wc gb iv ovc fpc out t e W' := by
  obtain ⟨rfl, ov', h1, h2, h3, h4⟩ := hp
  subst ht ho hr
  refine ⟨?_, ov', fp ++ f', ?_, put_frm hf h2 h3 h4 hn⟩
  · rw [List.length_append, Fo.flat_len, Fo.count_one]
    exact ret_i64 (by omega)
  · rw [Fo.flat_one, ← List.append_assoc]
    exact h1
theorem put_frm' {w0 Wc W W' : World} {gb : Nat} {iv ovc ov : Value} {fpc fp f' : List Nat} {outl : List (Nd × List Int)} {rl : List Int} {n' : Nd} {e : Ending} (hf : Frm Wc W gb ovc ov fpc fp) (hp : PutPost w0 W gb iv ov fp f' outl n' rl e W') (hn : ∀ y ∈ f', Wc.heap.size ≤ y) :
    e = .returned (i64 (outl.length : Int)) ∧ ∃ ov', Ng w0 W' gb iv ov' (fp ++ f') (outl ++ [(n', rl)]) ∧ Frm Wc W' gb ovc ov' fpc (fp ++ f') := by
  obtain ⟨rfl, ov', h1, h2, h3, h4⟩ := hp
  exact ⟨rfl, ov', h1, put_frm hf h2 h3 h4 hn⟩
theorem ng_next {b : Bool} {G k' : Fo} {n' : Nd} (hs : (Fo.one n' k').Shaped) (m : Nat) : (ngF b (G.app (Fo.one n' k'))).flat m = (ngF b G).flat m ++ (ngF b (Fo.one n' k')).flat (m + (ngF b G).count) ∧
    (ngF b (G.app (Fo.one n' k'))).roots m = (ngF b G).roots m ++ [(((m + (ngF b G).count + (ngF b (Fo.one n' k')).count : Nat) : Int) - 1)] := by
  rw [ngF_app, Fo.flat_app, Fo.roots_app]
  refine ⟨rfl, ?_⟩
  obtain ⟨n2, k2, h⟩ := ng_one (b := b) hs
  rw [h, Fo.roots_one, Fo.count_one]
  congr 2
  omega
end Go.Proofs.Ytodlkjjoenglgaa

/- condition's negator: copy. -/
namespace Go.Proofs.Ytodlkjjoenglgaa
open Go Go.RowKit

/-- Between two rounds of the loop over the children. -/
def NgLoop (w0 Wc : World) (gb : Nat) (iv ovc : Value) (fpc : List Nat) (nb ob : Nat) (nc : Array Value) (kd : Int) (x : Nd) (av : Value) (fa : List Nat) (out : List (Nd × List Int)) (neg : Bool) (k : Fo) (q : Nat) (W : World) : Prop :=
  ∃ G R cv ov fp, k = Fo.app G R ∧ G.len = q ∧ NgK w0 Wc gb iv ovc fpc nb ob nc kd x av fa (out ++ (ngF neg G).flat out.length) ((ngF neg G).roots out.length) W cv ov fp

/-- Behind region 4: the variable 'out' in block ob. -/
def NgOut (W1 : World) (kd pd lf rg tp : Int) (ar : List Int) (s : Value) (wx : World) : Prop :=
  ∃ ob av fa, s = ptr ob ∧ Ext W1 wx ∧ wx.heap[ob]? = some (.cells #[i64 kd, .slice none 0 0, i64 pd, av, i64 lf, i64 rg, i64 tp] 48) ∧ Arr wx fa av (ar.map i64) ∧ W1.heap.size ≤ ob ∧ (∀ y ∈ fa, W1.heap.size ≤ y) ∧ ob ∉ fa

theorem roots_at (G : Fo) (n' : Nd) (k' R : Fo) : ∀ b, ((G.app (.cons n' k' R)).roots b).getD G.len 0 = ((b + G.count + k'.count : Nat) : Int) := by
  induction G with
  | nil => intro b; simp [Fo.app, Fo.roots, Fo.len, Fo.count]
  | cons n k r _ ih =>
    intro b
    simp only [Fo.app, Fo.roots, Fo.len, List.getD_cons_succ, ih, Fo.count]
    congr 1
    omega
theorem ngF_node {neg : Bool} {n : Nd} {k : Fo} (h : n.kind ≠ 4) : ngF neg (Fo.one n k) = ngN neg n (ngF neg k) := by
  show (if n.kind = 4 then _ else ngN neg n (ngF neg k)).app .nil = _
  rw [if_neg h, Fo.app_nil]

set_option maxRecDepth 100000 in
set_option maxHeartbeats 4000000 in
theorem copy_pos (w0 : World) (gb : Nat) (iv : Value) (nodes : List (Nd × List Int)) (hin : Sl w0 7 88 rNode iv nodes) (n : Nd) (k : Fo) (b i : Nat) (hi : nodes[i]? = some (n, k.roots b)) (h4 : n.kind ≠ 4) (hk : 1 ≤ n.kind ∧ n.kind ≤ 8) (ha : arityOf n.kind < 0 ∨ (k.len : Int) = arityOf n.kind) (hks : k.Shaped)
    (ih : ∀ G n' k' R, k = Fo.app G (.cons n' k' R) → CopyN w0 gb iv ((b + G.count + k'.count : Nat) : Int) n' k') (W : World) (ov : Value) (fp : List Nat) (out : List (Nd × List Int)) (h : Ng w0 W gb iv ov fp out) (hlen : out.length + 2 * (k.count + 1) ≤ 1000) :
    Calls Try.prog 72 #[ptr gb, i64 i, .bool false] W (CopyPost w0 W gb iv ov fp out (ngF false (Fo.one n k))) := by
  obtain ⟨i0, hi', hz0, hz1, hz2⟩ := info_parts info3
  rw [ngF_node h4]
  obtain ⟨nb, noff, nn, ncap, cv, av, rfl, hlt, n1, n2, n3, hcv, hav, f0, f1, f2, f3, f4, f5, f6⟩ := node_at hin hi
  have hcl := fun W' (hW : Ext W W') => clone_ints W' av n.args ((hav.ext h.ext).ext hW).rd (let ⟨_, _, _, _, _, q, _⟩ := hav.open; q)
  obtain ⟨ca, ccap, rfl, -, c2, c3, hcc⟩ := hcv.open
  obtain ⟨aa, acap, rfl⟩ := hav.slice
  obtain ⟨c0, c1, cz0, cz1, cl⟩ := two_facts h.cell
  have hgbl := heap_lt h.cell
  obtain ⟨kd, pd, ar, lf, rg, tp⟩ := n
  simp only at h4 hk ha f0 f1 f2 f3 f4 f5 f6 hcl
  obtain ⟨t, ht⟩ : ∃ t, ngN false ⟨kd, pd, ar, lf, rg, tp⟩ (ngF false k) = t := ⟨_, rfl⟩
  rw [ht]
  obtain ⟨cn, hcn⟩ : ∃ n, (k.roots b).length = n := ⟨_, rfl⟩
  obtain ⟨an, han⟩ : ∃ n, ar.length = n := ⟨_, rfl⟩
  have hkl : k.len = cn := by rw [← hcn, Fo.roots_len]
  rw [hcn] at f1 hcc c3
  simp only [han] at f3 hcl
  replace f0 := h.ext.cell f0
  replace f1 := h.ext.cell f1
  replace f2 := h.ext.cell f2
  replace f3 := h.ext.cell f3
  replace f4 := h.ext.cell f4
  replace f5 := h.ext.cell f5
  replace f6 := h.ext.cell f6
  have hbl := World.block_lt_of_cell? W _ f0
  have han8 : ar.length * 8 ≤ 140737488351232 := by obtain ⟨_, _, _, _, _, q, _⟩ := hav.open; exact q
  have hb4 : (kd == 4) = false := by simpa using h4
  have HCL0 := Lib.hid hcl
  have HCC := Lib.hid hcc
  have HIH := Lib.hid ih
  have HNG := Lib.hid h
  have HT := Lib.hid ht
  have HKL := Lib.hid hkl
  have HKS := Lib.hid hks
  have HK := Lib.hid hk
  have HA := Lib.hid ha
  unfold maxLen at n2 c2
  clear hcl hcc ih h ht hkl hks hcv hav hi hin hcn han h4 hk ha
  go_enter Try.func72, Try.ntmps72
  go_upto_region 4 with fail
  generalize hW1 : W.alloc (.cells #[i64 kd, .slice ca cn ccap, i64 pd, .slice aa an acap, i64 lf, i64 rg, i64 tp] 48) = W1
  have HE1 : Hid (Ext W W1) := by show Ext W W1; rw [← hW1]; exact (Ext.refl W).alloc _
  have BN : Hid (W1.heap[W.heap.size]? = some (.cells #[i64 kd, .slice ca cn ccap, i64 pd, .slice aa an acap, i64 lf, i64 rg, i64 tp] 48)) := by show _ = _; rw [← hW1]; exact heap_alloc_new _ _
  have HCL : Hid (∀ W', Ext W1 W' → _) := fun W' hW' => HCL0.out W' (HE1.out.trans hW')
  obtain ⟨m0, m1, m2, m3, m4, m5, m6, ml⟩ := seven_facts BN.out
  clear hW1 HCL0
  go_cut [8] from 29 to 45 (NgOut W1 kd pd lf rg tp ar)
  case first =>
    refine wp_region_two (Ext W1) 8 17 [(0, 0), (1, 1), (2, 0), (3, 0), (4, 1), (5, 0), (6, 0), (7, 1), (10, 0), (11, 1), (12, 0), (13, 1), (14, 0), (15, 1), (8, 2), (9, 0), (16, 0), (17, 2), (18, 3)] [(0, 0), (1, 1), (2, 0), (3, 0), (4, 1), (5, 0), (6, 0), (7, 1), (10, 0), (11, 1), (12, 0), (13, 1), (14, 0), (15, 1), (17, 2), (8, 2), (9, 0), (16, 0), (18, 3)] (by decide) (by kernel_rfl) (by kernel_rfl) (by kernel_rfl) (Ext.refl W1).drew (fun hS => ?_) (fun hS => ?_)
    · simp only [List.map, nthOp]
      refine seqL_yield rfl (fun w' => by go_simp; rfl) ?_
      try simp only [Act.put, List.setIfInBounds_toArray, List.set_cons_zero, List.set_cons_succ]
      refine seqL_read hS rfl (fun w' hE => by have q := hE.cell m0; clear hE; go_simp; rfl) ?_
      try simp only [Act.put, List.setIfInBounds_toArray, List.set_cons_zero, List.set_cons_succ]
      refine seqL_yield rfl (fun w' => by go_simp; rfl) ?_
      try simp only [Act.put, List.setIfInBounds_toArray, List.set_cons_zero, List.set_cons_succ]
      refine seqL_yield rfl (fun w' => by go_simp; rfl) ?_
      try simp only [Act.put, List.setIfInBounds_toArray, List.set_cons_zero, List.set_cons_succ]
      refine seqL_read hS rfl (fun w' hE => by have q := hE.cell m2; clear hE; go_simp; rfl) ?_
      try simp only [Act.put, List.setIfInBounds_toArray, List.set_cons_zero, List.set_cons_succ]
      refine seqL_yield rfl (fun w' => by go_simp; rfl) ?_
      try simp only [Act.put, List.setIfInBounds_toArray, List.set_cons_zero, List.set_cons_succ]
      refine seqL_yield rfl (fun w' => by go_simp; rfl) ?_
      try simp only [Act.put, List.setIfInBounds_toArray, List.set_cons_zero, List.set_cons_succ]
      refine seqL_read hS rfl (fun w' hE => by have q := hE.cell m3; clear hE; go_simp; rfl) ?_
      try simp only [Act.put, List.setIfInBounds_toArray, List.set_cons_zero, List.set_cons_succ]
      refine seqL_yield rfl (fun w' => by go_simp; rfl) ?_
      try simp only [Act.put, List.setIfInBounds_toArray, List.set_cons_zero, List.set_cons_succ]
      refine seqL_read hS rfl (fun w' hE => by have q := hE.cell m4; clear hE; go_simp; rfl) ?_
      try simp only [Act.put, List.setIfInBounds_toArray, List.set_cons_zero, List.set_cons_succ]
      refine seqL_yield rfl (fun w' => by go_simp; rfl) ?_
      try simp only [Act.put, List.setIfInBounds_toArray, List.set_cons_zero, List.set_cons_succ]
      refine seqL_read hS rfl (fun w' hE => by have q := hE.cell m5; clear hE; go_simp; rfl) ?_
      try simp only [Act.put, List.setIfInBounds_toArray, List.set_cons_zero, List.set_cons_succ]
      refine seqL_yield rfl (fun w' => by go_simp; rfl) ?_
      try simp only [Act.put, List.setIfInBounds_toArray, List.set_cons_zero, List.set_cons_succ]
      refine seqL_read hS rfl (fun w' hE => by have q := hE.cell m6; clear hE; go_simp; rfl) ?_
      try simp only [Act.put, List.setIfInBounds_toArray, List.set_cons_zero, List.set_cons_succ]
      refine seqL_grow rfl (fun K hK => ?_)
      have HKK := Lib.hid hK
      clear hK
      go_simp
      refine (HCL.out _ hS).mono ?_
      rintro e w2 ⟨av', fa, rfl, hE2, harr, hfr, hnd⟩
      obtain ⟨va, vcap, rfl, hva⟩ := id harr
      clear hva
      have hS2 := hS.trans hE2
      refine HKK.out _ _ hS2 (fun _ => ?_)
      clear HKK K
      try simp only [Act.put, List.setIfInBounds_toArray, List.set_cons_zero, List.set_cons_succ]
      refine seqL_yield rfl (fun w' => by go_simp; rfl) ?_
      try simp only [Act.put, List.setIfInBounds_toArray, List.set_cons_zero, List.set_cons_succ]
      refine seqL_yield rfl (fun w' => by go_simp; rfl) ?_
      try simp only [Act.put, List.setIfInBounds_toArray, List.set_cons_zero, List.set_cons_succ]
      refine seqL_grow rfl (fun K hK => ?_)
      have HKK := Lib.hid hK
      clear hK
      go_simp
      refine HKK.out _ _ (hS2.alloc _) (fun hS3 => ?_)
      clear HKK K
      try simp only [Act.put, List.setIfInBounds_toArray, List.set_cons_zero, List.set_cons_succ]
      refine seqL_loud rfl (fun K hK => ?_)
      have HKK := Lib.hid hK
      clear hK
      go_simp
      refine HKK.out _ _ (seqL_nil ?_)
      clear HKK K
      try simp only [Act.put, List.setIfInBounds_toArray, List.set_cons_zero, List.set_cons_succ]
      go_wp2_with fail
      go_meet
      refine ⟨w2.heap.size, .slice va ar.length vcap, fa, rfl, hS2.alloc _, heap_alloc_new _ _, ?_, hS2.size, fun y hy => hfr y hy, fun hm => by have := harr.lt _ hm; omega⟩
      simpa using harr.ext ((Ext.refl w2).alloc _)
    · simp only [List.map, nthOp]
      refine seqL_yield rfl (fun w' => by go_simp; rfl) ?_
      try simp only [Act.put, List.setIfInBounds_toArray, List.set_cons_zero, List.set_cons_succ]
      refine seqL_read hS rfl (fun w' hE => by have q := hE.cell m0; clear hE; go_simp; rfl) ?_
      try simp only [Act.put, List.setIfInBounds_toArray, List.set_cons_zero, List.set_cons_succ]
      refine seqL_yield rfl (fun w' => by go_simp; rfl) ?_
      try simp only [Act.put, List.setIfInBounds_toArray, List.set_cons_zero, List.set_cons_succ]
      refine seqL_yield rfl (fun w' => by go_simp; rfl) ?_
      try simp only [Act.put, List.setIfInBounds_toArray, List.set_cons_zero, List.set_cons_succ]
      refine seqL_read hS rfl (fun w' hE => by have q := hE.cell m2; clear hE; go_simp; rfl) ?_
      try simp only [Act.put, List.setIfInBounds_toArray, List.set_cons_zero, List.set_cons_succ]
      refine seqL_yield rfl (fun w' => by go_simp; rfl) ?_
      try simp only [Act.put, List.setIfInBounds_toArray, List.set_cons_zero, List.set_cons_succ]
      refine seqL_yield rfl (fun w' => by go_simp; rfl) ?_
      try simp only [Act.put, List.setIfInBounds_toArray, List.set_cons_zero, List.set_cons_succ]
      refine seqL_read hS rfl (fun w' hE => by have q := hE.cell m3; clear hE; go_simp; rfl) ?_
      try simp only [Act.put, List.setIfInBounds_toArray, List.set_cons_zero, List.set_cons_succ]
      refine seqL_yield rfl (fun w' => by go_simp; rfl) ?_
      try simp only [Act.put, List.setIfInBounds_toArray, List.set_cons_zero, List.set_cons_succ]
      refine seqL_read hS rfl (fun w' hE => by have q := hE.cell m4; clear hE; go_simp; rfl) ?_
      try simp only [Act.put, List.setIfInBounds_toArray, List.set_cons_zero, List.set_cons_succ]
      refine seqL_yield rfl (fun w' => by go_simp; rfl) ?_
      try simp only [Act.put, List.setIfInBounds_toArray, List.set_cons_zero, List.set_cons_succ]
      refine seqL_read hS rfl (fun w' hE => by have q := hE.cell m5; clear hE; go_simp; rfl) ?_
      try simp only [Act.put, List.setIfInBounds_toArray, List.set_cons_zero, List.set_cons_succ]
      refine seqL_yield rfl (fun w' => by go_simp; rfl) ?_
      try simp only [Act.put, List.setIfInBounds_toArray, List.set_cons_zero, List.set_cons_succ]
      refine seqL_read hS rfl (fun w' hE => by have q := hE.cell m6; clear hE; go_simp; rfl) ?_
      try simp only [Act.put, List.setIfInBounds_toArray, List.set_cons_zero, List.set_cons_succ]
      refine seqL_grow rfl (fun K hK => ?_)
      have HKK := Lib.hid hK
      clear hK
      go_simp
      refine HKK.out _ _ (hS.alloc _) (fun hS1 => ?_)
      clear HKK K
      try simp only [Act.put, List.setIfInBounds_toArray, List.set_cons_zero, List.set_cons_succ]
      refine seqL_grow rfl (fun K hK => ?_)
      have HKK := Lib.hid hK
      clear hK
      go_simp
      refine (HCL.out _ hS1).mono ?_
      rintro e w2 ⟨av', fa, rfl, hE2, harr, hfr, hnd⟩
      obtain ⟨va, vcap, rfl, hva⟩ := id harr
      clear hva
      have hS2 := hS1.trans hE2
      have hob := hE2.block (show (W1.alloc (.cells #[i64 0, .slice none 0 0, i64 0, .slice none 0 0, i64 0, i64 0, i64 0] 48)).drew.heap[W1.heap.size]? = some _ from heap_alloc_new W1 _)
      refine HKK.out _ _ hS2 (fun _ => ?_)
      clear HKK K
      try simp only [Act.put, List.setIfInBounds_toArray, List.set_cons_zero, List.set_cons_succ]
      refine seqL_yield rfl (fun w' => by go_simp; rfl) ?_
      try simp only [Act.put, List.setIfInBounds_toArray, List.set_cons_zero, List.set_cons_succ]
      refine seqL_yield rfl (fun w' => by go_simp; rfl) ?_
      try simp only [Act.put, List.setIfInBounds_toArray, List.set_cons_zero, List.set_cons_succ]
      refine seqL_loud rfl (fun K hK => ?_)
      have HKK := Lib.hid hK
      clear hK
      obtain ⟨y0, y1, y2, y3, y4, y5, y6, yl⟩ := seven_facts hob
      have u0 := free_of_heap hob 0
      have u1 := free_of_heap hob 1
      have u2 := free_of_heap hob 2
      have u3 := free_of_heap hob 3
      have u4 := free_of_heap hob 4
      have u5 := free_of_heap hob 5
      have u6 := free_of_heap hob 6
      have HOB := Lib.hid hob
      clear hob
      go_simp
      refine HKK.out _ _ (seqL_nil ?_)
      clear HKK K
      try simp only [Act.put, List.setIfInBounds_toArray, List.set_cons_zero, List.set_cons_succ]
      go_wp2_with fail
      go_meet
      refine ⟨W1.heap.size, .slice va ar.length vcap, fa, rfl, hS2.seven (Nat.le_refl _) _ _ _ _ _ _ _, heap_seven _ _ _ _ _ _ _ HOB.out, ?_, Nat.le_refl _, fun y hy => ?_, fun hm => ?_⟩
      · refine Arr.kept (by simpa using harr) fun y hy => heap_seven_ne _ _ _ _ _ _ _ fun e => ?_
        have := hfr y hy
        simp at this
        omega
      · have := hfr y hy
        simp at this
        omega
      · have := hfr _ hm
        simp at this
        omega
  case rest =>
    obtain ⟨ob, av', fa, rfl, hEx, hob, harr, hobn, hfan, hoba⟩ := hcut
    obtain ⟨va, vcap, rfl, hva⟩ := id harr
    rw [List.length_map] at harr hob
    have hEW := HE1.out.trans hEx
    have hK0 : NgK w0 W gb (.slice (some ⟨nb, noff, none⟩) nn ncap) ov fp W.heap.size ob #[i64 kd, .slice ca cn ccap, i64 pd, .slice aa an acap, i64 lf, i64 rg, i64 tp] kd ⟨kd, pd, ar, lf, rg, tp⟩ (.slice va ar.length vcap) fa out [] wc (.slice none 0 0) ov fp := by
      have hl := HNG.out.own
      have hf := HNG.out.lt
      refine ⟨HNG.out.ext' hEW, hgbl, Frm.ext hEW _ _ _, hEx.block BN.out, hob, World.ownsRow_nil .., harr, Nat.le_refl _, by omega, fun y hy => by have := hfan y hy; omega, hoba, by omega, fun g hg => by simp [Value.ownBlock] at hg, fun g hg => ?_, fun hm => by have := hf ob hm; omega⟩
      have := (hl g hg).2
      exact ⟨by omega, by omega, fun hm => by have := hfan g hm; omega⟩
    have HK0 := Lib.hid hK0
    have hobw : W.heap.size ≠ ob := by omega
    clear hva hEx hob harr hobn hfan hoba hEW hK0 m0 m1 m2 m3 m4 m5 m6 ml f0 f1 f2 f3 f4 f5 f6 hbl c0 c1 cz0 cz1 cl HCL BN
    obtain ⟨m0, m1, m2, m3, m4, m5, m6, ml⟩ := seven_facts HK0.out.nblk
    have HL0 : Hid (NgLoop w0 W gb (.slice (some ⟨nb, noff, none⟩) nn ncap) ov fp W.heap.size ob #[i64 kd, .slice ca cn ccap, i64 pd, .slice aa an acap, i64 lf, i64 rg, i64 tp] kd ⟨kd, pd, ar, lf, rg, tp⟩ (.slice va ar.length vcap) fa out false k 0 wc) := ⟨.nil, k, _, _, _, rfl, rfl, by simpa [ngF, Fo.flat, Fo.roots] using HK0.out⟩
    clear HK0
    go_wp2_with fail
    go_loopw [54] (fun i wr => ∃ q : Nat, q ≤ cn ∧ i = .int .i64 q ∧ Hid (NgLoop w0 W gb (.slice (some ⟨nb, noff, none⟩) nn ncap) ov fp W.heap.size ob #[i64 kd, .slice ca cn ccap, i64 pd, .slice aa an acap, i64 lf, i64 rg, i64 tp] kd ⟨kd, pd, ar, lf, rg, tp⟩ (.slice va ar.length vcap) fa out false k q wr)) (fun i _ => cn - (intOf i).toNat)
    case atStart => exact ⟨0, Nat.zero_le _, rfl, HL0⟩
    case round =>
      obtain ⟨q, hq, rfl, HL⟩ := hrel
      clear HL0
      by_cases hlt : q < cn
      · obtain ⟨G, R, cv', ov', fp', hG, hGl, hK⟩ := HL.out
        cases R with
        | nil =>
          exfalso
          rw [Fo.app_nil] at hG
          have := HKL.out
          rw [hG, hGl] at this
          omega
        | cons n' k' R' =>
          have hcc : ((k.roots b).getD q 0) = ((b + G.count + k'.count : Nat) : Int) := by rw [hG, ← hGl, roots_at]
          obtain ⟨cb, coff, rfl, hcell⟩ := HCC.out q hlt
          rw [hcc] at hcell
          have e0 := hK.ng.ext.cell hcell
          have el := World.block_lt_of_cell? wr _ e0
          have HG := Lib.hid hG
          have HGL := Lib.hid hGl
          have HKK0 := Lib.hid hK
          obtain ⟨o0, o1, o2, o3, o4, o5, o6, ol⟩ := seven_facts hK.oblk
          obtain ⟨rl, hrl⟩ : ∃ rl, (ngF false G).roots out.length = rl := ⟨_, rfl⟩
          obtain ⟨outl, houtl⟩ : ∃ l, out ++ (ngF false G).flat out.length = l := ⟨_, rfl⟩
          have hcnt : G.count + k'.count + 1 ≤ k.count := by rw [hG, Fo.count_app]; simp only [Fo.count]; omega
          have hgc := ng_count G false
          have hlL : outl.length = out.length + (ngF false G).count := by rw [← houtl, List.length_append, Fo.flat_len]
          have hrL : rl.length ≤ 1000 := by
            rw [← hrl, Fo.roots_len]
            have := (ngF false G).len_le_count
            omega
          rw [hrl, houtl] at hK
          obtain ⟨va2, vcap2, hcv2, -⟩ := owns_row hK.own
          have HK1 := Lib.hid hK
          have hcall := HIH.out G n' k' R' hG false wr.drew ov' fp' outl (hK.ext (Ext.refl wr).drew).ng (by omega)
          obtain ⟨tt, htt⟩ : ∃ tt, ngF false (Fo.one n' k') = tt := ⟨_, rfl⟩
          obtain ⟨r, hr⟩ : ∃ r, (((outl.length + tt.count : Nat) : Int) - 1) = r := ⟨_, rfl⟩
          unfold CopyPost at hcall
          rw [htt, hr] at hcall
          obtain ⟨m, hm⟩ : ∃ m, rl.length = m := ⟨_, rfl⟩
          have HCALL := Lib.hid hcall
          have HRL := Lib.hid hrl
          have HOL := Lib.hid houtl
          have HTT := Lib.hid htt
          have HR := Lib.hid hr
          have HM := Lib.hid hm
          have HLL := Lib.hid hlL
          rw [hm] at hrL
          clear hG hGl hK hcell hcc hrl houtl hcall htt hr hcnt hgc hlL hcv2 HKK0 hm
          go_wp2_with fail
          refine wp_region_seq (fun w' => w'.cell? ⟨ob, 1, none⟩ = some cv') [(0, 0), (1, 1), (2, 0), (3, 0), (4, 0), (5, 2), (6, 2), (7, 3), (8, 0), (9, 3)] (by kernel_rfl) (by kernel_rfl) o1 (fun hS => ?_)
          simp only [List.map, nthOp]
          refine seqL_yield rfl (fun w' => by go_simp; rfl) ?_
          try simp only [Act.put, List.setIfInBounds_toArray, List.set_cons_zero, List.set_cons_succ]
          refine seqL_read hS rfl (fun w' hE => by go_simp; rfl) ?_
          try simp only [Act.put, List.setIfInBounds_toArray, List.set_cons_zero, List.set_cons_succ]
          refine seqL_yield rfl (fun w' => by go_simp; rfl) ?_
          try simp only [Act.put, List.setIfInBounds_toArray, List.set_cons_zero, List.set_cons_succ]
          refine seqL_yield rfl (fun w' => by go_simp; rfl) ?_
          try simp only [Act.put, List.setIfInBounds_toArray, List.set_cons_zero, List.set_cons_succ]
          refine seqL_yield rfl (fun w' => by go_simp; rfl) ?_
          try simp only [Act.put, List.setIfInBounds_toArray, List.set_cons_zero, List.set_cons_succ]
          refine seqL_grow rfl (fun K hK => ?_)
          have HKK := Lib.hid hK
          clear hK
          go_simp
          refine HCALL.out.mono ?_
          rintro e w2 ⟨rfl, ov2, fp2, hng2, hfrm2⟩
          have hK2 := (HK1.out.ext (Ext.refl wr).drew).call hng2 hfrm2
          have HK2 := Lib.hid hK2
          have hS2 : w2.cell? ⟨ob, 1, none⟩ = some cv' := by rw [cell_of_heap hK2.oblk]; rfl
          clear hng2 hfrm2 hK2
          refine HKK.out _ _ hS2 (fun _ => ?_)
          clear HKK K
          try simp only [Act.put, List.setIfInBounds_toArray, List.set_cons_zero, List.set_cons_succ]
          refine seqL_grow rfl (fun K hK => ?_)
          have HKK := Lib.hid hK
          clear hK
          go_simp
          refine HKK.out _ _ (by rw [World.cell?_alloc_lt _ _ _ (World.block_lt_of_cell? _ _ hS2)]; exact hS2) (fun _ => ?_)
          clear HKK K
          try simp only [Act.put, List.setIfInBounds_toArray, List.set_cons_zero, List.set_cons_succ]
          refine seqL_loud rfl (fun K hK => ?_)
          have HKK := Lib.hid hK
          clear hK
          have hsz := HK2.out.frm.size
          refine wp_append_lies _ _ _ 30 rfl W.heap.size 3 i0 (.int .i64 0) 1 8 Try.underlying30 hi' hz0 hz1 hz2 rfl (by decide) cv' m (rl.map i64) rfl (HM.out ▸ HK2.out.own.alloc _) ⟨w2.heap.size, 0, none⟩ 1 1 [i64 r] rfl rfl (World.news_of_block (heap_alloc_new _ _)) (by simp [Value.oneCell']) (by decide) (by unfold maxLen; omega) (by omega) (by rw [World.size_alloc]; omega) _ rfl ?_
          intro g' cap' w4 hown hgrow hat hlt'
          refine HKK.out _ _ ?_
          clear HKK K
          try simp only [Act.put, List.setIfInBounds_toArray, List.set_cons_zero, List.set_cons_succ]
          have h4 := HK2.out.at4 ((Ext.refl w2).alloc _) hgrow
          have q1 : w4.cell? ⟨ob, 1, none⟩ = some cv' := by rw [cell_of_heap h4]; rfl
          have z1 := free_of_heap h4 1
          have HK3 := Lib.hid (HK2.out.more ((Ext.refl w2).alloc _) HM.out hown hgrow hat)
          clear h4 hown hgrow hat hlt' hsz hS2
          refine seqL_yield rfl (fun w' => by go_simp; rfl) ?_
          try simp only [Act.put, List.setIfInBounds_toArray, List.set_cons_zero, List.set_cons_succ]
          refine seqL_loud rfl (fun K hK => ?_)
          have HKK := Lib.hid hK
          clear hK
          go_simp
          refine HKK.out _ _ (seqL_nil ?_)
          clear HKK K
          try simp only [Act.put, List.setIfInBounds_toArray, List.set_cons_zero, List.set_cons_succ]
          clear q1 z1 hS o0 o1 o2 o3 o4 o5 o6 ol e0 el
          go_wp2_with fail
          go_roundw
          case rel =>
            have hsh : (Fo.one n' k').Shaped := by
              have := HKS.out
              rw [HG.out] at this
              exact (shaped_cons.1 ((Fo.shaped_app _ _).1 this).2).1
            have hnx := ng_next (b := false) (G := G) hsh out.length
            have hfin := HK3.out
            rw [← HR.out, HLL.out, ← HTT.out, ← HRL.out, ← HOL.out, List.append_assoc, ← hnx.1, ← hnx.2] at hfin
            exact ⟨q + 1, by omega, by go_num, G.app (Fo.one n' k'), R', _, _, _, by rw [Fo.app_assoc]; exact HG.out, by rw [Fo.len_app, HGL.out]; rfl, hfin⟩
          case measure => simp [intOf]; omega
      · have hfin : ∃ cv' ov' fp', NgK w0 W gb (.slice (some ⟨nb, noff, none⟩) nn ncap) ov fp W.heap.size ob #[i64 kd, .slice ca cn ccap, i64 pd, .slice aa an acap, i64 lf, i64 rg, i64 tp] kd ⟨kd, pd, ar, lf, rg, tp⟩ (.slice va ar.length vcap) fa (out ++ (ngF false k).flat out.length) ((ngF false k).roots out.length) wr cv' ov' fp' := by
          obtain ⟨G, R, cv', ov', fp', hG, hGl, hK⟩ := HL.out
          have hl := HKL.out
          rw [hG, Fo.len_app, hGl] at hl
          have : R = .nil := by
            cases R with
            | nil => rfl
            | cons n' k' R' => simp [Fo.len] at hl; omega
          subst this
          rw [Fo.app_nil] at hG
          subst hG
          exact ⟨cv', ov', fp', hK⟩
        obtain ⟨cv', ov', fp', hK⟩ := hfin
        obtain ⟨fc, hfc, hsep⟩ := hK.fin
        have hrL : ((ngF false k).roots out.length).length * 8 ≤ 140737488351232 := by
          rw [Fo.roots_len]
          have := (ngF false k).len_le_count
          have := ng_count k false
          omega
        have hoL : (out ++ (ngF false k).flat out.length).length ≤ 1000 := by
          rw [List.length_append, Fo.flat_len]
          have := ng_count k false
          omega
        obtain ⟨o0, o1, o2, o3, o4, o5, o6, ol⟩ := seven_facts hK.oblk
        obtain ⟨m0, m1, m2, m3, m4, m5, m6, ml⟩ := seven_facts hK.nblk
        have hput := put_any w0 wr gb _ ov' fp' _ hK.ng ⟨kd, pd, ar, lf, rg, tp⟩ _ cv' (.slice va ar.length vcap) fc fa hfc hK.arr hrL han8 (fun y hy => (hsep y hy).2) hoL
        have HPUT := Lib.hid hput
        have HFR := Lib.hid hK.frm
        have HNG2 := Lib.hid hK.ng
        have HSEP := Lib.hid (fun y hy => (hsep y hy).1)
        clear hput hK hfc hsep HL HNG
        go_wp2_with fail
        refine HPUT.out.mono ?_
        intro e w' hp
        obtain ⟨he, -⟩ := id hp
        obtain ⟨z, hz⟩ : ∃ z : Int, ((out ++ (ngF false k).flat out.length).length : Int) = z := ⟨_, rfl⟩
        rw [hz] at he
        subst he
        have HFIN := Lib.hid (copy_fin (out := out) HFR.out HT.out.symm rfl rfl hp HSEP.out)
        clear hp hz
        go_wp2
        go_ret
        exact HFIN.out

set_option maxRecDepth 100000 in
set_option maxHeartbeats 4000000 in
theorem copy_neg (w0 : World) (gb : Nat) (iv : Value) (nodes : List (Nd × List Int)) (hin : Sl w0 7 88 rNode iv nodes) (n : Nd) (k : Fo) (b i : Nat) (hi : nodes[i]? = some (n, k.roots b)) (h4 : n.kind ≠ 4) (hk : 1 ≤ n.kind ∧ n.kind ≤ 8) (ha : arityOf n.kind < 0 ∨ (k.len : Int) = arityOf n.kind) (hks : k.Shaped)
    (ih : ∀ G n' k' R, k = Fo.app G (.cons n' k' R) → CopyN w0 gb iv ((b + G.count + k'.count : Nat) : Int) n' k') (W : World) (ov : Value) (fp : List Nat) (out : List (Nd × List Int)) (h : Ng w0 W gb iv ov fp out) (hlen : out.length + 2 * (k.count + 1) ≤ 1000) :
    Calls Try.prog 72 #[ptr gb, i64 i, .bool true] W (CopyPost w0 W gb iv ov fp out (ngF true (Fo.one n k))) := by
  obtain ⟨i0, hi', hz0, hz1, hz2⟩ := info_parts info3
  rw [ngF_node h4]
  obtain ⟨nb, noff, nn, ncap, cv, av, rfl, hlt, n1, n2, n3, hcv, hav, f0, f1, f2, f3, f4, f5, f6⟩ := node_at hin hi
  have hcl := fun W' (hW : Ext W W') => clone_ints W' av n.args ((hav.ext h.ext).ext hW).rd (let ⟨_, _, _, _, _, q, _⟩ := hav.open; q)
  obtain ⟨ca, ccap, rfl, -, c2, c3, hcc⟩ := hcv.open
  obtain ⟨aa, acap, rfl⟩ := hav.slice
  obtain ⟨c0, c1, cz0, cz1, cl⟩ := two_facts h.cell
  have hgbl := heap_lt h.cell
  obtain ⟨kd, pd, ar, lf, rg, tp⟩ := n
  simp only at h4 hk ha f0 f1 f2 f3 f4 f5 f6 hcl
  obtain ⟨t, ht⟩ : ∃ t, ngN true ⟨kd, pd, ar, lf, rg, tp⟩ (ngF true k) = t := ⟨_, rfl⟩
  rw [ht]
  obtain ⟨cn, hcn⟩ : ∃ n, (k.roots b).length = n := ⟨_, rfl⟩
  obtain ⟨an, han⟩ : ∃ n, ar.length = n := ⟨_, rfl⟩
  have hkl : k.len = cn := by rw [← hcn, Fo.roots_len]
  rw [hcn] at f1 hcc c3
  simp only [han] at f3 hcl
  replace f0 := h.ext.cell f0
  replace f1 := h.ext.cell f1
  replace f2 := h.ext.cell f2
  replace f3 := h.ext.cell f3
  replace f4 := h.ext.cell f4
  replace f5 := h.ext.cell f5
  replace f6 := h.ext.cell f6
  have hbl := World.block_lt_of_cell? W _ f0
  have han8 : ar.length * 8 ≤ 140737488351232 := by obtain ⟨_, _, _, _, _, q, _⟩ := hav.open; exact q
  have hb4 : (kd == 4) = false := by simpa using h4
  have HCL0 := Lib.hid hcl
  have HCC := Lib.hid hcc
  have HIH := Lib.hid ih
  have HNG := Lib.hid h
  have HT := Lib.hid ht
  have HKL := Lib.hid hkl
  have HKS := Lib.hid hks
  have HK := Lib.hid hk
  have HA := Lib.hid ha
  unfold maxLen at n2 c2
  clear hcl hcc ih h ht hkl hks hcv hav hi hin hcn han h4 hk ha
  go_enter Try.func72, Try.ntmps72
  go_upto_region 4 with fail
  generalize hW1 : W.alloc (.cells #[i64 kd, .slice ca cn ccap, i64 pd, .slice aa an acap, i64 lf, i64 rg, i64 tp] 48) = W1
  have HE1 : Hid (Ext W W1) := by show Ext W W1; rw [← hW1]; exact (Ext.refl W).alloc _
  have BN : Hid (W1.heap[W.heap.size]? = some (.cells #[i64 kd, .slice ca cn ccap, i64 pd, .slice aa an acap, i64 lf, i64 rg, i64 tp] 48)) := by show _ = _; rw [← hW1]; exact heap_alloc_new _ _
  have HCL : Hid (∀ W', Ext W1 W' → _) := fun W' hW' => HCL0.out W' (HE1.out.trans hW')
  obtain ⟨m0, m1, m2, m3, m4, m5, m6, ml⟩ := seven_facts BN.out
  clear hW1 HCL0
  go_cut [8] from 29 to 45 (NgOut W1 kd pd lf rg tp ar)
  case first =>
    refine wp_region_two (Ext W1) 8 17 [(0, 0), (1, 1), (2, 0), (3, 0), (4, 1), (5, 0), (6, 0), (7, 1), (10, 0), (11, 1), (12, 0), (13, 1), (14, 0), (15, 1), (8, 2), (9, 0), (16, 0), (17, 2), (18, 3)] [(0, 0), (1, 1), (2, 0), (3, 0), (4, 1), (5, 0), (6, 0), (7, 1), (10, 0), (11, 1), (12, 0), (13, 1), (14, 0), (15, 1), (17, 2), (8, 2), (9, 0), (16, 0), (18, 3)] (by decide) (by kernel_rfl) (by kernel_rfl) (by kernel_rfl) (Ext.refl W1).drew (fun hS => ?_) (fun hS => ?_)
    · simp only [List.map, nthOp]
      refine seqL_yield rfl (fun w' => by go_simp; rfl) ?_
      try simp only [Act.put, List.setIfInBounds_toArray, List.set_cons_zero, List.set_cons_succ]
      refine seqL_read hS rfl (fun w' hE => by have q := hE.cell m0; clear hE; go_simp; rfl) ?_
      try simp only [Act.put, List.setIfInBounds_toArray, List.set_cons_zero, List.set_cons_succ]
      refine seqL_yield rfl (fun w' => by go_simp; rfl) ?_
      try simp only [Act.put, List.setIfInBounds_toArray, List.set_cons_zero, List.set_cons_succ]
      refine seqL_yield rfl (fun w' => by go_simp; rfl) ?_
      try simp only [Act.put, List.setIfInBounds_toArray, List.set_cons_zero, List.set_cons_succ]
      refine seqL_read hS rfl (fun w' hE => by have q := hE.cell m2; clear hE; go_simp; rfl) ?_
      try simp only [Act.put, List.setIfInBounds_toArray, List.set_cons_zero, List.set_cons_succ]
      refine seqL_yield rfl (fun w' => by go_simp; rfl) ?_
      try simp only [Act.put, List.setIfInBounds_toArray, List.set_cons_zero, List.set_cons_succ]
      refine seqL_yield rfl (fun w' => by go_simp; rfl) ?_
      try simp only [Act.put, List.setIfInBounds_toArray, List.set_cons_zero, List.set_cons_succ]
      refine seqL_read hS rfl (fun w' hE => by have q := hE.cell m3; clear hE; go_simp; rfl) ?_
      try simp only [Act.put, List.setIfInBounds_toArray, List.set_cons_zero, List.set_cons_succ]
      refine seqL_yield rfl (fun w' => by go_simp; rfl) ?_
      try simp only [Act.put, List.setIfInBounds_toArray, List.set_cons_zero, List.set_cons_succ]
      refine seqL_read hS rfl (fun w' hE => by have q := hE.cell m4; clear hE; go_simp; rfl) ?_
      try simp only [Act.put, List.setIfInBounds_toArray, List.set_cons_zero, List.set_cons_succ]
      refine seqL_yield rfl (fun w' => by go_simp; rfl) ?_
      try simp only [Act.put, List.setIfInBounds_toArray, List.set_cons_zero, List.set_cons_succ]
      refine seqL_read hS rfl (fun w' hE => by have q := hE.cell m5; clear hE; go_simp; rfl) ?_
      try simp only [Act.put, List.setIfInBounds_toArray, List.set_cons_zero, List.set_cons_succ]
      refine seqL_yield rfl (fun w' => by go_simp; rfl) ?_
      try simp only [Act.put, List.setIfInBounds_toArray, List.set_cons_zero, List.set_cons_succ]
      refine seqL_read hS rfl (fun w' hE => by have q := hE.cell m6; clear hE; go_simp; rfl) ?_
      try simp only [Act.put, List.setIfInBounds_toArray, List.set_cons_zero, List.set_cons_succ]
      refine seqL_grow rfl (fun K hK => ?_)
      have HKK := Lib.hid hK
      clear hK
      go_simp
      refine (HCL.out _ hS).mono ?_
      rintro e w2 ⟨av', fa, rfl, hE2, harr, hfr, hnd⟩
      obtain ⟨va, vcap, rfl, hva⟩ := id harr
      clear hva
      have hS2 := hS.trans hE2
      refine HKK.out _ _ hS2 (fun _ => ?_)
      clear HKK K
      try simp only [Act.put, List.setIfInBounds_toArray, List.set_cons_zero, List.set_cons_succ]
      refine seqL_yield rfl (fun w' => by go_simp; rfl) ?_
      try simp only [Act.put, List.setIfInBounds_toArray, List.set_cons_zero, List.set_cons_succ]
      refine seqL_yield rfl (fun w' => by go_simp; rfl) ?_
      try simp only [Act.put, List.setIfInBounds_toArray, List.set_cons_zero, List.set_cons_succ]
      refine seqL_grow rfl (fun K hK => ?_)
      have HKK := Lib.hid hK
      clear hK
      go_simp
      refine HKK.out _ _ (hS2.alloc _) (fun hS3 => ?_)
      clear HKK K
      try simp only [Act.put, List.setIfInBounds_toArray, List.set_cons_zero, List.set_cons_succ]
      refine seqL_loud rfl (fun K hK => ?_)
      have HKK := Lib.hid hK
      clear hK
      go_simp
      refine HKK.out _ _ (seqL_nil ?_)
      clear HKK K
      try simp only [Act.put, List.setIfInBounds_toArray, List.set_cons_zero, List.set_cons_succ]
      go_wp2_with fail
      go_meet
      refine ⟨w2.heap.size, .slice va ar.length vcap, fa, rfl, hS2.alloc _, heap_alloc_new _ _, ?_, hS2.size, fun y hy => hfr y hy, fun hm => by have := harr.lt _ hm; omega⟩
      simpa using harr.ext ((Ext.refl w2).alloc _)
    · simp only [List.map, nthOp]
      refine seqL_yield rfl (fun w' => by go_simp; rfl) ?_
      try simp only [Act.put, List.setIfInBounds_toArray, List.set_cons_zero, List.set_cons_succ]
      refine seqL_read hS rfl (fun w' hE => by have q := hE.cell m0; clear hE; go_simp; rfl) ?_
      try simp only [Act.put, List.setIfInBounds_toArray, List.set_cons_zero, List.set_cons_succ]
      refine seqL_yield rfl (fun w' => by go_simp; rfl) ?_
      try simp only [Act.put, List.setIfInBounds_toArray, List.set_cons_zero, List.set_cons_succ]
      refine seqL_yield rfl (fun w' => by go_simp; rfl) ?_
      try simp only [Act.put, List.setIfInBounds_toArray, List.set_cons_zero, List.set_cons_succ]
      refine seqL_read hS rfl (fun w' hE => by have q := hE.cell m2; clear hE; go_simp; rfl) ?_
      try simp only [Act.put, List.setIfInBounds_toArray, List.set_cons_zero, List.set_cons_succ]
      refine seqL_yield rfl (fun w' => by go_simp; rfl) ?_
      try simp only [Act.put, List.setIfInBounds_toArray, List.set_cons_zero, List.set_cons_succ]
      refine seqL_yield rfl (fun w' => by go_simp; rfl) ?_
      try simp only [Act.put, List.setIfInBounds_toArray, List.set_cons_zero, List.set_cons_succ]
      refine seqL_read hS rfl (fun w' hE => by have q := hE.cell m3; clear hE; go_simp; rfl) ?_
      try simp only [Act.put, List.setIfInBounds_toArray, List.set_cons_zero, List.set_cons_succ]
      refine seqL_yield rfl (fun w' => by go_simp; rfl) ?_
      try simp only [Act.put, List.setIfInBounds_toArray, List.set_cons_zero, List.set_cons_succ]
      refine seqL_read hS rfl (fun w' hE => by have q := hE.cell m4; clear hE; go_simp; rfl) ?_
      try simp only [Act.put, List.setIfInBounds_toArray, List.set_cons_zero, List.set_cons_succ]
      refine seqL_yield rfl (fun w' => by go_simp; rfl) ?_
      try simp only [Act.put, List.setIfInBounds_toArray, List.set_cons_zero, List.set_cons_succ]
      refine seqL_read hS rfl (fun w' hE => by have q := hE.cell m5; clear hE; go_simp; rfl) ?_
      try simp only [Act.put, List.setIfInBounds_toArray, List.set_cons_zero, List.set_cons_succ]
      refine seqL_yield rfl (fun w' => by go_simp; rfl) ?_
      try simp only [Act.put, List.setIfInBounds_toArray, List.set_cons_zero, List.set_cons_succ]
      refine seqL_read hS rfl (fun w' hE => by have q := hE.cell m6; clear hE; go_simp; rfl) ?_
      try simp only [Act.put, List.setIfInBounds_toArray, List.set_cons_zero, List.set_cons_succ]
      refine seqL_grow rfl (fun K hK => ?_)
      have HKK := Lib.hid hK
      clear hK
      go_simp
      refine HKK.out _ _ (hS.alloc _) (fun hS1 => ?_)
      clear HKK K
      try simp only [Act.put, List.setIfInBounds_toArray, List.set_cons_zero, List.set_cons_succ]
      refine seqL_grow rfl (fun K hK => ?_)
      have HKK := Lib.hid hK
      clear hK
      go_simp
      refine (HCL.out _ hS1).mono ?_
      rintro e w2 ⟨av', fa, rfl, hE2, harr, hfr, hnd⟩
      obtain ⟨va, vcap, rfl, hva⟩ := id harr
      clear hva
      have hS2 := hS1.trans hE2
      have hob := hE2.block (show (W1.alloc (.cells #[i64 0, .slice none 0 0, i64 0, .slice none 0 0, i64 0, i64 0, i64 0] 48)).drew.heap[W1.heap.size]? = some _ from heap_alloc_new W1 _)
      refine HKK.out _ _ hS2 (fun _ => ?_)
      clear HKK K
      try simp only [Act.put, List.setIfInBounds_toArray, List.set_cons_zero, List.set_cons_succ]
      refine seqL_yield rfl (fun w' => by go_simp; rfl) ?_
      try simp only [Act.put, List.setIfInBounds_toArray, List.set_cons_zero, List.set_cons_succ]
      refine seqL_yield rfl (fun w' => by go_simp; rfl) ?_
      try simp only [Act.put, List.setIfInBounds_toArray, List.set_cons_zero, List.set_cons_succ]
      refine seqL_loud rfl (fun K hK => ?_)
      have HKK := Lib.hid hK
      clear hK
      obtain ⟨y0, y1, y2, y3, y4, y5, y6, yl⟩ := seven_facts hob
      have u0 := free_of_heap hob 0
      have u1 := free_of_heap hob 1
      have u2 := free_of_heap hob 2
      have u3 := free_of_heap hob 3
      have u4 := free_of_heap hob 4
      have u5 := free_of_heap hob 5
      have u6 := free_of_heap hob 6
      have HOB := Lib.hid hob
      clear hob
      go_simp
      refine HKK.out _ _ (seqL_nil ?_)
      clear HKK K
      try simp only [Act.put, List.setIfInBounds_toArray, List.set_cons_zero, List.set_cons_succ]
      go_wp2_with fail
      go_meet
      refine ⟨W1.heap.size, .slice va ar.length vcap, fa, rfl, hS2.seven (Nat.le_refl _) _ _ _ _ _ _ _, heap_seven _ _ _ _ _ _ _ HOB.out, ?_, Nat.le_refl _, fun y hy => ?_, fun hm => ?_⟩
      · refine Arr.kept (by simpa using harr) fun y hy => heap_seven_ne _ _ _ _ _ _ _ fun e => ?_
        have := hfr y hy
        simp at this
        omega
      · have := hfr y hy
        simp at this
        omega
      · have := hfr _ hm
        simp at this
        omega
  case rest =>
    obtain ⟨ob, av', fa, rfl, hEx, hob, harr, hobn, hfan, hoba⟩ := hcut
    obtain ⟨va, vcap, rfl, hva⟩ := id harr
    rw [List.length_map] at harr hob
    have hEW := HE1.out.trans hEx
    have hK0 : NgK w0 W gb (.slice (some ⟨nb, noff, none⟩) nn ncap) ov fp W.heap.size ob #[i64 kd, .slice ca cn ccap, i64 pd, .slice aa an acap, i64 lf, i64 rg, i64 tp] kd ⟨kd, pd, ar, lf, rg, tp⟩ (.slice va ar.length vcap) fa out [] wc (.slice none 0 0) ov fp := by
      have hl := HNG.out.own
      have hf := HNG.out.lt
      refine ⟨HNG.out.ext' hEW, hgbl, Frm.ext hEW _ _ _, hEx.block BN.out, hob, World.ownsRow_nil .., harr, Nat.le_refl _, by omega, fun y hy => by have := hfan y hy; omega, hoba, by omega, fun g hg => by simp [Value.ownBlock] at hg, fun g hg => ?_, fun hm => by have := hf ob hm; omega⟩
      have := (hl g hg).2
      exact ⟨by omega, by omega, fun hm => by have := hfan g hm; omega⟩
    have HK0 := Lib.hid hK0
    have hobw : W.heap.size ≠ ob := by omega
    clear hva hEx hob harr hobn hfan hoba hEW hK0 m0 m1 m2 m3 m4 m5 m6 ml f0 f1 f2 f3 f4 f5 f6 hbl c0 c1 cz0 cz1 cl HCL BN
    obtain ⟨m0, m1, m2, m3, m4, m5, m6, ml⟩ := seven_facts HK0.out.nblk
    obtain ⟨o0, o1, o2, o3, o4, o5, o6, ol⟩ := seven_facts HK0.out.oblk
    have z0 := free_of_heap HK0.out.oblk 0
    go_wp2_with fail
    refine (dual_any _ _).mono ?_
    rintro e w' ⟨rfl, rfl⟩
    have HL0 : Hid (NgLoop w0 W gb (.slice (some ⟨nb, noff, none⟩) nn ncap) ov fp W.heap.size ob #[i64 kd, .slice ca cn ccap, i64 pd, .slice aa an acap, i64 lf, i64 rg, i64 tp] (dual kd) ⟨kd, pd, ar, lf, rg, tp⟩ (.slice va ar.length vcap) fa out true k 0 (wc.setCell ⟨ob, 0, none⟩ (i64 (dual kd)))) := ⟨.nil, k, _, _, _, rfl, rfl, by simpa [ngF, Fo.flat, Fo.roots] using HK0.out.kind (dual kd)⟩
    clear HK0
    go_wp2_with fail
    go_loopw [54] (fun i wr => ∃ q : Nat, q ≤ cn ∧ i = .int .i64 q ∧ Hid (NgLoop w0 W gb (.slice (some ⟨nb, noff, none⟩) nn ncap) ov fp W.heap.size ob #[i64 kd, .slice ca cn ccap, i64 pd, .slice aa an acap, i64 lf, i64 rg, i64 tp] (dual kd) ⟨kd, pd, ar, lf, rg, tp⟩ (.slice va ar.length vcap) fa out true k q wr)) (fun i _ => cn - (intOf i).toNat)
    case atStart => exact ⟨0, Nat.zero_le _, rfl, HL0⟩
    case round =>
      obtain ⟨q, hq, rfl, HL⟩ := hrel
      clear HL0
      by_cases hlt : q < cn
      · obtain ⟨G, R, cv', ov', fp', hG, hGl, hK⟩ := HL.out
        cases R with
        | nil =>
          exfalso
          rw [Fo.app_nil] at hG
          have := HKL.out
          rw [hG, hGl] at this
          omega
        | cons n' k' R' =>
          have hcc : ((k.roots b).getD q 0) = ((b + G.count + k'.count : Nat) : Int) := by rw [hG, ← hGl, roots_at]
          obtain ⟨cb, coff, rfl, hcell⟩ := HCC.out q hlt
          rw [hcc] at hcell
          have e0 := hK.ng.ext.cell hcell
          have el := World.block_lt_of_cell? wr _ e0
          have HG := Lib.hid hG
          have HGL := Lib.hid hGl
          have HKK0 := Lib.hid hK
          obtain ⟨o0, o1, o2, o3, o4, o5, o6, ol⟩ := seven_facts hK.oblk
          obtain ⟨rl, hrl⟩ : ∃ rl, (ngF true G).roots out.length = rl := ⟨_, rfl⟩
          obtain ⟨outl, houtl⟩ : ∃ l, out ++ (ngF true G).flat out.length = l := ⟨_, rfl⟩
          have hcnt : G.count + k'.count + 1 ≤ k.count := by rw [hG, Fo.count_app]; simp only [Fo.count]; omega
          have hgc := ng_count G true
          have hlL : outl.length = out.length + (ngF true G).count := by rw [← houtl, List.length_append, Fo.flat_len]
          have hrL : rl.length ≤ 1000 := by
            rw [← hrl, Fo.roots_len]
            have := (ngF true G).len_le_count
            omega
          rw [hrl, houtl] at hK
          obtain ⟨va2, vcap2, hcv2, -⟩ := owns_row hK.own
          have HK1 := Lib.hid hK
          have hcall := HIH.out G n' k' R' hG true wr.drew ov' fp' outl (hK.ext (Ext.refl wr).drew).ng (by omega)
          obtain ⟨tt, htt⟩ : ∃ tt, ngF true (Fo.one n' k') = tt := ⟨_, rfl⟩
          obtain ⟨r, hr⟩ : ∃ r, (((outl.length + tt.count : Nat) : Int) - 1) = r := ⟨_, rfl⟩
          unfold CopyPost at hcall
          rw [htt, hr] at hcall
          obtain ⟨m, hm⟩ : ∃ m, rl.length = m := ⟨_, rfl⟩
          have HCALL := Lib.hid hcall
          have HRL := Lib.hid hrl
          have HOL := Lib.hid houtl
          have HTT := Lib.hid htt
          have HR := Lib.hid hr
          have HM := Lib.hid hm
          have HLL := Lib.hid hlL
          rw [hm] at hrL
          clear hG hGl hK hcell hcc hrl houtl hcall htt hr hcnt hgc hlL hcv2 HKK0 hm
          go_wp2_with fail
          refine wp_region_seq (fun w' => w'.cell? ⟨ob, 1, none⟩ = some cv') [(0, 0), (1, 1), (2, 0), (3, 0), (4, 0), (5, 2), (6, 2), (7, 3), (8, 0), (9, 3)] (by kernel_rfl) (by kernel_rfl) o1 (fun hS => ?_)
          simp only [List.map, nthOp]
          refine seqL_yield rfl (fun w' => by go_simp; rfl) ?_
          try simp only [Act.put, List.setIfInBounds_toArray, List.set_cons_zero, List.set_cons_succ]
          refine seqL_read hS rfl (fun w' hE => by go_simp; rfl) ?_
          try simp only [Act.put, List.setIfInBounds_toArray, List.set_cons_zero, List.set_cons_succ]
          refine seqL_yield rfl (fun w' => by go_simp; rfl) ?_
          try simp only [Act.put, List.setIfInBounds_toArray, List.set_cons_zero, List.set_cons_succ]
          refine seqL_yield rfl (fun w' => by go_simp; rfl) ?_
          try simp only [Act.put, List.setIfInBounds_toArray, List.set_cons_zero, List.set_cons_succ]
          refine seqL_yield rfl (fun w' => by go_simp; rfl) ?_
          try simp only [Act.put, List.setIfInBounds_toArray, List.set_cons_zero, List.set_cons_succ]
          refine seqL_grow rfl (fun K hK => ?_)
          have HKK := Lib.hid hK
          clear hK
          go_simp
          refine HCALL.out.mono ?_
          rintro e w2 ⟨rfl, ov2, fp2, hng2, hfrm2⟩
          have hK2 := (HK1.out.ext (Ext.refl wr).drew).call hng2 hfrm2
          have HK2 := Lib.hid hK2
          have hS2 : w2.cell? ⟨ob, 1, none⟩ = some cv' := by rw [cell_of_heap hK2.oblk]; rfl
          clear hng2 hfrm2 hK2
          refine HKK.out _ _ hS2 (fun _ => ?_)
          clear HKK K
          try simp only [Act.put, List.setIfInBounds_toArray, List.set_cons_zero, List.set_cons_succ]
          refine seqL_grow rfl (fun K hK => ?_)
          have HKK := Lib.hid hK
          clear hK
          go_simp
          refine HKK.out _ _ (by rw [World.cell?_alloc_lt _ _ _ (World.block_lt_of_cell? _ _ hS2)]; exact hS2) (fun _ => ?_)
          clear HKK K
          try simp only [Act.put, List.setIfInBounds_toArray, List.set_cons_zero, List.set_cons_succ]
          refine seqL_loud rfl (fun K hK => ?_)
          have HKK := Lib.hid hK
          clear hK
          have hsz := HK2.out.frm.size
          refine wp_append_lies _ _ _ 30 rfl W.heap.size 3 i0 (.int .i64 0) 1 8 Try.underlying30 hi' hz0 hz1 hz2 rfl (by decide) cv' m (rl.map i64) rfl (HM.out ▸ HK2.out.own.alloc _) ⟨w2.heap.size, 0, none⟩ 1 1 [i64 r] rfl rfl (World.news_of_block (heap_alloc_new _ _)) (by simp [Value.oneCell']) (by decide) (by unfold maxLen; omega) (by omega) (by rw [World.size_alloc]; omega) _ rfl ?_
          intro g' cap' w4 hown hgrow hat hlt'
          refine HKK.out _ _ ?_
          clear HKK K
          try simp only [Act.put, List.setIfInBounds_toArray, List.set_cons_zero, List.set_cons_succ]
          have h4 := HK2.out.at4 ((Ext.refl w2).alloc _) hgrow
          have q1 : w4.cell? ⟨ob, 1, none⟩ = some cv' := by rw [cell_of_heap h4]; rfl
          have z1 := free_of_heap h4 1
          have HK3 := Lib.hid (HK2.out.more ((Ext.refl w2).alloc _) HM.out hown hgrow hat)
          clear h4 hown hgrow hat hlt' hsz hS2
          refine seqL_yield rfl (fun w' => by go_simp; rfl) ?_
          try simp only [Act.put, List.setIfInBounds_toArray, List.set_cons_zero, List.set_cons_succ]
          refine seqL_loud rfl (fun K hK => ?_)
          have HKK := Lib.hid hK
          clear hK
          go_simp
          refine HKK.out _ _ (seqL_nil ?_)
          clear HKK K
          try simp only [Act.put, List.setIfInBounds_toArray, List.set_cons_zero, List.set_cons_succ]
          clear q1 z1 hS o0 o1 o2 o3 o4 o5 o6 ol e0 el
          go_wp2_with fail
          go_roundw
          case rel =>
            have hsh : (Fo.one n' k').Shaped := by
              have := HKS.out
              rw [HG.out] at this
              exact (shaped_cons.1 ((Fo.shaped_app _ _).1 this).2).1
            have hnx := ng_next (b := true) (G := G) hsh out.length
            have hfin := HK3.out
            rw [← HR.out, HLL.out, ← HTT.out, ← HRL.out, ← HOL.out, List.append_assoc, ← hnx.1, ← hnx.2] at hfin
            exact ⟨q + 1, by omega, by go_num, G.app (Fo.one n' k'), R', _, _, _, by rw [Fo.app_assoc]; exact HG.out, by rw [Fo.len_app, HGL.out]; rfl, hfin⟩
          case measure => simp [intOf]; omega
      · have hfin : ∃ cv' ov' fp', NgK w0 W gb (.slice (some ⟨nb, noff, none⟩) nn ncap) ov fp W.heap.size ob #[i64 kd, .slice ca cn ccap, i64 pd, .slice aa an acap, i64 lf, i64 rg, i64 tp] (dual kd) ⟨kd, pd, ar, lf, rg, tp⟩ (.slice va ar.length vcap) fa (out ++ (ngF true k).flat out.length) ((ngF true k).roots out.length) wr cv' ov' fp' := by
          obtain ⟨G, R, cv', ov', fp', hG, hGl, hK⟩ := HL.out
          have hl := HKL.out
          rw [hG, Fo.len_app, hGl] at hl
          have : R = .nil := by
            cases R with
            | nil => rfl
            | cons n' k' R' => simp [Fo.len] at hl; omega
          subst this
          rw [Fo.app_nil] at hG
          subst hG
          exact ⟨cv', ov', fp', hK⟩
        obtain ⟨cv', ov', fp', hK⟩ := hfin
        obtain ⟨fc, hfc, hsep⟩ := hK.fin
        have hrL : ((ngF true k).roots out.length).length * 8 ≤ 140737488351232 := by
          rw [Fo.roots_len]
          have := (ngF true k).len_le_count
          have := ng_count k true
          omega
        have hoL : (out ++ (ngF true k).flat out.length).length ≤ 1000 := by
          rw [List.length_append, Fo.flat_len]
          have := ng_count k true
          omega
        obtain ⟨o0, o1, o2, o3, o4, o5, o6, ol⟩ := seven_facts hK.oblk
        obtain ⟨m0, m1, m2, m3, m4, m5, m6, ml⟩ := seven_facts hK.nblk
        have hput := put_any w0 wr gb _ ov' fp' _ hK.ng ⟨(dual kd), pd, ar, lf, rg, tp⟩ _ cv' (.slice va ar.length vcap) fc fa hfc hK.arr hrL han8 (fun y hy => (hsep y hy).2) hoL
        have HPUT := Lib.hid hput
        have HFR := Lib.hid hK.frm
        have HNG2 := Lib.hid hK.ng
        have HSEP := Lib.hid (fun y hy => (hsep y hy).1)
        clear hput hK hfc hsep HL HNG
        have hnil : (kd = 1 ∨ kd = 2 ∨ kd = 3) → k = .nil := fun h => by
          have ha := HA.out
          have h0 : k.len = 0 := by
            rcases h with rfl | rfl | rfl
            · simpa [arityOf] using ha
            · simpa [arityOf] using ha
            · simpa [arityOf] using ha
          cases k with
          | nil => rfl
          | cons _ _ _ => simp [Fo.len] at h0
        have HNIL := Lib.hid hnil
        clear hnil
        by_cases h1 : kd = 1
        · subst h1
          have hkn := HNIL.out (.inl rfl)
          subst hkn
          have hp6 := put_any w0 wr gb _ ov' fp' _ HNG2.out (zNd 6) [] (.slice none 0 0) (.slice none 0 0) [] [] (Arr.nil _ _ _ (Nat.zero_le _)) (Arr.nil _ _ _ (Nat.zero_le _)) (by simp) (by simp [zNd]) (by simp) hoL
          have HP6 := Lib.hid hp6
          clear hp6
          go_wp2_with fail
          refine HP6.out.mono ?_
          intro e w' hp
          obtain ⟨he, -⟩ := id hp
          obtain ⟨z, hz⟩ : ∃ z : Int, ((out ++ (ngF true .nil).flat out.length).length : Int) = z := ⟨_, rfl⟩
          rw [hz] at he
          subst he
          have hfin : CopyPost w0 W gb _ ov fp out t _ w' := copy_fin (K := .nil) (n' := zNd 6) HFR.out (by rw [← HT.out]; rfl) rfl rfl hp (by simp)
          have HFIN := Lib.hid hfin
          clear hp hfin hz
          go_wp2
          go_ret
          exact HFIN.out
        · by_cases h23 : kd = 2 ∨ kd = 3
          · have hkn := HNIL.out (.inr h23)
            subst hkn
            have ht : t = Fo.one (zNd 4) (Fo.one ⟨dual kd, pd, ar, lf, rg, tp⟩ .nil) := by
              rw [← HT.out]
              unfold ngN
              rw [if_neg (by decide), if_neg h1, if_pos h23]; rfl
            have HT2 := Lib.hid ht
            have hb1 : (kd == 1) = false := by simpa using h1
            clear ht h1
            rcases h23 with h2 | h2
            · subst h2
              go_wp2_with fail
              refine HPUT.out.mono ?_
              intro e w' hp
              obtain ⟨he, ov2, hng2, hfr2⟩ := put_frm' HFR.out hp HSEP.out
              rw [show (out ++ (ngF true .nil).flat out.length).length = out.length by simp [ngF, Fo.flat]] at he
              subst he
              have hsz2 := hfr2.size
              have hgbl2 := heap_lt hng2.cell
              have hown2 := hng2.own
              have hlow2 := hng2.ext.size
              have hfr3 := hfr2.trans (Frm.ext ((Ext.refl w').alloc (.cells #[i64 (out.length : Int)] 3)) gb ov2 _)
              have hp4 := put_any w0 (w'.alloc (.cells #[i64 (out.length : Int)] 3)) gb _ ov2 _ _ (hng2.ext' ((Ext.refl w').alloc _)) (zNd 4) [(out.length : Int)] (.slice (some ⟨w'.heap.size, 0, none⟩) 1 1) (.slice none 0 0) [w'.heap.size] []
                ⟨_, 1, rfl, Nat.le_refl _, by decide, .inr ⟨w'.heap.size, 0, _, 3, rfl, rfl, heap_alloc_new _ _, fun i x h => by simpa using h⟩⟩ (Arr.nil _ _ _ (Nat.zero_le _)) (by simp) (by simp [zNd])
                (fun y hy => by
                  have : y = w'.heap.size := by simpa using hy
                  subst this
                  exact ⟨by omega, by omega, fun e => by have := (hown2 _ e).2; omega⟩) (by simp only [List.length_append, ngF, Fo.flat, List.length_nil, List.length_cons] at hoL ⊢; omega)
              have HP4 := Lib.hid hp4
              have HFR3 := Lib.hid hfr3
              clear hp hng2 hfr2 hp4 hfr3
              go_wp2_with fail
              refine HP4.out.mono ?_
              intro e w3 hp
              obtain ⟨he, -⟩ := id hp
              obtain ⟨z, hz⟩ : ∃ z : Int, (((out ++ (ngF true .nil).flat out.length) ++ [((⟨dual 2, pd, ar, lf, rg, tp⟩ : Nd), (ngF true .nil).roots out.length)]).length : Int) = z := ⟨_, rfl⟩
              rw [hz] at he
              subst he
              have hfin : CopyPost w0 W gb _ ov fp out t _ w3 := copy_fin (K := Fo.one ⟨dual 2, pd, ar, lf, rg, tp⟩ .nil) (n' := zNd 4) HFR3.out HT2.out (by simp [ngF, Fo.flat, Fo.roots, Fo.one]) (by simp [Fo.one, Fo.roots, Fo.count]) hp (fun y hy => by
                have : y = w'.heap.size := by simpa using hy
                omega)
              have HFIN := Lib.hid hfin
              clear hp hfin hz
              go_wp2
              go_ret
              exact HFIN.out
            · subst h2
              go_wp2_with fail
              refine HPUT.out.mono ?_
              intro e w' hp
              obtain ⟨he, ov2, hng2, hfr2⟩ := put_frm' HFR.out hp HSEP.out
              rw [show (out ++ (ngF true .nil).flat out.length).length = out.length by simp [ngF, Fo.flat]] at he
              subst he
              have hsz2 := hfr2.size
              have hgbl2 := heap_lt hng2.cell
              have hown2 := hng2.own
              have hlow2 := hng2.ext.size
              have hfr3 := hfr2.trans (Frm.ext ((Ext.refl w').alloc (.cells #[i64 (out.length : Int)] 3)) gb ov2 _)
              have hp4 := put_any w0 (w'.alloc (.cells #[i64 (out.length : Int)] 3)) gb _ ov2 _ _ (hng2.ext' ((Ext.refl w').alloc _)) (zNd 4) [(out.length : Int)] (.slice (some ⟨w'.heap.size, 0, none⟩) 1 1) (.slice none 0 0) [w'.heap.size] []
                ⟨_, 1, rfl, Nat.le_refl _, by decide, .inr ⟨w'.heap.size, 0, _, 3, rfl, rfl, heap_alloc_new _ _, fun i x h => by simpa using h⟩⟩ (Arr.nil _ _ _ (Nat.zero_le _)) (by simp) (by simp [zNd])
                (fun y hy => by
                  have : y = w'.heap.size := by simpa using hy
                  subst this
                  exact ⟨by omega, by omega, fun e => by have := (hown2 _ e).2; omega⟩) (by simp only [List.length_append, ngF, Fo.flat, List.length_nil, List.length_cons] at hoL ⊢; omega)
              have HP4 := Lib.hid hp4
              have HFR3 := Lib.hid hfr3
              clear hp hng2 hfr2 hp4 hfr3
              go_wp2_with fail
              refine HP4.out.mono ?_
              intro e w3 hp
              obtain ⟨he, -⟩ := id hp
              obtain ⟨z, hz⟩ : ∃ z : Int, (((out ++ (ngF true .nil).flat out.length) ++ [((⟨dual 3, pd, ar, lf, rg, tp⟩ : Nd), (ngF true .nil).roots out.length)]).length : Int) = z := ⟨_, rfl⟩
              rw [hz] at he
              subst he
              have hfin : CopyPost w0 W gb _ ov fp out t _ w3 := copy_fin (K := Fo.one ⟨dual 3, pd, ar, lf, rg, tp⟩ .nil) (n' := zNd 4) HFR3.out HT2.out (by simp [ngF, Fo.flat, Fo.roots, Fo.one]) (by simp [Fo.one, Fo.roots, Fo.count]) hp (fun y hy => by
                have : y = w'.heap.size := by simpa using hy
                omega)
              have HFIN := Lib.hid hfin
              clear hp hfin hz
              go_wp2
              go_ret
              exact HFIN.out
          · have ht : t = Fo.one ⟨dual kd, pd, ar, lf, rg, tp⟩ (ngF true k) := by
              rw [← HT.out]
              unfold ngN
              rw [if_neg (by decide), if_neg h1, if_neg h23]
            have HT2 := Lib.hid ht
            have hb1 : (kd == 1) = false := by simpa using h1
            have hb2 : (kd == 2) = false := by simpa using fun h => h23 (.inl h)
            have hb3 : (kd == 3) = false := by simpa using fun h => h23 (.inr h)
            clear ht h1 h23
            go_wp2_with fail
            refine HPUT.out.mono ?_
            intro e w' hp
            obtain ⟨he, -⟩ := id hp
            obtain ⟨z, hz⟩ : ∃ z : Int, ((out ++ (ngF true k).flat out.length).length : Int) = z := ⟨_, rfl⟩
            rw [hz] at he
            subst he
            have HFIN := Lib.hid (copy_fin (out := out) HFR.out HT2.out rfl rfl hp HSEP.out)
            clear hp hz
            go_wp2
            go_ret
            exact HFIN.out

end Go.Proofs.Ytodlkjjoenglgaa

/- condition's negator: copy of all trees. -/
namespace Go.Proofs.Ytodlkjjoenglgaa
open Go Go.RowKit

set_option maxRecDepth 100000 in
set_option maxHeartbeats 1000000 in
theorem copy_not (w0 : World) (gb : Nat) (iv : Value) (nodes : List (Nd × List Int)) (hin : Sl w0 7 88 rNode iv nodes) (n n' : Nd) (k' : Fo) (b i : Nat) (hi : nodes[i]? = some (n, (Fo.one n' k').roots b)) (h4 : n.kind = 4)
    (ih : CopyN w0 gb iv ((b + k'.count : Nat) : Int) n' k') : CopyN w0 gb iv (i : Int) n (Fo.one n' k') := by
  intro neg W ov fp out h hlen
  have ht : ngF neg (Fo.one n (Fo.one n' k')) = ngF (!neg) (Fo.one n' k') := by
    show (if n.kind = 4 then ngF (!neg) (Fo.one n' k') else _).app .nil = _
    rw [if_pos h4, Fo.app_nil]
  rw [ht]
  obtain ⟨t, ht⟩ : ∃ t, ngF (!neg) (Fo.one n' k') = t := ⟨_, rfl⟩
  rw [Fo.roots_one] at hi
  obtain ⟨nb, noff, nn, ncap, cv, av, rfl, hlt, n1, n2, n3, hcv, hav, f0, f1, f2, f3, f4, f5, f6⟩ := node_at hin hi
  have hcall := fun W' (hW : Ext W W') => ih (!neg) W' ov fp out (h.ext' hW) (by rw [Fo.count_one] at hlen; omega)
  rw [ht] at hcall ⊢
  obtain ⟨ca, ccap, rfl, -, c2, c3, hcc⟩ := hcv.open
  obtain ⟨aa, acap, rfl⟩ := hav.slice
  obtain ⟨c0, c1, cz0, cz1, cl⟩ := two_facts h.cell
  obtain ⟨kd, pd, ar, lf, rg, tp⟩ := n
  simp only at h4 f0 f1 f2 f3 f4 f5 f6
  subst h4
  obtain ⟨cb, coff, rfl, hcell⟩ := hcc 0 (by simp)
  obtain ⟨c, hc⟩ : ∃ c : Int, ((b + k'.count : Nat) : Int) = c := ⟨_, rfl⟩
  obtain ⟨cn, hcn⟩ : ∃ n, [((b + k'.count : Nat) : Int)].length = n := ⟨_, rfl⟩
  obtain ⟨an, han⟩ : ∃ n, ar.length = n := ⟨_, rfl⟩
  have hcell : w0.cell? ⟨cb, coff, none⟩ = some (i64 c) := by rw [← hc]; simpa using hcell
  rw [hc] at hcall
  rw [hcn] at f1
  rw [han] at f3
  have hcn1 : 0 < cn := by rw [← hcn]; simp
  replace f0 := h.ext.cell f0
  replace f1 := h.ext.cell f1
  replace f2 := h.ext.cell f2
  replace f3 := h.ext.cell f3
  replace f4 := h.ext.cell f4
  replace f5 := h.ext.cell f5
  replace f6 := h.ext.cell f6
  replace hcell := h.ext.cell hcell
  have hbl := World.block_lt_of_cell? W _ f0
  have hcl := World.block_lt_of_cell? W _ hcell
  have hfin : ∀ e W', CopyPost w0 (W.alloc (.cells #[i64 4, .slice (some ⟨cb, coff, none⟩) cn ccap, i64 pd, .slice aa an acap, i64 lf, i64 rg, i64 tp] 48)) gb (.slice (some ⟨nb, noff, none⟩) nn ncap) ov fp out t e W' → CopyPost w0 W gb (.slice (some ⟨nb, noff, none⟩) nn ncap) ov fp out t e W' := fun e W' ⟨h1, ov', fp', h2, h3⟩ =>
    ⟨h1, ov', fp', h2, (Frm.ext ((Ext.refl W).alloc _) gb ov fp).trans h3⟩
  have HCALL := Lib.hid hcall
  have HFIN := Lib.hid hfin
  unfold maxLen at n2 c2
  clear hcall hfin hcc h ih ht hcv hav hi hin hcn han hc
  cases neg with
  | false =>
    go_enter Try.func72, Try.ntmps72
    go_wp2_with fail
    refine (HCALL.out _ ((Ext.refl W).alloc _)).mono ?_
    intro e w' hp
    obtain ⟨he, -⟩ := id hp
    obtain ⟨z, hz⟩ : ∃ z : Int, (((out.length + t.count : Nat) : Int) - 1) = z := ⟨_, rfl⟩
    rw [hz] at he
    subst he
    have HF := Lib.hid (HFIN.out _ _ hp)
    clear hp hz HCALL HFIN
    go_wp2
    go_ret
    exact HF.out
  | true =>
    go_enter Try.func72, Try.ntmps72
    go_wp2_with fail
    refine (HCALL.out _ ((Ext.refl W).alloc _)).mono ?_
    intro e w' hp
    obtain ⟨he, -⟩ := id hp
    obtain ⟨z, hz⟩ : ∃ z : Int, (((out.length + t.count : Nat) : Int) - 1) = z := ⟨_, rfl⟩
    rw [hz] at he
    subst he
    have HF := Lib.hid (HFIN.out _ _ hp)
    clear hp hz HCALL HFIN
    go_wp2
    go_ret
    exact HF.out

theorem copy_forest (w0 : World) (gb : Nat) (iv : Value) (nodes : List (Nd × List Int)) (hin : Sl w0 7 88 rNode iv nodes) (f : Fo) : ∀ (b : Nat), (∀ i, i < f.count → nodes[b + i]? = (f.flat b)[i]?) → f.Shaped →
    ∀ G n k R, f = Fo.app G (.cons n k R) → CopyN w0 gb iv ((b + G.count + k.count : Nat) : Int) n k := by
  induction f with
  | nil => intro b _ _ G n k R h; cases G <;> cases h
  | cons m q r ihq ihr =>
    intro b hf hs G n k R hG
    obtain ⟨s1, s2, s3, s4⟩ := hs
    simp only [Fo.count] at hf
    cases G with
    | nil =>
      simp only [Fo.app, Fo.cons.injEq] at hG
      obtain ⟨rfl, rfl, rfl⟩ := hG
      simp only [Fo.count, Nat.add_zero]
      have hi : nodes[b + q.count]? = some (m, q.roots b) := by
        rw [hf q.count (by omega), Fo.flat, List.getElem?_append_right (by rw [Fo.flat_len]; exact Nat.le_refl _), Fo.flat_len, Nat.sub_self]
        rfl
      have ihq' := ihq b (fun i hi => by rw [hf i (by omega), Fo.flat, List.getElem?_append_left (by rw [Fo.flat_len]; exact hi)]) s3
      by_cases h4 : m.kind = 4
      · have hl : q.len = 1 := by unfold arityOf at s2; rw [if_pos (.inl h4)] at s2; omega
        obtain ⟨n', k', rfl⟩ := one_of_len hl
        exact copy_not w0 gb iv nodes hin m n' k' b _ hi h4 (by have := ihq' .nil n' k' .nil rfl; simpa [Fo.count] using this)
      · intro neg W ov fp out h hlen
        cases neg with
        | false => exact copy_pos w0 gb iv nodes hin m q b _ hi h4 s1 s2 s3 ihq' W ov fp out h hlen
        | true => exact copy_neg w0 gb iv nodes hin m q b _ hi h4 s1 s2 s3 ihq' W ov fp out h hlen
    | cons n0 k0 G =>
      simp only [Fo.app, Fo.cons.injEq] at hG
      obtain ⟨rfl, rfl, rfl⟩ := hG
      have := ihr (b + q.count + 1) (fun i hi => by
        rw [show b + q.count + 1 + i = b + (q.count + 1 + i) by omega, hf _ (by omega), Fo.flat, List.getElem?_append_right (by rw [Fo.flat_len]; omega), Fo.flat_len, show q.count + 1 + i - q.count = i + 1 by omega, List.getElem?_cons_succ]) s4 G n k R rfl
      simp only [Fo.count]
      rw [show b + (q.count + G.count + 1) + k.count = b + q.count + 1 + G.count + k.count by omega]
      exact this

/-- copy on the root. -/
theorem copy_root (w0 : World) (gb : Nat) (iv : Value) (n : Nd) (k : Fo) (hin : Sl w0 7 88 rNode iv ((Fo.one n k).flat 0)) (hs : (Fo.one n k).Shaped) : CopyN w0 gb iv (k.count : Int) n k := by
  have := copy_forest w0 gb iv _ hin (Fo.one n k) 0 (fun i _ => by rw [Nat.zero_add]) hs .nil n k .nil rfl
  simpa [Fo.count] using this
end Go.Proofs.Ytodlkjjoenglgaa

/- condition.Negate. -/
namespace Go.Proofs.Ytodlkjjoenglgaa
open Go Go.RowKit

theorem results_cnd_fault {fn : Func} {r p : Tmp} {tmps : Array Value} {b c : Nat} {w : World} {x y : Int} {u v : Value} (h : fn.results = #[.cell r 33, .cell p 70]) (hr : tmps.getD r undef = .pointer (some ⟨c, 0, none⟩)) (ht : tmps.getD p undef = .pointer (some ⟨b, 0, none⟩))
    (hc : w.heap[c]? = some (.cells #[u, v] 33)) (hb : w.heap[b]? = some (.cells #[i64 x, i64 y] 70)) :
    (results fn tmps).run Try.prog w = .ok (.tuple #[.agg #[u, v], faultV (x, y)]) w := by
  have h0 : w.cell? ⟨b, 0, none⟩ = some (i64 x) := by rw [cell_of_heap hb]; rfl
  have h1 : w.cell? ⟨b, 1, none⟩ = some (i64 y) := by rw [cell_of_heap hb]; rfl
  have g0 : w.cell? ⟨c, 0, none⟩ = some u := by rw [cell_of_heap hc]; rfl
  have g1 : w.cell? ⟨c, 1, none⟩ = some v := by rw [cell_of_heap hc]; rfl
  rw [Array.getD_eq_getD_getElem?] at ht hr
  simp only [results, h]
  simp [go_sem, hr, ht, h0, h1, g0, g1, Sem.run_bind, Result.andThen]

/-- Nodes that lie at or above Lo. -/
def NodNew (Lo : Nat) (W : World) (nv : Value) (l : List (Nd × List Int)) : Prop :=
  l.length * 88 ≤ 140737488351232 ∧ ∃ cs fp base, W.ownsRow base 48 7 nv l.length cs ∧ Lo ≤ base ∧ OutAt W l cs fp ∧ ∀ x ∈ fp, Lo ≤ x
def IntNew (Lo : Nat) (W : World) (v : Value) (l : List Int) : Prop := l.length * 8 ≤ 140737488351232 ∧ ∃ f, Arr W f v (l.map i64) ∧ ∀ x ∈ f, Lo ≤ x
theorem NodNew.sl {Lo : Nat} {W : World} {nv : Value} {l : List (Nd × List Int)} (h : NodNew Lo W nv l) : Sl W 7 88 rNode nv l := by
  obtain ⟨h0, cs, fp, base, h1, -, h2, -⟩ := h
  exact h2.sl h1 h0
theorem NodNew.kept {Lo : Nat} {W W' : World} {nv : Value} {l : List (Nd × List Int)} (h : NodNew Lo W nv l) (hk : ∀ x, Lo ≤ x → x < W.heap.size → W'.heap[x]? = W.heap[x]?) : NodNew Lo W' nv l := by
  obtain ⟨h0, cs, fp, base, h1, h2, h3, h4⟩ := h
  exact ⟨h0, cs, fp, base, owns_at h1 fun g hg => hk g (Nat.le_trans h2 (h1.lt g hg).1) (h1.lt g hg).2, h2, h3.kept fun x hx => hk x (h4 x hx) (h3.lt x hx), h4⟩
theorem IntNew.ints {Lo : Nat} {W : World} {v : Value} {l : List Int} (h : IntNew Lo W v l) : IntsAt W v l := let ⟨h0, _, h1, _⟩ := h; IntsAt.of_rd h1.rd h0
theorem IntNew.kept {Lo : Nat} {W W' : World} {v : Value} {l : List Int} (h : IntNew Lo W v l) (hk : ∀ x, Lo ≤ x → x < W.heap.size → W'.heap[x]? = W.heap[x]?) : IntNew Lo W' v l := by
  obtain ⟨h0, f, h1, h2⟩ := h
  exact ⟨h0, f, h1.kept fun x hx => hk x (h2 x hx) (h1.lt x hx), h2⟩
theorem NodNew.ext {Lo : Nat} {W W' : World} {nv : Value} {l : List (Nd × List Int)} (h : NodNew Lo W nv l) (e : Ext W W') : NodNew Lo W' nv l := h.kept fun x _ hx => Below.block e x hx
theorem IntNew.ext {Lo : Nat} {W W' : World} {v : Value} {l : List Int} (h : IntNew Lo W v l) (e : Ext W W') : IntNew Lo W' v l := h.kept fun x _ hx => Below.block e x hx

/-- Negate's fault. -/
def negV (D : Dom) (C : Cnd) (t : Fo) : Int × Int := if valV D C ≠ (0, 0) then valV D C else if 30 < t.count then (10, -13) else (0, 0)
def NegPost (w : World) (v : Int × Int) (ts : List Int) (t : Fo) (e : Ending) (w' : World) : Prop := Ext w w' ∧ ∃ tv' nv', e = .returned (.tuple #[.agg #[tv', nv'], faultV v]) ∧ sliceV tv' ∧ sliceV nv' ∧ (v = (0, 0) → IntNew w.heap.size w' tv' ts ∧ NodNew w.heap.size w' nv' (t.flat 0))

theorem heap_four {w : World} {b c : Nat} {a0 a1 a2 a3 : Value} {T T' : TypeId} (u v x y : Value) (hne : b ≠ c) (h1 : w.heap[b]? = some (.cells #[a0, a1] T)) (h2 : w.heap[c]? = some (.cells #[a2, a3] T')) :
    ((((w.setCell ⟨b, 0, none⟩ u).setCell ⟨b, 1, none⟩ v).setCell ⟨c, 0, none⟩ x).setCell ⟨c, 1, none⟩ y).heap[b]? = some (.cells #[u, v] T) ∧
    ((((w.setCell ⟨b, 0, none⟩ u).setCell ⟨b, 1, none⟩ v).setCell ⟨c, 0, none⟩ x).setCell ⟨c, 1, none⟩ y).heap[c]? = some (.cells #[x, y] T') := by
  refine ⟨?_, heap_two (c0 := a2) (c1 := a3) _ _ ?_⟩
  · rw [heap_setCell_ne _ hne, heap_setCell_ne _ hne]
    exact heap_two _ _ h1
  · rw [heap_setCell_ne _ (Ne.symm hne), heap_setCell_ne _ (Ne.symm hne)]
    exact h2
theorem heap_four_ne {w : World} {b c k : Nat} (u v x y : Value) (h1 : k ≠ b) (h2 : k ≠ c) :
    ((((w.setCell ⟨b, 0, none⟩ u).setCell ⟨b, 1, none⟩ v).setCell ⟨c, 0, none⟩ x).setCell ⟨c, 1, none⟩ y).heap[k]? = w.heap[k]? := by
  rw [heap_setCell_ne _ h2, heap_setCell_ne _ h2, heap_setCell_ne _ h1, heap_setCell_ne _ h1]
theorem heap_two_ne {w : World} {b x : Nat} (u v : Value) (h : x ≠ b) : ((w.setCell ⟨b, 0, none⟩ u).setCell ⟨b, 1, none⟩ v).heap[x]? = w.heap[x]? := by
  rw [heap_setCell_ne _ h, heap_setCell_ne _ h]

set_option maxRecDepth 20000 in
set_option maxHeartbeats 4000000 in
theorem negTop (w : World) (d : DomV) (D : Dom) (hd : DomAt w d D) (tv nv : Value) (C : Cnd) (hc : CndAt w tv nv C) (n : Nd) (k : Fo) (hT : valV D C = (0, 0) → C.nodes = (Fo.one n k).flat 0 ∧ (Fo.one n k).Shaped ∧ (Fo.one n k).count ≤ 30) :
    Calls Try.prog 50 #[.agg d.cells, .agg #[tv, nv]] w (NegPost w (negV D C (ngF true (Fo.one n k))) C.types (ngF true (Fo.one n k))) := by
  obtain ⟨v, hv⟩ : ∃ v, negV D C (ngF true (Fo.one n k)) = v := ⟨_, rfl⟩
  obtain ⟨t, ht⟩ : ∃ t, ngF true (Fo.one n k) = t := ⟨_, rfl⟩
  rw [hv, ht]
  rw [ht] at hv
  have hval := fun W (hW : Ext w W) => valV_any W d D (hd.ext hW) tv nv C (hc.ext hW)
  have hty := fun W (hW : Ext w W) => clone_ints W tv C.types (hc.ext hW).types.rd (let ⟨_, _, _, _, _, q, _⟩ := hc.types.open; q)
  have hcopy : valV D C = (0, 0) → ∀ w0 (_ : Ext w w0) gb (_ : gb = w0.heap.size) (z : Int) (_ : z = (C.nodes.length : Int) - 1),
      Calls Try.prog 72 #[ptr gb, i64 z, .bool true] (w0.alloc (.cells #[nv, .slice none 0 0] 109)) (CopyPost w0 (w0.alloc (.cells #[nv, .slice none 0 0] 109)) gb nv (.slice none 0 0) [] [] t) := fun h1 w0 hW gb hgb z hz => by
    obtain ⟨t1, t2, t3⟩ := hT h1
    have hcl : C.nodes.length = k.count + 1 := by rw [t1, Fo.flat_len, Fo.count_one]
    rw [← ht, show z = (k.count : Int) by omega]
    subst hgb
    rw [Fo.count_one] at t3
    refine copy_root w0 _ nv n k ?_ t2 true _ _ [] [] ⟨(Ext.refl w0).alloc _, heap_alloc_new _ _, Nat.le_refl _, ⟨[], World.ownsRow_nil .., rfl, rfl⟩, by simp, fun g hg => by simp [Value.ownBlock] at hg, by simp⟩ (by simp; omega)
    rw [← t1]
    exact (hc.ext hW).nodes
  obtain ⟨vv, hvv⟩ : ∃ x, valV D C = x := ⟨_, rfl⟩
  obtain ⟨nn, hnn⟩ : ∃ n, C.nodes.length = n := ⟨_, rfl⟩
  obtain ⟨ts, hts⟩ : ∃ l, C.types = l := ⟨_, rfl⟩
  have hnpos : vv = (0, 0) → 1 ≤ nn := fun h => by obtain ⟨t1, -⟩ := hT (hvv.trans h); rw [← hnn, t1, Fo.flat_len, Fo.count_one]; omega
  have h1 : v = if vv ≠ (0, 0) then vv else if 30 < t.count then (10, -13) else (0, 0) := by rw [← hv, ← hvv]; rfl
  have hb8 : ts.length * 8 ≤ 140737488351232 := by rw [← hts]; obtain ⟨_, _, _, _, _, q, _⟩ := hc.types.open; exact q
  obtain ⟨ta, tn, tcap, htv⟩ := Sl.slice hc.types
  obtain ⟨na, ncap, ncv, nav, hnv, -, -, n3, -⟩ := hc.nodes.nodes
  obtain ⟨t1, tn1, tcap1, e1⟩ := hd.types.slice
  obtain ⟨t2, tn2, tcap2, e2⟩ := hd.objects.slice
  obtain ⟨t3, tn3, tcap3, e3⟩ := hd.preds.slice
  obtain ⟨t4, tn4, tcap4, e4⟩ := hd.schemas.slice
  obtain ⟨t5, tn5, tcap5, e5⟩ := hd.init.slice
  obtain ⟨t6, tn6, tcap6, e6⟩ := hd.goal.slice
  have hdc : d.cells = #[d.tv, d.ov, d.pv, d.sv, d.iv, d.gv] := rfl
  rw [hdc] at hval ⊢
  subst htv
  rw [hnn] at hnv n3
  subst hnv
  simp only [hvv, hnn, hts, e1, e2, e3, e4, e5, e6] at hval hty hcopy ⊢
  have HVAL := Lib.hid hval
  have HTY := Lib.hid hty
  have HCOPY := Lib.hid hcopy
  have HNP := Lib.hid hnpos
  have H1 := Lib.hid h1
  clear hval hty hcopy hnpos h1 hvv hnn hts hv ht hd hc hT hdc e1 e2 e3 e4 e5 e6
  obtain ⟨v0, v1⟩ := vv
  go_enter Try.func50, Try.ntmps50
  go_wp2_with fail
  refine (HVAL.out _ (((((Ext.refl w).alloc _).alloc _).alloc _).alloc _)).mono ?_
  rintro e w1 ⟨rfl, hE⟩
  have B0 := Lib.hid (hE.of_new.of_new.of_new.block (heap_alloc_new w _))
  have B1 := Lib.hid (hE.of_new.of_new.block (heap_alloc_second w _ _))
  have B2 := Lib.hid (show w1.heap[w.heap.size + 1 + 1]? = some (.cells #[.slice none 0 0, .slice none 0 0] 33) from by
    have h := hE.of_new.block (heap_alloc_new _ (.cells #[.slice none 0 0, .slice none 0 0] 33))
    rwa [World.size_alloc, World.size_alloc] at h)
  have B3 := Lib.hid (show w1.heap[w.heap.size + 1 + 1 + 1]? = some (.cells #[i64 0, i64 0] 70) from by
    have h := hE.block (heap_alloc_new _ (.cells #[i64 0, i64 0] 70))
    rwa [World.size_alloc, World.size_alloc, World.size_alloc] at h)
  have HE1 := Lib.hid hE.of_new.of_new.of_new.of_new
  clear hE
  obtain ⟨b0, b1, b2, b3, b4, b5, bl⟩ := six_facts B0.out
  obtain ⟨c0, c1, cz0, cz1, cl⟩ := two_facts B1.out
  obtain ⟨p0, p1, pz0, pz1, pl⟩ := two_facts B2.out
  obtain ⟨r0, r1, z0, z1, rl⟩ := two_facts B3.out
  have hbad : ¬(v0 = 0 ∧ v1 = 0) → v = (v0, v1) := fun h => by rw [H1.out, if_pos (by simpa using h)]
  by_cases hd : v0 = 0 ∧ v1 = 0
  · obtain ⟨rfl, rfl⟩ := hd
    have HN := HNP.out rfl
    have H1a := Lib.hid (show v = _ by rw [H1.out, if_neg (by simp)])
    have HCOPY1 := Lib.hid (fun w0 hW gb hgb z hz => HCOPY.out rfl w0 hW gb hgb z hz)
    clear H1 hbad HNP HCOPY
    go_wp2_with fail
    refine (HCOPY1.out (w1.alloc (.cells #[i64 0, i64 0] 70)) (HE1.out.alloc _) (w1.heap.size + 1) (by rw [World.size_alloc]) _ (by omega)).mono ?_
    intro e w2 hp
    obtain ⟨he, ov, fp, hng, hfrm⟩ := hp
    obtain ⟨z, hz⟩ : ∃ z : Int, (((([] : List (Nd × List Int)).length + t.count : Nat) : Int) - 1) = z := ⟨_, rfl⟩
    rw [hz] at he
    subst he
    rw [List.nil_append] at hng
    have hE2 := hng.ext
    have hE1 := hng.ext.of_new
    replace B0 := Lib.hid (hE1.block B0.out)
    replace B1 := Lib.hid (hE1.block B1.out)
    replace B2 := Lib.hid (hE1.block B2.out)
    replace B3 := Lib.hid (hE1.block B3.out)
    have HE2 := Lib.hid (HE1.out.trans hE1)
    have hlt1 := rl
    clear hz hfrm b0 b1 b2 b3 b4 b5 bl c0 c1 cz0 cz1 cl p0 p1 pz0 pz1 pl r0 r1 z0 z1 rl HVAL HCOPY1
    obtain ⟨b0, b1, b2, b3, b4, b5, bl⟩ := six_facts B0.out
    obtain ⟨c0, c1, cz0, cz1, cl⟩ := two_facts B1.out
    obtain ⟨p0, p1, pz0, pz1, pl⟩ := two_facts B2.out
    obtain ⟨r0, r1, z0, z1, rl⟩ := two_facts B3.out
    obtain ⟨g0, g1, gz0, gz1, gl⟩ := two_facts hng.cell
    obtain ⟨cs, hown, hout⟩ := hng.nodes
    rw [Fo.flat_len] at hown
    obtain ⟨oa, ocap, hov, -⟩ := owns_row hown
    have hnew := hng.new
    have hownl := hown.lt
    rw [World.size_alloc] at hnew hownl
    have HNEW := Lib.hid hnew
    have HOWNL := Lib.hid hownl
    have HOWN := Lib.hid hown
    have HOUT := Lib.hid hout
    have hwl : w1.heap.size + 1 ≤ w2.heap.size := by have := hE2.size; rwa [World.size_alloc] at this
    obtain ⟨tc, htc⟩ : ∃ n, t.count = n := ⟨_, rfl⟩
    rw [htc] at hov
    have HTC := Lib.hid htc
    have H1b := Lib.hid (show v = if 30 < tc then (10, -13) else (0, 0) by rw [H1a.out, htc])
    subst hov
    clear hng hE2 hE1 hown hout hnew hownl htc H1a
    by_cases h30 : 30 < tc
    · have HV := Lib.hid (show v = (10, -13) by rw [H1b.out, if_pos h30])
      clear H1b
      go_wp2
      rw [HV.out]
      refine bodyPost_ret (results_cnd_fault (x := 10) (y := -13) (u := .slice none 0 0) (v := .slice none 0 0) rfl rfl rfl ?_ ?_) rfl ⟨?_, _, _, rfl, ⟨_, _, _, rfl⟩, ⟨_, _, _, rfl⟩, fun h => (by cases h)⟩
      · exact (heap_four _ _ _ _ (by omega) B2.out B3.out).1
      · exact (heap_four _ _ _ _ (by omega) B2.out B3.out).2
      · exact ((HE2.out.two (b := w.heap.size + 1 + 1) (by omega) _ _).two (b := w.heap.size + 1 + 1 + 1) (by omega) _ _)
    · have HV := Lib.hid (show v = (0, 0) by rw [H1b.out, if_neg h30])
      clear H1b
      go_wp2_with fail
      refine wp_region_seq (Ext w2) [(0, 0), (1, 1), (3, 0), (4, 0), (5, 0), (6, 1), (8, 0), (2, 2), (7, 0), (9, 3), (10, 3)] (by kernel_rfl) (by kernel_rfl) (Ext.refl w2).drew (fun hS => ?_)
      simp only [List.map, nthOp]
      refine seqL_yield rfl (fun w' => by go_simp; rfl) ?_
      try simp only [Act.put, List.setIfInBounds_toArray, List.set_cons_zero, List.set_cons_succ]
      refine seqL_read hS rfl (fun w' hE => by have q := hE.cell c0; clear hE; go_simp; rfl) ?_
      try simp only [Act.put, List.setIfInBounds_toArray, List.set_cons_zero, List.set_cons_succ]
      refine seqL_yield rfl (fun w' => by go_simp; rfl) ?_
      try simp only [Act.put, List.setIfInBounds_toArray, List.set_cons_zero, List.set_cons_succ]
      refine seqL_yield rfl (fun w' => by go_simp; rfl) ?_
      try simp only [Act.put, List.setIfInBounds_toArray, List.set_cons_zero, List.set_cons_succ]
      refine seqL_yield rfl (fun w' => by go_simp; rfl) ?_
      try simp only [Act.put, List.setIfInBounds_toArray, List.set_cons_zero, List.set_cons_succ]
      refine seqL_read hS rfl (fun w' hE => by have q := hE.cell g1; clear hE; go_simp; rfl) ?_
      try simp only [Act.put, List.setIfInBounds_toArray, List.set_cons_zero, List.set_cons_succ]
      refine seqL_yield rfl (fun w' => by go_simp; rfl) ?_
      try simp only [Act.put, List.setIfInBounds_toArray, List.set_cons_zero, List.set_cons_succ]
      refine seqL_grow rfl (fun K hK => ?_)
      have HKK := Lib.hid hK
      clear hK
      go_simp
      refine (HTY.out _ (HE2.out.trans hS)).mono ?_
      rintro e w3 ⟨tv', f, rfl, hE3, harr, hfr, hnd⟩
      have hE3' := hS.trans hE3
      obtain ⟨va, vcap, hva, -⟩ := id harr
      refine HKK.out _ _ hE3' (fun _ => ?_)
      clear HKK K
      replace B2 := Lib.hid (hE3'.block B2.out)
      replace B3 := Lib.hid (hE3'.block B3.out)
      have HARR := Lib.hid harr
      have HFR := Lib.hid (fun x hx => Nat.le_trans hS.size (hfr x hx))
      have HE3 := Lib.hid (HE2.out.trans hE3')
      have HE4 := Lib.hid hE3'
      clear p0 p1 pz0 pz1 pl r0 r1 z0 z1 rl
      obtain ⟨p0, p1, pz0, pz1, pl⟩ := two_facts B2.out
      obtain ⟨r0, r1, z0, z1, rl⟩ := two_facts B3.out
      subst hva
      clear hE3' hE3 harr hfr hnd hS
      try simp only [Act.put, List.setIfInBounds_toArray, List.set_cons_zero, List.set_cons_succ]
      refine seqL_yield rfl (fun w' => by go_simp; rfl) ?_
      try simp only [Act.put, List.setIfInBounds_toArray, List.set_cons_zero, List.set_cons_succ]
      refine seqL_loud rfl (fun K hK => ?_)
      have HKK := Lib.hid hK
      clear hK
      go_simp
      refine HKK.out _ _ ?_
      clear HKK K
      try simp only [Act.put, List.setIfInBounds_toArray, List.set_cons_zero, List.set_cons_succ]
      refine seqL_loud rfl (fun K hK => ?_)
      have HKK := Lib.hid hK
      clear hK
      go_simp
      refine HKK.out _ _ (seqL_nil ?_)
      clear HKK K
      try simp only [Act.put, List.setIfInBounds_toArray, List.set_cons_zero, List.set_cons_succ]
      go_wp2
      rw [HV.out]
      refine bodyPost_ret (results_cnd_fault (x := 0) (y := 0) (u := .slice va ts.length vcap) (v := .slice oa tc ocap) rfl rfl rfl ?_ ?_) rfl ⟨?_, _, _, rfl, ⟨_, _, _, rfl⟩, ⟨_, _, _, rfl⟩, fun _ => ?_⟩
      · exact (heap_four _ _ _ _ (by omega) B2.out B3.out).1
      · exact (heap_four _ _ _ _ (by omega) B2.out B3.out).2
      · exact ((HE3.out.two (b := w.heap.size + 1 + 1) (by omega) _ _).two (b := w.heap.size + 1 + 1 + 1) (by omega) _ _)
      · refine ⟨⟨hb8, f, Arr.kept (by simpa using HARR.out) fun x hx => heap_four_ne _ _ _ _ ?_ ?_, fun x hx => ?_⟩, by rw [Fo.flat_len, HTC.out]; omega, cs, fp, _, owns_at (w := w3) (owns_at (by rw [Fo.flat_len]; exact HOWN.out) fun g hg => Below.block HE4.out g (HOWNL.out g hg).2) fun g hg => heap_four_ne _ _ _ _ ?_ ?_, ?_, (HOUT.out.kept fun x hx => Below.block HE4.out x (HOUT.out.lt x hx)).kept fun x hx => heap_four_ne _ _ _ _ ?_ ?_, fun x hx => ?_⟩
        · have := HFR.out x hx; omega
        · have := HFR.out x hx; omega
        · have := HFR.out x hx; omega
        · have := (HOWNL.out g hg).1; omega
        · have := (HOWNL.out g hg).1; omega
        · rw [World.size_alloc]; omega
        · have := HNEW.out x hx; omega
        · have := HNEW.out x hx; omega
        · have := HNEW.out x hx; omega
  · have HV := Lib.hid (hbad hd)
    have HB : Hid ((v0, v1) = ((0 : Int), (0 : Int)) → False) := fun h => absurd (by simpa using h) hd
    clear H1 hbad
    by_cases hd0 : v0 = 0
    · have hd1 : ¬ v1 = 0 := fun h => hd ⟨hd0, h⟩
      subst hd0
      clear hd
      go_wp2_with fail
      generalize hW : w1.alloc (.cells #[i64 0, i64 v1] 70) = W
      have hEW : Ext w1 W := by rw [← hW]; exact (Ext.refl w1).alloc _
      have hbw : W.heap[w1.heap.size]? = some (.cells #[i64 0, i64 v1] 70) := by rw [← hW]; exact heap_alloc_new _ _
      replace B2 := Lib.hid (hEW.block B2.out)
      replace B3 := Lib.hid (hEW.block B3.out)
      have HEW := Lib.hid (HE1.out.trans hEW)
      have hlt1 := rl
      clear hW hEW p0 p1 pz0 pz1 pl r0 r1 z0 z1 rl
      obtain ⟨p0, p1, pz0, pz1, pl⟩ := two_facts B2.out
      obtain ⟨r0, r1, z0, z1, rl⟩ := two_facts B3.out
      obtain ⟨x0, x1, xz0, xz1, xl⟩ := two_facts hbw
      refine wp_region_seq (fun w' => w'.cell? ⟨w1.heap.size, 0, none⟩ = some (i64 0) ∧ w'.cell? ⟨w1.heap.size, 1, none⟩ = some (i64 v1)) [(0, 0), (1, 1), (2, 2), (3, 3)] (by kernel_rfl) (by kernel_rfl) ⟨x0, x1⟩ (fun hS => ?_)
      simp only [List.map, nthOp]
      refine seqL_yield rfl (fun w' => by go_simp; rfl) ?_
      try simp only [Act.put, List.setIfInBounds_toArray, List.set_cons_zero, List.set_cons_succ]
      refine seqL_read (v := faultV (0, v1)) hS rfl (fun w' hE => by obtain ⟨q0, q1⟩ := hE; go_simp) ?_
      try simp only [Act.put, List.setIfInBounds_toArray, List.set_cons_zero, List.set_cons_succ]
      refine seqL_grow rfl (fun K hK => ?_)
      have HKK := Lib.hid hK
      clear hK
      have hne : w1.heap.size ≠ w.heap.size + 1 + 1 := by omega
      go_simp
      refine HKK.out _ _ ?_ (fun hS2 => ?_)
      · refine ⟨(cell_of_heap ((heap_two_ne _ _ hne).trans hbw) 0).trans rfl, (cell_of_heap ((heap_two_ne _ _ hne).trans hbw) 1).trans rfl⟩
      clear HKK K
      try simp only [Act.put, List.setIfInBounds_toArray, List.set_cons_zero, List.set_cons_succ]
      refine seqL_loud rfl (fun K hK => ?_)
      have HKK := Lib.hid hK
      clear hK
      go_simp
      refine HKK.out _ _ (seqL_nil ?_)
      clear HKK K
      try simp only [Act.put, List.setIfInBounds_toArray, List.set_cons_zero, List.set_cons_succ]
      go_wp2
      rw [HV.out]
      refine bodyPost_ret (results_cnd_fault (x := 0) (y := v1) (u := .slice none 0 0) (v := .slice none 0 0) rfl rfl rfl ?_ ?_) rfl ⟨?_, _, _, rfl, ⟨_, _, _, rfl⟩, ⟨_, _, _, rfl⟩, fun h => (HB.out h).elim⟩
      · exact (heap_four _ _ _ _ (by omega) B2.out B3.out).1
      · exact (heap_four _ _ _ _ (by omega) B2.out B3.out).2
      · exact ((HEW.out.two (b := w.heap.size + 1 + 1) (by omega) _ _).two (b := w.heap.size + 1 + 1 + 1) (by omega) _ _).drew
    · clear hd
      go_wp2_with fail
      generalize hW : w1.alloc (.cells #[i64 v0, i64 v1] 70) = W
      have hEW : Ext w1 W := by rw [← hW]; exact (Ext.refl w1).alloc _
      have hbw : W.heap[w1.heap.size]? = some (.cells #[i64 v0, i64 v1] 70) := by rw [← hW]; exact heap_alloc_new _ _
      replace B2 := Lib.hid (hEW.block B2.out)
      replace B3 := Lib.hid (hEW.block B3.out)
      have HEW := Lib.hid (HE1.out.trans hEW)
      have hlt1 := rl
      clear hW hEW p0 p1 pz0 pz1 pl r0 r1 z0 z1 rl
      obtain ⟨p0, p1, pz0, pz1, pl⟩ := two_facts B2.out
      obtain ⟨r0, r1, z0, z1, rl⟩ := two_facts B3.out
      obtain ⟨x0, x1, xz0, xz1, xl⟩ := two_facts hbw
      refine wp_region_seq (fun w' => w'.cell? ⟨w1.heap.size, 0, none⟩ = some (i64 v0) ∧ w'.cell? ⟨w1.heap.size, 1, none⟩ = some (i64 v1)) [(0, 0), (1, 1), (2, 2), (3, 3)] (by kernel_rfl) (by kernel_rfl) ⟨x0, x1⟩ (fun hS => ?_)
      simp only [List.map, nthOp]
      refine seqL_yield rfl (fun w' => by go_simp; rfl) ?_
      try simp only [Act.put, List.setIfInBounds_toArray, List.set_cons_zero, List.set_cons_succ]
      refine seqL_read (v := faultV (v0, v1)) hS rfl (fun w' hE => by obtain ⟨q0, q1⟩ := hE; go_simp) ?_
      try simp only [Act.put, List.setIfInBounds_toArray, List.set_cons_zero, List.set_cons_succ]
      refine seqL_grow rfl (fun K hK => ?_)
      have HKK := Lib.hid hK
      clear hK
      have hne : w1.heap.size ≠ w.heap.size + 1 + 1 := by omega
      go_simp
      refine HKK.out _ _ ?_ (fun hS2 => ?_)
      · refine ⟨(cell_of_heap ((heap_two_ne _ _ hne).trans hbw) 0).trans rfl, (cell_of_heap ((heap_two_ne _ _ hne).trans hbw) 1).trans rfl⟩
      clear HKK K
      try simp only [Act.put, List.setIfInBounds_toArray, List.set_cons_zero, List.set_cons_succ]
      refine seqL_loud rfl (fun K hK => ?_)
      have HKK := Lib.hid hK
      clear hK
      go_simp
      refine HKK.out _ _ (seqL_nil ?_)
      clear HKK K
      try simp only [Act.put, List.setIfInBounds_toArray, List.set_cons_zero, List.set_cons_succ]
      go_wp2
      rw [HV.out]
      refine bodyPost_ret (results_cnd_fault (x := v0) (y := v1) (u := .slice none 0 0) (v := .slice none 0 0) rfl rfl rfl ?_ ?_) rfl ⟨?_, _, _, rfl, ⟨_, _, _, rfl⟩, ⟨_, _, _, rfl⟩, fun h => (HB.out h).elim⟩
      · exact (heap_four _ _ _ _ (by omega) B2.out B3.out).1
      · exact (heap_four _ _ _ _ (by omega) B2.out B3.out).2
      · exact ((HEW.out.two (b := w.heap.size + 1 + 1) (by omega) _ _).two (b := w.heap.size + 1 + 1 + 1) (by omega) _ _).drew
end Go.Proofs.Ytodlkjjoenglgaa
