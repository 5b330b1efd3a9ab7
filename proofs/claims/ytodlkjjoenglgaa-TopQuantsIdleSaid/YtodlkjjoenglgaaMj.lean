/- Parts of a proof about conditions: Read Read2 Row Law. -/
import Derived.Test.YtodlkjjoenglgaaMi
import Derived.ProofKit
import Derived.SizedLaws
import Derived.Deep.Slices
import Derived.OpenShut
import Derived.Carry
/- The arguments of the statements, as they are read. -/
namespace Go.Proofs.Ytodlkjjoenglgaa
open Go Go.RowKit Go.ChangeShapes Go.WideShapes Go.Deep

section read
variable {H : Type} (enc : TypeId × Value → H) (w : World) (spare : Nat → Bool) (held : Bool)
/-- Nothing in a datum is larger than memory. -/
def Fits (t : TypeId) (d : DataW H) : Prop := ∀ n ∈ d.weights Try.prog t, n ≤ 140737488351232
/-- The cells of a type read as X. -/
def Reads {X : Type} (t : TypeId) (sz : Nat) (R : List Value → X → Prop) : Prop :=
  ∀ fuel cs d ps, DataW.trod enc Try.prog w 0 spare held fuel t cs = some (d, ps) → Fits t d → cs.length = sz ∧ ∃ x, R cs x

variable {enc w spare held}
theorem reads_int {t : TypeId} (ht : Try.prog.underlying t = some (.int .i64)) : Reads enc w spare held t 1 (rInt w) := by
  intro fuel cs d ps h _
  obtain ⟨n, rfl, -, -⟩ := DataW.trod_int ht h
  exact ⟨rfl, n, rfl⟩
theorem reads_string {t : TypeId} (ht : Try.prog.underlying t = some .string) : Reads enc w spare held t 1 (fun cs (s : ByteArray) => cs = [.string s] ∧ s.size ≤ maxLen) := by
  intro fuel cs d ps h _
  obtain ⟨s, rfl, -, hs⟩ := DataW.trod_string ht h
  exact ⟨rfl, s, rfl, hs⟩
theorem reads_bool {t : TypeId} (ht : Try.prog.underlying t = some .bool) : Reads enc w spare held t 1 (fun cs (b : Bool) => cs = [.bool b]) := by
  intro fuel cs d ps h _
  obtain ⟨b, rfl, -⟩ := DataW.trod_bool ht h
  exact ⟨rfl, b, rfl⟩
theorem cell_spot {w : World} {a : Addr} {v : Value} (h : w.cell? a = some v) : a = ⟨a.block, a.off, none⟩ := by
  unfold World.cell? at h
  obtain ⟨b, o, s⟩ := a
  cases s with
  | none => rfl
  | some s =>
    exfalso
    cases hh : w.heap[b]? with
    | none => rw [hh] at h; simp at h
    | some ob =>
      rw [hh] at h
      cases ob <;> simp at h

theorem add_off (a : Addr) (n : Nat) : (a.add n).off = a.off + n := by
  unfold Addr.add
  split
  · rename_i h; rw [h]; rfl
  · rfl
theorem add_block (a : Addr) (n : Nat) : (a.add n).block = a.block := by
  unfold Addr.add
  split <;> rfl
theorem weights_elem {P : Program} {e : TypeId} {l : List (DataW H)} {d : DataW H} (h : d ∈ l) : ∀ n ∈ d.weights P e, n ∈ DataW.weightsAll P e l := by
  induction l with
  | nil => cases h
  | cons x l ih =>
    intro n hn
    simp only [DataW.weightsAll, List.mem_append]
    rcases List.mem_cons.1 h with rfl | h
    · exact .inl hn
    · exact .inr (ih h n hn)
theorem reads_slice {X : Type} {t e : TypeId} {sz bytes : Nat} {R : World → List Value → X → Prop} (ht : Try.prog.underlying t = some (.slice e)) (hC : Try.prog.cellsOf e = sz) (hpos : 0 < sz) (hB : Try.prog.bytesOf e = bytes) (hR : Reads enc w spare held e sz (R w)) :
    Reads enc w spare held t 1 (fun cs (l : List X) => ∃ v, cs = [v] ∧ Sl w sz bytes R v l) := by
  intro fuel cs d ps h hf
  rcases open_slice ht h with ⟨rfl, hx⟩ | ⟨a, len, cap, m, n, D, Pl, rfl, -, hlc, hcm, hm, hx, hi⟩
  · exact ⟨rfl, [], _, rfl, none, 0, rfl, Nat.le_refl _, Nat.zero_le _, by simp, fun i x h => by simp at h⟩
  · simp only [Prod.mk.injEq] at hx
    obtain ⟨rfl, -⟩ := hx
    have hlm : len ≤ m := by rw [hm]; split <;> omega
    have hw : len * bytes ≤ 140737488351232 := by
      have := hf ((((List.range len).map D).length + ((List.range (m - len)).map fun j => D (len + j)).length) * Try.prog.bytesOf e) (by simp [DataW.weights, ht])
      rw [List.length_map, List.length_range, hB] at this
      exact Nat.le_trans (Nat.mul_le_mul_right _ (Nat.le_add_right _ _)) this
    have hel : ∀ i, i < len → ∃ cs' x, w.cells? 0 (a.add (i * sz)) sz = some cs' ∧ cs'.length = sz ∧ R w cs' x := fun i hil => by
      obtain ⟨cs', hc, htr⟩ := hi i (by omega)
      rw [hC] at hc
      obtain ⟨h1, x, h2⟩ := hR n cs' (D i) (Pl i) htr (fun q hq => hf q (by
        simp only [DataW.weights, ht, List.mem_cons, List.mem_append]
        exact .inr (.inl (weights_elem (List.mem_map.2 ⟨i, List.mem_range.2 hil, rfl⟩) q hq))))
      exact ⟨cs', x, hc, h1, h2⟩
    have hall : ∃ l : List X, l.length = len ∧ ∀ i x, l[i]? = some x → ∃ cs', w.cells? 0 (a.add (i * sz)) sz = some cs' ∧ cs'.length = sz ∧ R w cs' x := by
      clear hi hf hw hlm hm hcm hlc h
      induction len with
      | zero => exact ⟨[], rfl, fun i x h => by simp at h⟩
      | succ len ih =>
        obtain ⟨l, hl, hl2⟩ := ih (fun i hil => hel i (by omega))
        obtain ⟨cs', x, h1, h2, h3⟩ := hel len (by omega)
        refine ⟨l ++ [x], by simp [hl], fun i y hy => ?_⟩
        by_cases hil : i < len
        · rw [List.getElem?_append_left (by omega)] at hy
          exact hl2 i y hy
        · rw [List.getElem?_append_right (by omega)] at hy
          have hi0 : i - l.length = 0 := by
            have := (List.getElem?_eq_some_iff.1 hy).1
            simp at this
            omega
          rw [hi0] at hy
          simp at hy
          subst hy
          rw [show i = len by omega]
          exact ⟨cs', h1, h2, h3⟩
    obtain ⟨l, hl, hl2⟩ := hall
    refine ⟨rfl, l, _, rfl, some a, cap, by rw [hl], by rw [hl]; exact hlc, hcm, by rw [hl]; exact hw, fun i x hx => ?_⟩
    obtain ⟨cs', h1, h2, h3⟩ := hl2 i x hx
    obtain ⟨-, -, hat⟩ := World.cells?_some h1
    refine ⟨cs', h2, h3, a.block, a.off, ?_, fun j y hj => ?_⟩
    · have h0 := hat 0 hpos
      have hl0 : 0 < cs'.length := by omega
      rw [List.getElem?_eq_getElem hl0] at h0
      by_cases hi0 : i * sz = 0
      · have := cell_spot h0
        rw [hi0] at this
        have e : (a.add 0).add 0 = a := rfl
        rw [e] at this
        rw [← this]
      · -- the first element stands at the slice's own address
        have hi1 : 0 < l.length := by have := (List.getElem?_eq_some_iff.1 hx).1; omega
        obtain ⟨cs0, g1, g2, -⟩ := hl2 0 l[0] (List.getElem?_eq_getElem hi1)
        obtain ⟨-, -, gat⟩ := World.cells?_some g1
        have g0 := gat 0 hpos
        rw [List.getElem?_eq_getElem (by omega : 0 < cs0.length), Nat.zero_mul] at g0
        have := cell_spot g0
        have e : (a.add 0).add 0 = a := rfl
        rw [e] at this
        rw [← this]
    · have hjl : j < sz := by have := (List.getElem?_eq_some_iff.1 hj).1; omega
      have := hat j hjl
      rw [hj] at this
      have hsp := cell_spot this
      rw [hsp] at this
      have e1 : ((a.add (i * sz)).add j).block = a.block := by rw [add_block, add_block]
      have e2 : ((a.add (i * sz)).add j).off = a.off + i * sz + j := by rw [add_off, add_off]
      rw [e1, e2] at this
      exact this
end read
end Go.Proofs.Ytodlkjjoenglgaa

/- The arguments of the statements, as they are read: structs, domains, conditions. -/
namespace Go.Proofs.Ytodlkjjoenglgaa
open Go Go.RowKit Go.ChangeShapes Go.WideShapes Go.Deep

theorem cells3 : Try.prog.cellsOf 3 = 1 := by kernel_rfl
theorem cells4 : Try.prog.cellsOf 4 = 1 := by kernel_rfl
theorem cells9 : Try.prog.cellsOf 9 = 1 := by kernel_rfl
theorem cells22 : Try.prog.cellsOf 22 = 1 := by kernel_rfl
theorem cells23 : Try.prog.cellsOf 23 = 1 := by kernel_rfl
theorem cells24 : Try.prog.cellsOf 24 = 1 := by kernel_rfl
theorem cells25 : Try.prog.cellsOf 25 = 1 := by kernel_rfl
theorem cells26 : Try.prog.cellsOf 26 = 1 := by kernel_rfl
theorem cells27 : Try.prog.cellsOf 27 = 1 := by kernel_rfl
theorem cells30 : Try.prog.cellsOf 30 = 1 := by kernel_rfl
theorem cells31 : Try.prog.cellsOf 31 = 1 := by kernel_rfl
theorem cells151 : Try.prog.cellsOf 151 = 1 := by kernel_rfl
theorem cells46 : Try.prog.cellsOf 46 = 2 := by kernel_rfl
theorem cells48 : Try.prog.cellsOf 48 = 7 := by kernel_rfl
theorem cells142 : Try.prog.cellsOf 142 = 2 := by kernel_rfl
theorem cells113 : Try.prog.cellsOf 113 = 2 := by kernel_rfl
theorem cells58 : Try.prog.cellsOf 58 = 2 := by kernel_rfl
theorem cells153 : Try.prog.cellsOf 153 = 7 := by kernel_rfl
theorem cells161 : Try.prog.cellsOf 161 = 3 := by kernel_rfl
theorem cells139 : Try.prog.cellsOf 139 = 2 := by kernel_rfl
theorem cells29 : Try.prog.cellsOf 29 = 6 := by kernel_rfl
theorem cells33 : Try.prog.cellsOf 33 = 2 := by kernel_rfl
theorem bytes3 : Try.prog.bytesOf 3 = 8 := by kernel_rfl
theorem bytes46 : Try.prog.bytesOf 46 = 32 := by kernel_rfl
theorem bytes48 : Try.prog.bytesOf 48 = 88 := by kernel_rfl
theorem bytes142 : Try.prog.bytesOf 142 = 24 := by kernel_rfl
theorem bytes113 : Try.prog.bytesOf 113 = 24 := by kernel_rfl
theorem bytes58 : Try.prog.bytesOf 58 = 40 := by kernel_rfl
theorem bytes153 : Try.prog.bytesOf 153 = 144 := by kernel_rfl
theorem bytes161 : Try.prog.bytesOf 161 = 40 := by kernel_rfl
theorem bytes139 : Try.prog.bytesOf 139 = 16 := by kernel_rfl

theorem len2 {cs : List Value} (h : cs.length = 2) : ∃ c0 c1, cs = [c0, c1] := by
  match cs, h with
  | [c0, c1], _ => exact ⟨_, _, rfl⟩
theorem len3 {cs : List Value} (h : cs.length = 3) : ∃ c0 c1 c2, cs = [c0, c1, c2] := by
  match cs, h with
  | [c0, c1, c2], _ => exact ⟨_, _, _, rfl⟩
theorem len6 {cs : List Value} (h : cs.length = 6) : ∃ c0 c1 c2 c3 c4 c5, cs = [c0, c1, c2, c3, c4, c5] := by
  match cs, h with
  | [c0, c1, c2, c3, c4, c5], _ => exact ⟨_, _, _, _, _, _, rfl⟩
theorem len7 {cs : List Value} (h : cs.length = 7) : ∃ c0 c1 c2 c3 c4 c5 c6, cs = [c0, c1, c2, c3, c4, c5, c6] := by
  match cs, h with
  | [c0, c1, c2, c3, c4, c5, c6], _ => exact ⟨_, _, _, _, _, _, _, rfl⟩
section read
variable {H : Type} {enc : TypeId × Value → H} {w : World} {spare : Nat → Bool} {held : Bool}
theorem reads_fields {t : TypeId} {fs : Array Field} (ht : Try.prog.underlying t = some (.struct fs)) {fuel : Nat} {cs : List Value} {d : DataW H} {ps : List MemPlace} (h : DataW.trod enc Try.prog w 0 spare held fuel t cs = some (d, ps)) (hf : Fits t d) :
    cs.length = Try.prog.cellsOf t ∧ ∀ (i : Nat) (t' : TypeId) (o : Nat), (fs[i]?).map (fun f => (f.type, f.offset)) = some (t', o) → ∃ m d' ps', DataW.trod enc Try.prog w 0 spare held m t' ((cs.drop o).take (Try.prog.cellsOf t')) = some (d', ps') ∧ Fits t' d' := by
  obtain ⟨xs, n, -, hx, hlen, hxl, hg⟩ := DataW.trod_struct ht h
  simp only [Prod.mk.injEq] at hx
  obtain ⟨rfl, -⟩ := hx
  refine ⟨hlen, fun i t' o hto => ?_⟩
  obtain ⟨f, hi, hfo⟩ := Option.map_eq_some_iff.1 hto
  obtain ⟨rfl, rfl⟩ := Prod.mk.inj hfo
  have hil : i < fs.size := (Array.getElem?_eq_some_iff.1 hi).1
  have hxi : xs[i]? = some xs[i] := List.getElem?_eq_getElem (by omega)
  refine ⟨n, xs[i].1, xs[i].2, by rw [hg i f hi, hxi], fun q hq => hf q ?_⟩
  simp only [DataW.weights, ht]
  refine DataW.weights_mem_each (j := i) (t := f.type) (d := xs[i].1) ?_ ?_ q hq
  · rw [List.getElem?_map, Array.getElem?_toList, hi]; rfl
  · rw [List.getElem?_map, hxi]; rfl

theorem reads_ints : Reads enc w spare held 30 1 (fun cs (l : List Int) => ∃ v, cs = [v] ∧ IntsAt w v l) :=
  reads_slice (R := rInt) Try.underlying30 cells3 (by decide) bytes3 (reads_int Try.underlying3)
theorem reads_ni {t : TypeId} {f0 f1 : Field} (ht : Try.prog.underlying t = some (.struct #[f0, f1])) (h0 : (f0.type, f0.offset) = (9, 0)) (h1 : (f1.type, f1.offset) = (3, 1)) (hc : Try.prog.cellsOf t = 2) : Reads enc w spare held t 2 (rNI w) := by
  intro fuel cs d ps h hf
  obtain ⟨hl, hg⟩ := reads_fields ht h hf
  rw [hc] at hl
  refine ⟨hl, ?_⟩
  obtain ⟨m0, d0, p0, t0, g0⟩ := hg 0 9 0 (congrArg some h0)
  obtain ⟨m1, d1, p1, t1, g1⟩ := hg 1 3 1 (congrArg some h1)
  rw [cells9] at t0
  rw [cells3] at t1
  obtain ⟨c0, c1, rfl⟩ := len2 hl
  obtain ⟨-, s, hs, hsl⟩ := reads_string Try.underlying9 _ _ _ _ t0 g0
  obtain ⟨-, n, hn⟩ := reads_int Try.underlying3 _ _ _ _ t1 g1
  simp [rInt] at hs hn
  subst hs hn
  exact ⟨(s, n), rfl, hsl⟩
theorem reads_atom : Reads enc w spare held 46 2 (rAtom w) := by
  intro fuel cs d ps h hf
  obtain ⟨hl, hg⟩ := reads_fields Try.underlying46 h hf
  rw [cells46] at hl
  refine ⟨hl, ?_⟩
  obtain ⟨m0, d0, p0, t0, g0⟩ := hg 0 3 0 rfl
  obtain ⟨m1, d1, p1, t1, g1⟩ := hg 1 30 1 rfl
  simp only [cells3, cells30] at t0 t1
  obtain ⟨c0, c1, rfl⟩ := len2 hl
  obtain ⟨-, n, hn⟩ := reads_int Try.underlying3 _ _ _ _ t0 g0
  obtain ⟨-, l, v, hv, hi⟩ := reads_ints _ _ _ _ t1 g1
  simp [rInt] at hn hv
  subst hn hv
  exact ⟨⟨n, l⟩, _, rfl, hi⟩
theorem reads_atoms : Reads enc w spare held 26 1 (fun cs (l : List AtD) => ∃ v, cs = [v] ∧ Sl w 2 32 rAtom v l) :=
  reads_slice (R := rAtom) Try.underlying26 cells46 (by decide) bytes46 reads_atom
theorem reads_lit : Reads enc w spare held 161 3 (rLit w) := by
  intro fuel cs d ps h hf
  obtain ⟨hl, hg⟩ := reads_fields Try.underlying161 h hf
  rw [cells161] at hl
  refine ⟨hl, ?_⟩
  obtain ⟨m0, d0, p0, t0, g0⟩ := hg 0 4 0 rfl
  obtain ⟨m1, d1, p1, t1, g1⟩ := hg 1 46 1 rfl
  simp only [cells4, cells46] at t0 t1
  obtain ⟨c0, c1, c2, rfl⟩ := len3 hl
  obtain ⟨-, b, hb⟩ := reads_bool Try.underlying4 _ _ _ _ t0 g0
  obtain ⟨-, a, v, hv, hi⟩ := reads_atom _ _ _ _ t1 g1
  simp at hb hv
  obtain ⟨rfl, rfl⟩ := hv
  subst hb
  exact ⟨⟨b, a⟩, _, rfl, hi⟩
theorem reads_lits : Reads enc w spare held 27 1 (fun cs (l : List LitD) => ∃ v, cs = [v] ∧ Sl w 3 40 rLit v l) :=
  reads_slice (R := rLit) Try.underlying27 cells161 (by decide) bytes161 reads_lit
theorem reads_pred : Reads enc w spare held 58 2 (rPred w) := by
  intro fuel cs d ps h hf
  obtain ⟨hl, hg⟩ := reads_fields Try.underlying58 h hf
  rw [cells58] at hl
  refine ⟨hl, ?_⟩
  obtain ⟨m0, d0, p0, t0, g0⟩ := hg 0 9 0 rfl
  obtain ⟨m1, d1, p1, t1, g1⟩ := hg 1 30 1 rfl
  simp only [cells9, cells30] at t0 t1
  obtain ⟨c0, c1, rfl⟩ := len2 hl
  obtain ⟨-, s, hs, hsl⟩ := reads_string Try.underlying9 _ _ _ _ t0 g0
  obtain ⟨-, l, v, hv, hi⟩ := reads_ints _ _ _ _ t1 g1
  simp at hs hv
  subst hs hv
  exact ⟨(s, l), _, rfl, hi, hsl⟩
theorem reads_pair : Reads enc w spare held 139 2 (rPair w) := by
  intro fuel cs d ps h hf
  obtain ⟨xs, m, -, hx, hlen, hxl, hg⟩ := DataW.trod_array Try.underlying139 h
  rw [cells139] at hlen
  refine ⟨hlen, ?_⟩
  have g0 := hg 0 (by decide)
  have g1 := hg 1 (by decide)
  have x0 : xs[0]? = some (xs[0]'(by omega)) := List.getElem?_eq_getElem _
  have x1 : xs[1]? = some (xs[1]'(by omega)) := List.getElem?_eq_getElem _
  rw [x0] at g0
  rw [x1] at g1
  simp only [cells3] at g0 g1
  clear hg hx x0 x1
  obtain ⟨c0, c1, rfl⟩ := len2 hlen
  obtain ⟨n0, h0, -, -⟩ := DataW.trod_int Try.underlying3 g0
  obtain ⟨n1, h1, -, -⟩ := DataW.trod_int Try.underlying3 g1
  simp at h0 h1
  subst h0 h1
  exact ⟨(n0, n1), rfl⟩
theorem reads_schema : Reads enc w spare held 153 7 (rSc w) := by
  intro fuel cs d ps h hf
  obtain ⟨hl, hg⟩ := reads_fields Try.underlying153 h hf
  rw [cells153] at hl
  refine ⟨hl, ?_⟩
  obtain ⟨m0, d0, p0, t0, g0⟩ := hg 0 9 0 rfl
  obtain ⟨m1, d1, p1, t1, g1⟩ := hg 1 30 1 rfl
  obtain ⟨m2, d2, p2, t2, g2⟩ := hg 2 151 2 rfl
  obtain ⟨m3, d3, p3, t3, g3⟩ := hg 3 27 3 rfl
  obtain ⟨m4, d4, p4, t4, g4⟩ := hg 4 26 4 rfl
  obtain ⟨m5, d5, p5, t5, g5⟩ := hg 5 26 5 rfl
  obtain ⟨m6, d6, p6, t6, g6⟩ := hg 6 3 6 rfl
  simp only [cells9, cells30, cells151, cells27, cells26, cells3] at t0 t1 t2 t3 t4 t5 t6
  obtain ⟨c0, c1, c2, c3, c4, c5, c6, rfl⟩ := len7 hl
  obtain ⟨-, s, hs, hsl⟩ := reads_string Try.underlying9 _ _ _ _ t0 g0
  obtain ⟨-, l1, v1, hv1, hi1⟩ := reads_ints _ _ _ _ t1 g1
  obtain ⟨-, l2, v2, hv2, hi2⟩ := reads_slice (R := rPair) Try.underlying151 cells139 (by decide) bytes139 reads_pair _ _ _ _ t2 g2
  obtain ⟨-, l3, v3, hv3, hi3⟩ := reads_lits _ _ _ _ t3 g3
  obtain ⟨-, l4, v4, hv4, hi4⟩ := reads_atoms _ _ _ _ t4 g4
  obtain ⟨-, l5, v5, hv5, hi5⟩ := reads_atoms _ _ _ _ t5 g5
  obtain ⟨-, n, hn⟩ := reads_int Try.underlying3 _ _ _ _ t6 g6
  simp [rInt] at hs hv1 hv2 hv3 hv4 hv5 hn
  subst hs hv1 hv2 hv3 hv4 hv5 hn
  exact ⟨⟨s, l1, l2, l3, l4, l5, n⟩, _, _, _, _, _, rfl, hsl, hi1, hi2, hi3, hi4, hi5⟩
theorem reads_node : Reads enc w spare held 48 7 (rNode w) := by
  intro fuel cs d ps h hf
  obtain ⟨hl, hg⟩ := reads_fields Try.underlying48 h hf
  rw [cells48] at hl
  refine ⟨hl, ?_⟩
  obtain ⟨m0, d0, p0, t0, g0⟩ := hg 0 3 0 rfl
  obtain ⟨m1, d1, p1, t1, g1⟩ := hg 1 30 1 rfl
  obtain ⟨m2, d2, p2, t2, g2⟩ := hg 2 46 2 rfl
  obtain ⟨m3, d3, p3, t3, g3⟩ := hg 3 3 4 rfl
  obtain ⟨m4, d4, p4, t4, g4⟩ := hg 4 3 5 rfl
  obtain ⟨m5, d5, p5, t5, g5⟩ := hg 5 3 6 rfl
  simp only [cells3, cells30, cells46] at t0 t1 t2 t3 t4 t5
  obtain ⟨c0, c1, c2, c3, c4, c5, c6, rfl⟩ := len7 hl
  obtain ⟨-, n0, hn0⟩ := reads_int Try.underlying3 _ _ _ _ t0 g0
  obtain ⟨-, l1, v1, hv1, hi1⟩ := reads_ints _ _ _ _ t1 g1
  obtain ⟨-, a, v2, hv2, hi2⟩ := reads_atom _ _ _ _ t2 g2
  obtain ⟨-, n3, hn3⟩ := reads_int Try.underlying3 _ _ _ _ t3 g3
  obtain ⟨-, n4, hn4⟩ := reads_int Try.underlying3 _ _ _ _ t4 g4
  obtain ⟨-, n5, hn5⟩ := reads_int Try.underlying3 _ _ _ _ t5 g5
  simp [rInt] at hn0 hv1 hv2 hn3 hn4 hn5
  obtain ⟨rfl, rfl⟩ := hv2
  subst hn0 hv1 hn3 hn4 hn5
  exact ⟨(⟨n0, a.pred, a.args, n3, n4, n5⟩, l1), _, _, rfl, hi1, hi2⟩
theorem reads_dom {fuel : Nat} {cs : List Value} {d : DataW H} {ps : List MemPlace} (h : DataW.trod enc Try.prog w 0 spare held fuel 29 cs = some (d, ps)) (hf : Fits 29 d) : ∃ (dv : DomV) (D : Dom), cs = dv.cells.toList ∧ DomAt w dv D := by
  obtain ⟨hl, hg⟩ := reads_fields Try.underlying29 h hf
  rw [cells29] at hl
  obtain ⟨m0, d0, p0, t0, g0⟩ := hg 0 22 0 rfl
  obtain ⟨m1, d1, p1, t1, g1⟩ := hg 1 23 1 rfl
  obtain ⟨m2, d2, p2, t2, g2⟩ := hg 2 24 2 rfl
  obtain ⟨m3, d3, p3, t3, g3⟩ := hg 3 25 3 rfl
  obtain ⟨m4, d4, p4, t4, g4⟩ := hg 4 26 4 rfl
  obtain ⟨m5, d5, p5, t5, g5⟩ := hg 5 27 5 rfl
  simp only [cells22, cells23, cells24, cells25, cells26, cells27] at t0 t1 t2 t3 t4 t5
  obtain ⟨c0, c1, c2, c3, c4, c5, rfl⟩ := len6 hl
  obtain ⟨-, l0, v0, hv0, hi0⟩ := reads_slice (R := rNI) Try.underlying22 cells142 (by decide) bytes142 (reads_ni Try.underlying142 rfl rfl cells142) _ _ _ _ t0 g0
  obtain ⟨-, l1, v1, hv1, hi1⟩ := reads_slice (R := rNI) Try.underlying23 cells113 (by decide) bytes113 (reads_ni Try.underlying113 rfl rfl cells113) _ _ _ _ t1 g1
  obtain ⟨-, l2, v2, hv2, hi2⟩ := reads_slice (R := rPred) Try.underlying24 cells58 (by decide) bytes58 reads_pred _ _ _ _ t2 g2
  obtain ⟨-, l3, v3, hv3, hi3⟩ := reads_slice (R := rSc) Try.underlying25 cells153 (by decide) bytes153 reads_schema _ _ _ _ t3 g3
  obtain ⟨-, l4, v4, hv4, hi4⟩ := reads_atoms _ _ _ _ t4 g4
  obtain ⟨-, l5, v5, hv5, hi5⟩ := reads_lits _ _ _ _ t5 g5
  simp at hv0 hv1 hv2 hv3 hv4 hv5
  subst hv0 hv1 hv2 hv3 hv4 hv5
  exact ⟨⟨_, _, _, _, _, _⟩, ⟨l0, l1, l2, l3, l4, l5⟩, rfl, hi0, hi1, hi2, hi3, hi4, hi5⟩
theorem reads_cnd {fuel : Nat} {cs : List Value} {d : DataW H} {ps : List MemPlace} (h : DataW.trod enc Try.prog w 0 spare held fuel 33 cs = some (d, ps)) (hf : Fits 33 d) : ∃ (tv nv : Value) (C : Cnd), cs = [tv, nv] ∧ CndAt w tv nv C := by
  obtain ⟨hl, hg⟩ := reads_fields Try.underlying33 h hf
  rw [cells33] at hl
  obtain ⟨m0, d0, p0, t0, g0⟩ := hg 0 30 0 rfl
  obtain ⟨m1, d1, p1, t1, g1⟩ := hg 1 31 1 rfl
  simp only [cells30, cells31] at t0 t1
  obtain ⟨c0, c1, rfl⟩ := len2 hl
  obtain ⟨-, l0, v0, hv0, hi0⟩ := reads_ints _ _ _ _ t0 g0
  obtain ⟨-, l1, v1, hv1, hi1⟩ := reads_slice (R := rNode) Try.underlying31 cells48 (by decide) bytes48 reads_node _ _ _ _ t1 g1
  simp at hv0 hv1
  subst hv0 hv1
  exact ⟨_, _, ⟨l0, l1⟩, rfl, hi0, hi1⟩
end read
end Go.Proofs.Ytodlkjjoenglgaa

/- The rows: the arguments opened and shut. -/
namespace Go.Proofs.Ytodlkjjoenglgaa
open Go Go.RowKit Go.ChangeShapes Go.WideShapes

theorem own : ownKnob Try.prog.godebug = none := by kernel_rfl
theorem laidOut : laidOutB Try.prog = true := by kernel_rfl

theorem param_ok {t : TypeId} (h : t = 29 ∨ t = 33 ∨ t = 26 ∨ t = 30 ∨ t = 3 ∨ t = 4) : Try.prog.readableRec t = true ∧ t < Try.prog.types.size := by
  rcases h with rfl | rfl | rfl | rfl | rfl | rfl <;> exact ⟨by kernel_rfl, of_decide_eq_true (by kernel_rfl)⟩

section row
variable {H : Type} {enc : TypeId × Value → H}

set_option maxRecDepth 100000 in
theorem dom_arg {W : World} {base : Nat} {v : Value} {d : DataW H} {ps : List MemPlace} (hv : Value.okWide Try.prog W .any base 29 v) (h : DataW.Trod enc Try.prog W 0 (fun _ => true) true 29 v d ps) (hf : Fits 29 d) : ∃ (dv : DomV) (D : Dom), v = .agg dv.cells ∧ DomAt W dv D := by
  obtain ⟨cs, rfl, -⟩ := okWide_struct Try.underlying29 hv
  obtain ⟨n, hn⟩ := h
  obtain ⟨dv, D, hc, hD⟩ := reads_dom hn hf
  refine ⟨dv, D, ?_, hD⟩
  have hc : cs.toList = dv.cells.toList := hc
  rw [Array.toList_inj.1 hc]
set_option maxRecDepth 100000 in
theorem cnd_arg {W : World} {base : Nat} {v : Value} {d : DataW H} {ps : List MemPlace} (hv : Value.okWide Try.prog W .any base 33 v) (h : DataW.Trod enc Try.prog W 0 (fun _ => true) true 33 v d ps) (hf : Fits 33 d) : ∃ (tv nv : Value) (C : Cnd), v = .agg #[tv, nv] ∧ CndAt W tv nv C := by
  obtain ⟨cs, rfl, -⟩ := okWide_struct Try.underlying33 hv
  obtain ⟨n, hn⟩ := h
  obtain ⟨tv, nv, C, hc, hC⟩ := reads_cnd hn hf
  refine ⟨tv, nv, C, ?_, hC⟩
  have hc : cs.toList = (#[tv, nv] : Array Value).toList := hc
  rw [Array.toList_inj.1 hc]
set_option maxRecDepth 100000 in
theorem atoms_arg {W : World} {base : Nat} {v : Value} {d : DataW H} {ps : List MemPlace} (hv : Value.okWide Try.prog W .any base 26 v) (h : DataW.Trod enc Try.prog W 0 (fun _ => true) true 26 v d ps) (hf : Fits 26 d) : ∃ l : List AtD, Sl W 2 32 rAtom v l := by
  obtain ⟨a, len, cap, rfl⟩ := okWide_slice Try.underlying26 hv
  obtain ⟨n, hn⟩ := h
  obtain ⟨-, l, v, hv, hl⟩ := reads_atoms _ _ _ _ hn hf
  have hv : [Value.slice a len cap] = [v] := hv
  cases hv
  exact ⟨l, hl⟩
set_option maxRecDepth 100000 in
theorem ints_arg {W : World} {base : Nat} {v : Value} {d : DataW H} {ps : List MemPlace} (hv : Value.okWide Try.prog W .any base 30 v) (h : DataW.Trod enc Try.prog W 0 (fun _ => true) true 30 v d ps) (hf : Fits 30 d) : ∃ l : List Int, IntsAt W v l := by
  obtain ⟨a, len, cap, rfl⟩ := okWide_slice Try.underlying30 hv
  obtain ⟨n, hn⟩ := h
  obtain ⟨-, l, v, hv, hl⟩ := reads_ints _ _ _ _ hn hf
  have hv : [Value.slice a len cap] = [v] := hv
  cases hv
  exact ⟨l, hl⟩

set_option maxRecDepth 100000 in
/-- The five arguments that all laws have. -/
theorem args_read {W : World} {base : Nat} {args : Array Value} {ds : List (DataW H)} {ps : List MemPlace} {ts : List TypeId} (hA : DataW.TrodAll enc Try.prog W 0 (fun _ => true) true (29 :: 33 :: 26 :: 30 :: 3 :: ts) args.toList ds ps)
    (hval : ∀ (j : Nat) t v, (29 :: 33 :: 26 :: 30 :: 3 :: ts)[j]? = some t → args.toList[j]? = some v → Value.okWide Try.prog W .any base t v)
    (hz : (DataW.weightsEach Try.prog (29 :: 33 :: 26 :: 30 :: 3 :: ts) ds).all (· ≤ reachBytes) = true) :
    ∃ d D tv nv C lv atoms av argl which vs dr pr, args.toList = .agg d.cells :: .agg #[tv, nv] :: lv :: av :: i64 which :: vs ∧ DomAt W d D ∧ CndAt W tv nv C ∧ Sl W 2 32 rAtom lv atoms ∧ IntsAt W av argl ∧
      DataW.TrodAll enc Try.prog W 0 (fun _ => true) true ts vs dr pr ∧ (∀ (j : Nat) t v, ts[j]? = some t → vs[j]? = some v → Value.okWide Try.prog W .any base t v) ∧ ∃ d1 d2 d3 d4 d5, ds = d1 :: d2 :: d3 :: d4 :: d5 :: dr := by
  have hfit : ∀ (j : Nat) t d, (29 :: 33 :: 26 :: 30 :: 3 :: ts)[j]? = some t → ds[j]? = some d → Fits t d := fun j t d ht hd n hn => by
    have h : n ≤ reachBytes := by simpa using List.all_eq_true.1 hz n (DataW.weights_mem_each ht hd n hn)
    exact Nat.le_trans h (by decide)
  obtain ⟨v1, vs1, d1, ds1, p1, q1, hv1, rfl, -, h1, hA1⟩ := trodAll_cons hA
  obtain ⟨v2, vs2, d2, ds2, p2, q2, rfl, rfl, -, h2, hA2⟩ := trodAll_cons hA1
  obtain ⟨v3, vs3, d3, ds3, p3, q3, rfl, rfl, -, h3, hA3⟩ := trodAll_cons hA2
  obtain ⟨v4, vs4, d4, ds4, p4, q4, rfl, rfl, -, h4, hA4⟩ := trodAll_cons hA3
  obtain ⟨v5, vs5, d5, ds5, p5, q5, rfl, rfl, -, h5, hA5⟩ := trodAll_cons hA4
  rw [hv1] at hval ⊢
  obtain ⟨d, D, rfl, hD⟩ := dom_arg (hval 0 29 v1 rfl rfl) h1 (hfit 0 29 d1 rfl rfl)
  obtain ⟨tv, nv, C, rfl, hC⟩ := cnd_arg (hval 1 33 v2 rfl rfl) h2 (hfit 1 33 d2 rfl rfl)
  obtain ⟨atoms, hl⟩ := atoms_arg (hval 2 26 v3 rfl rfl) h3 (hfit 2 26 d3 rfl rfl)
  obtain ⟨argl, ha⟩ := ints_arg (hval 3 30 v4 rfl rfl) h4 (hfit 3 30 d4 rfl rfl)
  obtain ⟨which, rfl⟩ := okWide_int Try.underlying3 (hval 4 3 v5 rfl rfl)
  exact ⟨d, D, tv, nv, C, v3, atoms, v4, argl, which, vs5, ds5, q5, rfl, hD, hC, hl, ha, hA5, fun j t v ht hv => hval (j + 5) t v ht hv, d1, d2, d3, d4, d5, rfl⟩

/-- What was read is read again in a world that has grown. -/
theorem trodAll_stays {W W' : World} {sp : Nat → Bool} (hb : Below W.heap.size W W') : ∀ {ts : List TypeId} {vs : List Value} {ds : List (DataW H)} {ps : List MemPlace}, (∀ t ∈ ts, Try.prog.readableRec t = true ∧ t < Try.prog.types.size) →
    DataW.TrodAll enc Try.prog W 0 (fun _ => true) true ts vs ds ps → (∀ p ∈ ps, p.block < W.heap.size) → (∀ p ∈ ps, sp p.block = true) → DataW.TrodAll enc Try.prog W' 0 sp true ts vs ds ps
  | [], vs, ds, ps, _, h, _, _ => by
    obtain ⟨rfl, rfl, rfl⟩ := trodAll_nil h
    rfl
  | t :: ts, vs, ds, ps, hr, h, hlt, hs => by
    obtain ⟨v, vs', d, ds', p, q, rfl, rfl, rfl, h1, h2⟩ := trodAll_cons h
    refine ⟨p, q, WideElems.Trod_stays laidOut (hr t (by simp)).1 (hr t (by simp)).2 h1 (fun x hx => hb.same (hlt x (by simp [hx]))) (fun x hx => hs x (by simp [hx])), ?_, rfl⟩
    exact trodAll_stays hb (fun t' ht => hr t' (by simp [ht])) h2 (fun x hx => hlt x (by simp [hx])) (fun x hx => hs x (by simp [hx]))

set_option maxRecDepth 100000 in
/-- The end of a law's row: it returned true, all else is as it was. -/
theorem law_post {f : Func} {s : ChangeSpec} {apart fresh handsOn again : Bool} {W W' : World} {args : Array Value} {ds gs : List (DataW H)} {before : List MemPlace}
    (hW : DataW.Whole enc Try.prog f.params.toList s.vars apart W args.toList ds gs before) (hv : s.vars = []) (hr : ∀ t ∈ f.params.toList, Try.prog.readableRec t = true ∧ t < Try.prog.types.size) (ht : f.resultTypes = #[4])
    (hfr : (s.fn H ds).results = [.lit (.bool true)]) (hfa : (s.fn H ds).args = ds) (hfv : (s.fn H ds).vars = []) (hE : Ext W W') :
    s.post enc Try.prog f apart fresh handsOn again W args (.bool true) W' := by
  have hb : Below W.heap.size W W' := hE
  have hlt : ∀ p ∈ before, p.block < W.heap.size := fun p hp => hW.lt p hp
  have hW0 := hW
  obtain ⟨p, q, hA, hV, rfl, hz, hn⟩ := hW
  rw [hv] at hV
  obtain ⟨rfl, rfl⟩ := trodVars_none hV
  rw [List.append_nil] at hW0 hz hn hlt
  have hres : ∀ (b : Nat) (sp : Nat → Bool) (hd : Bool), DataW.TrodAll enc Try.prog W' b sp hd f.resultTypes.toList ((Value.bool true).resultList f.resultTypes.size) (s.fn H (ds ++ [])).results [] := fun b sp hd => by
    rw [ht, List.append_nil, hfr]
    exact trodAll_mk1 (shut_bool Try.underlying4 true)
  have hargs : ∀ sp : Nat → Bool, (∀ x ∈ p, sp x.block = true) → DataW.TrodAll enc Try.prog W' 0 sp true f.params.toList args.toList (s.fn H (ds ++ [])).args p := fun sp hs => by
    rw [List.append_nil, hfa]
    exact trodAll_stays hb hr hA hlt hs
  have hvars : ∀ sp : Nat → Bool, DataW.TrodVars enc Try.prog W' sp s.vars (s.fn H (ds ++ [])).vars [] := fun sp => by
    rw [List.append_nil, hfv, hv]
    rfl
  have hold : ∀ x ∈ p, (fun b => decide (b < W.heap.size)) x.block = true := fun x hx => by simpa using hlt x hx
  refine ⟨ds, [], p, [], p, [], hW0, hres _ _ _, hargs _ hold, hvars _, World.keptBut_mono (fun x hx => ⟨hx, .inr (by simpa using hx)⟩) (hb.frame (· ∈ p)), fun _ => ?_⟩
  refine ⟨fun j t r hj hrr => ?_, _, _, ([] ++ p) ++ [], ⟨[] ++ p, [], trodAll_append (hargs _ (fun _ _ => rfl)) (hres _ _ _), hvars _, rfl, ?_, ?_⟩, ?_⟩
  · rw [ht] at hj hrr
    match j with
    | 0 =>
      cases hj
      cases hrr
      exact okWide_bool_mk Try.underlying4 true
    | j + 1 => simp at hj
  · intro b off hp
    have hin : MemPlace.cell b off ∈ p := by simpa using hp
    rw [hb.frozen (hlt _ hin)]
    exact hz b off hin
  · intro ha
    simpa using hn ha
  · intro x hx _
    simpa using hx
end row
end Go.Proofs.Ytodlkjjoenglgaa

/- wChange; what a law's function answers. -/
namespace Go.Proofs.Ytodlkjjoenglgaa
open Go Go.RowKit

theorem enters51 : EntersF 51 := fun args W => enters_of Try.func51 (by kernel_rfl) rfl args W

theorem mkchange_any (w : World) (ta na : Option Addr) (tn tc nn nc : Nat) (which : Int) (f : FuncId) (cpt : Array Value) :
    Calls Try.prog 16 #[.agg #[.slice ta tn tc, .slice na nn nc], i64 which, .func (.func f) #[] cpt] w fun e w' => e = .returned (.func (.func 51) #[] #[ptr w.heap.size, ptr (w.heap.size + 2), ptr (w.heap.size + 1)]) ∧ w' = ((w.alloc (.cells #[.slice ta tn tc, .slice na nn nc] 33)).alloc (.cells #[i64 which] 3)).alloc (.cells #[.func (.func f) #[] cpt] 42) := by
  go_enter Try.func16, Try.ntmps16
  go_wp2
  go_ret
  exact ⟨rfl, rfl⟩

theorem mkchange_ok (w : World) (ta na : Option Addr) (tn tc nn nc : Nat) (which : Int) (f : FuncId) (cpt : Array Value) :
    Calls Try.prog 16 #[.agg #[.slice ta tn tc, .slice na nn nc], i64 which, .func (.func f) #[] cpt] w fun e w' => ∃ cb bb wb, e = .returned (.func (.func 51) #[] #[ptr cb, ptr bb, ptr wb]) ∧ Ext w w' ∧
      w'.heap[cb]? = some (.cells #[.slice ta tn tc, .slice na nn nc] 33) ∧ w'.heap[bb]? = some (.cells #[.func (.func f) #[] cpt] 42) ∧ w'.heap[wb]? = some (.cells #[i64 which] 3) := by
  refine (mkchange_any w ta na tn tc nn nc which f cpt).mono ?_
  rintro e w' ⟨rfl, rfl⟩
  refine ⟨_, _, _, rfl, (((Ext.refl w).alloc _).alloc _).alloc _, Ext.block (((Ext.refl _).alloc _).alloc _) (heap_alloc_new w _), ?_, Ext.block ((Ext.refl _).alloc _) ?_⟩
  · have h := heap_alloc_new ((w.alloc (.cells #[.slice ta tn tc, .slice na nn nc] 33)).alloc (.cells #[i64 which] 3)) (.cells #[.func (.func f) #[] cpt] 42)
    rwa [World.size_alloc, World.size_alloc] at h
  · have h := heap_alloc_new (w.alloc (.cells #[.slice ta tn tc, .slice na nn nc] 33)) (.cells #[i64 which] 3)
    rwa [World.size_alloc] at h

/-- wTrueOf of wChange's function is true. -/
theorem law_any (w : World) (d : DomV) (D : Dom) (hd : DomAt w d D) (tv nv : Value) (C : Cnd) (hc : CndAt w tv nv C) (lv : Value) (atoms : List AtD) (hl : Sl w 2 32 rAtom lv atoms) (av : Value) (args : List Int) (ha : IntsAt w av args)
    (f : FuncId) (cpt : Array Value) (can : List Int → Nd → Fo → Bool) (hby : valV D C = (0, 0) → ByOK w D atoms f cpt can) (cb bb wb : Nat) (which : Int)
    (hcb : w.heap[cb]? = some (.cells #[tv, nv] 33)) (hbb : w.heap[bb]? = some (.cells #[.func (.func f) #[] cpt] 42)) (hwb : w.heap[wb]? = some (.cells #[i64 which] 3)) :
    Calls Try.prog 15 #[.agg d.cells, .agg #[tv, nv], lv, av, .func (.func 51) #[] #[ptr cb, ptr bb, ptr wb]] w fun e w' => e = .returned (.bool true) ∧ Ext w w' := by
  refine trueOf_any w d D hd tv nv C hc lv atoms hl av args ha 51 _ enters51 fun n k hv hfl hs hcnt ho hal w1 hW1 W hW b fp ht => ?_
  obtain ⟨ta, tcap, htv⟩ := IntsAt.slice hc.types
  have h3 := (paramsCode_zero (valV_inv hv).2.1).1
  refine change_any w1 D atoms f cpt can ((hby hv).ext hW1) C.types cb bb wb ta tcap which ?_ ?_ ?_ n k hs ho hcnt hal (by omega) W hW b fp ht
  · rw [cell_of_heap (hW1.block hcb), htv]; rfl
  · rw [cell_of_heap (hW1.block hbb)]; rfl
  · rw [cell_of_heap (hW1.block hwb)]; rfl

end Go.Proofs.Ytodlkjjoenglgaa
