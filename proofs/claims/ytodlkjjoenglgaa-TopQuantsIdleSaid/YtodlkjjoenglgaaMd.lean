/- Parts of a proof about conditions: Scp2 Cnd1 Cnd2 Cnd3. -/
import Derived.Test.YtodlkjjoenglgaaMc
/- condition.scopes. -/
namespace Go.Proofs.Ytodlkjjoenglgaa
open Go Go.RowKit
attribute [local go_sem] Oper.semAt_some
set_option linter.unusedSimpArgs false

def isQ (k : Int) : Bool := k == 7 || k == 8
def innerOf (x : Nd × List Int) (o : List Int) : List Int := if isQ x.1.kind then o ++ [x.1.typ] else o
def scStep (ns : List (Nd × List Int)) (out : List (List Int)) (i : Nat) : List (List Int) :=
  (ns.getD i dNd).2.foldl (fun o k => o.set k.toNat (innerOf (ns.getD i dNd) (out.getD i []))) out
def scFrom (ns : List (Nd × List Int)) : Nat → List (List Int) → List (List Int)
  | 0, out => out
  | i + 1, out => scFrom ns i (scStep ns out i)
def scopesV (C : Cnd) : List (List Int) := scFrom C.nodes C.nodes.length ((List.replicate C.nodes.length []).set (C.nodes.length - 1) C.types)

theorem info30 : (Try.prog.info? 30).map (fun i => (i.zero, i.size, i.bytes)) = some (some (.slice none 0 0), 1, 24) := by kernel_rfl
set_option maxRecDepth 10000 in
theorem make_slices (n : Nat) (hn : n ≤ 1000) (W : World) : (Instr.makeSlice 103 (.int .i64 (n : Int)) (.int .i64 (n : Int))).run Try.prog W = .ok (.slice (some ⟨W.heap.size, 0, none⟩) n n) (W.alloc (.cells ((List.replicate n (.slice none 0 0)).toArray) 30)) := by
  obtain ⟨i0, hi, hz0, hz1, hz2⟩ := info_parts info30
  rw [run_makeSlice (P := Try.prog) W 103 30 i0 (.slice none 0 0) Try.underlying103 hi hz0 .i64 .i64 n n (by omega) (by omega) (by rw [hz1]; omega) (by rw [hz2]; omega) (by omega)]
  rw [hz1]
  congr 3
  rw [Nat.mul_one, Int.toNat_natCast]
  apply Array.ext
  · simp [madeCells]
  · intro i h1 h2
    simp only [madeCells, Array.getElem_map, List.getElem_toArray, List.getElem_replicate]
    show (#[.slice none 0 0] : Array Value)[_ % 1]! = .slice none 0 0
    rw [Nat.mod_one]
    rfl

/-- The scopes in memory: j nodes are still to come. -/
structure ScInv (w : World) (tv nv : Value) (n : Nat) (out : List (List Int)) (vs : List Value) (m : Nat) (W : World) : Prop where
  ext : Ext w W
  box : W.heap[w.heap.size]? = some (.cells #[tv, nv] 33)
  arr : W.heap[w.heap.size + 1]? = some (.cells vs.toArray 30)
  var : W.heap[w.heap.size + 2]? = some (.cells #[.slice (some ⟨w.heap.size + 1, 0, none⟩) n n] 103)
  len : vs.length = n
  sl : ∀ (i : Nat) x, vs[i]? = some x → sliceV x
  olen : out.length = n
  ints : ∀ i, i < n → IntsAt W (vs.getD i undef) (out.getD i []) ∧ (out.getD i []).length ≤ m

theorem IntsAt.keep2 {w w' : World} {v : Value} {l : List Int} (h : IntsAt w v l)
    (hk : ∀ k, k < w.heap.size → w'.heap[k]? = w.heap[k]? ∨ ∀ (off : Nat) (x : Int), w.cell? ⟨k, off, none⟩ ≠ some (i64 x)) : IntsAt w' v l := by
  obtain ⟨a, cap, rfl, h1, h2, h3, h4⟩ := h
  refine ⟨a, cap, rfl, h1, h2, h3, fun i x hx => ?_⟩
  obtain ⟨c, hc, hr, b, off, rfl, hcell⟩ := h4 i x hx
  refine ⟨c, hc, hr, b, off, rfl, fun j y hj => ?_⟩
  have h5 := hcell j y hj
  rw [show c = [i64 x] from hr] at hj
  match j with
  | 0 =>
    cases hj
    rcases hk b (World.block_lt_of_cell? w _ h5) with h6 | h6
    · rw [cell_congr h6]; exact h5
    · exact absurd h5 (h6 _ _)
  | j + 1 => simp at hj
theorem no_ints {w : World} {g : Nat} {vs : List Value} {T : TypeId} {fr : Nat × Nat} (hg : w.heap[g]? = some (.cells vs.toArray T fr)) (hs : ∀ (i : Nat) x, vs[i]? = some x → sliceV x) : ∀ (off : Nat) (x : Int), w.cell? ⟨g, off, none⟩ ≠ some (i64 x) := by
  intro off x h
  rw [cell_of_heap hg, List.getElem?_toArray] at h
  obtain ⟨p, q, r, e⟩ := hs _ _ h
  cases e
theorem no_ints_loop {w : World} {l : Nat} {L : Loop} (hg : w.heap[l]? = some (.loop L)) : ∀ (off : Nat) (x : Int), w.cell? ⟨l, off, none⟩ ≠ some (i64 x) := by
  intro off x h
  simp [World.cell?, hg] at h

/-- Between two rounds of the range over the nodes, from behind: j nodes are still to come. -/
structure ScRg (w : World) (tv nv : Value) (n : Nat) (R : LoopState → Option Code → Loop) (out : List (List Int)) (vs : List Value) (m : Nat) (W : World) : Prop where
  inv : ScInv w tv nv n out vs m W
  b3 : W.heap[w.heap.size + 3]? = some (.cells #[nv] 31)
  b4 : W.heap[w.heap.size + 4]? = some (.deferred (some []))
  b5 : W.heap[w.heap.size + 5]? = some (.loop (R .ready none))
def ScSt (w : World) (tv nv : Value) (n : Nat) (ns : List (Nd × List Int)) (res : List (List Int)) (R : LoopState → Option Code → Loop) (j : Nat) (W : World) : Prop :=
  ∃ out vs, ScRg w tv nv n R out vs (3 + (n - j)) W ∧ scFrom ns j out = res

/-- Between two rounds of the loop over a node's children. -/
structure ScLp (w : World) (n : Nat) (iv : Value) (inner : List Int) (m : Nat) (WW : World) (out : List (List Int)) (vs : List Value) (W : World) : Prop where
  other : ∀ k, k ≠ w.heap.size + 1 → W.heap[k]? = WW.heap[k]?
  size : W.heap.size = WW.heap.size
  ext : Ext w W
  arr : W.heap[w.heap.size + 1]? = some (.cells vs.toArray 30)
  len : vs.length = n
  sl : ∀ (i : Nat) x, vs[i]? = some x → sliceV x
  olen : out.length = n
  ints : ∀ i, i < n → IntsAt W (vs.getD i undef) (out.getD i []) ∧ (out.getD i []).length ≤ m
  iv : IntsAt W iv inner
  il : inner.length ≤ m
theorem ScLp.set {w : World} {n : Nat} {iv : Value} {inner : List Int} {m : Nat} {WW : World} {out : List (List Int)} {vs : List Value} {W : World} (h : ScLp w n iv inner m WW out vs W) (hiv : sliceV iv) {q : Nat} (hq : q < n) :
    ScLp w n iv inner m WW (out.set q inner) (vs.set q iv) (W.setCell ⟨w.heap.size + 1, q, none⟩ iv) := by
  have hk : ∀ k, k ≠ w.heap.size + 1 → k < W.heap.size → (W.setCell ⟨w.heap.size + 1, q, none⟩ iv).heap[k]? = W.heap[k]? := fun k hk _ => heap_setCell_ne _ (by simpa using hk)
  have hs : ∀ (i : Nat) x, vs.toArray[i]? = some x → sliceV x := fun i x hx => h.sl i x (by simpa using hx)
  refine ⟨fun k hk => (heap_setCell_ne _ (by simpa using hk)).trans (h.other k hk), by rw [World.size_setCell]; exact h.size, h.ext.setCell (p := ⟨w.heap.size + 1, q, none⟩) (by simp) _, ?_, by rw [List.length_set]; exact h.len, ?_, by rw [List.length_set]; exact h.olen, ?_, h.iv.keep h.arr hs hk, h.il⟩
  · rw [heap_setCell_at _ h.arr, List.setIfInBounds_toArray]
  · intro i x hx
    rw [List.getElem?_set] at hx
    split at hx
    · split at hx
      · cases hx; exact hiv
      · cases hx
    · exact h.sl i x hx
  · intro i hi
    have h1 := h.len
    have h2 := h.olen
    rw [List.getD_eq_getElem?_getD, List.getD_eq_getElem?_getD, List.getElem?_set, List.getElem?_set]
    by_cases hqi : q = i
    · rw [if_pos hqi, if_pos hqi, if_pos (by omega), if_pos (by omega)]
      exact ⟨h.iv.keep h.arr hs hk, h.il⟩
    · rw [if_neg hqi, if_neg hqi, ← List.getD_eq_getElem?_getD, ← List.getD_eq_getElem?_getD]
      exact ⟨(h.ints i hi).1.keep h.arr hs hk, (h.ints i hi).2⟩
theorem ScLp.close {w : World} {tv nv : Value} {n : Nat} {R : LoopState → Option Code → Loop} {iv : Value} {inner : List Int} {m m0 : Nat} {WW W W0 : World} {out out0 : List (List Int)} {vs vs0 : List Value}
    (h : ScLp w n iv inner m WW out vs W) (h0 : ScRg w tv nv n R out0 vs0 m0 W0) (hk : ∀ k, k < W0.heap.size → k ≠ w.heap.size + 5 → WW.heap[k]? = W0.heap[k]?) (hl : ∃ L, WW.heap[w.heap.size + 5]? = some (.loop L)) :
    ScRg w tv nv n R out vs m (W.putObj (w.heap.size + 5) (.loop (R .ready none))) := by
  have hp : ∀ k o, k ≠ w.heap.size + 5 → (W.putObj (w.heap.size + 5) o).heap[k]? = W.heap[k]? := fun k o hk => World.putObj_heap_other hk
  have h5 := heap_lt h0.b5
  obtain ⟨L, hL⟩ := hl
  have hl5 : W.heap[w.heap.size + 5]? = some (.loop L) := (h.other _ (by omega)).trans hL
  refine ⟨⟨below_putObj h.ext (by omega), ?_, ?_, ?_, h.len, h.sl, h.olen, fun i hi => ⟨(h.ints i hi).1.keep2 fun k hk => ?_, (h.ints i hi).2⟩⟩, ?_, ?_, ?_⟩
  · rw [hp _ _ (by omega), h.other _ (by omega), hk _ (by omega) (by omega)]; exact h0.inv.box
  · rw [hp _ _ (by omega)]; exact h.arr
  · rw [hp _ _ (by omega), h.other _ (by omega), hk _ (by omega) (by omega)]; exact h0.inv.var
  · by_cases hk5 : k = w.heap.size + 5
    · subst hk5; exact .inr (no_ints_loop hl5)
    · exact .inl (hp _ _ hk5)
  · rw [hp _ _ (by omega), h.other _ (by omega), hk _ (by omega) (by omega)]; exact h0.b3
  · rw [hp _ _ (by omega), h.other _ (by omega), hk _ (by omega) (by omega)]; exact h0.b4
  · exact World.putObj_heap_same (heap_lt hl5)

set_option maxRecDepth 100000 in
set_option maxHeartbeats 2000000 in
theorem scopes_any (w : World) (tv nv : Value) (C : Cnd) (h : CndAt w tv nv C) (hn0 : 0 < C.nodes.length) (hn30 : C.nodes.length ≤ 30) (ht3 : C.types.length ≤ 3)
    (hkids : ∀ i, i < C.nodes.length → ∀ k ∈ (C.nodes.getD i dNd).2, 0 ≤ k ∧ k < C.nodes.length) :
    Calls Try.prog 69 #[.agg #[tv, nv]] w fun e w' => Ext w w' ∧ ∃ g, ∃ vs : Nat → Value, e = .returned (.slice (some ⟨g, 0, none⟩) C.nodes.length C.nodes.length) ∧
      ∀ i, i < C.nodes.length → w'.cell? ⟨g, i, none⟩ = some (vs i) ∧ IntsAt w' (vs i) ((scopesV C).getD i []) := by
  obtain ⟨a0, cap, cv, av, rfl, h1, h2, h3, hrow⟩ := h.nodes.nodes
  have htints := h.types
  obtain ⟨ta, tcap, rfl⟩ := h.types.slice
  obtain ⟨tn, htn⟩ : ∃ n, C.types.length = n := ⟨_, rfl⟩
  obtain ⟨n, hn⟩ : ∃ n, C.nodes.length = n := ⟨_, rfl⟩
  rw [htn] at htints ht3 ⊢
  rw [hn] at h1 h3 hrow hn0 hn30 hkids ⊢
  obtain ⟨res, hres⟩ : ∃ r, scopesV C = r := ⟨_, rfl⟩
  have hrun : scFrom C.nodes n ((List.replicate n []).set (n - 1) C.types) = res := by rw [← hres, ← hn]; rfl
  rw [hres]
  have HROW := Lib.hid hrow
  have HKIDS := Lib.hid hkids
  have HRUN := Lib.hid hrun
  have HT := Lib.hid htints
  have HTN := Lib.hid htn
  have hmk := make_slices n (by omega)
  obtain ⟨Z, hZ⟩ : ∃ Z, (List.replicate n (Value.slice none 0 0)).toArray = Z := ⟨_, rfl⟩
  rw [hZ] at hmk
  have hzl : Z[n - 1]? = some (.slice none 0 0) := by
    rw [← hZ, List.getElem?_toArray, List.getElem?_replicate, if_pos (by omega)]
  have HZ := Lib.hid hZ
  unfold maxLen at h2
  clear hrow hkids hrun htints h hres hn htn hZ
  refine (callsIn_wide (n := 6)).1 ?_
  refine callsIn_of_wp_marks Try.func69 rfl trivial ?_ rfl
  simp only [Try.ntmps69, List.size_toArray, List.length_cons, List.length_nil, Nat.reduceAdd, Nat.reduceSub, Array.replicate_succ, Array.replicate_zero, List.push_toArray, List.append_toArray, List.nil_append, List.cons_append]
  gi_wp2_with fail
  refine ⟨trivial, callsIn_wide.2 ((back_nodes _ a0 n cap).mono ?_)⟩
  rintro e W ⟨rfl, rfl⟩
  gi_wp2_with fail
  refine wpIn_range_wide rfl enters115 (fun fn => ?_)
  simp only [World.size_alloc, Nat.add_assoc, Nat.reduceAdd]
  generalize hR : recOf fn (_ : Array Value) (_ : Array Tmp) (_ : Code) (_ : Code) (_ : Nat) = R
  have HRR := Lib.hid hR
  clear hR
  generalize hW0 : World.alloc _ (Obj.loop (R .ready none)) = W0
  have HI0 : Hid (ScSt w (.slice ta tn tcap) (.slice a0 n cap) n C.nodes res R n W0) := by
    refine ⟨(List.replicate n []).set (n - 1) C.types, (List.replicate n (.slice none 0 0)).set (n - 1) (.slice ta tn tcap), ⟨⟨?_, ?_, ?_, ?_, ?_, ?_, ?_, ?_⟩, ?_, ?_, ?_⟩, HRUN.out⟩
    · rw [← hW0]; exact (((((Ext.refl w).alloc _).alloc _).alloc _).alloc _).alloc _ |>.alloc _
    · rw [← hW0]; simp only [World.alloc, Array.getElem?_push, Array.size_push]; repeat rw [if_neg (by omega)]
      simp
    · rw [← hW0, ← HZ.out, List.setIfInBounds_toArray]; simp only [World.alloc, Array.getElem?_push, Array.size_push]; repeat rw [if_neg (by omega)]
      rw [if_pos trivial]
    · rw [← hW0]; simp only [World.alloc, Array.getElem?_push, Array.size_push]; repeat rw [if_neg (by omega)]
      simp
    · rw [List.length_set, List.length_replicate]
    · intro i x hx
      rw [List.getElem?_set] at hx
      split at hx
      · split at hx
        · cases hx; exact ⟨_, _, _, rfl⟩
        · cases hx
      · rw [List.getElem?_replicate] at hx
        split at hx
        · cases hx; exact ⟨_, _, _, rfl⟩
        · cases hx
    · rw [List.length_set, List.length_replicate]
    · intro i hi
      rw [List.getD_eq_getElem?_getD, List.getD_eq_getElem?_getD, List.getElem?_set, List.getElem?_set, List.length_replicate, List.length_replicate]
      by_cases hin : n - 1 = i
      · rw [if_pos hin, if_pos hin, if_pos (by omega), if_pos (by omega)]
        refine ⟨HT.out.ext ?_, ?_⟩
        · rw [← hW0]; exact (((((Ext.refl w).alloc _).alloc _).alloc _).alloc _).alloc _ |>.alloc _
        · show C.types.length ≤ _
          have := HTN.out
          omega
      · rw [if_neg hin, if_neg hin, List.getElem?_replicate, List.getElem?_replicate, if_pos hi, if_pos hi]
        exact ⟨IntsAt.nil _, Nat.zero_le _⟩
    · rw [← hW0]; simp only [World.alloc, Array.getElem?_push, Array.size_push]; repeat rw [if_neg (by omega)]
      simp
    · rw [← hW0]; simp only [World.alloc, Array.getElem?_push, Array.size_push]; repeat rw [if_neg (by omega)]
      simp
    · rw [← hW0]; simp only [World.alloc, Array.getElem?_push, Array.size_push]
      simp
  clear hW0 hmk hzl
  refine (back_iter_nodes (w.heap.size + 5) _ (w.heap.size + 3) a0 n cap (by omega) (fun i => i64 (C.nodes.getD i dNd).1.kind) cv (fun i => i64 (C.nodes.getD i dNd).1.pred) av (fun i => i64 (C.nodes.getD i dNd).1.left) (fun i => i64 (C.nodes.getD i dNd).1.right) (fun i => i64 (C.nodes.getD i dNd).1.typ)
    (ScSt w (.slice ta tn tcap) (.slice a0 n cap) n C.nodes res R) (fun _ => False) ?c1 ?c2 ?c3 _ HI0).mono ?_
  case c1 =>
    rintro j W ⟨out, vs, h, -⟩
    rw [cell_of_heap h.b3]; rfl
  case c2 =>
    rintro j W ⟨out, vs, h, -⟩ i hi
    exact (HROW.out i hi).1.ext h.inv.ext
  case c3 =>
    rintro i W hi ⟨out, vs, h, hrun⟩
    clear HI0
    obtain ⟨-, hci, hai⟩ := HROW.out i hi
    obtain ⟨x, hx⟩ : ∃ x, C.nodes.getD i dNd = x := ⟨_, rfl⟩
    have hkid := HKIDS.out i hi
    simp only [hx] at hci hai hkid ⊢
    obtain ⟨ca, ccap, hcv, -, hc2, hc3, hcrow⟩ := hci.open
    obtain ⟨cn, hcn⟩ : ∃ m, x.2.length = m := ⟨_, rfl⟩
    obtain ⟨aa, acap, hav⟩ := hai.slice
    rw [hcn] at hcv hc3 hcrow
    rw [hcv, hav]
    have hstep : scFrom C.nodes i (x.2.foldl (fun o k => o.set k.toNat (innerOf x (out.getD i []))) out) = res := by
      rw [← hrun, scFrom, scStep, hx]
    have HST := Lib.hid hstep
    have HCR := Lib.hid hcrow
    have HCN := Lib.hid hcn
    have HKID := Lib.hid hkid
    have HX := Lib.hid hx
    unfold maxLen at hc2
    generalize x.1.args.length = an
    obtain ⟨kd, hkd⟩ : ∃ k, x.1.kind = k := ⟨_, rfl⟩
    obtain ⟨tp, htp⟩ : ∃ k, x.1.typ = k := ⟨_, rfl⟩
    simp only [hkd, htp]
    generalize x.1.pred = pd
    generalize x.1.left = lf
    generalize x.1.right = rg
    have HKD := Lib.hid hkd
    have HTP := Lib.hid htp
    clear hrun hcv hav hcn hci hai hkid hcrow hstep hx hkd htp
    obtain rfl := HRR.out
    clear HRR
    refine yield_wide' h.b5 rfl ?_
    have hlt5 := heap_lt h.b5
    have HH := Lib.hid h
    clear h
    gi_wp2
    refine ⟨(heap_alloc_lt hlt5).trans HH.out.b5, ?_⟩
    generalize hW2 : (W.alloc _).putObj (w.heap.size + 5) _ = W2
    have hne : W.heap.size ≠ w.heap.size + 5 := by omega
    have d5 : W2.heap[W.heap.size]? = some (.cells #[i64 kd, .slice ca cn ccap, i64 pd, .slice aa an acap, i64 lf, i64 rg, i64 tp] 48) := by
      rw [← hW2, World.putObj_heap_other hne]; exact heap_alloc_new _ _
    have dk : ∀ k, k < W.heap.size → k ≠ w.heap.size + 5 → W2.heap[k]? = W.heap[k]? := fun k hk hk5 => by
      rw [← hW2, World.putObj_heap_other hk5]; exact heap_alloc_lt hk
    have dE : Ext w W2 := by rw [← hW2]; exact below_putObj (HH.out.inv.ext.alloc _) (by omega)
    have dl : ∃ L, W2.heap[w.heap.size + 5]? = some (.loop L) := ⟨_, by rw [← hW2]; exact World.putObj_heap_same (by simp; omega)⟩
    have HW2 := Lib.hid hW2
    clear hW2
    have DD5 := Lib.hid d5
    have DK := Lib.hid dk
    have DE := Lib.hid dE
    have DL := Lib.hid dl
    obtain ⟨o0, o1, -, o3, o4, o5, o6, ol⟩ := seven_facts d5
    clear d5 dk dE dl
    have hw1 := heap_lt HH.out.inv.arr
    have hw2 := heap_lt HH.out.inv.var
    have v0 : W2.cell? ⟨w.heap.size + 2, 0, none⟩ = some (.slice (some ⟨w.heap.size + 1, 0, none⟩) n n) := by
      rw [cell_of_heap ((DK.out _ hw2 (by omega)).trans HH.out.inv.var)]; rfl
    have hvl := HH.out.inv.len
    obtain ⟨u, hu⟩ : ∃ u, vs[i]? = some u := ⟨_, List.getElem?_eq_getElem (by omega)⟩
    obtain ⟨ia, im, icap, rfl⟩ := HH.out.inv.sl i u hu
    have hint := HH.out.inv.ints i hi
    rw [List.getD_eq_getElem?_getD, hu] at hint
    simp only [Option.getD_some] at hint
    have hgi : W2.cell? ⟨w.heap.size + 1, i, none⟩ = some (.slice ia im icap) := by
      rw [cell_of_heap ((DK.out _ hw1 (by omega)).trans HH.out.inv.arr), List.getElem?_toArray]; exact hu
    have hlg := World.block_lt_of_cell? W2 _ hgi
    simp only at hlg
    have HU := Lib.hid hu
    have hkeep : ∀ v l, IntsAt W v l → IntsAt W2 v l := fun v l hv => hv.keep2 fun k hk => by
      by_cases hk5 : k = w.heap.size + 5
      · subst hk5; exact .inr (no_ints_loop HH.out.b5)
      · exact .inl (DK.out k hk hk5)
    have HKEEP := Lib.hid hkeep
    have HINT := Lib.hid hint
    clear hu hvl hint hkeep
    by_cases hq : kd = 7 ∨ kd = 8
    · have hs2 : W.heap.size < W2.heap.size := heap_lt DD5.out
      obtain ⟨i0, hi0, hz00, hz01, hz02⟩ := info_parts info3c
      have HQ : Hid (isQ kd = true) := by
        show isQ kd = true
        unfold isQ
        rcases hq with rfl | rfl <;> rfl
      by_cases hq7 : kd = 7
      · have hb7 : (kd == 7) = true := by simpa using hq7
        clear hq hq7
        gi_wp2_with fail
        refine wpIn_region_round (by kernel_rfl) (by kernel_rfl) (by rintro ⟨a, w, h⟩; exact h) ?_
        refine wpAny_take (i := 0) rfl (by kernel_rfl) (by kernel_rfl) (by kernel_rfl) (fun _ _ _ h => h) (Or.inl ⟨by rfl, fun w => by go_simp; rfl⟩) ?_
        try simp only [Act.put, List.setIfInBounds_toArray, List.set_cons_zero, List.set_cons_succ]
        refine wpAny_take (i := 2) rfl (by kernel_rfl) (by kernel_rfl) (by kernel_rfl) (fun _ _ _ h => h) (Or.inl ⟨by rfl, fun w => by go_simp; rfl⟩) ?_
        try simp only [Act.put, List.setIfInBounds_toArray, List.set_cons_zero, List.set_cons_succ]
        have hE0 : Ext W2 W2.drew := (Ext.refl W2).drew
        have hW2g : W2.heap.size ≤ W2.drew.heap.size := Nat.le_refl _
        refine wpAny_ready (rs := [1, 3]) (by kernel_rfl) (by simp) ?_
        refine AllReady.cons rfl (fun K hK => ?_) (AllReady.cons rfl (fun K hK => ?_) AllReady.nil)
        · have HKK := Lib.hid hK
          clear hK
          go_simp
          refine (clone_owns _ _ (out.getD i []) ((HKEEP.out _ _ HINT.out.1).ext hE0).rd (by have := HINT.out.2; omega)).mono ?_
          rintro e w1 ⟨v', rfl, hx, hown⟩
          have hbase : W2.heap.size ≤ W2.drew.heap.size := hE0.size
          have hE1 : Ext W2 w1 := hE0.trans hx
          refine HKK.out _ _ ?_
          clear HKK K
          try simp only [Act.put, List.setIfInBounds_toArray, List.set_cons_zero, List.set_cons_succ]
          refine wpAny_ready (rs := [3]) (by kernel_rfl) (by simp) ?_
          refine AllReady.cons rfl (fun K hK => ?_) AllReady.nil
          have o6' : World.cell? _ ⟨W.heap.size, 6, none⟩ = some (i64 tp) := hE1.cell o6
          have HKK := Lib.hid hK
          clear hK
          go_simp
          clear o6'
          refine HKK.out _ _ ?_
          clear HKK K
          have hE2 := hE1
          try simp only [Act.put, List.setIfInBounds_toArray, List.set_cons_zero, List.set_cons_succ]
          refine wpAny_ready (rs := [4]) (by kernel_rfl) (by simp) ?_
          refine AllReady.cons rfl (fun K hK => ?_) AllReady.nil
          have hbs : W2.drew.heap.size ≤ (w1.alloc (.cells #[i64 tp] 3)).heap.size := by have h := hx.size; simp at h ⊢; omega
          have hBB := heap_alloc_new w1 (.cells #[i64 tp] 3)
          have HKK := Lib.hid hK
          clear hK
          go_simp
          refine HKK.out _ _ ?_
          clear HKK K
          have hE3 := hE2.alloc (.cells #[i64 tp] 3)
          have hown := hown.alloc (.cells #[i64 tp] 3)
          try simp only [Act.put, List.setIfInBounds_toArray, List.set_cons_zero, List.set_cons_succ]
          refine wpAny_ready (rs := [5]) (by kernel_rfl) (by simp) ?_
          refine AllReady.cons rfl (fun K hK => ?_) AllReady.nil
          have HKK := Lib.hid hK
          clear hK
          have hEk := hE3
          refine step_append_lies _ rfl _ _ 30 rfl W2.drew.heap.size 3 i0 (.int .i64 0) 1 8 Try.underlying30 hi0 hz00 hz01 hz02 rfl (by decide) v' (out.getD i []).length ((out.getD i []).map i64) rfl hown ⟨w1.heap.size, 0, none⟩ 1 1 [i64 tp] rfl rfl (World.news_of_block hBB) (by simp [Value.oneCell']) (by decide) (by have := HINT.out.2; unfold maxLen; omega) (by have := HINT.out.2; omega) (by have := hbs; simpa using this) _ rfl ?_
          intro g' cap' w9 hown9 hgrow hat hlt'
          refine HKK.out _ _ ?_
          clear HKK K
          try simp only [Act.put, List.setIfInBounds_toArray, List.set_cons_zero, List.set_cons_succ]
          have HE9 : Hid (Ext W2 w9) := hEk.of_grown hgrow (fun k hk => Nat.le_trans hbase (hown.lt k hk).1)
          have HI9 : Hid (IntsAt w9 (.slice (some ⟨g', 0, none⟩) ((out.getD i []).length + 1) cap') (innerOf x (out.getD i []))) := by
            show IntsAt _ _ _
            unfold innerOf
            rw [if_pos (by rw [HKD.out]; exact HQ.out), HTP.out]
            have h9 : ((out.getD i []).map i64 ++ [i64 tp]) = (out.getD i [] ++ [tp]).map i64 := by rw [List.map_append]; rfl
            rw [h9] at hown9
            exact IntsAt.of_owns hown9 (by simp) (by have := HINT.out.2; omega)
          generalize (out.getD i []).length + 1 = im' at HI9 ⊢
          clear hown9 hgrow hat hlt' hown hBB hEk
          refine wpAny_take (i := 6) rfl (by kernel_rfl) (by kernel_rfl) (by kernel_rfl) (fun _ _ _ h => h) (Or.inl ⟨by rfl, fun w => by go_simp; rfl⟩) ?_
          try simp only [Act.put, List.setIfInBounds_toArray, List.set_cons_zero, List.set_cons_succ]
          refine wpAny_done (by kernel_rfl) ?_ _
          try simp only [List.getElem_toArray, List.getElem_cons_succ, List.getElem_cons_zero, Act.put, List.setIfInBounds_toArray, List.set_cons_zero, List.set_cons_succ]
          clear hE0 hE1 hE2 hE3 hx hbs hbase hW2g
          have HKW : Hid (∀ k, k < W.heap.size → k ≠ w.heap.size + 5 → w9.heap[k]? = W.heap[k]?) := fun k hk hk5 => (Below.block HE9.out k (Nat.lt_trans hk hs2)).trans (DK.out k hk hk5)
          have HLI : Hid (ScLp w n (.slice (some ⟨g', 0, none⟩) im' cap') (innerOf x (out.getD i [])) (3 + (n - i)) w9 ((x.2.take 0).foldl (fun o k => o.set k.toNat (innerOf x (out.getD i []))) out) vs w9) := by
            refine ⟨fun _ _ => rfl, rfl, DE.out.trans HE9.out, (HKW.out _ hw1 (by omega)).trans HH.out.inv.arr, HH.out.inv.len, HH.out.inv.sl, HH.out.inv.olen, fun j hj => ⟨(fun v l h => (HKEEP.out v l h).ext HE9.out) _ _ (HH.out.inv.ints j hj).1, ?_⟩, HI9.out, ?_⟩
            · have := (HH.out.inv.ints j hj).2
              show (out.getD j []).length ≤ _
              omega
            · have := HINT.out.2
              unfold innerOf
              split
              · rw [List.length_append, List.length_singleton]; omega
              · omega
          have o1p := HE9.out.cell o1
          gi_wp2_with fail
          gi_loopw [46] (fun v wr => ∃ c : Nat, c ≤ cn ∧ v = .int .i64 c ∧ ∃ vs', Hid (ScLp w n (.slice (some ⟨g', 0, none⟩) im' cap') (innerOf x (out.getD i [])) (3 + (n - i)) w9 ((x.2.take c).foldl (fun o k => o.set k.toNat (innerOf x (out.getD i []))) out) vs' wr)) (fun v _ => cn - (intOf v).toNat)
          case atStart => exact ⟨0, Nat.zero_le _, rfl, vs, HLI⟩
          case round =>
            obtain ⟨c, hc, rfl, vs', HL⟩ := hrel
            clear HLI
            by_cases hcl : c < cn
            · obtain ⟨b1, off1, rfl, hcc⟩ := HCR.out c hcl
              have hq := HKID.out (x.2.getD c 0) (by rw [List.getD_eq_getElem?_getD, List.getElem?_eq_getElem (by rw [HCN.out]; exact hcl)]; exact List.getElem_mem _)
              obtain ⟨q, hqq⟩ : ∃ q : Nat, x.2.getD c 0 = q := ⟨(x.2.getD c 0).toNat, by omega⟩
              rw [hqq] at hcc hq
              have hqn : q < n := by omega
              have g1 : wr.cell? ⟨b1, off1 + c, none⟩ = some (i64 q) := HL.out.ext.cell hcc
              have gv : wr.cell? ⟨w.heap.size + 2, 0, none⟩ = some (.slice (some ⟨w.heap.size + 1, 0, none⟩) n n) := by
                rw [cell_of_heap ((HL.out.other _ (by omega)).trans ((HKW.out _ hw2 (by omega)).trans HH.out.inv.var))]; rfl
              have hlen := HL.out.len
              have gq : wr.cell? ⟨w.heap.size + 1, q, none⟩ = some (vs'[q]'(by omega)) := by
                rw [cell_of_heap HL.out.arr, List.getElem?_toArray, List.getElem?_eq_getElem (by omega)]
              have gz : wr.frozen? ⟨w.heap.size + 1, q, none⟩ = false := free_of_heap HL.out.arr q
              have HQQ := Lib.hid hqq
              obtain ⟨y, hy⟩ : ∃ y, vs'[q]'(by omega) = y := ⟨_, rfl⟩
              rw [hy] at gq
              clear hcc hq hqq hy hlen
              gi_wp2_with fail
              go_roundw
              case rel =>
                refine ⟨c + 1, by omega, by go_num, vs'.set q (.slice (some ⟨g', 0, none⟩) im' cap'), ?_⟩
                have h := HL.out.set ⟨_, _, _, rfl⟩ hqn
                have htk : x.2.take (c + 1) = x.2.take c ++ [(q : Int)] := by
                  rw [List.take_add_one, List.getElem?_eq_getElem (by rw [HCN.out]; exact hcl)]
                  have := HQQ.out
                  rw [List.getD_eq_getElem?_getD, List.getElem?_eq_getElem (by rw [HCN.out]; exact hcl)] at this
                  rw [← this]; rfl
                rw [htk, List.foldl_append]
                exact h
              case measure => simp [intOf]; omega
            · have hcn2 : c = cn := by omega
              gi_wp2_with fail
              refine ⟨?_, .inl ⟨rfl, _, vs', HL.out.close HH.out HKW.out ⟨_, (Below.block HE9.out _ (by omega)).trans (by rw [← HW2.out]; exact World.putObj_heap_same (by simp; omega))⟩, ?_⟩⟩
              · rw [HL.out.other _ (by omega)]; exact (Below.block HE9.out _ (by omega)).trans (by rw [← HW2.out]; exact World.putObj_heap_same (by simp; omega))
              · rw [hcn2, ← HCN.out, List.take_length]; exact HST.out
        · have o6' : World.cell? _ ⟨W.heap.size, 6, none⟩ = some (i64 tp) := hE0.cell o6
          have HKK := Lib.hid hK
          clear hK
          go_simp
          clear o6'
          refine HKK.out _ _ ?_
          clear HKK K
          have hE1 := hE0
          try simp only [Act.put, List.setIfInBounds_toArray, List.set_cons_zero, List.set_cons_succ]
          refine wpAny_ready (rs := [1, 4]) (by kernel_rfl) (by simp) ?_
          refine AllReady.cons rfl (fun K hK => ?_) (AllReady.cons rfl (fun K hK => ?_) AllReady.nil)
          · have HKK := Lib.hid hK
            clear hK
            go_simp
            refine (clone_owns _ _ (out.getD i []) ((HKEEP.out _ _ HINT.out.1).ext hE1).rd (by have := HINT.out.2; omega)).mono ?_
            rintro e w2 ⟨v', rfl, hx, hown⟩
            have hbase : W2.heap.size ≤ W2.drew.heap.size := hE1.size
            have hE2 : Ext W2 w2 := hE1.trans hx
            refine HKK.out _ _ ?_
            clear HKK K
            try simp only [Act.put, List.setIfInBounds_toArray, List.set_cons_zero, List.set_cons_succ]
            refine wpAny_ready (rs := [4]) (by kernel_rfl) (by simp) ?_
            refine AllReady.cons rfl (fun K hK => ?_) AllReady.nil
            have hbs : W2.drew.heap.size ≤ (w2.alloc (.cells #[i64 tp] 3)).heap.size := by have h := hx.size; simp at h ⊢; omega
            have hBB := heap_alloc_new w2 (.cells #[i64 tp] 3)
            have HKK := Lib.hid hK
            clear hK
            go_simp
            refine HKK.out _ _ ?_
            clear HKK K
            have hE3 := hE2.alloc (.cells #[i64 tp] 3)
            have hown := hown.alloc (.cells #[i64 tp] 3)
            try simp only [Act.put, List.setIfInBounds_toArray, List.set_cons_zero, List.set_cons_succ]
            refine wpAny_ready (rs := [5]) (by kernel_rfl) (by simp) ?_
            refine AllReady.cons rfl (fun K hK => ?_) AllReady.nil
            have HKK := Lib.hid hK
            clear hK
            have hEk := hE3
            refine step_append_lies _ rfl _ _ 30 rfl W2.drew.heap.size 3 i0 (.int .i64 0) 1 8 Try.underlying30 hi0 hz00 hz01 hz02 rfl (by decide) v' (out.getD i []).length ((out.getD i []).map i64) rfl hown ⟨w2.heap.size, 0, none⟩ 1 1 [i64 tp] rfl rfl (World.news_of_block hBB) (by simp [Value.oneCell']) (by decide) (by have := HINT.out.2; unfold maxLen; omega) (by have := HINT.out.2; omega) (by have := hbs; simpa using this) _ rfl ?_
            intro g' cap' w9 hown9 hgrow hat hlt'
            refine HKK.out _ _ ?_
            clear HKK K
            try simp only [Act.put, List.setIfInBounds_toArray, List.set_cons_zero, List.set_cons_succ]
            have HE9 : Hid (Ext W2 w9) := hEk.of_grown hgrow (fun k hk => Nat.le_trans hbase (hown.lt k hk).1)
            have HI9 : Hid (IntsAt w9 (.slice (some ⟨g', 0, none⟩) ((out.getD i []).length + 1) cap') (innerOf x (out.getD i []))) := by
              show IntsAt _ _ _
              unfold innerOf
              rw [if_pos (by rw [HKD.out]; exact HQ.out), HTP.out]
              have h9 : ((out.getD i []).map i64 ++ [i64 tp]) = (out.getD i [] ++ [tp]).map i64 := by rw [List.map_append]; rfl
              rw [h9] at hown9
              exact IntsAt.of_owns hown9 (by simp) (by have := HINT.out.2; omega)
            generalize (out.getD i []).length + 1 = im' at HI9 ⊢
            clear hown9 hgrow hat hlt' hown hBB hEk
            refine wpAny_take (i := 6) rfl (by kernel_rfl) (by kernel_rfl) (by kernel_rfl) (fun _ _ _ h => h) (Or.inl ⟨by rfl, fun w => by go_simp; rfl⟩) ?_
            try simp only [Act.put, List.setIfInBounds_toArray, List.set_cons_zero, List.set_cons_succ]
            refine wpAny_done (by kernel_rfl) ?_ _
            try simp only [List.getElem_toArray, List.getElem_cons_succ, List.getElem_cons_zero, Act.put, List.setIfInBounds_toArray, List.set_cons_zero, List.set_cons_succ]
            clear hE0 hE1 hE2 hE3 hx hbs hbase hW2g
            have HKW : Hid (∀ k, k < W.heap.size → k ≠ w.heap.size + 5 → w9.heap[k]? = W.heap[k]?) := fun k hk hk5 => (Below.block HE9.out k (Nat.lt_trans hk hs2)).trans (DK.out k hk hk5)
            have HLI : Hid (ScLp w n (.slice (some ⟨g', 0, none⟩) im' cap') (innerOf x (out.getD i [])) (3 + (n - i)) w9 ((x.2.take 0).foldl (fun o k => o.set k.toNat (innerOf x (out.getD i []))) out) vs w9) := by
              refine ⟨fun _ _ => rfl, rfl, DE.out.trans HE9.out, (HKW.out _ hw1 (by omega)).trans HH.out.inv.arr, HH.out.inv.len, HH.out.inv.sl, HH.out.inv.olen, fun j hj => ⟨(fun v l h => (HKEEP.out v l h).ext HE9.out) _ _ (HH.out.inv.ints j hj).1, ?_⟩, HI9.out, ?_⟩
              · have := (HH.out.inv.ints j hj).2
                show (out.getD j []).length ≤ _
                omega
              · have := HINT.out.2
                unfold innerOf
                split
                · rw [List.length_append, List.length_singleton]; omega
                · omega
            have o1p := HE9.out.cell o1
            gi_wp2_with fail
            gi_loopw [46] (fun v wr => ∃ c : Nat, c ≤ cn ∧ v = .int .i64 c ∧ ∃ vs', Hid (ScLp w n (.slice (some ⟨g', 0, none⟩) im' cap') (innerOf x (out.getD i [])) (3 + (n - i)) w9 ((x.2.take c).foldl (fun o k => o.set k.toNat (innerOf x (out.getD i []))) out) vs' wr)) (fun v _ => cn - (intOf v).toNat)
            case atStart => exact ⟨0, Nat.zero_le _, rfl, vs, HLI⟩
            case round =>
              obtain ⟨c, hc, rfl, vs', HL⟩ := hrel
              clear HLI
              by_cases hcl : c < cn
              · obtain ⟨b1, off1, rfl, hcc⟩ := HCR.out c hcl
                have hq := HKID.out (x.2.getD c 0) (by rw [List.getD_eq_getElem?_getD, List.getElem?_eq_getElem (by rw [HCN.out]; exact hcl)]; exact List.getElem_mem _)
                obtain ⟨q, hqq⟩ : ∃ q : Nat, x.2.getD c 0 = q := ⟨(x.2.getD c 0).toNat, by omega⟩
                rw [hqq] at hcc hq
                have hqn : q < n := by omega
                have g1 : wr.cell? ⟨b1, off1 + c, none⟩ = some (i64 q) := HL.out.ext.cell hcc
                have gv : wr.cell? ⟨w.heap.size + 2, 0, none⟩ = some (.slice (some ⟨w.heap.size + 1, 0, none⟩) n n) := by
                  rw [cell_of_heap ((HL.out.other _ (by omega)).trans ((HKW.out _ hw2 (by omega)).trans HH.out.inv.var))]; rfl
                have hlen := HL.out.len
                have gq : wr.cell? ⟨w.heap.size + 1, q, none⟩ = some (vs'[q]'(by omega)) := by
                  rw [cell_of_heap HL.out.arr, List.getElem?_toArray, List.getElem?_eq_getElem (by omega)]
                have gz : wr.frozen? ⟨w.heap.size + 1, q, none⟩ = false := free_of_heap HL.out.arr q
                have HQQ := Lib.hid hqq
                obtain ⟨y, hy⟩ : ∃ y, vs'[q]'(by omega) = y := ⟨_, rfl⟩
                rw [hy] at gq
                clear hcc hq hqq hy hlen
                gi_wp2_with fail
                go_roundw
                case rel =>
                  refine ⟨c + 1, by omega, by go_num, vs'.set q (.slice (some ⟨g', 0, none⟩) im' cap'), ?_⟩
                  have h := HL.out.set ⟨_, _, _, rfl⟩ hqn
                  have htk : x.2.take (c + 1) = x.2.take c ++ [(q : Int)] := by
                    rw [List.take_add_one, List.getElem?_eq_getElem (by rw [HCN.out]; exact hcl)]
                    have := HQQ.out
                    rw [List.getD_eq_getElem?_getD, List.getElem?_eq_getElem (by rw [HCN.out]; exact hcl)] at this
                    rw [← this]; rfl
                  rw [htk, List.foldl_append]
                  exact h
                case measure => simp [intOf]; omega
              · have hcn2 : c = cn := by omega
                gi_wp2_with fail
                refine ⟨?_, .inl ⟨rfl, _, vs', HL.out.close HH.out HKW.out ⟨_, (Below.block HE9.out _ (by omega)).trans (by rw [← HW2.out]; exact World.putObj_heap_same (by simp; omega))⟩, ?_⟩⟩
                · rw [HL.out.other _ (by omega)]; exact (Below.block HE9.out _ (by omega)).trans (by rw [← HW2.out]; exact World.putObj_heap_same (by simp; omega))
                · rw [hcn2, ← HCN.out, List.take_length]; exact HST.out
          · have hBB := heap_alloc_new W2.drew (.cells #[i64 tp] 3)
            have HKK := Lib.hid hK
            clear hK
            go_simp
            refine HKK.out _ _ ?_
            clear HKK K
            have hE2 := hE1.alloc (.cells #[i64 tp] 3)
            try simp only [Act.put, List.setIfInBounds_toArray, List.set_cons_zero, List.set_cons_succ]
            refine wpAny_ready (rs := [1]) (by kernel_rfl) (by simp) ?_
            refine AllReady.cons rfl (fun K hK => ?_) AllReady.nil
            have HKK := Lib.hid hK
            clear hK
            go_simp
            refine (clone_owns _ _ (out.getD i []) ((HKEEP.out _ _ HINT.out.1).ext hE2).rd (by have := HINT.out.2; omega)).mono ?_
            rintro e w3 ⟨v', rfl, hx, hown⟩
            have hbase : W2.heap.size ≤ (W2.drew.alloc (.cells #[i64 tp] 3)).heap.size := hE2.size
            have hE3 : Ext W2 w3 := hE2.trans hx
            refine HKK.out _ _ ?_
            clear HKK K
            try simp only [Act.put, List.setIfInBounds_toArray, List.set_cons_zero, List.set_cons_succ]
            have hbs := hx.size
            have hBB := hx.block hBB
            refine wpAny_ready (rs := [5]) (by kernel_rfl) (by simp) ?_
            refine AllReady.cons rfl (fun K hK => ?_) AllReady.nil
            have HKK := Lib.hid hK
            clear hK
            have hEk := hE3
            refine step_append_lies _ rfl _ _ 30 rfl (W2.drew.alloc (.cells #[i64 tp] 3)).heap.size 3 i0 (.int .i64 0) 1 8 Try.underlying30 hi0 hz00 hz01 hz02 rfl (by decide) v' (out.getD i []).length ((out.getD i []).map i64) rfl hown ⟨W2.drew.heap.size, 0, none⟩ 1 1 [i64 tp] rfl rfl (World.news_of_block hBB) (by simp [Value.oneCell']) (by decide) (by have := HINT.out.2; unfold maxLen; omega) (by have := HINT.out.2; omega) (by have := hbs; simpa using this) _ rfl ?_
            intro g' cap' w9 hown9 hgrow hat hlt'
            refine HKK.out _ _ ?_
            clear HKK K
            try simp only [Act.put, List.setIfInBounds_toArray, List.set_cons_zero, List.set_cons_succ]
            have HE9 : Hid (Ext W2 w9) := hEk.of_grown hgrow (fun k hk => Nat.le_trans hbase (hown.lt k hk).1)
            have HI9 : Hid (IntsAt w9 (.slice (some ⟨g', 0, none⟩) ((out.getD i []).length + 1) cap') (innerOf x (out.getD i []))) := by
              show IntsAt _ _ _
              unfold innerOf
              rw [if_pos (by rw [HKD.out]; exact HQ.out), HTP.out]
              have h9 : ((out.getD i []).map i64 ++ [i64 tp]) = (out.getD i [] ++ [tp]).map i64 := by rw [List.map_append]; rfl
              rw [h9] at hown9
              exact IntsAt.of_owns hown9 (by simp) (by have := HINT.out.2; omega)
            generalize (out.getD i []).length + 1 = im' at HI9 ⊢
            clear hown9 hgrow hat hlt' hown hBB hEk
            refine wpAny_take (i := 6) rfl (by kernel_rfl) (by kernel_rfl) (by kernel_rfl) (fun _ _ _ h => h) (Or.inl ⟨by rfl, fun w => by go_simp; rfl⟩) ?_
            try simp only [Act.put, List.setIfInBounds_toArray, List.set_cons_zero, List.set_cons_succ]
            refine wpAny_done (by kernel_rfl) ?_ _
            try simp only [List.getElem_toArray, List.getElem_cons_succ, List.getElem_cons_zero, Act.put, List.setIfInBounds_toArray, List.set_cons_zero, List.set_cons_succ]
            clear hE0 hE1 hE2 hE3 hx hbs hbase hW2g
            have HKW : Hid (∀ k, k < W.heap.size → k ≠ w.heap.size + 5 → w9.heap[k]? = W.heap[k]?) := fun k hk hk5 => (Below.block HE9.out k (Nat.lt_trans hk hs2)).trans (DK.out k hk hk5)
            have HLI : Hid (ScLp w n (.slice (some ⟨g', 0, none⟩) im' cap') (innerOf x (out.getD i [])) (3 + (n - i)) w9 ((x.2.take 0).foldl (fun o k => o.set k.toNat (innerOf x (out.getD i []))) out) vs w9) := by
              refine ⟨fun _ _ => rfl, rfl, DE.out.trans HE9.out, (HKW.out _ hw1 (by omega)).trans HH.out.inv.arr, HH.out.inv.len, HH.out.inv.sl, HH.out.inv.olen, fun j hj => ⟨(fun v l h => (HKEEP.out v l h).ext HE9.out) _ _ (HH.out.inv.ints j hj).1, ?_⟩, HI9.out, ?_⟩
              · have := (HH.out.inv.ints j hj).2
                show (out.getD j []).length ≤ _
                omega
              · have := HINT.out.2
                unfold innerOf
                split
                · rw [List.length_append, List.length_singleton]; omega
                · omega
            have o1p := HE9.out.cell o1
            gi_wp2_with fail
            gi_loopw [46] (fun v wr => ∃ c : Nat, c ≤ cn ∧ v = .int .i64 c ∧ ∃ vs', Hid (ScLp w n (.slice (some ⟨g', 0, none⟩) im' cap') (innerOf x (out.getD i [])) (3 + (n - i)) w9 ((x.2.take c).foldl (fun o k => o.set k.toNat (innerOf x (out.getD i []))) out) vs' wr)) (fun v _ => cn - (intOf v).toNat)
            case atStart => exact ⟨0, Nat.zero_le _, rfl, vs, HLI⟩
            case round =>
              obtain ⟨c, hc, rfl, vs', HL⟩ := hrel
              clear HLI
              by_cases hcl : c < cn
              · obtain ⟨b1, off1, rfl, hcc⟩ := HCR.out c hcl
                have hq := HKID.out (x.2.getD c 0) (by rw [List.getD_eq_getElem?_getD, List.getElem?_eq_getElem (by rw [HCN.out]; exact hcl)]; exact List.getElem_mem _)
                obtain ⟨q, hqq⟩ : ∃ q : Nat, x.2.getD c 0 = q := ⟨(x.2.getD c 0).toNat, by omega⟩
                rw [hqq] at hcc hq
                have hqn : q < n := by omega
                have g1 : wr.cell? ⟨b1, off1 + c, none⟩ = some (i64 q) := HL.out.ext.cell hcc
                have gv : wr.cell? ⟨w.heap.size + 2, 0, none⟩ = some (.slice (some ⟨w.heap.size + 1, 0, none⟩) n n) := by
                  rw [cell_of_heap ((HL.out.other _ (by omega)).trans ((HKW.out _ hw2 (by omega)).trans HH.out.inv.var))]; rfl
                have hlen := HL.out.len
                have gq : wr.cell? ⟨w.heap.size + 1, q, none⟩ = some (vs'[q]'(by omega)) := by
                  rw [cell_of_heap HL.out.arr, List.getElem?_toArray, List.getElem?_eq_getElem (by omega)]
                have gz : wr.frozen? ⟨w.heap.size + 1, q, none⟩ = false := free_of_heap HL.out.arr q
                have HQQ := Lib.hid hqq
                obtain ⟨y, hy⟩ : ∃ y, vs'[q]'(by omega) = y := ⟨_, rfl⟩
                rw [hy] at gq
                clear hcc hq hqq hy hlen
                gi_wp2_with fail
                go_roundw
                case rel =>
                  refine ⟨c + 1, by omega, by go_num, vs'.set q (.slice (some ⟨g', 0, none⟩) im' cap'), ?_⟩
                  have h := HL.out.set ⟨_, _, _, rfl⟩ hqn
                  have htk : x.2.take (c + 1) = x.2.take c ++ [(q : Int)] := by
                    rw [List.take_add_one, List.getElem?_eq_getElem (by rw [HCN.out]; exact hcl)]
                    have := HQQ.out
                    rw [List.getD_eq_getElem?_getD, List.getElem?_eq_getElem (by rw [HCN.out]; exact hcl)] at this
                    rw [← this]; rfl
                  rw [htk, List.foldl_append]
                  exact h
                case measure => simp [intOf]; omega
              · have hcn2 : c = cn := by omega
                gi_wp2_with fail
                refine ⟨?_, .inl ⟨rfl, _, vs', HL.out.close HH.out HKW.out ⟨_, (Below.block HE9.out _ (by omega)).trans (by rw [← HW2.out]; exact World.putObj_heap_same (by simp; omega))⟩, ?_⟩⟩
                · rw [HL.out.other _ (by omega)]; exact (Below.block HE9.out _ (by omega)).trans (by rw [← HW2.out]; exact World.putObj_heap_same (by simp; omega))
                · rw [hcn2, ← HCN.out, List.take_length]; exact HST.out
      · have hb7 : (kd == 7) = false := by simpa using hq7
        have hb8 : (kd == 8) = true := by simpa using hq.resolve_left hq7
        clear hq hq7
        gi_wp2_with fail
        refine wpIn_region_round (by kernel_rfl) (by kernel_rfl) (by rintro ⟨a, w, h⟩; exact h) ?_
        refine wpAny_take (i := 0) rfl (by kernel_rfl) (by kernel_rfl) (by kernel_rfl) (fun _ _ _ h => h) (Or.inl ⟨by rfl, fun w => by go_simp; rfl⟩) ?_
        try simp only [Act.put, List.setIfInBounds_toArray, List.set_cons_zero, List.set_cons_succ]
        refine wpAny_take (i := 2) rfl (by kernel_rfl) (by kernel_rfl) (by kernel_rfl) (fun _ _ _ h => h) (Or.inl ⟨by rfl, fun w => by go_simp; rfl⟩) ?_
        try simp only [Act.put, List.setIfInBounds_toArray, List.set_cons_zero, List.set_cons_succ]
        have hE0 : Ext W2 W2.drew := (Ext.refl W2).drew
        have hW2g : W2.heap.size ≤ W2.drew.heap.size := Nat.le_refl _
        refine wpAny_ready (rs := [1, 3]) (by kernel_rfl) (by simp) ?_
        refine AllReady.cons rfl (fun K hK => ?_) (AllReady.cons rfl (fun K hK => ?_) AllReady.nil)
        · have HKK := Lib.hid hK
          clear hK
          go_simp
          refine (clone_owns _ _ (out.getD i []) ((HKEEP.out _ _ HINT.out.1).ext hE0).rd (by have := HINT.out.2; omega)).mono ?_
          rintro e w1 ⟨v', rfl, hx, hown⟩
          have hbase : W2.heap.size ≤ W2.drew.heap.size := hE0.size
          have hE1 : Ext W2 w1 := hE0.trans hx
          refine HKK.out _ _ ?_
          clear HKK K
          try simp only [Act.put, List.setIfInBounds_toArray, List.set_cons_zero, List.set_cons_succ]
          refine wpAny_ready (rs := [3]) (by kernel_rfl) (by simp) ?_
          refine AllReady.cons rfl (fun K hK => ?_) AllReady.nil
          have o6' : World.cell? _ ⟨W.heap.size, 6, none⟩ = some (i64 tp) := hE1.cell o6
          have HKK := Lib.hid hK
          clear hK
          go_simp
          clear o6'
          refine HKK.out _ _ ?_
          clear HKK K
          have hE2 := hE1
          try simp only [Act.put, List.setIfInBounds_toArray, List.set_cons_zero, List.set_cons_succ]
          refine wpAny_ready (rs := [4]) (by kernel_rfl) (by simp) ?_
          refine AllReady.cons rfl (fun K hK => ?_) AllReady.nil
          have hbs : W2.drew.heap.size ≤ (w1.alloc (.cells #[i64 tp] 3)).heap.size := by have h := hx.size; simp at h ⊢; omega
          have hBB := heap_alloc_new w1 (.cells #[i64 tp] 3)
          have HKK := Lib.hid hK
          clear hK
          go_simp
          refine HKK.out _ _ ?_
          clear HKK K
          have hE3 := hE2.alloc (.cells #[i64 tp] 3)
          have hown := hown.alloc (.cells #[i64 tp] 3)
          try simp only [Act.put, List.setIfInBounds_toArray, List.set_cons_zero, List.set_cons_succ]
          refine wpAny_ready (rs := [5]) (by kernel_rfl) (by simp) ?_
          refine AllReady.cons rfl (fun K hK => ?_) AllReady.nil
          have HKK := Lib.hid hK
          clear hK
          have hEk := hE3
          refine step_append_lies _ rfl _ _ 30 rfl W2.drew.heap.size 3 i0 (.int .i64 0) 1 8 Try.underlying30 hi0 hz00 hz01 hz02 rfl (by decide) v' (out.getD i []).length ((out.getD i []).map i64) rfl hown ⟨w1.heap.size, 0, none⟩ 1 1 [i64 tp] rfl rfl (World.news_of_block hBB) (by simp [Value.oneCell']) (by decide) (by have := HINT.out.2; unfold maxLen; omega) (by have := HINT.out.2; omega) (by have := hbs; simpa using this) _ rfl ?_
          intro g' cap' w9 hown9 hgrow hat hlt'
          refine HKK.out _ _ ?_
          clear HKK K
          try simp only [Act.put, List.setIfInBounds_toArray, List.set_cons_zero, List.set_cons_succ]
          have HE9 : Hid (Ext W2 w9) := hEk.of_grown hgrow (fun k hk => Nat.le_trans hbase (hown.lt k hk).1)
          have HI9 : Hid (IntsAt w9 (.slice (some ⟨g', 0, none⟩) ((out.getD i []).length + 1) cap') (innerOf x (out.getD i []))) := by
            show IntsAt _ _ _
            unfold innerOf
            rw [if_pos (by rw [HKD.out]; exact HQ.out), HTP.out]
            have h9 : ((out.getD i []).map i64 ++ [i64 tp]) = (out.getD i [] ++ [tp]).map i64 := by rw [List.map_append]; rfl
            rw [h9] at hown9
            exact IntsAt.of_owns hown9 (by simp) (by have := HINT.out.2; omega)
          generalize (out.getD i []).length + 1 = im' at HI9 ⊢
          clear hown9 hgrow hat hlt' hown hBB hEk
          refine wpAny_take (i := 6) rfl (by kernel_rfl) (by kernel_rfl) (by kernel_rfl) (fun _ _ _ h => h) (Or.inl ⟨by rfl, fun w => by go_simp; rfl⟩) ?_
          try simp only [Act.put, List.setIfInBounds_toArray, List.set_cons_zero, List.set_cons_succ]
          refine wpAny_done (by kernel_rfl) ?_ _
          try simp only [List.getElem_toArray, List.getElem_cons_succ, List.getElem_cons_zero, Act.put, List.setIfInBounds_toArray, List.set_cons_zero, List.set_cons_succ]
          clear hE0 hE1 hE2 hE3 hx hbs hbase hW2g
          have HKW : Hid (∀ k, k < W.heap.size → k ≠ w.heap.size + 5 → w9.heap[k]? = W.heap[k]?) := fun k hk hk5 => (Below.block HE9.out k (Nat.lt_trans hk hs2)).trans (DK.out k hk hk5)
          have HLI : Hid (ScLp w n (.slice (some ⟨g', 0, none⟩) im' cap') (innerOf x (out.getD i [])) (3 + (n - i)) w9 ((x.2.take 0).foldl (fun o k => o.set k.toNat (innerOf x (out.getD i []))) out) vs w9) := by
            refine ⟨fun _ _ => rfl, rfl, DE.out.trans HE9.out, (HKW.out _ hw1 (by omega)).trans HH.out.inv.arr, HH.out.inv.len, HH.out.inv.sl, HH.out.inv.olen, fun j hj => ⟨(fun v l h => (HKEEP.out v l h).ext HE9.out) _ _ (HH.out.inv.ints j hj).1, ?_⟩, HI9.out, ?_⟩
            · have := (HH.out.inv.ints j hj).2
              show (out.getD j []).length ≤ _
              omega
            · have := HINT.out.2
              unfold innerOf
              split
              · rw [List.length_append, List.length_singleton]; omega
              · omega
          have o1p := HE9.out.cell o1
          gi_wp2_with fail
          gi_loopw [46] (fun v wr => ∃ c : Nat, c ≤ cn ∧ v = .int .i64 c ∧ ∃ vs', Hid (ScLp w n (.slice (some ⟨g', 0, none⟩) im' cap') (innerOf x (out.getD i [])) (3 + (n - i)) w9 ((x.2.take c).foldl (fun o k => o.set k.toNat (innerOf x (out.getD i []))) out) vs' wr)) (fun v _ => cn - (intOf v).toNat)
          case atStart => exact ⟨0, Nat.zero_le _, rfl, vs, HLI⟩
          case round =>
            obtain ⟨c, hc, rfl, vs', HL⟩ := hrel
            clear HLI
            by_cases hcl : c < cn
            · obtain ⟨b1, off1, rfl, hcc⟩ := HCR.out c hcl
              have hq := HKID.out (x.2.getD c 0) (by rw [List.getD_eq_getElem?_getD, List.getElem?_eq_getElem (by rw [HCN.out]; exact hcl)]; exact List.getElem_mem _)
              obtain ⟨q, hqq⟩ : ∃ q : Nat, x.2.getD c 0 = q := ⟨(x.2.getD c 0).toNat, by omega⟩
              rw [hqq] at hcc hq
              have hqn : q < n := by omega
              have g1 : wr.cell? ⟨b1, off1 + c, none⟩ = some (i64 q) := HL.out.ext.cell hcc
              have gv : wr.cell? ⟨w.heap.size + 2, 0, none⟩ = some (.slice (some ⟨w.heap.size + 1, 0, none⟩) n n) := by
                rw [cell_of_heap ((HL.out.other _ (by omega)).trans ((HKW.out _ hw2 (by omega)).trans HH.out.inv.var))]; rfl
              have hlen := HL.out.len
              have gq : wr.cell? ⟨w.heap.size + 1, q, none⟩ = some (vs'[q]'(by omega)) := by
                rw [cell_of_heap HL.out.arr, List.getElem?_toArray, List.getElem?_eq_getElem (by omega)]
              have gz : wr.frozen? ⟨w.heap.size + 1, q, none⟩ = false := free_of_heap HL.out.arr q
              have HQQ := Lib.hid hqq
              obtain ⟨y, hy⟩ : ∃ y, vs'[q]'(by omega) = y := ⟨_, rfl⟩
              rw [hy] at gq
              clear hcc hq hqq hy hlen
              gi_wp2_with fail
              go_roundw
              case rel =>
                refine ⟨c + 1, by omega, by go_num, vs'.set q (.slice (some ⟨g', 0, none⟩) im' cap'), ?_⟩
                have h := HL.out.set ⟨_, _, _, rfl⟩ hqn
                have htk : x.2.take (c + 1) = x.2.take c ++ [(q : Int)] := by
                  rw [List.take_add_one, List.getElem?_eq_getElem (by rw [HCN.out]; exact hcl)]
                  have := HQQ.out
                  rw [List.getD_eq_getElem?_getD, List.getElem?_eq_getElem (by rw [HCN.out]; exact hcl)] at this
                  rw [← this]; rfl
                rw [htk, List.foldl_append]
                exact h
              case measure => simp [intOf]; omega
            · have hcn2 : c = cn := by omega
              gi_wp2_with fail
              refine ⟨?_, .inl ⟨rfl, _, vs', HL.out.close HH.out HKW.out ⟨_, (Below.block HE9.out _ (by omega)).trans (by rw [← HW2.out]; exact World.putObj_heap_same (by simp; omega))⟩, ?_⟩⟩
              · rw [HL.out.other _ (by omega)]; exact (Below.block HE9.out _ (by omega)).trans (by rw [← HW2.out]; exact World.putObj_heap_same (by simp; omega))
              · rw [hcn2, ← HCN.out, List.take_length]; exact HST.out
        · have o6' : World.cell? _ ⟨W.heap.size, 6, none⟩ = some (i64 tp) := hE0.cell o6
          have HKK := Lib.hid hK
          clear hK
          go_simp
          clear o6'
          refine HKK.out _ _ ?_
          clear HKK K
          have hE1 := hE0
          try simp only [Act.put, List.setIfInBounds_toArray, List.set_cons_zero, List.set_cons_succ]
          refine wpAny_ready (rs := [1, 4]) (by kernel_rfl) (by simp) ?_
          refine AllReady.cons rfl (fun K hK => ?_) (AllReady.cons rfl (fun K hK => ?_) AllReady.nil)
          · have HKK := Lib.hid hK
            clear hK
            go_simp
            refine (clone_owns _ _ (out.getD i []) ((HKEEP.out _ _ HINT.out.1).ext hE1).rd (by have := HINT.out.2; omega)).mono ?_
            rintro e w2 ⟨v', rfl, hx, hown⟩
            have hbase : W2.heap.size ≤ W2.drew.heap.size := hE1.size
            have hE2 : Ext W2 w2 := hE1.trans hx
            refine HKK.out _ _ ?_
            clear HKK K
            try simp only [Act.put, List.setIfInBounds_toArray, List.set_cons_zero, List.set_cons_succ]
            refine wpAny_ready (rs := [4]) (by kernel_rfl) (by simp) ?_
            refine AllReady.cons rfl (fun K hK => ?_) AllReady.nil
            have hbs : W2.drew.heap.size ≤ (w2.alloc (.cells #[i64 tp] 3)).heap.size := by have h := hx.size; simp at h ⊢; omega
            have hBB := heap_alloc_new w2 (.cells #[i64 tp] 3)
            have HKK := Lib.hid hK
            clear hK
            go_simp
            refine HKK.out _ _ ?_
            clear HKK K
            have hE3 := hE2.alloc (.cells #[i64 tp] 3)
            have hown := hown.alloc (.cells #[i64 tp] 3)
            try simp only [Act.put, List.setIfInBounds_toArray, List.set_cons_zero, List.set_cons_succ]
            refine wpAny_ready (rs := [5]) (by kernel_rfl) (by simp) ?_
            refine AllReady.cons rfl (fun K hK => ?_) AllReady.nil
            have HKK := Lib.hid hK
            clear hK
            have hEk := hE3
            refine step_append_lies _ rfl _ _ 30 rfl W2.drew.heap.size 3 i0 (.int .i64 0) 1 8 Try.underlying30 hi0 hz00 hz01 hz02 rfl (by decide) v' (out.getD i []).length ((out.getD i []).map i64) rfl hown ⟨w2.heap.size, 0, none⟩ 1 1 [i64 tp] rfl rfl (World.news_of_block hBB) (by simp [Value.oneCell']) (by decide) (by have := HINT.out.2; unfold maxLen; omega) (by have := HINT.out.2; omega) (by have := hbs; simpa using this) _ rfl ?_
            intro g' cap' w9 hown9 hgrow hat hlt'
            refine HKK.out _ _ ?_
            clear HKK K
            try simp only [Act.put, List.setIfInBounds_toArray, List.set_cons_zero, List.set_cons_succ]
            have HE9 : Hid (Ext W2 w9) := hEk.of_grown hgrow (fun k hk => Nat.le_trans hbase (hown.lt k hk).1)
            have HI9 : Hid (IntsAt w9 (.slice (some ⟨g', 0, none⟩) ((out.getD i []).length + 1) cap') (innerOf x (out.getD i []))) := by
              show IntsAt _ _ _
              unfold innerOf
              rw [if_pos (by rw [HKD.out]; exact HQ.out), HTP.out]
              have h9 : ((out.getD i []).map i64 ++ [i64 tp]) = (out.getD i [] ++ [tp]).map i64 := by rw [List.map_append]; rfl
              rw [h9] at hown9
              exact IntsAt.of_owns hown9 (by simp) (by have := HINT.out.2; omega)
            generalize (out.getD i []).length + 1 = im' at HI9 ⊢
            clear hown9 hgrow hat hlt' hown hBB hEk
            refine wpAny_take (i := 6) rfl (by kernel_rfl) (by kernel_rfl) (by kernel_rfl) (fun _ _ _ h => h) (Or.inl ⟨by rfl, fun w => by go_simp; rfl⟩) ?_
            try simp only [Act.put, List.setIfInBounds_toArray, List.set_cons_zero, List.set_cons_succ]
            refine wpAny_done (by kernel_rfl) ?_ _
            try simp only [List.getElem_toArray, List.getElem_cons_succ, List.getElem_cons_zero, Act.put, List.setIfInBounds_toArray, List.set_cons_zero, List.set_cons_succ]
            clear hE0 hE1 hE2 hE3 hx hbs hbase hW2g
            have HKW : Hid (∀ k, k < W.heap.size → k ≠ w.heap.size + 5 → w9.heap[k]? = W.heap[k]?) := fun k hk hk5 => (Below.block HE9.out k (Nat.lt_trans hk hs2)).trans (DK.out k hk hk5)
            have HLI : Hid (ScLp w n (.slice (some ⟨g', 0, none⟩) im' cap') (innerOf x (out.getD i [])) (3 + (n - i)) w9 ((x.2.take 0).foldl (fun o k => o.set k.toNat (innerOf x (out.getD i []))) out) vs w9) := by
              refine ⟨fun _ _ => rfl, rfl, DE.out.trans HE9.out, (HKW.out _ hw1 (by omega)).trans HH.out.inv.arr, HH.out.inv.len, HH.out.inv.sl, HH.out.inv.olen, fun j hj => ⟨(fun v l h => (HKEEP.out v l h).ext HE9.out) _ _ (HH.out.inv.ints j hj).1, ?_⟩, HI9.out, ?_⟩
              · have := (HH.out.inv.ints j hj).2
                show (out.getD j []).length ≤ _
                omega
              · have := HINT.out.2
                unfold innerOf
                split
                · rw [List.length_append, List.length_singleton]; omega
                · omega
            have o1p := HE9.out.cell o1
            gi_wp2_with fail
            gi_loopw [46] (fun v wr => ∃ c : Nat, c ≤ cn ∧ v = .int .i64 c ∧ ∃ vs', Hid (ScLp w n (.slice (some ⟨g', 0, none⟩) im' cap') (innerOf x (out.getD i [])) (3 + (n - i)) w9 ((x.2.take c).foldl (fun o k => o.set k.toNat (innerOf x (out.getD i []))) out) vs' wr)) (fun v _ => cn - (intOf v).toNat)
            case atStart => exact ⟨0, Nat.zero_le _, rfl, vs, HLI⟩
            case round =>
              obtain ⟨c, hc, rfl, vs', HL⟩ := hrel
              clear HLI
              by_cases hcl : c < cn
              · obtain ⟨b1, off1, rfl, hcc⟩ := HCR.out c hcl
                have hq := HKID.out (x.2.getD c 0) (by rw [List.getD_eq_getElem?_getD, List.getElem?_eq_getElem (by rw [HCN.out]; exact hcl)]; exact List.getElem_mem _)
                obtain ⟨q, hqq⟩ : ∃ q : Nat, x.2.getD c 0 = q := ⟨(x.2.getD c 0).toNat, by omega⟩
                rw [hqq] at hcc hq
                have hqn : q < n := by omega
                have g1 : wr.cell? ⟨b1, off1 + c, none⟩ = some (i64 q) := HL.out.ext.cell hcc
                have gv : wr.cell? ⟨w.heap.size + 2, 0, none⟩ = some (.slice (some ⟨w.heap.size + 1, 0, none⟩) n n) := by
                  rw [cell_of_heap ((HL.out.other _ (by omega)).trans ((HKW.out _ hw2 (by omega)).trans HH.out.inv.var))]; rfl
                have hlen := HL.out.len
                have gq : wr.cell? ⟨w.heap.size + 1, q, none⟩ = some (vs'[q]'(by omega)) := by
                  rw [cell_of_heap HL.out.arr, List.getElem?_toArray, List.getElem?_eq_getElem (by omega)]
                have gz : wr.frozen? ⟨w.heap.size + 1, q, none⟩ = false := free_of_heap HL.out.arr q
                have HQQ := Lib.hid hqq
                obtain ⟨y, hy⟩ : ∃ y, vs'[q]'(by omega) = y := ⟨_, rfl⟩
                rw [hy] at gq
                clear hcc hq hqq hy hlen
                gi_wp2_with fail
                go_roundw
                case rel =>
                  refine ⟨c + 1, by omega, by go_num, vs'.set q (.slice (some ⟨g', 0, none⟩) im' cap'), ?_⟩
                  have h := HL.out.set ⟨_, _, _, rfl⟩ hqn
                  have htk : x.2.take (c + 1) = x.2.take c ++ [(q : Int)] := by
                    rw [List.take_add_one, List.getElem?_eq_getElem (by rw [HCN.out]; exact hcl)]
                    have := HQQ.out
                    rw [List.getD_eq_getElem?_getD, List.getElem?_eq_getElem (by rw [HCN.out]; exact hcl)] at this
                    rw [← this]; rfl
                  rw [htk, List.foldl_append]
                  exact h
                case measure => simp [intOf]; omega
              · have hcn2 : c = cn := by omega
                gi_wp2_with fail
                refine ⟨?_, .inl ⟨rfl, _, vs', HL.out.close HH.out HKW.out ⟨_, (Below.block HE9.out _ (by omega)).trans (by rw [← HW2.out]; exact World.putObj_heap_same (by simp; omega))⟩, ?_⟩⟩
                · rw [HL.out.other _ (by omega)]; exact (Below.block HE9.out _ (by omega)).trans (by rw [← HW2.out]; exact World.putObj_heap_same (by simp; omega))
                · rw [hcn2, ← HCN.out, List.take_length]; exact HST.out
          · have hBB := heap_alloc_new W2.drew (.cells #[i64 tp] 3)
            have HKK := Lib.hid hK
            clear hK
            go_simp
            refine HKK.out _ _ ?_
            clear HKK K
            have hE2 := hE1.alloc (.cells #[i64 tp] 3)
            try simp only [Act.put, List.setIfInBounds_toArray, List.set_cons_zero, List.set_cons_succ]
            refine wpAny_ready (rs := [1]) (by kernel_rfl) (by simp) ?_
            refine AllReady.cons rfl (fun K hK => ?_) AllReady.nil
            have HKK := Lib.hid hK
            clear hK
            go_simp
            refine (clone_owns _ _ (out.getD i []) ((HKEEP.out _ _ HINT.out.1).ext hE2).rd (by have := HINT.out.2; omega)).mono ?_
            rintro e w3 ⟨v', rfl, hx, hown⟩
            have hbase : W2.heap.size ≤ (W2.drew.alloc (.cells #[i64 tp] 3)).heap.size := hE2.size
            have hE3 : Ext W2 w3 := hE2.trans hx
            refine HKK.out _ _ ?_
            clear HKK K
            try simp only [Act.put, List.setIfInBounds_toArray, List.set_cons_zero, List.set_cons_succ]
            have hbs := hx.size
            have hBB := hx.block hBB
            refine wpAny_ready (rs := [5]) (by kernel_rfl) (by simp) ?_
            refine AllReady.cons rfl (fun K hK => ?_) AllReady.nil
            have HKK := Lib.hid hK
            clear hK
            have hEk := hE3
            refine step_append_lies _ rfl _ _ 30 rfl (W2.drew.alloc (.cells #[i64 tp] 3)).heap.size 3 i0 (.int .i64 0) 1 8 Try.underlying30 hi0 hz00 hz01 hz02 rfl (by decide) v' (out.getD i []).length ((out.getD i []).map i64) rfl hown ⟨W2.drew.heap.size, 0, none⟩ 1 1 [i64 tp] rfl rfl (World.news_of_block hBB) (by simp [Value.oneCell']) (by decide) (by have := HINT.out.2; unfold maxLen; omega) (by have := HINT.out.2; omega) (by have := hbs; simpa using this) _ rfl ?_
            intro g' cap' w9 hown9 hgrow hat hlt'
            refine HKK.out _ _ ?_
            clear HKK K
            try simp only [Act.put, List.setIfInBounds_toArray, List.set_cons_zero, List.set_cons_succ]
            have HE9 : Hid (Ext W2 w9) := hEk.of_grown hgrow (fun k hk => Nat.le_trans hbase (hown.lt k hk).1)
            have HI9 : Hid (IntsAt w9 (.slice (some ⟨g', 0, none⟩) ((out.getD i []).length + 1) cap') (innerOf x (out.getD i []))) := by
              show IntsAt _ _ _
              unfold innerOf
              rw [if_pos (by rw [HKD.out]; exact HQ.out), HTP.out]
              have h9 : ((out.getD i []).map i64 ++ [i64 tp]) = (out.getD i [] ++ [tp]).map i64 := by rw [List.map_append]; rfl
              rw [h9] at hown9
              exact IntsAt.of_owns hown9 (by simp) (by have := HINT.out.2; omega)
            generalize (out.getD i []).length + 1 = im' at HI9 ⊢
            clear hown9 hgrow hat hlt' hown hBB hEk
            refine wpAny_take (i := 6) rfl (by kernel_rfl) (by kernel_rfl) (by kernel_rfl) (fun _ _ _ h => h) (Or.inl ⟨by rfl, fun w => by go_simp; rfl⟩) ?_
            try simp only [Act.put, List.setIfInBounds_toArray, List.set_cons_zero, List.set_cons_succ]
            refine wpAny_done (by kernel_rfl) ?_ _
            try simp only [List.getElem_toArray, List.getElem_cons_succ, List.getElem_cons_zero, Act.put, List.setIfInBounds_toArray, List.set_cons_zero, List.set_cons_succ]
            clear hE0 hE1 hE2 hE3 hx hbs hbase hW2g
            have HKW : Hid (∀ k, k < W.heap.size → k ≠ w.heap.size + 5 → w9.heap[k]? = W.heap[k]?) := fun k hk hk5 => (Below.block HE9.out k (Nat.lt_trans hk hs2)).trans (DK.out k hk hk5)
            have HLI : Hid (ScLp w n (.slice (some ⟨g', 0, none⟩) im' cap') (innerOf x (out.getD i [])) (3 + (n - i)) w9 ((x.2.take 0).foldl (fun o k => o.set k.toNat (innerOf x (out.getD i []))) out) vs w9) := by
              refine ⟨fun _ _ => rfl, rfl, DE.out.trans HE9.out, (HKW.out _ hw1 (by omega)).trans HH.out.inv.arr, HH.out.inv.len, HH.out.inv.sl, HH.out.inv.olen, fun j hj => ⟨(fun v l h => (HKEEP.out v l h).ext HE9.out) _ _ (HH.out.inv.ints j hj).1, ?_⟩, HI9.out, ?_⟩
              · have := (HH.out.inv.ints j hj).2
                show (out.getD j []).length ≤ _
                omega
              · have := HINT.out.2
                unfold innerOf
                split
                · rw [List.length_append, List.length_singleton]; omega
                · omega
            have o1p := HE9.out.cell o1
            gi_wp2_with fail
            gi_loopw [46] (fun v wr => ∃ c : Nat, c ≤ cn ∧ v = .int .i64 c ∧ ∃ vs', Hid (ScLp w n (.slice (some ⟨g', 0, none⟩) im' cap') (innerOf x (out.getD i [])) (3 + (n - i)) w9 ((x.2.take c).foldl (fun o k => o.set k.toNat (innerOf x (out.getD i []))) out) vs' wr)) (fun v _ => cn - (intOf v).toNat)
            case atStart => exact ⟨0, Nat.zero_le _, rfl, vs, HLI⟩
            case round =>
              obtain ⟨c, hc, rfl, vs', HL⟩ := hrel
              clear HLI
              by_cases hcl : c < cn
              · obtain ⟨b1, off1, rfl, hcc⟩ := HCR.out c hcl
                have hq := HKID.out (x.2.getD c 0) (by rw [List.getD_eq_getElem?_getD, List.getElem?_eq_getElem (by rw [HCN.out]; exact hcl)]; exact List.getElem_mem _)
                obtain ⟨q, hqq⟩ : ∃ q : Nat, x.2.getD c 0 = q := ⟨(x.2.getD c 0).toNat, by omega⟩
                rw [hqq] at hcc hq
                have hqn : q < n := by omega
                have g1 : wr.cell? ⟨b1, off1 + c, none⟩ = some (i64 q) := HL.out.ext.cell hcc
                have gv : wr.cell? ⟨w.heap.size + 2, 0, none⟩ = some (.slice (some ⟨w.heap.size + 1, 0, none⟩) n n) := by
                  rw [cell_of_heap ((HL.out.other _ (by omega)).trans ((HKW.out _ hw2 (by omega)).trans HH.out.inv.var))]; rfl
                have hlen := HL.out.len
                have gq : wr.cell? ⟨w.heap.size + 1, q, none⟩ = some (vs'[q]'(by omega)) := by
                  rw [cell_of_heap HL.out.arr, List.getElem?_toArray, List.getElem?_eq_getElem (by omega)]
                have gz : wr.frozen? ⟨w.heap.size + 1, q, none⟩ = false := free_of_heap HL.out.arr q
                have HQQ := Lib.hid hqq
                obtain ⟨y, hy⟩ : ∃ y, vs'[q]'(by omega) = y := ⟨_, rfl⟩
                rw [hy] at gq
                clear hcc hq hqq hy hlen
                gi_wp2_with fail
                go_roundw
                case rel =>
                  refine ⟨c + 1, by omega, by go_num, vs'.set q (.slice (some ⟨g', 0, none⟩) im' cap'), ?_⟩
                  have h := HL.out.set ⟨_, _, _, rfl⟩ hqn
                  have htk : x.2.take (c + 1) = x.2.take c ++ [(q : Int)] := by
                    rw [List.take_add_one, List.getElem?_eq_getElem (by rw [HCN.out]; exact hcl)]
                    have := HQQ.out
                    rw [List.getD_eq_getElem?_getD, List.getElem?_eq_getElem (by rw [HCN.out]; exact hcl)] at this
                    rw [← this]; rfl
                  rw [htk, List.foldl_append]
                  exact h
                case measure => simp [intOf]; omega
              · have hcn2 : c = cn := by omega
                gi_wp2_with fail
                refine ⟨?_, .inl ⟨rfl, _, vs', HL.out.close HH.out HKW.out ⟨_, (Below.block HE9.out _ (by omega)).trans (by rw [← HW2.out]; exact World.putObj_heap_same (by simp; omega))⟩, ?_⟩⟩
                · rw [HL.out.other _ (by omega)]; exact (Below.block HE9.out _ (by omega)).trans (by rw [← HW2.out]; exact World.putObj_heap_same (by simp; omega))
                · rw [hcn2, ← HCN.out, List.take_length]; exact HST.out
    · have hb7 : (kd == 7) = false := by simpa using fun h => hq (.inl h)
      have hb8 : (kd == 8) = false := by simpa using fun h => hq (.inr h)
      clear hq
      have HKW : Hid (∀ k, k < W.heap.size → k ≠ w.heap.size + 5 → W2.heap[k]? = W.heap[k]?) := DK.out
      have HLI : Hid (ScLp w n (.slice ia im icap) (innerOf x (out.getD i [])) (3 + (n - i)) W2 ((x.2.take 0).foldl (fun o k => o.set k.toNat (innerOf x (out.getD i []))) out) vs W2) := by
        refine ⟨fun _ _ => rfl, rfl, DE.out, (HKW.out _ hw1 (by omega)).trans HH.out.inv.arr, HH.out.inv.len, HH.out.inv.sl, HH.out.inv.olen, fun j hj => ⟨HKEEP.out _ _ (HH.out.inv.ints j hj).1, ?_⟩, by unfold innerOf; rw [if_neg (by rw [HKD.out]; unfold isQ; rw [hb7, hb8]; decide)]; exact HKEEP.out _ _ HINT.out.1, ?_⟩
        · have := (HH.out.inv.ints j hj).2
          show (out.getD j []).length ≤ _
          omega
        · have := HINT.out.2
          unfold innerOf
          split
          · rw [List.length_append, List.length_singleton]; omega
          · omega
      gi_wp2_with fail
      gi_loopw [46] (fun v wr => ∃ c : Nat, c ≤ cn ∧ v = .int .i64 c ∧ ∃ vs', Hid (ScLp w n (.slice ia im icap) (innerOf x (out.getD i [])) (3 + (n - i)) W2 ((x.2.take c).foldl (fun o k => o.set k.toNat (innerOf x (out.getD i []))) out) vs' wr)) (fun v _ => cn - (intOf v).toNat)
      case atStart => exact ⟨0, Nat.zero_le _, rfl, vs, HLI⟩
      case round =>
        obtain ⟨c, hc, rfl, vs', HL⟩ := hrel
        clear HLI
        by_cases hcl : c < cn
        · obtain ⟨b1, off1, rfl, hcc⟩ := HCR.out c hcl
          have hq := HKID.out (x.2.getD c 0) (by rw [List.getD_eq_getElem?_getD, List.getElem?_eq_getElem (by rw [HCN.out]; exact hcl)]; exact List.getElem_mem _)
          obtain ⟨q, hqq⟩ : ∃ q : Nat, x.2.getD c 0 = q := ⟨(x.2.getD c 0).toNat, by omega⟩
          rw [hqq] at hcc hq
          have hqn : q < n := by omega
          have g1 : wr.cell? ⟨b1, off1 + c, none⟩ = some (i64 q) := HL.out.ext.cell hcc
          have gv : wr.cell? ⟨w.heap.size + 2, 0, none⟩ = some (.slice (some ⟨w.heap.size + 1, 0, none⟩) n n) := by
            rw [cell_of_heap ((HL.out.other _ (by omega)).trans ((HKW.out _ hw2 (by omega)).trans HH.out.inv.var))]; rfl
          have hlen := HL.out.len
          have gq : wr.cell? ⟨w.heap.size + 1, q, none⟩ = some (vs'[q]'(by omega)) := by
            rw [cell_of_heap HL.out.arr, List.getElem?_toArray, List.getElem?_eq_getElem (by omega)]
          have gz : wr.frozen? ⟨w.heap.size + 1, q, none⟩ = false := free_of_heap HL.out.arr q
          have HQQ := Lib.hid hqq
          obtain ⟨y, hy⟩ : ∃ y, vs'[q]'(by omega) = y := ⟨_, rfl⟩
          rw [hy] at gq
          clear hcc hq hqq hy hlen
          gi_wp2_with fail
          go_roundw
          case rel =>
            refine ⟨c + 1, by omega, by go_num, vs'.set q (.slice ia im icap), ?_⟩
            have h := HL.out.set ⟨_, _, _, rfl⟩ hqn
            have htk : x.2.take (c + 1) = x.2.take c ++ [(q : Int)] := by
              rw [List.take_add_one, List.getElem?_eq_getElem (by rw [HCN.out]; exact hcl)]
              have := HQQ.out
              rw [List.getD_eq_getElem?_getD, List.getElem?_eq_getElem (by rw [HCN.out]; exact hcl)] at this
              rw [← this]; rfl
            rw [htk, List.foldl_append]
            exact h
          case measure => simp [intOf]; omega
        · have hcn2 : c = cn := by omega
          gi_wp2_with fail
          refine ⟨?_, .inl ⟨rfl, _, vs', HL.out.close HH.out HKW.out ⟨_, (rfl : W2.heap[w.heap.size + 5]? = _).trans (by rw [← HW2.out]; exact World.putObj_heap_same (by simp; omega))⟩, ?_⟩⟩
          · rw [HL.out.other _ (by omega)]; exact (rfl : W2.heap[w.heap.size + 5]? = _).trans (by rw [← HW2.out]; exact World.putObj_heap_same (by simp; omega))
          · rw [hcn2, ← HCN.out, List.take_length]; exact HST.out
  · obtain rfl := HRR.out
    clear HRR HI0
    rintro e W' ⟨⟨v, rfl⟩, hF | ⟨out, vs, h, hrun⟩⟩
    · exact hF.elim
    refine ⟨v, .ready, none, rfl, h.b5, by simp, ?_⟩
    have hl5 := heap_lt h.b5
    have hsc : ScRg w (.slice ta tn tcap) (.slice a0 n cap) n _ out vs (3 + (n - 0)) W' := h
    have hints : ∀ i, i < n → ∀ o, IntsAt (W'.putObj (w.heap.size + 5) o) (vs.getD i undef) (out.getD i []) := fun i hi o => (h.inv.ints i hi).1.keep2 fun k hk => by
      by_cases hk5 : k = w.heap.size + 5
      · subst hk5; exact .inr (no_ints_loop h.b5)
      · exact .inl (World.putObj_heap_other hk5)
    have hkeep : ∀ k o, k ≠ w.heap.size + 5 → (W'.putObj (w.heap.size + 5) o).heap[k]? = W'.heap[k]? := fun k o hk => World.putObj_heap_other hk
    have hrun' : out = res := hrun
    have HIN := Lib.hid hints
    have HKP := Lib.hid hkeep
    have HSC := Lib.hid h
    have HRN := Lib.hid hrun'
    clear hsc hints hkeep h hrun hrun'
    generalize hW2 : W'.putObj (w.heap.size + 5) _ = W2
    have v0 : W2.cell? ⟨w.heap.size + 2, 0, none⟩ = some (.slice (some ⟨w.heap.size + 1, 0, none⟩) n n) := by
      rw [← hW2, cell_of_heap ((HKP.out _ _ (by omega)).trans HSC.out.inv.var)]; rfl
    have HW := Lib.hid hW2
    clear hW2
    gi_wp2_with fail
    refine leaves_marks w.heap.size w [w.heap.size + 4] W2 ?_ ⟨by simp, fun D hD => ?_⟩ (fun D hD => by rw [List.mem_singleton.1 hD]; omega) fun W3 hW3 hk3 => ?_
    · rw [← HW.out]; exact below_putObj HSC.out.inv.ext (by omega)
    · rw [List.mem_singleton.1 hD, ← HW.out, HKP.out _ _ (by omega)]; exact HSC.out.b4
    · refine ⟨_, results_tmp rfl _ _ _, hW3, w.heap.size + 1, fun i => vs.getD i undef, rfl, fun i hi => ⟨?_, ?_⟩⟩
      · have hl := HSC.out.inv.len
        rw [cell_of_heap ((hk3 _ (by simp)).trans (by rw [← HW.out, HKP.out _ _ (by omega)]; exact HSC.out.inv.arr)), List.getElem?_toArray]
        dsimp only
        rw [List.getD_eq_getElem?_getD, List.getElem?_eq_getElem (by omega)]
        rfl
      · rw [← HRN.out]
        have h2 := HIN.out i hi
        refine IntsAt.keep2 (w := W2) (by rw [← HW.out]; exact h2 _) fun k hk => ?_
        by_cases hk4 : k = w.heap.size + 4
        · subst hk4
          right
          intro off x hx
          have : W2.heap[w.heap.size + 4]? = some (.deferred (some [])) := by rw [← HW.out, HKP.out _ _ (by omega)]; exact HSC.out.b4
          simp [World.cell?, this] at hx
        · exact .inl (hk3 k (by simpa using hk4))
end Go.Proofs.Ytodlkjjoenglgaa

/- condition.quantifier, leaf. -/
namespace Go.Proofs.Ytodlkjjoenglgaa
open Go Go.RowKit

def quantCode (D : Dom) (x : Nd) (m : Nat) : Int :=
  if isQ x.kind = false then 0 else if x.typ < -1 ∨ (D.types.length : Int) ≤ x.typ then 3 else if 6 ≤ m then 2 else 0
abbrev nodeAgg (x : Nd) (cv av : Value) : Value := .agg #[i64 x.kind, cv, i64 x.pred, av, i64 x.left, i64 x.right, i64 x.typ]

set_option maxHeartbeats 2000000 in
theorem quant_any (w : World) (d : DomV) (D : Dom) (hd : DomAt w d D) (x : Nd) (ca aa pa : Option Addr) (cn ccap an acap pn pcap : Nat) (hpn : pn ≤ 140737488351232) :
    Calls Try.prog 70 #[.agg d.cells, nodeAgg x (.slice ca cn ccap) (.slice aa an acap), .slice pa pn pcap] w fun e w' => Ext w w' ∧ e = .returned (i64 (quantCode D x pn)) := by
  obtain ⟨code, hcode⟩ : ∃ c, quantCode D x pn = c := ⟨_, rfl⟩
  rw [hcode]
  obtain ⟨ta, tcap, ht0, -, ht2, ht3, -, -⟩ := hd.types.rows2
  obtain ⟨nt, hnt⟩ : ∃ n, D.types.length = n := ⟨_, rfl⟩
  obtain ⟨kd, pd, ar, lf, rg, tp⟩ := x
  have hc : code = if isQ kd = false then 0 else if tp < -1 ∨ (nt : Int) ≤ tp then 3 else if 6 ≤ pn then 2 else 0 := by rw [← hcode, ← hnt]; rfl
  obtain ⟨tv, ov, qv, sv, iv, gv⟩ := d
  simp only at ht0
  subst ht0
  simp only [DomV.cells, hnt, nodeAgg] at ht3 ⊢
  have HC := Lib.hid hc
  unfold maxLen at ht2
  clear hd hnt hc hcode
  by_cases h7 : kd = 7
  · subst h7
    have HC1 : Hid (code = if tp < -1 ∨ (nt : Int) ≤ tp then 3 else if 6 ≤ pn then 2 else 0) := by show code = _; rw [HC.out, if_neg (by decide)]
    by_cases h1 : tp < -1
    · have HV : Hid (code = 3) := by show code = 3; rw [HC1.out, if_pos (.inl h1)]
      go_enter Try.func70, Try.ntmps70
      go_wp2
      go_ret
      exact ⟨((Ext.refl w).alloc _).alloc _, by rw [HV.out] <;> rfl⟩
    · by_cases h2 : (nt : Int) ≤ tp
      · have HV : Hid (code = 3) := by show code = 3; rw [HC1.out, if_pos (.inr h2)]
        go_enter Try.func70, Try.ntmps70
        go_wp2
        go_ret
        exact ⟨((Ext.refl w).alloc _).alloc _, by rw [HV.out] <;> rfl⟩
      · by_cases h3 : 6 ≤ pn
        · have HV : Hid (code = 2) := by show code = 2; rw [HC1.out, if_neg (by omega), if_pos h3]
          go_enter Try.func70, Try.ntmps70
          go_wp2
          go_ret
          exact ⟨((Ext.refl w).alloc _).alloc _, by rw [HV.out] <;> rfl⟩
        · have HV : Hid (code = 0) := by show code = 0; rw [HC1.out, if_neg (by omega), if_neg h3]
          go_enter Try.func70, Try.ntmps70
          go_wp2
          go_ret
          exact ⟨((Ext.refl w).alloc _).alloc _, by rw [HV.out] <;> rfl⟩
  · have hb7 : (kd != 7) = true := by simpa using h7
    by_cases h8 : kd = 8
    · subst h8
      have HC1 : Hid (code = if tp < -1 ∨ (nt : Int) ≤ tp then 3 else if 6 ≤ pn then 2 else 0) := by show code = _; rw [HC.out, if_neg (by decide)]
      clear h7 hb7
      by_cases h1 : tp < -1
      · have HV : Hid (code = 3) := by show code = 3; rw [HC1.out, if_pos (.inl h1)]
        go_enter Try.func70, Try.ntmps70
        go_wp2
        go_ret
        exact ⟨((Ext.refl w).alloc _).alloc _, by rw [HV.out] <;> rfl⟩
      · by_cases h2 : (nt : Int) ≤ tp
        · have HV : Hid (code = 3) := by show code = 3; rw [HC1.out, if_pos (.inr h2)]
          go_enter Try.func70, Try.ntmps70
          go_wp2
          go_ret
          exact ⟨((Ext.refl w).alloc _).alloc _, by rw [HV.out] <;> rfl⟩
        · by_cases h3 : 6 ≤ pn
          · have HV : Hid (code = 2) := by show code = 2; rw [HC1.out, if_neg (by omega), if_pos h3]
            go_enter Try.func70, Try.ntmps70
            go_wp2
            go_ret
            exact ⟨((Ext.refl w).alloc _).alloc _, by rw [HV.out] <;> rfl⟩
          · have HV : Hid (code = 0) := by show code = 0; rw [HC1.out, if_neg (by omega), if_neg h3]
            go_enter Try.func70, Try.ntmps70
            go_wp2
            go_ret
            exact ⟨((Ext.refl w).alloc _).alloc _, by rw [HV.out] <;> rfl⟩
    · have hb8 : (kd != 8) = true := by simpa using h8
      have HV : Hid (code = 0) := by show code = 0; rw [HC.out, if_pos (by unfold isQ; simp [h7, h8])]
      clear h7 h8
      go_enter Try.func70, Try.ntmps70
      go_wp2
      go_ret
      exact ⟨((Ext.refl w).alloc _).alloc _, by rw [HV.out] <;> rfl⟩

def argBad (D : Dom) (m : Nat) (a : Int) : Prop := (D.objects.length : Int) ≤ a ∨ a < -(m : Int)
instance (D : Dom) (m : Nat) (a : Int) : Decidable (argBad D m a) := by unfold argBad; exact inferInstance
def leafCode (D : Dom) (x : Nd) (ps : List Int) : Int :=
  if x.kind = 2 then atomCode D ps ⟨x.pred, x.args⟩
  else if x.kind = 3 then (if argBad D ps.length x.left ∨ argBad D ps.length x.right then 3 else 0) else 0

theorem run_index_pair0 (x y : Int) (W : World) : (Instr.index 139 (.agg #[i64 x, i64 y]) (.int .i64 0)).run Try.prog W = .ok (i64 x) W := by
  simp [Instr.index, go_sem, Sem.run_bind, Result.andThen]
theorem run_index_pair1 (x y : Int) (W : World) : (Instr.index 139 (.agg #[i64 x, i64 y]) (.int .i64 1)).run Try.prog W = .ok (i64 y) W := by
  simp [Instr.index, go_sem, Sem.run_bind, Result.andThen]
set_option maxRecDepth 20000 in
set_option maxHeartbeats 2000000 in
theorem leaf_any (w : World) (d : DomV) (D : Dom) (hd : DomAt w d D) (hpre : DomPre D) (x : Nd) (cv av : Value) (hcv : sliceV cv) (hav : IntsAt w av x.args) (pv : Value) (ps : List Int) (hp : IntsAt w pv ps) (hpt : TypesIn D ps) :
    Calls Try.prog 71 #[.agg d.cells, nodeAgg x cv av, pv] w fun e w' => Ext w w' ∧ e = .returned (i64 (leafCode D x ps)) := by
  obtain ⟨code, hcode⟩ : ∃ c, leafCode D x ps = c := ⟨_, rfl⟩
  rw [hcode]
  have hatom := fun W (hW : Ext w W) => atom_any W d D (hd.ext hW) hpre pv ps (hp.ext hW) hpt ⟨x.pred, x.args⟩ av (hav.ext hW)
  obtain ⟨ac, hac⟩ : ∃ c, atomCode D ps ⟨x.pred, x.args⟩ = c := ⟨_, rfl⟩
  obtain ⟨oa, ocap, ho0, -, ho2, ho3, -, -⟩ := hd.objects.rows2
  obtain ⟨no, hno⟩ : ∃ n, D.objects.length = n := ⟨_, rfl⟩
  obtain ⟨pa, pcap, hpv, -, hp2, hp3, -⟩ := hp.rowAt
  obtain ⟨pn, hpn⟩ : ∃ n, ps.length = n := ⟨_, rfl⟩
  obtain ⟨ca, cn, ccap, rfl⟩ := hcv
  obtain ⟨aa, acap, hav'⟩ := hav.slice
  obtain ⟨an, han⟩ : ∃ n, x.args.length = n := ⟨_, rfl⟩
  rw [hac] at hatom
  obtain ⟨kd, pd, ar, lf, rg, tp⟩ := x
  have hc : code = if kd = 2 then ac else if kd = 3 then (if ((no : Int) ≤ lf ∨ lf < -(pn : Int)) ∨ ((no : Int) ≤ rg ∨ rg < -(pn : Int)) then 3 else 0) else 0 := by
    rw [← hcode, ← hac, ← hno, ← hpn]; rfl
  obtain ⟨tv, ov, qv, sv, iv, gv⟩ := d
  simp only at ho0 han hav'
  subst ho0
  rw [hpn] at hpv hp3
  rw [han] at hav'
  subst hpv hav'
  simp only [DomV.cells, hno, nodeAgg] at ho3 hatom ⊢
  have HC := Lib.hid hc
  have HA := Lib.hid hatom
  unfold maxLen at ho2 hp2
  clear hd hno hc hcode hatom hac hp hpt hpre hav han hpn
  by_cases h2 : kd = 2
  · have hb2 : (kd == 2) = true := by simpa using h2
    have HV : Hid (code = ac) := by show code = ac; rw [HC.out, if_pos h2]
    clear h2
    go_enter Try.func71, Try.ntmps71
    go_wp2_with fail
    refine (HA.out _ (((Ext.refl w).alloc _).alloc _)).mono ?_
    rintro e w2 ⟨hE, rfl⟩
    have HE := Lib.hid hE.of_new'.of_new
    clear hE
    go_wp2
    go_ret
    exact ⟨HE.out, by rw [HV.out] <;> rfl⟩
  · have hb2 : (kd == 2) = false := by simpa using h2
    by_cases h3 : kd = 3
    · have hb3 : (kd == 3) = true := by simpa using h3
      have HC1 : Hid (code = if ((no : Int) ≤ lf ∨ lf < -(pn : Int)) ∨ ((no : Int) ≤ rg ∨ rg < -(pn : Int)) then 3 else 0) := by show code = _; rw [HC.out, if_neg h2, if_pos h3]
      have hx0 := run_index_pair0 lf rg
      have hx1 := run_index_pair1 lf rg
      clear h2 h3
      go_enter Try.func71, Try.ntmps71
      go_wp2_with fail
      go_loop [25] (fun i => ∃ k : Nat, k ≤ 2 ∧ i = .int .i64 k ∧ Hid ((0 < k → ¬((no : Int) ≤ lf ∨ lf < -(pn : Int))) ∧ (1 < k → ¬((no : Int) ≤ rg ∨ rg < -(pn : Int))))) (fun i => 2 - (intOf i).toNat)
      case atStart => exact ⟨0, Nat.zero_le _, rfl, fun h => absurd h (by omega), fun h => absurd h (by omega)⟩
      case round =>
        obtain ⟨k, hk, rfl, H⟩ := hrel
        have hk3 : k = 0 ∨ k = 1 ∨ k = 2 := by omega
        rcases hk3 with rfl | rfl | rfl
        · by_cases h1 : (no : Int) ≤ lf
          · have HV : Hid (code = 3) := by show code = 3; rw [HC1.out, if_pos (.inl (.inl h1))]
            go_wp2
            go_ret
            exact ⟨((Ext.refl w).alloc _).alloc _, by rw [HV.out] <;> rfl⟩
          · by_cases h2 : lf < -(pn : Int)
            · have HV : Hid (code = 3) := by show code = 3; rw [HC1.out, if_pos (.inl (.inr h2))]
              go_wp2
              go_ret
              exact ⟨((Ext.refl w).alloc _).alloc _, by rw [HV.out] <;> rfl⟩
            · go_wp2_with fail
              go_round
              case rel => exact ⟨1, by omega, by go_num, fun _ => by omega, fun h => absurd h (by omega)⟩
              case measure => simp [intOf]
        · have h0 := H.out.1 (by omega)
          by_cases h1 : (no : Int) ≤ rg
          · have HV : Hid (code = 3) := by show code = 3; rw [HC1.out, if_pos (.inr (.inl h1))]
            clear h0
            go_wp2
            go_ret
            exact ⟨((Ext.refl w).alloc _).alloc _, by rw [HV.out] <;> rfl⟩
          · by_cases h2 : rg < -(pn : Int)
            · have HV : Hid (code = 3) := by show code = 3; rw [HC1.out, if_pos (.inr (.inr h2))]
              clear h0
              go_wp2
              go_ret
              exact ⟨((Ext.refl w).alloc _).alloc _, by rw [HV.out] <;> rfl⟩
            · have HH := Lib.hid h0
              clear h0
              go_wp2_with fail
              go_round
              case rel => exact ⟨2, by omega, by go_num, fun _ => HH.out, fun _ => by omega⟩
              case measure => simp [intOf]
        · have HV : Hid (code = 0) := by show code = 0; rw [HC1.out, if_neg (fun h => h.elim (H.out.1 (by omega)) (H.out.2 (by omega)))]
          go_wp2
          go_ret
          exact ⟨((Ext.refl w).alloc _).alloc _, by rw [HV.out] <;> rfl⟩
    · have hb3 : (kd == 3) = false := by simpa using h3
      have HV : Hid (code = 0) := by show code = 0; rw [HC.out, if_neg h2, if_neg h3]
      clear h2 h3
      go_enter Try.func71, Try.ntmps71
      go_wp2
      go_ret
      exact ⟨((Ext.refl w).alloc _).alloc _, by rw [HV.out] <;> rfl⟩
end Go.Proofs.Ytodlkjjoenglgaa

/- condition.Validate: what it computes. -/
namespace Go.Proofs.Ytodlkjjoenglgaa
open Go Go.RowKit

theorem walkBack_range (pre : List Int) (hs : ∀ j, j < pre.length → pre.getD j 0 ≤ j) : ∀ (cs : List Int) (a r : Int), a ≤ pre.length → walkBack pre a cs = some r → (∀ c ∈ cs, 0 ≤ c ∧ c < pre.length) ∧ r ≤ a := by
  intro cs
  induction cs with
  | nil =>
    intro a r ha h
    simp only [walkBack, Option.some.injEq] at h
    exact ⟨fun c hc => by simp at hc, by omega⟩
  | cons c cs ih =>
    intro a r ha h
    rw [walkBack] at h
    split at h
    · cases h
    · rename_i hc
      have h1 := hs c.toNat (by omega)
      obtain ⟨h2, h3⟩ := ih _ r (by omega) h
      exact ⟨fun x hx => by
        rcases List.mem_cons.1 hx with rfl | hx
        · omega
        · exact h2 x hx, by omega⟩

theorem shapeGo_kids : ∀ (l : List (Nd × List Int)) (pre : List Int), (∀ j, j < pre.length → pre.getD j 0 ≤ j) → shapeGo pre l = (0, 0) → ∀ x ∈ l, ∀ c ∈ x.2, 0 ≤ c ∧ c < (pre.length + l.length : Nat) := by
  intro l
  induction l with
  | nil => intro pre _ _ x hx; simp at hx
  | cons y l ih =>
    intro pre hs h x hx c hc
    rw [shapeGo] at h
    cases hst : nodeStep pre y with
    | inl e =>
      rw [hst] at h
      have : e = 0 := congrArg Prod.fst h
      have h2 := congrArg Prod.snd h
      simp only at h2
      omega
    | inr a =>
      rw [hst] at h
      unfold nodeStep at hst
      split at hst
      · cases hst
      · split at hst
        · cases hst
        · cases hw : walkBack pre pre.length y.2.reverse with
          | none => rw [hw] at hst; cases hst
          | some a' =>
            rw [hw] at hst
            cases hst
            obtain ⟨h1, h2⟩ := walkBack_range pre hs _ _ _ (Int.le_refl _) hw
            rcases List.mem_cons.1 hx with rfl | hx
            · have := h1 c (List.mem_reverse.2 hc)
              rw [List.length_cons]
              omega
            · have := ih (pre ++ [a]) (fun j hj => by
                rw [List.length_append, List.length_singleton] at hj
                by_cases hjl : j < pre.length
                · rw [List.getD_eq_getElem?_getD, List.getElem?_append_left hjl, ← List.getD_eq_getElem?_getD]; exact hs j hjl
                · have : j = pre.length := by omega
                  subst this
                  rw [List.getD_eq_getElem?_getD, List.getElem?_append_right (Nat.le_refl _), Nat.sub_self]
                  exact h2) h x hx c hc
              rw [List.length_append, List.length_singleton] at this
              rw [List.length_cons]
              omega

theorem shapeV_ok {l : List (Nd × List Int)} (h : shapeV l = (0, 0)) : 0 < l.length ∧ l.length ≤ 30 ∧ shapeGo [] l = (0, 0) := by
  unfold shapeV at h
  split at h
  · cases h
  · exact ⟨by omega, by omega, h⟩
theorem shapeV_kids {l : List (Nd × List Int)} (h : shapeV l = (0, 0)) : ∀ i, i < l.length → ∀ k ∈ (l.getD i dNd).2, 0 ≤ k ∧ k < l.length := by
  obtain ⟨-, -, h⟩ := shapeV_ok h
  intro i hi k hk
  have := shapeGo_kids l [] (fun j hj => by simp at hj) h (l.getD i dNd) (by rw [List.getD_eq_getElem?_getD, List.getElem?_eq_getElem hi]; exact List.getElem_mem _) k hk
  simpa using this

theorem scStep_all (P : List Int → Prop) (ns : List (Nd × List Int)) (i : Nat) (hq : ∀ o, P o → P (innerOf (ns.getD i dNd) o)) (h0 : P []) : ∀ (out : List (List Int)), (∀ j, P (out.getD j [])) → ∀ j, P ((scStep ns out i).getD j []) := by
  intro out ho
  have hin := hq _ (ho i)
  unfold scStep
  generalize innerOf (ns.getD i dNd) (out.getD i []) = inner at hin
  generalize (ns.getD i dNd).2 = cs
  revert out
  induction cs with
  | nil => intro out ho; exact ho
  | cons c cs ih =>
    intro out ho
    rw [List.foldl_cons]
    refine ih _ fun j => ?_
    rw [List.getD_eq_getElem?_getD, List.getElem?_set]
    split
    · split
      · exact hin
      · exact h0
    · rw [← List.getD_eq_getElem?_getD]; exact ho j
theorem scFrom_all (P : List Int → Prop) (ns : List (Nd × List Int)) (h0 : P []) : ∀ (m : Nat) (out : List (List Int)), (∀ i, i < m → ∀ o, P o → P (innerOf (ns.getD i dNd) o)) → (∀ j, P (out.getD j [])) → ∀ j, P ((scFrom ns m out).getD j []) := by
  intro m
  induction m with
  | zero => intro out _ ho; exact ho
  | succ m ih =>
    intro out hq ho
    rw [scFrom]
    exact ih _ (fun i hi => hq i (by omega)) (scStep_all P ns m (hq m (by omega)) h0 out ho)
theorem scopesV_all (P : List Int → Prop) (C : Cnd) (h0 : P []) (ht : P C.types) (hq : ∀ i, i < C.nodes.length → ∀ o, P o → P (innerOf (C.nodes.getD i dNd) o)) : ∀ j, P ((scopesV C).getD j []) := by
  refine scFrom_all P C.nodes h0 _ _ hq fun j => ?_
  rw [List.getD_eq_getElem?_getD, List.getElem?_set]
  split
  · split
    · exact ht
    · exact h0
  · rw [List.getElem?_replicate]
    split <;> exact h0

def fq (D : Dom) (C : Cnd) (i : Nat) : Int := quantCode D (C.nodes.getD i dNd).1 ((scopesV C).getD i []).length
def fl (D : Dom) (C : Cnd) (i : Nat) : Int := leafCode D (C.nodes.getD i dNd).1 ((scopesV C).getD i [])
def valLeaf (D : Dom) (C : Cnd) : Int × Int := match firstBad (fl D C) C.nodes.length with | some i => (fl D C i, 100 + (i : Int)) | none => (0, 0)
def valQuant (D : Dom) (C : Cnd) : Int × Int := match firstBad (fq D C) C.nodes.length with | some i => (fq D C i, 100 + (i : Int)) | none => valLeaf D C
def valV (D : Dom) (C : Cnd) : Int × Int :=
  if domV D ≠ (0, 0) then domV D else if paramsCode D C.types ≠ 0 then (paramsCode D C.types, -9) else if shapeV C.nodes ≠ (0, 0) then shapeV C.nodes else valQuant D C

theorem domV_ok {D : Dom} (h : domV D = (0, 0)) : typesV D.types = (0, 0) ∧ objectsV D.types.length D.objects = (0, 0) ∧ D.preds.length ≤ 8 ∧ ∀ i, i < D.preds.length → predCode D i = 0 := by
  unfold domV at h
  split at h
  · rename_i h1
    have h2 : (typesV D.types).1 = 0 := congrArg Prod.fst h
    have h3 := congrArg Prod.snd h
    simp at h3
  · rename_i h1
    split at h
    · have h3 := congrArg Prod.snd h
      simp at h3
    · rename_i h2
      unfold domPreds at h
      split at h
      · cases h
      · rename_i h8
        split at h
        · have h3 := congrArg Prod.snd h
          simp at h3
        · rename_i h4
          exact ⟨by simpa using h1, by simpa using h2, by omega, scan_zero (by simpa using h4)⟩
theorem domV_pre {D : Dom} (h : domV D = (0, 0)) : DomPre D := domPre_of (domV_ok h).1 (domV_ok h).2.1

theorem scopes_in {D : Dom} {C : Cnd} (hp : paramsCode D C.types = 0) (hq : ∀ i, i < C.nodes.length → fq D C i = 0) : ∀ j, TypesIn D ((scopesV C).getD j []) := by
  refine scopesV_all (TypesIn D) C (TypesIn.nil D) (paramsCode_zero hp).2 fun i hi o ho => ?_
  unfold innerOf
  split
  · rename_i hQ
    have := hq i hi
    unfold fq quantCode at this
    rw [if_neg (by rw [hQ]; decide)] at this
    split at this
    · cases this
    · rename_i ht
      intro t htm
      rcases List.mem_append.1 htm with h | h
      · exact ho t h
      · rw [List.mem_singleton.1 h]
        unfold inRange
        omega
  · exact ho
end Go.Proofs.Ytodlkjjoenglgaa

/- condition.Validate, walked. -/
namespace Go.Proofs.Ytodlkjjoenglgaa
open Go Go.RowKit

theorem enters70 : EntersF 70 := fun args W => enters_of Try.func70 (by kernel_rfl) rfl args W
theorem enters71 : EntersF 71 := fun args W => enters_of Try.func71 (by kernel_rfl) rfl args W
theorem run_index_fun0 (f g : Value) (W : World) : (Instr.index 106 (.agg #[f, g]) (.int .i64 0)).run Try.prog W = .ok f W := by
  simp [Instr.index, go_sem, Sem.run_bind, Result.andThen]
theorem run_index_fun1 (f g : Value) (W : World) : (Instr.index 106 (.agg #[f, g]) (.int .i64 1)).run Try.prog W = .ok g W := by
  simp [Instr.index, go_sem, Sem.run_bind, Result.andThen]

set_option maxRecDepth 20000 in
set_option maxHeartbeats 4000000 in
theorem valV_any (w : World) (d : DomV) (D : Dom) (hd : DomAt w d D) (tv nv : Value) (C : Cnd) (hc : CndAt w tv nv C) :
    Calls Try.prog 49 #[.agg d.cells, .agg #[tv, nv]] w fun e w' => e = .returned (faultV (valV D C)) ∧ Ext w w' := by
  obtain ⟨v, hv⟩ : ∃ v, valV D C = v := ⟨_, rfl⟩
  rw [hv]
  have hdom := fun W (hW : Ext w W) => domV_any W d D (hd.ext hW)
  have hpar := fun W (hW : Ext w W) => params_any W d D (hd.ext hW) tv C.types (hc.types.ext hW)
  have hshape := fun W (hW : Ext w W) => shape_any W nv C.nodes (hc.ext hW).nodes
  have hscopes := fun W (hW : Ext w W) (hs : shapeV C.nodes = (0, 0)) (hp : paramsCode D C.types = 0) => scopes_any W tv nv C (hc.ext hW) (shapeV_ok hs).1 (shapeV_ok hs).2.1 (paramsCode_zero hp).1 (shapeV_kids hs)
  have hquant := fun W (hW : Ext w W) => quant_any W d D (hd.ext hW)
  have hleaf := fun W (hW : Ext w W) (hp : DomPre D) => leaf_any W d D (hd.ext hW) hp
  have hpre := fun (h : domV D = (0, 0)) => domV_pre h
  have hscin := fun (hp : paramsCode D C.types = 0) (h : ∀ i, i < C.nodes.length → fq D C i = 0) => scopes_in hp h
  obtain ⟨a0, cap, cv, av, hnv, n1, n2, n3, hrow⟩ := hc.nodes.nodes
  obtain ⟨ta, tn, tcap, htv⟩ := Sl.slice hc.types
  obtain ⟨dv, hdv⟩ : ∃ x, domV D = x := ⟨_, rfl⟩
  obtain ⟨pc, hpc⟩ : ∃ x, paramsCode D C.types = x := ⟨_, rfl⟩
  obtain ⟨sv, hsv⟩ : ∃ x, shapeV C.nodes = x := ⟨_, rfl⟩
  obtain ⟨n, hn⟩ : ∃ x, C.nodes.length = x := ⟨_, rfl⟩
  obtain ⟨qf, hqf⟩ : ∃ x, fq D C = x := ⟨_, rfl⟩
  obtain ⟨lf, hlf⟩ : ∃ x, fl D C = x := ⟨_, rfl⟩
  have hqq : ∀ i, quantCode D (C.nodes.getD i dNd).1 ((scopesV C).getD i []).length = qf i := fun i => by rw [← hqf]; rfl
  have hll : ∀ i, leafCode D (C.nodes.getD i dNd).1 ((scopesV C).getD i []) = lf i := fun i => by rw [← hlf]; rfl
  have h1 : v = if dv ≠ (0, 0) then dv else if pc ≠ 0 then (pc, -9) else if sv ≠ (0, 0) then sv else valQuant D C := by rw [← hv, ← hdv, ← hpc, ← hsv]; rfl
  have h2 : valQuant D C = match firstBad qf n with | some i => (qf i, 100 + (i : Int)) | none => valLeaf D C := by rw [← hqf, ← hn]; rfl
  have h3 : valLeaf D C = match firstBad lf n with | some i => (lf i, 100 + (i : Int)) | none => (0, 0) := by rw [← hlf, ← hn]; rfl
  have hdc : d.cells = #[d.tv, d.ov, d.pv, d.sv, d.iv, d.gv] := rfl
  obtain ⟨t1, tn1, tcap1, e1⟩ := hd.types.slice
  obtain ⟨t2, tn2, tcap2, e2⟩ := hd.objects.slice
  obtain ⟨t3, tn3, tcap3, e3⟩ := hd.preds.slice
  obtain ⟨t4, tn4, tcap4, e4⟩ := hd.schemas.slice
  obtain ⟨t5, tn5, tcap5, e5⟩ := hd.init.slice
  obtain ⟨t6, tn6, tcap6, e6⟩ := hd.goal.slice
  subst hnv htv
  rw [hdc] at hdom hpar hquant hleaf ⊢
  simp only [hdv, hpc, hsv, hn, hqf, e1, e2, e3, e4, e5, e6] at hdom hpar hshape hscopes hquant hleaf hpre hscin hrow n1 n3 ⊢
  have HDOM := Lib.hid hdom
  have HPAR := Lib.hid hpar
  have HSH := Lib.hid hshape
  have HSC := Lib.hid hscopes
  have HQ := Lib.hid hquant
  have HL := Lib.hid hleaf
  have HPRE := Lib.hid hpre
  have HSI := Lib.hid hscin
  have HROW := Lib.hid hrow
  have HQQ := Lib.hid hqq
  have HLL := Lib.hid hll
  have H1 := Lib.hid h1
  have H2 := Lib.hid h2
  have H3 := Lib.hid h3
  unfold maxLen at n2
  clear hdom hpar hshape hscopes hquant hleaf hpre hscin hrow hqq hll h1 h2 h3 hdv hpc hsv hn hqf hlf hv hd hc hdc e1 e2 e3 e4 e5 e6
  obtain ⟨d0, d1⟩ := dv
  obtain ⟨s0, s1⟩ := sv
  go_enter Try.func49, Try.ntmps49
  go_wp2_with fail
  refine (HDOM.out _ ((((Ext.refl w).alloc _).alloc _).alloc _)).mono ?_
  rintro e w1 ⟨rfl, hE⟩
  have B0 := Lib.hid (hE.of_new.of_new.block (heap_alloc_new w _))
  have B1 := Lib.hid (hE.of_new.block (heap_alloc_second w _ _))
  have B2 := Lib.hid (show w1.heap[w.heap.size + 2]? = some (.cells #[i64 0, i64 0] 70) from by
    have h := hE.block (heap_alloc_new _ (.cells #[i64 0, i64 0] 70))
    rwa [World.size_alloc, World.size_alloc] at h)
  have HE1 := Lib.hid hE.of_new.of_new.of_new
  clear hE
  obtain ⟨b0, b1, b2, b3, b4, b5, bl⟩ := six_facts B0.out
  obtain ⟨c0, c1, cz0, cz1, cl⟩ := two_facts B1.out
  obtain ⟨r0, r1, z0, z1, rl⟩ := two_facts B2.out
  have hbad : ¬(d0 = 0 ∧ d1 = 0) → v = (d0, d1) := fun h => by rw [H1.out, if_pos (by simpa using h)]
  by_cases hd : d0 = 0 ∧ d1 = 0
  · obtain ⟨rfl, rfl⟩ := hd
    have HP := Lib.hid (HPRE.out rfl)
    have H1a := Lib.hid (show v = _ by rw [H1.out, if_neg (by simp)])
    clear H1 HPRE hbad
    go_wp2_with fail
    refine (HPAR.out _ (HE1.out.alloc _)).mono ?_
    rintro e w2 ⟨hE, rfl⟩
    replace B0 := Lib.hid (hE.of_new.block B0.out)
    replace B1 := Lib.hid (hE.of_new.block B1.out)
    replace B2 := Lib.hid (hE.of_new.block B2.out)
    have HE2 := Lib.hid (HE1.out.trans hE.of_new)
    clear hE b0 b1 b2 b3 b4 b5 bl c0 c1 cz0 cz1 cl r0 r1 z0 z1 rl
    obtain ⟨b0, b1, b2, b3, b4, b5, bl⟩ := six_facts B0.out
    obtain ⟨c0, c1, cz0, cz1, cl⟩ := two_facts B1.out
    obtain ⟨r0, r1, z0, z1, rl⟩ := two_facts B2.out
    by_cases hpz : pc = 0
    · subst hpz
      have H1b := Lib.hid (show v = _ by rw [H1a.out, if_neg (by simp)])
      clear H1a
      go_wp2_with fail
      refine (HSH.out _ HE2.out).mono ?_
      rintro e w3 ⟨rfl, hE⟩
      replace B0 := Lib.hid (hE.block B0.out)
      replace B1 := Lib.hid (hE.block B1.out)
      replace B2 := Lib.hid (hE.block B2.out)
      have HE3 := Lib.hid (HE2.out.trans hE)
      clear hE b0 b1 b2 b3 b4 b5 bl c0 c1 cz0 cz1 cl r0 r1 z0 z1 rl
      obtain ⟨b0, b1, b2, b3, b4, b5, bl⟩ := six_facts B0.out
      obtain ⟨c0, c1, cz0, cz1, cl⟩ := two_facts B1.out
      obtain ⟨r0, r1, z0, z1, rl⟩ := two_facts B2.out
      have hbad : ¬(s0 = 0 ∧ s1 = 0) → v = (s0, s1) := fun h => by rw [H1b.out, if_pos (by simpa using h)]
      by_cases hs : s0 = 0 ∧ s1 = 0
      · obtain ⟨rfl, rfl⟩ := hs
        have H1c := Lib.hid (show v = _ by rw [H1b.out, if_neg (by simp), H2.out])
        clear H1b hbad H2
        go_wp2_with fail
        refine (HSC.out _ (HE3.out.alloc _) (by first | exact trivial | rfl) (by first | exact trivial | rfl)).mono ?_
        rintro e w4 ⟨hE, sgb, vs, rfl, hvs⟩
        replace B0 := Lib.hid (hE.of_new.block B0.out)
        replace B1 := Lib.hid (hE.of_new.block B1.out)
        replace B2 := Lib.hid (hE.of_new.block B2.out)
        have HE4 := Lib.hid (HE3.out.trans hE.of_new)
        have HVS := Lib.hid hvs
        clear hE hvs b0 b1 b2 b3 b4 b5 bl c0 c1 cz0 cz1 cl r0 r1 z0 z1 rl
        obtain ⟨b0, b1, b2, b3, b4, b5, bl⟩ := six_facts B0.out
        obtain ⟨c0, c1, cz0, cz1, cl⟩ := two_facts B1.out
        obtain ⟨r0, r1, z0, z1, rl⟩ := two_facts B2.out
        have hx0 := run_index_fun0 (.func (.func 70) #[] #[]) (.func (.func 71) #[] #[])
        have hx1 := run_index_fun1 (.func (.func 70) #[] #[]) (.func (.func 71) #[] #[])
        have en70 := enters70
        have en71 := enters71
        unfold EntersF at en70 en71
        have HR0 : Hid ((0 < 0 → ∀ j, j < n → qf j = 0) ∧ (1 < 0 → ∀ j, j < n → lf j = 0)) := ⟨fun h => absurd h (by omega), fun h => absurd h (by omega)⟩
        go_wp2_with fail
        go_loopw [38] (fun i wr => ∃ k : Nat, k ≤ 2 ∧ i = .int .i64 k ∧ Hid ((0 < k → ∀ j, j < n → qf j = 0) ∧ (1 < k → ∀ j, j < n → lf j = 0)) ∧ Ext w4 wr) (fun i _ => 2 - (intOf i).toNat)
        case atStart => exact ⟨0, by omega, rfl, HR0, Ext.refl w4⟩
        case round =>
          obtain ⟨k, hk, rfl, HK, hER⟩ := hrel
          clear HR0
          have HER := Lib.hid hER
          clear b0 b1 b2 b3 b4 b5 bl c0 c1 cz0 cz1 cl r0 r1 z0 z1 rl
          obtain ⟨b0, b1, b2, b3, b4, b5, bl⟩ := six_facts (hER.block B0.out)
          obtain ⟨c0, c1, cz0, cz1, cl⟩ := two_facts (hER.block B1.out)
          obtain ⟨r0, r1, z0, z1, rl⟩ := two_facts (hER.block B2.out)
          clear hER
          have hk3 : k = 0 ∨ k = 1 ∨ k = 2 := by omega
          rcases hk3 with rfl | rfl | rfl
          · go_wp2_with fail
            have HI0 : Hid (∀ j, j < 0 → qf j = 0) := fun j hj => absurd hj (Nat.not_lt_zero j)
            go_loopw [44] (fun i wr => ∃ m : Nat, m ≤ n ∧ i = .int .i64 m ∧ Hid (∀ j, j < m → qf j = 0) ∧ Ext w4 wr) (fun i _ => n - (intOf i).toNat)
            case atStart => exact ⟨0, Nat.zero_le _, rfl, HI0, HER.out⟩
            case round =>
              obtain ⟨m, hm, rfl, HM, hEm⟩ := hrel
              clear HI0 b0 b1 b2 b3 b4 b5 bl c0 c1 cz0 cz1 cl r0 r1 z0 z1 rl
              obtain ⟨b0, b1, b2, b3, b4, b5, bl⟩ := six_facts (hEm.block B0.out)
              obtain ⟨c0, c1, cz0, cz1, cl⟩ := two_facts (hEm.block B1.out)
              obtain ⟨r0, r1, z0, z1, rl⟩ := two_facts (hEm.block B2.out)
              have HEM := Lib.hid hEm
              clear hEm
              by_cases hmn : m < n
              · obtain ⟨⟨bb, off, rfl, hcell⟩, hcv, hav⟩ := HROW.out m hmn
                obtain ⟨sg, hints⟩ := HVS.out m hmn
                obtain ⟨pa, pn, pcap, hpv⟩ := Sl.slice hints
                obtain ⟨ca, cn, ccap, hcv'⟩ := Sl.slice hcv
                obtain ⟨aa, an, acap, hav'⟩ := Sl.slice hav
                obtain ⟨x, hx⟩ : ∃ x, (C.nodes.getD m dNd).1 = x := ⟨_, rfl⟩
                rw [hx] at hcell hav
                have hlen : pn = ((scopesV C).getD m []).length := by
                  obtain ⟨a9, c9, h9, _⟩ := hints
                  rw [hpv] at h9
                  cases h9; rfl
                have hplen : pn ≤ 140737488351232 := by
                  obtain ⟨_, _, _, _, _, h9, _⟩ := hints
                  omega
                have hcode := HQQ.out m
                rw [hx] at hcode
                rw [hpv] at sg
                rw [hcv', hav'] at hcell
                have hEw := HE4.out.trans HEM.out
                have e0 : wr.cell? ⟨bb, off + m * 7, none⟩ = _ := hEw.cell (hcell 0 _ rfl)
                have e1 : wr.cell? ⟨bb, off + m * 7 + 1, none⟩ = _ := hEw.cell (hcell 1 _ rfl)
                have e2 : wr.cell? ⟨bb, off + m * 7 + 2, none⟩ = _ := hEw.cell (hcell 2 _ rfl)
                have e3 : wr.cell? ⟨bb, off + m * 7 + 3, none⟩ = _ := hEw.cell (hcell 3 _ rfl)
                have e4 : wr.cell? ⟨bb, off + m * 7 + 4, none⟩ = _ := hEw.cell (hcell 4 _ rfl)
                have e5 : wr.cell? ⟨bb, off + m * 7 + 5, none⟩ = _ := hEw.cell (hcell 5 _ rfl)
                have e6 : wr.cell? ⟨bb, off + m * 7 + 6, none⟩ = _ := hEw.cell (hcell 6 _ rfl)
                have elt := World.block_lt_of_cell? wr _ e0
                have sg' := HEM.out.cell sg
                have slt := World.block_lt_of_cell? wr _ sg'
                have hcall : ∀ W, Ext w4 W → Calls Try.prog 70 #[.agg #[.slice t1 tn1 tcap1, .slice t2 tn2 tcap2, .slice t3 tn3 tcap3, .slice t4 tn4 tcap4, .slice t5 tn5 tcap5, .slice t6 tn6 tcap6], .agg #[i64 x.kind, .slice ca cn ccap, i64 x.pred, .slice aa an acap, i64 x.left, i64 x.right, i64 x.typ], .slice pa pn pcap] W fun e w' => Ext W w' ∧ e = .returned (i64 (qf m)) := fun W hW => by
                  rw [← hcode]
                  rw [← hlen]; exact HQ.out W (HE4.out.trans hW) x ca aa pa cn ccap an acap pn pcap hplen
                have HCALL := Lib.hid hcall
                have HEW := Lib.hid hEw
                clear hcell hcv hav hcv' hav' hpv hints hx hlen hcode hcall sg hEw hplen
                go_wp2_with fail
                generalize hWW : wr.alloc (.cells #[i64 x.kind, .slice ca cn ccap, i64 x.pred, .slice aa an acap, i64 x.left, i64 x.right, i64 x.typ] 48) = WW
                have hE5 : Ext wr WW := by rw [← hWW]; exact (Ext.refl wr).alloc _
                obtain ⟨g0, g1, g2, g3, g4, g5, g6, gl⟩ := seven_facts (show WW.heap[wr.heap.size]? = some (.cells #[i64 x.kind, .slice ca cn ccap, i64 x.pred, .slice aa an acap, i64 x.left, i64 x.right, i64 x.typ] 48) by rw [← hWW]; exact heap_alloc_new _ _)
                have f0 := hE5.cell b0
                have f1 := hE5.cell b1
                have f2 := hE5.cell b2
                have f3 := hE5.cell b3
                have f4 := hE5.cell b4
                have f5 := hE5.cell b5
                have sg2 := hE5.cell sg'
                have HE5 := Lib.hid hE5
                clear hWW hE5 e0 e1 e2 e3 e4 e5 e6 elt sg' slt
                refine wp_region_seq (Ext WW) [(0, 0), (1, 1), (2, 1), (3, 0), (4, 0), (5, 0), (6, 1), (7, 2), (8, 0)] (by kernel_rfl) (by kernel_rfl) (Ext.refl WW).drew (fun hS => ?_)
                simp only [List.map, nthOp]
                refine seqL_yield rfl (fun w' => by go_simp; rfl) ?_
                try simp only [Act.put, List.setIfInBounds_toArray, List.set_cons_zero, List.set_cons_succ]
                refine seqL_read hS rfl (fun w' hE => by
                  have q0 := hE.cell f0
                  have q1 := hE.cell f1
                  have q2 := hE.cell f2
                  have q3 := hE.cell f3
                  have q4 := hE.cell f4
                  have q5 := hE.cell f5
                  clear hE
                  go_simp
                  rfl) ?_
                try simp only [Act.put, List.setIfInBounds_toArray, List.set_cons_zero, List.set_cons_succ]
                refine seqL_read hS rfl (fun w' hE => by
                  have q0 := hE.cell g0
                  have q1 := hE.cell g1
                  have q2 := hE.cell g2
                  have q3 := hE.cell g3
                  have q4 := hE.cell g4
                  have q5 := hE.cell g5
                  have q6 := hE.cell g6
                  clear hE
                  go_simp
                  rfl) ?_
                try simp only [Act.put, List.setIfInBounds_toArray, List.set_cons_zero, List.set_cons_succ]
                iterate 3
                  refine seqL_yield rfl (fun w' => by go_simp; rfl) ?_
                  try simp only [Act.put, List.setIfInBounds_toArray, List.set_cons_zero, List.set_cons_succ]
                refine seqL_read hS rfl (fun w' hE => by have q := hE.cell sg2; clear hE; go_simp; rfl) ?_
                try simp only [Act.put, List.setIfInBounds_toArray, List.set_cons_zero, List.set_cons_succ]
                refine seqL_grow rfl (fun K hK => ?_)
                have HKK := Lib.hid hK
                clear hK
                go_simp
                refine (HCALL.out _ ((HEM.out.trans HE5.out).trans hS)).mono ?_
                rintro e w5 ⟨hE6, rfl⟩
                refine HKK.out _ _ (hS.trans hE6) (fun hS => ?_)
                clear HKK K hE6
                try simp only [Act.put, List.setIfInBounds_toArray, List.set_cons_zero, List.set_cons_succ]
                refine seqL_yield rfl (fun w' => by go_simp; rfl) ?_
                try simp only [Act.put, List.setIfInBounds_toArray, List.set_cons_zero, List.set_cons_succ]
                refine seqL_nil ?_
                have HE6 := Lib.hid ((HEM.out.trans HE5.out).trans hS)
                obtain ⟨c, hc⟩ : ∃ c, qf m = c := ⟨_, rfl⟩
                have HFM := Lib.hid hc
                rw [hc]
                clear hc hS f0 f1 f2 f3 f4 f5 g0 g1 g2 g3 g4 g5 g6 gl b0 b1 b2 b3 b4 b5 bl c0 c1 cz0 cz1 cl r0 r1 z0 z1 rl sg2
                obtain ⟨r0, r1, z0, z1, rl⟩ := two_facts (HE6.out.block B2.out)
                by_cases hz : c = 0
                · subst hz
                  have hok : Hid (∀ j, j < m + 1 → qf j = 0) := fun j hj => by
                    rcases Nat.lt_succ_iff_lt_or_eq.1 hj with h' | rfl
                    · exact HM.out j h'
                    · exact HFM.out
                  go_wp2_with fail
                  refine ⟨?_, ?measure⟩
                  · (repeat apply Exists.intro)
                    refine ⟨?_, rfl⟩
                    exact ⟨m + 1, by omega, by go_num, hok, HE6.out⟩
                  case measure => simp [intOf]; omega
                · have HV : Hid (v = (c, 100 + (m : Int))) := by
                    show v = _
                    rw [H1c.out, firstBad_hit hmn HM.out (by rw [HFM.out]; exact hz)]
                    simp only [HFM.out]
                  go_wp2
                  rw [HV.out]
                  exact bodyPost_ret (results_fault rfl rfl (heap_two _ _ (HE6.out.block B2.out))) rfl ⟨rfl, (HE4.out.trans HE6.out).two (b := w.heap.size + 2) (by omega) _ _⟩
              · have hmn2 : m = n := by omega
                subst hmn2
                go_wp2_with fail
                refine ⟨?_, ?measure⟩
                · exact ⟨1, by omega, by go_num, ⟨fun _ => HM.out, fun h => absurd h (by omega)⟩, HEM.out⟩
                case measure => simp [intOf]
          · go_wp2_with fail
            have HI0 : Hid (∀ j, j < 0 → lf j = 0) := fun j hj => absurd hj (Nat.not_lt_zero j)
            go_loopw [44] (fun i wr => ∃ m : Nat, m ≤ n ∧ i = .int .i64 m ∧ Hid (∀ j, j < m → lf j = 0) ∧ Ext w4 wr) (fun i _ => n - (intOf i).toNat)
            case atStart => exact ⟨0, Nat.zero_le _, rfl, HI0, HER.out⟩
            case round =>
              obtain ⟨m, hm, rfl, HM, hEm⟩ := hrel
              clear HI0 b0 b1 b2 b3 b4 b5 bl c0 c1 cz0 cz1 cl r0 r1 z0 z1 rl
              obtain ⟨b0, b1, b2, b3, b4, b5, bl⟩ := six_facts (hEm.block B0.out)
              obtain ⟨c0, c1, cz0, cz1, cl⟩ := two_facts (hEm.block B1.out)
              obtain ⟨r0, r1, z0, z1, rl⟩ := two_facts (hEm.block B2.out)
              have HEM := Lib.hid hEm
              clear hEm
              by_cases hmn : m < n
              · obtain ⟨⟨bb, off, rfl, hcell⟩, hcv, hav⟩ := HROW.out m hmn
                obtain ⟨sg, hints⟩ := HVS.out m hmn
                obtain ⟨pa, pn, pcap, hpv⟩ := Sl.slice hints
                obtain ⟨ca, cn, ccap, hcv'⟩ := Sl.slice hcv
                obtain ⟨aa, an, acap, hav'⟩ := Sl.slice hav
                obtain ⟨x, hx⟩ : ∃ x, (C.nodes.getD m dNd).1 = x := ⟨_, rfl⟩
                rw [hx] at hcell hav
                have hlen : pn = ((scopesV C).getD m []).length := by
                  obtain ⟨a9, c9, h9, _⟩ := hints
                  rw [hpv] at h9
                  cases h9; rfl
                have hplen : pn ≤ 140737488351232 := by
                  obtain ⟨_, _, _, _, _, h9, _⟩ := hints
                  omega
                have hcode := HLL.out m
                rw [hx] at hcode
                rw [hpv] at sg
                rw [hcv', hav'] at hcell
                have hEw := HE4.out.trans HEM.out
                have e0 : wr.cell? ⟨bb, off + m * 7, none⟩ = _ := hEw.cell (hcell 0 _ rfl)
                have e1 : wr.cell? ⟨bb, off + m * 7 + 1, none⟩ = _ := hEw.cell (hcell 1 _ rfl)
                have e2 : wr.cell? ⟨bb, off + m * 7 + 2, none⟩ = _ := hEw.cell (hcell 2 _ rfl)
                have e3 : wr.cell? ⟨bb, off + m * 7 + 3, none⟩ = _ := hEw.cell (hcell 3 _ rfl)
                have e4 : wr.cell? ⟨bb, off + m * 7 + 4, none⟩ = _ := hEw.cell (hcell 4 _ rfl)
                have e5 : wr.cell? ⟨bb, off + m * 7 + 5, none⟩ = _ := hEw.cell (hcell 5 _ rfl)
                have e6 : wr.cell? ⟨bb, off + m * 7 + 6, none⟩ = _ := hEw.cell (hcell 6 _ rfl)
                have elt := World.block_lt_of_cell? wr _ e0
                have sg' := HEM.out.cell sg
                have slt := World.block_lt_of_cell? wr _ sg'
                have hcall : ∀ W, Ext w4 W → Calls Try.prog 71 #[.agg #[.slice t1 tn1 tcap1, .slice t2 tn2 tcap2, .slice t3 tn3 tcap3, .slice t4 tn4 tcap4, .slice t5 tn5 tcap5, .slice t6 tn6 tcap6], .agg #[i64 x.kind, .slice ca cn ccap, i64 x.pred, .slice aa an acap, i64 x.left, i64 x.right, i64 x.typ], .slice pa pn pcap] W fun e w' => Ext W w' ∧ e = .returned (i64 (lf m)) := fun W hW => by
                  rw [← hcode]
                  rw [hav'] at hav; rw [hpv] at hints; exact HL.out W (HE4.out.trans hW) HP.out x _ _ ⟨_, _, _, rfl⟩ (hav.ext (HE4.out.trans hW)) _ _ (hints.ext hW) (HSI.out (by first | exact trivial | rfl) (HK.out.1 (by omega)) m)
                have HCALL := Lib.hid hcall
                have HEW := Lib.hid hEw
                clear hcell hcv hav hcv' hav' hpv hints hx hlen hcode hcall sg hEw hplen
                go_wp2_with fail
                generalize hWW : wr.alloc (.cells #[i64 x.kind, .slice ca cn ccap, i64 x.pred, .slice aa an acap, i64 x.left, i64 x.right, i64 x.typ] 48) = WW
                have hE5 : Ext wr WW := by rw [← hWW]; exact (Ext.refl wr).alloc _
                obtain ⟨g0, g1, g2, g3, g4, g5, g6, gl⟩ := seven_facts (show WW.heap[wr.heap.size]? = some (.cells #[i64 x.kind, .slice ca cn ccap, i64 x.pred, .slice aa an acap, i64 x.left, i64 x.right, i64 x.typ] 48) by rw [← hWW]; exact heap_alloc_new _ _)
                have f0 := hE5.cell b0
                have f1 := hE5.cell b1
                have f2 := hE5.cell b2
                have f3 := hE5.cell b3
                have f4 := hE5.cell b4
                have f5 := hE5.cell b5
                have sg2 := hE5.cell sg'
                have HE5 := Lib.hid hE5
                clear hWW hE5 e0 e1 e2 e3 e4 e5 e6 elt sg' slt
                refine wp_region_seq (Ext WW) [(0, 0), (1, 1), (2, 1), (3, 0), (4, 0), (5, 0), (6, 1), (7, 2), (8, 0)] (by kernel_rfl) (by kernel_rfl) (Ext.refl WW).drew (fun hS => ?_)
                simp only [List.map, nthOp]
                refine seqL_yield rfl (fun w' => by go_simp; rfl) ?_
                try simp only [Act.put, List.setIfInBounds_toArray, List.set_cons_zero, List.set_cons_succ]
                refine seqL_read hS rfl (fun w' hE => by
                  have q0 := hE.cell f0
                  have q1 := hE.cell f1
                  have q2 := hE.cell f2
                  have q3 := hE.cell f3
                  have q4 := hE.cell f4
                  have q5 := hE.cell f5
                  clear hE
                  go_simp
                  rfl) ?_
                try simp only [Act.put, List.setIfInBounds_toArray, List.set_cons_zero, List.set_cons_succ]
                refine seqL_read hS rfl (fun w' hE => by
                  have q0 := hE.cell g0
                  have q1 := hE.cell g1
                  have q2 := hE.cell g2
                  have q3 := hE.cell g3
                  have q4 := hE.cell g4
                  have q5 := hE.cell g5
                  have q6 := hE.cell g6
                  clear hE
                  go_simp
                  rfl) ?_
                try simp only [Act.put, List.setIfInBounds_toArray, List.set_cons_zero, List.set_cons_succ]
                iterate 3
                  refine seqL_yield rfl (fun w' => by go_simp; rfl) ?_
                  try simp only [Act.put, List.setIfInBounds_toArray, List.set_cons_zero, List.set_cons_succ]
                refine seqL_read hS rfl (fun w' hE => by have q := hE.cell sg2; clear hE; go_simp; rfl) ?_
                try simp only [Act.put, List.setIfInBounds_toArray, List.set_cons_zero, List.set_cons_succ]
                refine seqL_grow rfl (fun K hK => ?_)
                have HKK := Lib.hid hK
                clear hK
                go_simp
                refine (HCALL.out _ ((HEM.out.trans HE5.out).trans hS)).mono ?_
                rintro e w5 ⟨hE6, rfl⟩
                refine HKK.out _ _ (hS.trans hE6) (fun hS => ?_)
                clear HKK K hE6
                try simp only [Act.put, List.setIfInBounds_toArray, List.set_cons_zero, List.set_cons_succ]
                refine seqL_yield rfl (fun w' => by go_simp; rfl) ?_
                try simp only [Act.put, List.setIfInBounds_toArray, List.set_cons_zero, List.set_cons_succ]
                refine seqL_nil ?_
                have HE6 := Lib.hid ((HEM.out.trans HE5.out).trans hS)
                obtain ⟨c, hc⟩ : ∃ c, lf m = c := ⟨_, rfl⟩
                have HFM := Lib.hid hc
                rw [hc]
                clear hc hS f0 f1 f2 f3 f4 f5 g0 g1 g2 g3 g4 g5 g6 gl b0 b1 b2 b3 b4 b5 bl c0 c1 cz0 cz1 cl r0 r1 z0 z1 rl sg2
                obtain ⟨r0, r1, z0, z1, rl⟩ := two_facts (HE6.out.block B2.out)
                by_cases hz : c = 0
                · subst hz
                  have hok : Hid (∀ j, j < m + 1 → lf j = 0) := fun j hj => by
                    rcases Nat.lt_succ_iff_lt_or_eq.1 hj with h' | rfl
                    · exact HM.out j h'
                    · exact HFM.out
                  go_wp2_with fail
                  refine ⟨?_, ?measure⟩
                  · (repeat apply Exists.intro)
                    refine ⟨?_, rfl⟩
                    exact ⟨m + 1, by omega, by go_num, hok, HE6.out⟩
                  case measure => simp [intOf]; omega
                · have HV : Hid (v = (c, 100 + (m : Int))) := by
                    show v = _
                    rw [H1c.out, firstBad_none (HK.out.1 (by omega)), H3.out, firstBad_hit hmn HM.out (by rw [HFM.out]; exact hz)]
                    simp only [HFM.out]
                  go_wp2
                  rw [HV.out]
                  exact bodyPost_ret (results_fault rfl rfl (heap_two _ _ (HE6.out.block B2.out))) rfl ⟨rfl, (HE4.out.trans HE6.out).two (b := w.heap.size + 2) (by omega) _ _⟩
              · have hmn2 : m = n := by omega
                subst hmn2
                go_wp2_with fail
                refine ⟨?_, ?measure⟩
                · exact ⟨2, by omega, by go_num, ⟨fun _ => HK.out.1 (by omega), fun _ => HM.out⟩, HEM.out⟩
                case measure => simp [intOf]
          · have HV : Hid (v = (0, 0)) := by show v = _; rw [H1c.out, firstBad_none (HK.out.1 (by omega)), H3.out, firstBad_none (HK.out.2 (by omega))]
            go_wp2
            rw [HV.out]
            exact bodyPost_ret (results_fault rfl rfl (heap_two _ _ (HER.out.block B2.out))) rfl ⟨rfl, (HE4.out.trans HER.out).two (b := w.heap.size + 2) (by omega) _ _⟩
      · have HV := Lib.hid (hbad hs)
        clear H1b hbad
        by_cases hs0 : s0 = 0
        · have hs1 : ¬ s1 = 0 := fun h => hs ⟨hs0, h⟩
          subst hs0
          clear hs
          go_wp2
          rw [HV.out]
          exact bodyPost_ret (results_fault rfl rfl (heap_two_alloc _ _ _ B2.out)) rfl ⟨rfl, HE3.out.two_alloc (b := w.heap.size + 2) (by omega) _ _ _⟩
        · clear hs
          go_wp2
          rw [HV.out]
          exact bodyPost_ret (results_fault rfl rfl (heap_two_alloc _ _ _ B2.out)) rfl ⟨rfl, HE3.out.two_alloc (b := w.heap.size + 2) (by omega) _ _ _⟩
    · have HV := Lib.hid (show v = (pc, -9) by rw [H1a.out, if_pos hpz])
      clear H1a
      go_wp2
      rw [HV.out]
      exact bodyPost_ret (results_fault rfl rfl (heap_two _ _ B2.out)) rfl ⟨rfl, HE2.out.two (b := w.heap.size + 2) (by omega) _ _⟩
  · have HV := Lib.hid (hbad hd)
    clear H1 HPRE hbad
    by_cases hd0 : d0 = 0
    · have hd1 : ¬ d1 = 0 := fun h => hd ⟨hd0, h⟩
      subst hd0
      clear hd
      go_wp2
      rw [HV.out]
      exact bodyPost_ret (results_fault rfl rfl (heap_two_alloc _ _ _ B2.out)) rfl ⟨rfl, HE1.out.two_alloc (b := w.heap.size + 2) (by omega) _ _ _⟩
    · clear hd
      go_wp2
      rw [HV.out]
      exact bodyPost_ret (results_fault rfl rfl (heap_two_alloc _ _ _ B2.out)) rfl ⟨rfl, HE1.out.two_alloc (b := w.heap.size + 2) (by omega) _ _ _⟩
end Go.Proofs.Ytodlkjjoenglgaa
