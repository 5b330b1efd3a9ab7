/- Parts of a proof about conditions: Top1 Top2 Top3 Top4 Top5 Top6 Top7 Top8 Top9 Top10. -/
import Derived.Test.YtodlkjjoenglgaaMg
import Derived.Test.YtodlkjjoenglgaaMa
import Derived.Test.YtodlkjjoenglgaaMf
import Derived.IntWalk
import Derived.Test.YtodlkjjoenglgaaMh
/- wPick, wCon, wQuant, wEqual. -/
namespace Go.Proofs.Ytodlkjjoenglgaa
open Go Go.RowKit

theorem con_any (w : World) (kd : Int) (a : Option Addr) (l c : Nat) :
    Calls Try.prog 18 #[i64 kd, .slice a l c] w fun e w' => e = .returned (ptr w.heap.size) ∧ w' = w.alloc (.cells (nodeCells (zNd kd) (.slice none 0 0) (.slice none 0 0) (.slice a l c)) 50) := by
  go_enter Try.func18, Try.ntmps18
  go_wp2
  go_ret
  exact ⟨rfl, rfl⟩
theorem quant2_any (w : World) (kd t : Int) (b : Nat) :
    Calls Try.prog 24 #[i64 kd, i64 t, ptr b] w fun e w' => e = .returned (ptr (w.heap.size + 1)) ∧ w' = (w.alloc (.cells #[ptr b] 37)).alloc (.cells (nodeCells (qNd kd t) (.slice none 0 0) (.slice none 0 0) (.slice (some ⟨w.heap.size, 0, none⟩) 1 1)) 50) := by
  go_enter Try.func24, Try.ntmps24
  go_wp2
  go_ret
  exact ⟨rfl, rfl⟩
theorem equal2_any (w : World) (x y : Int) :
    Calls Try.prog 31 #[i64 x, i64 y] w fun e w' => e = .returned (ptr w.heap.size) ∧ w' = w.alloc (.cells (nodeCells ⟨3, 0, [], x, y, 0⟩ (.slice none 0 0) (.slice none 0 0) (.slice none 0 0)) 50) := by
  go_enter Try.func31, Try.ntmps31
  go_wp2
  go_ret
  exact ⟨rfl, rfl⟩

/-- What wPick picks. -/
theorem pick_any (w : World) (x : Int) (n : Nat) (h0 : 0 < n) (hn : n ≤ 9000000000000000000) :
    Calls Try.prog 20 #[i64 x, i64 n] w fun e w' => w = w' ∧ ∃ k : Nat, k < n ∧ e = .returned (i64 k) := by
  have hz : ∃ k : Nat, k < n ∧ wrap64 ((IntKind.u64.wrap x).tmod n) = k := by
    have h1 := wrap_u64_nonneg x
    have h2 : 0 ≤ (IntKind.u64.wrap x).tmod n := Int.tmod_nonneg _ h1
    have h3 : (IntKind.u64.wrap x).tmod n < n := Int.tmod_lt_of_pos _ (by omega)
    refine ⟨((IntKind.u64.wrap x).tmod n).toNat, by omega, ?_⟩
    rw [IntWalk.wrap64_in _ (by omega)]
    omega
  have HZ := Lib.hid hz
  clear hz
  go_enter Try.func20, Try.ntmps20
  go_wp2
  go_ret
  obtain ⟨k, h1, h2⟩ := HZ.out
  exact ⟨rfl, k, h1, by rw [← h2]; rfl⟩

/-- A node over a slice of trees. -/
theorem isF_node {w : World} {n : Nd} {b : Nat} {cv av kv : Value} {fa fk fp bs : List Nat} {k : Fo} (hb : w.heap[b]? = some (.cells (nodeCells n cv av kv) 50 (0, 0))) (hc : sliceV cv) (ha : Arr w fa av (n.args.map i64)) (hk : Arr w fk kv (bs.map ptr)) (hf : isF w k bs fp) :
    isF w (Fo.one n k) [b] (b :: (fa ++ (fk ++ (fp ++ [])))) := ⟨b, [], cv, av, kv, bs, fa, fk, fp, [], rfl, rfl, hb, hc, ha, hk, hf, rfl, rfl⟩
/-- A slice that was made of values. -/
theorem arr_new {w w' : World} {vs : List Value} {T : TypeId} (e : Ext (w.alloc (.cells vs.toArray T)) w') (n : Nat) (hn : vs.length = n) (hm : n ≤ maxLen) : Arr w' [w.heap.size] (.slice (some ⟨w.heap.size, 0, none⟩) n n) vs := by
  subst hn
  refine ⟨_, _, rfl, Nat.le_refl _, hm, .inr ⟨w.heap.size, 0, vs.toArray, T, rfl, rfl, e.block (heap_alloc_new _ _), fun i x h => by simpa using h⟩⟩

/-- A tree in memory, of its own from block B on. -/
structure Tr (w : World) (B : Nat) (n : Nd) (k : Fo) (b : Nat) (fp : List Nat) : Prop where
  tree : isF w (Fo.one n k) [b] fp
  nd : fp.Nodup
  new : ∀ x ∈ fp, B ≤ x
theorem Tr.ext {w w' : World} {B : Nat} {n : Nd} {k : Fo} {b : Nat} {fp : List Nat} (h : Tr w B n k b fp) (e : Ext w w') : Tr w' B n k b fp := ⟨h.tree.ext e, h.nd, h.new⟩
theorem Tr.lt {w : World} {B : Nat} {n : Nd} {k : Fo} {b : Nat} {fp : List Nat} (h : Tr w B n k b fp) : ∀ x ∈ fp, x < w.heap.size := h.tree.lt
end Go.Proofs.Ytodlkjjoenglgaa

/- wCondOf. -/
namespace Go.Proofs.Ytodlkjjoenglgaa
open Go Go.RowKit

/-- What wCondOf does. -/
def CondPost (W : World) (n : Nd) (k : Fo) (e : Ending) (W' : World) : Prop := ∃ b' fp', e = .returned (ptr b') ∧ Ext W W' ∧ Tr W' W.heap.size n k b' fp'
def CondN (w : World) (tv nv : Value) (i : Int) (n : Nd) (k : Fo) : Prop := ∀ W, Ext w W → Calls Try.prog 47 #[.agg #[tv, nv], i64 i] W (CondPost W n k)
def CondInv (Wb : World) (B bt : Nat) (n : Nd) (k : Fo) (j : Nat) (wr : World) : Prop :=
  ∃ G R kv gs, k = Fo.app G R ∧ G.len = j ∧ Ext Wb wr ∧ Bld B wr bt n kv G gs
theorem cell_setCell_ne' {w : World} {p : Addr} {b i : Nat} {u v : Value} (h : w.cell? ⟨b, i, none⟩ = some v) (hne : b ≠ p.block) : (w.setCell p u).cell? ⟨b, i, none⟩ = some v :=
  (World.cell?_of_block (heap_setCell_ne u hne)).trans h

set_option maxRecDepth 100000 in
set_option maxHeartbeats 4000000 in
theorem cond_node (w : World) (tv nv : Value) (C : Cnd) (hc : CndAt w tv nv C) (n : Nd) (k : Fo) (b i : Nat) (hi : C.nodes[i]? = some (n, k.roots b)) (hcnt : k.count ≤ 1000)
    (ih : ∀ G n' k' R, k = Fo.app G (.cons n' k' R) → CondN w tv nv ((b + G.count + k'.count : Nat) : Int) n' k') : CondN w tv nv (i : Int) n k := by
  intro W hW
  obtain ⟨i0, hi', hz0, hz1, hz2⟩ := info_parts info37
  obtain ⟨nb, noff, nn, ncap, cv, av, rfl, hlt, n1, n2, n3, hcv, hav, f0, f1, f2, f3, f4, f5, f6⟩ := node_at (hc.ext hW).nodes hi
  have hcl := fun W' (hW' : Ext W W') => clone_ints W' av n.args (hav.ext hW').rd (let ⟨_, _, _, _, _, q, _⟩ := hav.open; q)
  obtain ⟨ta, tn, tcap, rfl⟩ := Sl.slice hc.types
  obtain ⟨ca, ccap, rfl, -, c2, c3, hcc⟩ := hcv.open
  obtain ⟨aa, acap, rfl⟩ := hav.slice
  obtain ⟨kd, pd, ar, lf, rg, tp⟩ := n
  simp only at f0 f1 f2 f3 f4 f5 f6 hcl
  obtain ⟨cn, hcn⟩ : ∃ n, (k.roots b).length = n := ⟨_, rfl⟩
  obtain ⟨an, han⟩ : ∃ n, ar.length = n := ⟨_, rfl⟩
  have hkl : k.len = cn := by rw [← hcn, Fo.roots_len]
  have hcn2 : cn ≤ 1000 := by have := k.len_le_count; omega
  rw [hcn] at f1 hcc c3
  simp only [han] at f3 hcl
  have hbl := World.block_lt_of_cell? W _ f0
  have HCL := Lib.hid hcl
  have HCC := Lib.hid hcc
  have HIH := Lib.hid (fun G n' k' R h W' (hW' : Ext W W') => ih G n' k' R h W' (hW.trans hW'))
  have HKL := Lib.hid hkl
  have HAN := Lib.hid han
  unfold maxLen at n2 c2
  clear hcl hcc ih hkl hcv hav hi hcn han hc hW
  go_enter Try.func47, Try.ntmps47
  go_wp2_with fail
  refine (HCL.out _ (((Ext.refl W).alloc _).alloc _)).mono ?_
  rintro e w1 ⟨v1, f1', rfl, hE1, hA1, hfr1, hnd1⟩
  obtain ⟨va, vcap, rfl, hva⟩ := id hA1
  simp only [List.length_map, HAN.out] at hA1 hva ⊢
  have hEb := hE1.of_new
  have hbn := hE1.block (heap_alloc_second W _ _)
  simp only [World.size_alloc] at hfr1
  have hbl1 := heap_lt hbn
  have g3 : w1.cell? ⟨W.heap.size + 1, 3, none⟩ = some (.slice aa an acap) := by rw [cell_of_heap hbn]; rfl
  have z3 : w1.frozen? ⟨W.heap.size + 1, 3, none⟩ = false := free_of_heap hbn 3
  obtain ⟨x0, x1, xz0, xz1, xl⟩ := two_facts (new_block hEb)
  have y1 : w1.cell? ⟨nb, noff + i * 7 + 1, none⟩ = some (.slice ca cn ccap) := hEb.of_new.cell f1
  have hst : Bld (W.heap.size + 1) (w1.setCell ⟨W.heap.size + 1, 3, none⟩ (.slice va an vcap)) (W.heap.size + 1) ⟨kd, pd, ar, lf, rg, tp⟩ (.slice none 0 0) .nil [] := by
    refine Bld.start (cv := .slice ca cn ccap) (av := .slice va an vcap) (fa := f1') (heap_setCell_at _ hbn) ⟨_, _, _, rfl⟩ (hA1.kept fun x hx => heap_setCell_ne _ ?_) hnd1 (fun hm => ?_) (fun x hx => ?_) (Nat.le_refl _)
    · have := hfr1 x hx; show x ≠ W.heap.size + 1; omega
    · have := hfr1 _ hm; omega
    · have := hfr1 x hx; omega
  have HST : Hid (CondInv (W.alloc (.cells #[.slice ta tn tcap, .slice (some ⟨nb, noff, none⟩) nn ncap] 33)) (W.heap.size + 1) (W.heap.size + 1) ⟨kd, pd, ar, lf, rg, tp⟩ k 0 (w1.setCell ⟨W.heap.size + 1, 3, none⟩ (.slice va an vcap))) :=
    ⟨.nil, k, _, [], rfl, rfl, hEb.setCell (p := ⟨W.heap.size + 1, 3, none⟩) (by simp) _, hst⟩
  have hnb2 : nb ≠ W.heap.size + 1 := by have := hbl; omega
  clear hst hva hA1 hfr1 hnd1 hEb hbn f0 f1 f2 f3 f4 f5 f6 HCL hE1
  go_wp2_with fail
  clear g3 z3 x0 x1 xz0 xz1 xl y1
  go_loopw [34] (fun i wr => ∃ j : Nat, j ≤ cn ∧ i = .int .i64 j ∧ Hid (CondInv (W.alloc (.cells #[.slice ta tn tcap, .slice (some ⟨nb, noff, none⟩) nn ncap] 33)) (W.heap.size + 1) (W.heap.size + 1) ⟨kd, pd, ar, lf, rg, tp⟩ k j wr)) (fun i _ => cn - (intOf i).toNat)
  case atStart => exact ⟨0, Nat.zero_le _, rfl, HST⟩
  case round =>
    obtain ⟨j, hj, rfl, HJ⟩ := hrel
    clear HST
    by_cases hlt : j < cn
    · obtain ⟨G, R, kv, gs, hG, hGl, hEr, hBld⟩ := HJ.out
      cases R with
      | nil =>
        exfalso
        rw [Fo.app_nil] at hG
        have := HKL.out
        rw [hG, hGl] at this
        omega
      | cons n' k' R' =>
        have hcc : ((k.roots b).getD j 0) = ((b + G.count + k'.count : Nat) : Int) := by rw [hG, ← hGl, roots_at]
        obtain ⟨cb, coff, rfl, hcell⟩ := HCC.out j hlt
        rw [hcc] at hcell
        have e0 := hEr.of_new.cell hcell
        have el := World.block_lt_of_cell? wr _ e0
        obtain ⟨x0, x1, -⟩ := two_facts (new_block hEr)
        have hcall := HIH.out G n' k' R' hG
        obtain ⟨c, hc⟩ : ∃ c : Int, ((b + G.count + k'.count : Nat) : Int) = c := ⟨_, rfl⟩
        rw [hc] at e0 hcall
        have HC := Lib.hid hcall
        have HG := Lib.hid hG
        have HGL := Lib.hid hGl
        have HBLD := Lib.hid hBld
        have k7 : wr.cell? ⟨W.heap.size + 1, 7, none⟩ = some kv := HBLD.out.kids.1
        have HER := Lib.hid hEr
        clear hcall hG hGl hBld hEr hcell hcc hc
        go_wp2_with fail
        refine wp_region_seq (Ext wr) [(0, 0), (1, 0), (2, 0), (3, 0), (4, 1), (5, 1), (6, 0), (7, 2), (8, 2), (9, 3), (10, 0), (11, 0), (12, 3)] (by kernel_rfl) (by kernel_rfl) (Ext.refl wr).drew (fun hS => ?_)
        simp only [List.map, nthOp]
        refine seqL_yield rfl (fun w' => by go_simp; rfl) ?_
        try simp only [Act.put, List.setIfInBounds_toArray, List.set_cons_zero, List.set_cons_succ]
        refine seqL_yield rfl (fun w' => by go_simp; rfl) ?_
        try simp only [Act.put, List.setIfInBounds_toArray, List.set_cons_zero, List.set_cons_succ]
        refine seqL_yield rfl (fun w' => by go_simp; rfl) ?_
        try simp only [Act.put, List.setIfInBounds_toArray, List.set_cons_zero, List.set_cons_succ]
        refine seqL_yield rfl (fun w' => by go_simp; rfl) ?_
        try simp only [Act.put, List.setIfInBounds_toArray, List.set_cons_zero, List.set_cons_succ]
        refine seqL_read hS rfl (fun w' hE => by have q := hE.cell k7; clear hE; go_simp; rfl) ?_
        try simp only [Act.put, List.setIfInBounds_toArray, List.set_cons_zero, List.set_cons_succ]
        refine seqL_read hS rfl (fun w' hE => by have q := And.intro (hE.cell x0) (hE.cell x1); clear hE; go_simp; rfl) ?_
        try simp only [Act.put, List.setIfInBounds_toArray, List.set_cons_zero, List.set_cons_succ]
        refine seqL_yield rfl (fun w' => by go_simp; rfl) ?_
        try simp only [Act.put, List.setIfInBounds_toArray, List.set_cons_zero, List.set_cons_succ]
        refine seqL_grow rfl (fun K hK => ?_)
        have HKK := Lib.hid hK
        clear hK
        go_simp
        refine (HC.out _ (HER.out.of_new.trans hS)).mono ?_
        rintro e w2 ⟨b', fp', rfl, hE2, htr⟩
        have hS2 : Ext wr w2 := hS.trans hE2
        have HT := Lib.hid htr
        refine HKK.out _ _ hS2 (fun _ => ?_)
        clear HKK K htr hE2
        try simp only [Act.put, List.setIfInBounds_toArray, List.set_cons_zero, List.set_cons_succ]
        refine seqL_grow rfl (fun K hK => ?_)
        have HKK := Lib.hid hK
        clear hK
        go_simp
        refine HKK.out _ _ (hS2.alloc _) (fun hS1 => ?_)
        clear HKK K
        try simp only [Act.put, List.setIfInBounds_toArray, List.set_cons_zero, List.set_cons_succ]
        refine seqL_loud rfl (fun K hK => ?_)
        have HKK := Lib.hid hK
        clear hK
        have HGLL := Lib.hid (HBLD.out.len.trans HGL.out)
        refine wp_append_lies _ _ _ 40 rfl (W.heap.size + 1) 37 i0 (.pointer none) 1 8 Try.underlying40 hi' hz0 hz1 hz2 rfl (by decide) kv gs.length (gs.map ptr) rfl ((HBLD.out.ext hS1).own) ⟨w2.heap.size, 0, none⟩ 1 1 [ptr b'] rfl rfl (cell_one_new _ _ _) (by simp [Value.oneCell']) (by decide) (by have := HGLL.out; unfold maxLen; omega) (by have := HGLL.out; omega) (by have h1 := HER.out.size; have h2 := hS1.size; rw [World.size_alloc] at h1; omega) _ rfl ?_
        intro g' cap' w3 hown hgrow hat hlt'
        refine HKK.out _ _ ?_
        clear HKK K
        simp only [World.size_alloc] at hat
        obtain ⟨hc7, hz7⟩ := HBLD.out.kidsAt hS2 hgrow
        have hszr := hS2.size
        have hnew := HBLD.out.step hS2 HT.out.tree HT.out.nd (fun x hx => by have h1 := HT.out.new x hx; have h2 := hS.size; omega) hown hgrow hat
        have HNEW := Lib.hid hnew
        have hEw : Ext (W.alloc (.cells #[.slice ta tn tcap, .slice (some ⟨nb, noff, none⟩) nn ncap] 33)) w3 := (HER.out.trans hS1).of_grown hgrow (fun k hk => by rw [World.size_alloc]; exact ((HBLD.out.ext hS1).own.lt k hk).1)
        have HEW := Lib.hid hEw
        clear hown hgrow hat hlt' hnew hEw hszr
        try simp only [Act.put, List.setIfInBounds_toArray, List.set_cons_zero, List.set_cons_succ]
        refine seqL_yield rfl (fun w' => by go_simp; rfl) ?_
        try simp only [Act.put, List.setIfInBounds_toArray, List.set_cons_zero, List.set_cons_succ]
        refine seqL_yield rfl (fun w' => by go_simp; rfl) ?_
        try simp only [Act.put, List.setIfInBounds_toArray, List.set_cons_zero, List.set_cons_succ]
        refine seqL_loud rfl (fun K hK => ?_)
        have HKK := Lib.hid hK
        clear hK
        go_simp
        refine HKK.out _ _ (seqL_nil ?_)
        clear HKK K
        try simp only [Act.put, List.setIfInBounds_toArray, List.set_cons_zero, List.set_cons_succ]
        go_wp2_with fail
        go_roundw
        case rel =>
          exact ⟨j + 1, by omega, by go_num, G.app (Fo.one n' k'), R', _, gs ++ [b'], by rw [Fo.app_assoc]; exact HG.out, by rw [Fo.len_app, HGL.out]; rfl, HEW.out.setCell (p := ⟨W.heap.size + 1, 7, none⟩) (by simp) _, HNEW.out⟩
        case measure => simp [intOf]; omega
    · have hjk : j = cn := by omega
      subst hjk
      have hfin : Ext W wr ∧ ∃ fp', isF wr (Fo.one ⟨kd, pd, ar, lf, rg, tp⟩ k) [W.heap.size + 1] fp' ∧ fp'.Nodup ∧ ∀ x ∈ fp', W.heap.size + 1 ≤ x := by
        obtain ⟨G, R, kv, gs, hG, hGl, hEr, hBld⟩ := HJ.out
        have hl := HKL.out
        rw [hG, Fo.len_app, hGl] at hl
        have : R = .nil := by
          cases R with
          | nil => rfl
          | cons n' k' R' => simp [Fo.len] at hl
        subst this
        rw [Fo.app_nil] at hG
        subst hG
        exact ⟨hEr.of_new, hBld.done⟩
      have HFIN := Lib.hid hfin
      clear hfin
      go_wp2
      go_ret
      obtain ⟨h0, fp', h1, h2, h3⟩ := HFIN.out
      exact ⟨_, fp', rfl, h0, h1, h2, fun x hx => by have := h3 x hx; omega⟩

theorem cond_forest (w : World) (tv nv : Value) (C : Cnd) (hc : CndAt w tv nv C) (f : Fo) : ∀ (b : Nat), f.count ≤ 1000 → (∀ i, i < f.count → C.nodes[b + i]? = (f.flat b)[i]?) →
    ∀ G n k R, f = Fo.app G (.cons n k R) → CondN w tv nv ((b + G.count + k.count : Nat) : Int) n k := by
  induction f with
  | nil => intro b _ _ G n k R h; cases G <;> cases h
  | cons m q r ihq ihr =>
    intro b hcnt hf G n k R hG
    simp only [Fo.count] at hf hcnt
    cases G with
    | nil =>
      simp only [Fo.app, Fo.cons.injEq] at hG
      obtain ⟨rfl, rfl, rfl⟩ := hG
      simp only [Fo.count, Nat.add_zero]
      have hi : C.nodes[b + q.count]? = some (m, q.roots b) := by
        rw [hf q.count (by omega), Fo.flat, List.getElem?_append_right (by rw [Fo.flat_len]; exact Nat.le_refl _), Fo.flat_len, Nat.sub_self]
        rfl
      exact cond_node w tv nv C hc m q b _ hi (by omega) (ihq b (by omega) (fun i hi => by rw [hf i (by omega), Fo.flat, List.getElem?_append_left (by rw [Fo.flat_len]; exact hi)]))
    | cons n0 k0 G =>
      simp only [Fo.app, Fo.cons.injEq] at hG
      obtain ⟨rfl, rfl, rfl⟩ := hG
      have := ihr (b + q.count + 1) (by omega) (fun i hi => by
        rw [show b + q.count + 1 + i = b + (q.count + 1 + i) by omega, hf _ (by omega), Fo.flat, List.getElem?_append_right (by rw [Fo.flat_len]; omega), Fo.flat_len, show q.count + 1 + i - q.count = i + 1 by omega, List.getElem?_cons_succ]) G n k R rfl
      simp only [Fo.count]
      rw [show b + (q.count + G.count + 1) + k.count = b + q.count + 1 + G.count + k.count by omega]
      exact this
theorem cond_root (w : World) (tv nv : Value) (ts : List Int) (n : Nd) (k : Fo) (hc : CndAt w tv nv ⟨ts, (Fo.one n k).flat 0⟩) (hcnt : (Fo.one n k).count ≤ 1000) : CondN w tv nv (k.count : Int) n k := by
  have := cond_forest w tv nv _ hc (Fo.one n k) 0 hcnt (fun i _ => by rw [Nat.zero_add]) .nil n k .nil rfl
  simpa [Fo.count] using this
end Go.Proofs.Ytodlkjjoenglgaa

/- wCondNodes: the condition that is written, in memory. -/
namespace Go.Proofs.Ytodlkjjoenglgaa
open Go Go.RowKit

/-- The condition in block gb, whose nodes are written from world w0 on: tv: its types; ov: its nodes. Their arrays lie at or above Lo. -/
structure Cn (Lo : Nat) (w0 W : World) (gb : Nat) (tv ov : Value) (fp : List Nat) (out : List (Nd × List Int)) : Prop where
  ext : Ext w0 W
  cell : W.heap[gb]? = some (.cells #[tv, ov] 33)
  low : w0.heap.size ≤ gb
  lo : Lo ≤ w0.heap.size
  nodes : ∃ cs, W.ownsRow w0.heap.size 48 7 ov out.length cs ∧ OutAt W out cs fp
  far : gb ∉ fp
  sep : ∀ g, ov.ownBlock = some g → g ≠ gb ∧ g ∉ fp
  new : ∀ x ∈ fp, Lo ≤ x

section
variable {Lo : Nat} {w0 W : World} {gb : Nat} {tv ov : Value} {fp : List Nat} {out : List (Nd × List Int)}
theorem Cn.own (h : Cn Lo w0 W gb tv ov fp out) : ∀ g, ov.ownBlock = some g → w0.heap.size ≤ g ∧ g < W.heap.size := by
  obtain ⟨cs, h1, -⟩ := h.nodes
  exact h1.lt
theorem Cn.lt (h : Cn Lo w0 W gb tv ov fp out) : ∀ x ∈ fp, x < W.heap.size := by
  obtain ⟨cs, -, h1⟩ := h.nodes
  exact h1.lt
theorem Cn.kept {W' : World} (h : Cn Lo w0 W gb tv ov fp out) (e : Ext w0 W') (hg : W'.heap[gb]? = W.heap[gb]?) (ho : ∀ g, ov.ownBlock = some g → W'.heap[g]? = W.heap[g]?) (hf : ∀ x ∈ fp, W'.heap[x]? = W.heap[x]?) : Cn Lo w0 W' gb tv ov fp out := by
  obtain ⟨cs, h1, h2⟩ := h.nodes
  exact ⟨e, hg.trans h.cell, h.low, h.lo, ⟨cs, owns_at h1 ho, h2.kept hf⟩, h.far, h.sep, h.new⟩
theorem Cn.ext' {W' : World} (h : Cn Lo w0 W gb tv ov fp out) (e : Ext W W') : Cn Lo w0 W' gb tv ov fp out :=
  h.kept (h.ext.trans e) (Below.block e gb (heap_lt h.cell)) (fun g hg => Below.block e g (h.own g hg).2) (fun x hx => Below.block e x (h.lt x hx))
end

/-- What a call has changed: the condition, and what it owned. -/
structure Frc (w0 W W' : World) (gb : Nat) (ov ov' : Value) (fp fp' : List Nat) : Prop where
  size : W.heap.size ≤ W'.heap.size
  blk : ∀ x, x < W.heap.size → x ≠ gb → ov.ownBlock ≠ some x → W'.heap[x]? = W.heap[x]?
  own : ∀ g, ov'.ownBlock = some g → ov.ownBlock = some g ∨ W.heap.size ≤ g
  fps : ∀ x ∈ fp', x ∈ fp ∨ W.heap.size ≤ x ∨ x < w0.heap.size
theorem Frc.refl (w0 W : World) (gb : Nat) (ov : Value) (fp : List Nat) : Frc w0 W W gb ov ov fp fp := ⟨Nat.le_refl _, fun _ _ _ _ => rfl, fun _ h => .inl h, fun _ h => .inl h⟩
theorem Frc.ext {W W' : World} (w0 : World) (e : Ext W W') (gb : Nat) (ov : Value) (fp : List Nat) : Frc w0 W W' gb ov ov fp fp := ⟨e.size, fun x hx _ _ => Below.block e x hx, fun _ h => .inl h, fun _ h => .inl h⟩
theorem Frc.trans {w0 W W1 W2 : World} {gb : Nat} {ov ov1 ov2 : Value} {fp fp1 fp2 : List Nat} (h : Frc w0 W W1 gb ov ov1 fp fp1) (k : Frc w0 W1 W2 gb ov1 ov2 fp1 fp2) : Frc w0 W W2 gb ov ov2 fp fp2 := by
  refine ⟨Nat.le_trans h.size k.size, fun x hx hg ho => ?_, fun g hg => ?_, fun x hx => ?_⟩
  · rw [k.blk x (Nat.lt_of_lt_of_le hx h.size) hg (fun e => ?_), h.blk x hx hg ho]
    rcases h.own x e with h' | h'
    · exact ho h'
    · omega
  · rcases k.own g hg with h' | h'
    · exact h.own g h'
    · have := h.size; right; omega
  · rcases k.fps x hx with h' | h' | h'
    · exact h.fps x h'
    · have := h.size; right; left; omega
    · exact .inr (.inr h')
theorem Frc.more {w0 W W1 W2 : World} {gb : Nat} {ov ov1 : Value} {fp fp1 : List Nat} (h : Frc w0 W W1 gb ov ov1 fp fp1) (hs : W1.heap.size ≤ W2.heap.size) (hk : ∀ x, x < W.heap.size → W2.heap[x]? = W1.heap[x]?) : Frc w0 W W2 gb ov ov1 fp fp1 :=
  ⟨Nat.le_trans h.size hs, fun x hx hg ho => (hk x hx).trans (h.blk x hx hg ho), h.own, h.fps⟩

/-- A node more. -/
theorem Cn.step {Lo : Nat} {w0 W W1 w4 : World} {gb : Nat} {tv ov : Value} {fp fc fa : List Nat} {out : List (Nd × List Int)} (h : Cn Lo w0 W gb tv ov fp out) (e : Ext W W1) {x : Nd} {ks : List Int} {cv av : Value}
    (hcv : Arr W fc cv (ks.map i64)) (hav : Arr W fa av (x.args.map i64)) (b1 : ks.length * 8 ≤ 140737488351232) (b2 : x.args.length * 8 ≤ 140737488351232) (hsep : ∀ y ∈ fc ++ fa, Lo ≤ y ∧ y ≠ gb ∧ ov.ownBlock ≠ some y)
    {cs : List Value} (ho : OutAt W out cs fp) {g cap n : Nat} (hn : out.length = n) (hown : w4.ownsRow w0.heap.size 48 7 (.slice (some ⟨g, 0, none⟩) (n + 1) cap) (n + 1) (cs ++ ndCells x cv av)) (hg : W1.grownBy w4 ov.ownBlock) (hat : ov.ownBlock = some g ∨ g = W1.heap.size) :
    Cn Lo w0 (w4.setCell ⟨gb, 1, none⟩ (.slice (some ⟨g, 0, none⟩) (n + 1) cap)) gb tv (.slice (some ⟨g, 0, none⟩) (n + 1) cap) (fp ++ (fc ++ fa)) (out ++ [(x, ks)]) ∧
    W.heap.size ≤ (w4.setCell ⟨gb, 1, none⟩ (.slice (some ⟨g, 0, none⟩) (n + 1) cap)).heap.size ∧
    (∀ y, y < W.heap.size → y ≠ gb → ov.ownBlock ≠ some y → (w4.setCell ⟨gb, 1, none⟩ (.slice (some ⟨g, 0, none⟩) (n + 1) cap)).heap[y]? = W.heap[y]?) ∧
    ∀ g', (Value.slice (some ⟨g, 0, none⟩) (n + 1) cap).ownBlock = some g' → ov.ownBlock = some g' ∨ W.heap.size ≤ g' := by
  have hsz := e.size
  have hsz4 := hg.size
  have hgb := heap_lt h.cell
  have keep : ∀ y, y < W.heap.size → y ≠ gb → ov.ownBlock ≠ some y → (w4.setCell ⟨gb, 1, none⟩ (.slice (some ⟨g, 0, none⟩) (n + 1) cap)).heap[y]? = W.heap[y]? := fun y hy hne ho => by
    rw [heap_setCell_ne _ hne, hg.block y (by omega) (fun e => ho e.symm)]
    exact Below.block e y hy
  have hcell : w4.heap[gb]? = some (.cells #[tv, ov] 33) := by
    rw [hg.block gb (by omega) (fun e => (h.sep gb e.symm).1 rfl), Below.block e gb hgb]
    exact h.cell
  have hgne : g ≠ gb := by
    rcases hat with h' | h'
    · exact (h.sep g h').1
    · omega
  have hfar : ∀ y, y < W.heap.size → ov.ownBlock ≠ some y → y ≠ g := fun y hy ho e => by
    rcases hat with h' | h'
    · exact ho (by rw [e]; exact h')
    · omega
  have hfl := h.lt
  have hcl := hcv.lt
  have hal := hav.lt
  refine ⟨⟨?_, heap_setCell_at _ hcell, h.low, h.lo, ⟨cs ++ ndCells x cv av, ?_, ?_⟩, ?_, fun g' hg' => ?_, fun y hy => ?_⟩, by simp; omega, keep, fun g' hg' => ?_⟩
  · exact ((h.ext.trans e).of_grown hg (fun k hk => (h.own k hk).1)).setCell h.low _
  · rw [List.length_append, hn]
    exact owns_at hown fun g' hg' => by
      have : g' = g := by simpa [Value.ownBlock, eq_comm] using hg'
      subst this
      exact heap_setCell_ne _ hgne
  · refine OutAt.snoc (hcv.kept fun y hy => ?_) (hav.kept fun y hy => ?_) b1 b2 (ho.kept fun y hy => ?_)
    · have := hsep y (by simp [hy]); exact keep y (hcl y hy) this.2.1 this.2.2
    · have := hsep y (by simp [hy]); exact keep y (hal y hy) this.2.1 this.2.2
    · exact keep y (hfl y hy) (fun e => h.far (e ▸ hy)) (fun e => (h.sep y e).2 hy)
  · rw [List.mem_append, not_or]
    exact ⟨h.far, fun hm => (hsep gb hm).2.1 rfl⟩
  · have : g' = g := by simpa [Value.ownBlock, eq_comm] using hg'
    subst this
    refine ⟨hgne, ?_⟩
    rw [List.mem_append, not_or]
    refine ⟨fun hm => hfar g' (hfl g' hm) (fun e => (h.sep g' e).2 hm) rfl, fun hm => hfar g' ?_ (hsep g' hm).2.2 rfl⟩
    rcases List.mem_append.1 hm with hm | hm
    · exact hcl g' hm
    · exact hal g' hm
  · rcases List.mem_append.1 hy with hy | hy
    · exact h.new y hy
    · exact (hsep y hy).1
  · have : g' = g := by simpa [Value.ownBlock, eq_comm] using hg'
    subst this
    rcases hat with h' | h'
    · exact .inl h'
    · right; omega

/-- Wc: the world of the call; ob: the variable n; outl: what has been written; rl: the children's numbers; av: the tree's own arguments. -/
structure CnK (Lo : Nat) (w0 Wc : World) (gb : Nat) (tv ovc : Value) (fpc : List Nat) (ob : Nat) (x : Nd) (av : Value) (outl : List (Nd × List Int)) (rl : List Int) (W : World) (cv ov : Value) (fp : List Nat) : Prop where
  cn : Cn Lo w0 W gb tv ov fp outl
  gbl : gb < Wc.heap.size
  frm : Frc w0 Wc W gb ovc ov fpc fp
  oblk : W.heap[ob]? = some (.cells #[i64 x.kind, cv, i64 x.pred, av, i64 x.left, i64 x.right, i64 x.typ] 48)
  own : W.ownsRow Wc.heap.size 3 1 cv rl.length (rl.map i64)
  onew : Wc.heap.size ≤ ob
  sepc : ∀ g, cv.ownBlock = some g → g ≠ ob ∧ g ∉ fp ∧ ov.ownBlock ≠ some g
  sepo : ov.ownBlock ≠ some ob
  sepf : ob ∉ fp

section
variable {Lo : Nat} {w0 Wc : World} {gb : Nat} {tv ovc : Value} {fpc : List Nat} {ob : Nat} {x : Nd} {av : Value} {outl : List (Nd × List Int)} {rl : List Int} {W : World} {cv ov : Value} {fp : List Nat}
theorem CnK.base (h : CnK Lo w0 Wc gb tv ovc fpc ob x av outl rl W cv ov fp) : w0.heap.size ≤ Wc.heap.size := by have := h.gbl; have := h.cn.low; omega
theorem CnK.ext {W' : World} (h : CnK Lo w0 Wc gb tv ovc fpc ob x av outl rl W cv ov fp) (e : Ext W W') : CnK Lo w0 Wc gb tv ovc fpc ob x av outl rl W' cv ov fp :=
  ⟨h.cn.ext' e, h.gbl, h.frm.trans (Frc.ext w0 e gb ov fp), e.block h.oblk, owns_at h.own fun g hg => Below.block e g (h.own.lt g hg).2, h.onew, h.sepc, h.sepo, h.sepf⟩
theorem CnK.call {W2 : World} {ov2 : Value} {fp2 : List Nat} {outl2 : List (Nd × List Int)} (h : CnK Lo w0 Wc gb tv ovc fpc ob x av outl rl W cv ov fp) (h2 : Cn Lo w0 W2 gb tv ov2 fp2 outl2) (hf : Frc w0 W W2 gb ov ov2 fp fp2) :
    CnK Lo w0 Wc gb tv ovc fpc ob x av outl2 rl W2 cv ov2 fp2 := by
  have hol := heap_lt h.oblk
  have hcl := h.own.lt
  have hgb := h.gbl
  have hba := h.base
  have hon := h.onew
  have hb : ∀ y, y < W.heap.size → Wc.heap.size ≤ y → ov.ownBlock ≠ some y → W2.heap[y]? = W.heap[y]? := fun y hy hn ho => hf.blk y hy (by omega) ho
  refine ⟨h2, hgb, h.frm.trans hf, (hb ob hol h.onew h.sepo).trans h.oblk, owns_at h.own fun g hg => hb g (hcl g hg).2 (hcl g hg).1 (h.sepc g hg).2.2, h.onew, fun g hg => ?_, fun e => ?_, fun hm => ?_⟩
  · obtain ⟨s2, s4, s5⟩ := h.sepc g hg
    have := hcl g hg
    refine ⟨s2, fun hm => ?_, fun e => ?_⟩
    · rcases hf.fps g hm with h' | h' | h'
      · exact s4 h'
      · omega
      · omega
    · rcases hf.own g e with h' | h'
      · exact s5 h'
      · omega
  · rcases hf.own ob e with h' | h'
    · exact h.sepo h'
    · omega
  · rcases hf.fps ob hm with h' | h' | h'
    · exact h.sepf h'
    · omega
    · omega
theorem CnK.at4 {W1 w4 : World} (h : CnK Lo w0 Wc gb tv ovc fpc ob x av outl rl W cv ov fp) (e : Ext W W1) (hg : W1.grownBy w4 cv.ownBlock) : w4.heap[ob]? = some (.cells #[i64 x.kind, cv, i64 x.pred, av, i64 x.left, i64 x.right, i64 x.typ] 48) := by
  have hol := heap_lt h.oblk
  rw [hg.block ob (by have := e.size; omega) (fun e => (h.sepc ob e.symm).1 rfl), Below.block e ob hol]
  exact h.oblk
theorem CnK.more {W1 w4 : World} (h : CnK Lo w0 Wc gb tv ovc fpc ob x av outl rl W cv ov fp) (e : Ext W W1) {r : Int} {g cap n : Nat} (hn : rl.length = n) (hown : w4.ownsRow Wc.heap.size 3 1 (.slice (some ⟨g, 0, none⟩) (n + 1) cap) (n + 1) (rl.map i64 ++ [i64 r]))
    (hg : W1.grownBy w4 cv.ownBlock) (hat : cv.ownBlock = some g ∨ g = W1.heap.size) :
    CnK Lo w0 Wc gb tv ovc fpc ob x av outl (rl ++ [r]) (w4.setCell ⟨ob, 1, none⟩ (.slice (some ⟨g, 0, none⟩) (n + 1) cap)) (.slice (some ⟨g, 0, none⟩) (n + 1) cap) ov fp := by
  have hsz := e.size
  have hsz4 := hg.size
  have hol := heap_lt h.oblk
  have hcl := h.own.lt
  have hgb := h.gbl
  have hlow := h.cn.low
  have hf := h.cn.lt
  have ho := h.cn.own
  have hon := h.onew
  have hba := h.base
  have keep4 : ∀ y, y < W.heap.size → cv.ownBlock ≠ some y → w4.heap[y]? = W.heap[y]? := fun y hy hc => by
    rw [hg.block y (by omega) (fun e => hc e.symm)]
    exact Below.block e y hy
  have keep : ∀ y, y < W.heap.size → y ≠ ob → cv.ownBlock ≠ some y → (w4.setCell ⟨ob, 1, none⟩ (.slice (some ⟨g, 0, none⟩) (n + 1) cap)).heap[y]? = W.heap[y]? := fun y hy hne hc => by
    rw [heap_setCell_ne _ hne]
    exact keep4 y hy hc
  have hog : g ≠ ob := by
    rcases hat with h' | h'
    · exact (h.sepc g h').1
    · omega
  have hlo : ∀ y, y < Wc.heap.size → y ≠ ob ∧ cv.ownBlock ≠ some y := fun y hy => ⟨by omega, fun e => by have := (hcl y e).1; omega⟩
  have hgl := heap_lt h.cn.cell
  have hext : Ext w0 (w4.setCell ⟨ob, 1, none⟩ (.slice (some ⟨g, 0, none⟩) (n + 1) cap)) :=
    ((h.cn.ext.trans e).of_grown hg (fun k hk => by have := (hcl k hk).1; omega)).setCell (p := ⟨ob, 1, none⟩) (by show _ ≤ ob; omega) _
  refine ⟨h.cn.kept hext ?_ (fun g' hg' => ?_) (fun y hy => ?_), hgb, ?_, heap_setCell_at _ (h.at4 e hg), ?_, hon, fun g' hg' => ?_, h.sepo, h.sepf⟩
  · exact keep gb (by omega) (hlo gb hgb).1 (hlo gb hgb).2
  · refine keep g' (ho g' hg').2 (fun e => h.sepo (e ▸ hg')) fun e => (h.sepc g' e).2.2 hg'
  · refine keep y (hf y hy) (fun e => h.sepf (e ▸ hy)) fun e => (h.sepc y e).2.1 hy
  · exact h.frm.more (by simp; omega) fun y hy => keep y (by have := h.frm.size; omega) (hlo y hy).1 (hlo y hy).2
  · rw [List.length_append, hn, List.map_append]
    exact owns_at hown fun g' hg' => by
      have : g' = g := by simpa [Value.ownBlock, eq_comm] using hg'
      subst this
      exact heap_setCell_ne _ hog
  · have : g' = g := by simpa [Value.ownBlock, eq_comm] using hg'
    subst this
    rcases hat with h' | h'
    · exact h.sepc g' h'
    · exact ⟨hog, fun hm => by have := hf g' hm; omega, fun e => by have := (ho g' e).2; omega⟩
/-- What the last append asks. -/
theorem CnK.fin (h : CnK Lo w0 Wc gb tv ovc fpc ob x av outl rl W cv ov fp) : ∃ fc, Arr W fc cv (rl.map i64) ∧ ∀ y ∈ fc, Wc.heap.size ≤ y ∧ Lo ≤ y ∧ y ≠ gb ∧ ov.ownBlock ≠ some y := by
  obtain ⟨fc, h1, h2, h3⟩ := Arr.of_owns h.own
  refine ⟨fc, h1, fun y hy => ?_⟩
  have hlow := h.cn.low
  have hlo := h.cn.lo
  have hgb := h.gbl
  have := h2 y hy
  refine ⟨this, by omega, by omega, ?_⟩
  rcases h3 with rfl | ⟨g, rfl, hg⟩
  · cases hy
  · have : y = g := by simpa using hy
    subst this
    exact (h.sepc y hg).2.2
end

/-- What wCondNodes does. -/
def NodesPost (Lo : Nat) (w0 W : World) (gb : Nat) (tv ov : Value) (fp : List Nat) (out : List (Nd × List Int)) (n : Nd) (k : Fo) (e : Ending) (W' : World) : Prop :=
  e = .returned (i64 ((out.length + k.count : Nat) : Int)) ∧ ∃ ov' fp', Cn Lo w0 W' gb tv ov' fp' (out ++ (Fo.one n k).flat out.length) ∧ Frc w0 W W' gb ov ov' fp fp'
/-- On the trees of a forest: bs: their blocks. -/
def NodesAll (Lo : Nat) (w0 : World) (gb : Nat) (tv : Value) (f : Fo) (bs : List Nat) : Prop :=
  ∀ G n k R gs b rs, f = Fo.app G (.cons n k R) → bs = gs ++ b :: rs → gs.length = G.len → ∀ W ov fp out, Cn Lo w0 W gb tv ov fp out → out.length + k.count + 1 ≤ 1000000 →
    Calls Try.prog 48 #[ptr b, ptr gb] W (NodesPost Lo w0 W gb tv ov fp out n k)
theorem nodes_fin {Lo : Nat} {w0 Wc W W' : World} {gb : Nat} {tv ovc ov ov' : Value} {fpc fp fc fa : List Nat} {out : List (Nd × List Int)} {k : Fo} {n : Nd} {e : Ending} {m : Nat} (hf : Frc w0 Wc W gb ovc ov fpc fp) (he : e = .returned (i64 (m : Int))) (hm : m = out.length + k.count)
    (h1 : Cn Lo w0 W' gb tv ov' (fp ++ (fc ++ fa)) ((out ++ k.flat out.length) ++ [(n, k.roots out.length)])) (h2 : W.heap.size ≤ W'.heap.size) (h3 : ∀ y, y < W.heap.size → y ≠ gb → ov.ownBlock ≠ some y → W'.heap[y]? = W.heap[y]?) (h4 : ∀ g, ov'.ownBlock = some g → ov.ownBlock = some g ∨ W.heap.size ≤ g)
    (hc : ∀ y ∈ fc, Wc.heap.size ≤ y) (ha : ∀ y ∈ fa, y < w0.heap.size) : NodesPost Lo w0 Wc gb tv ovc fpc out n k e W' := by
  refine ⟨by rw [he, hm], ov', fp ++ (fc ++ fa), by rw [Fo.flat_one, ← List.append_assoc out]; exact h1, ?_⟩
  have h5 := hf.trans (⟨h2, h3, h4, fun x hx => .inl hx⟩ : Frc w0 W W' gb ov ov' fp fp)
  refine ⟨h5.size, h5.blk, h5.own, fun x hx => ?_⟩
  rcases List.mem_append.1 hx with hx | hx
  · exact h5.fps x hx
  · rcases List.mem_append.1 hx with hx | hx
    · exact .inr (.inl (hc x hx))
    · exact .inr (.inr (ha x hx))
end Go.Proofs.Ytodlkjjoenglgaa

/- wCondNodes, walked. -/
namespace Go.Proofs.Ytodlkjjoenglgaa
open Go Go.RowKit

def CnLoop (Lo : Nat) (w0 Wc : World) (gb : Nat) (tv ovc : Value) (fpc : List Nat) (ob : Nat) (x : Nd) (av : Value) (out : List (Nd × List Int)) (k : Fo) (j : Nat) (W : World) : Prop :=
  ∃ G R cv ov fp, k = Fo.app G R ∧ G.len = j ∧ CnK Lo w0 Wc gb tv ovc fpc ob x av (out ++ G.flat out.length) (G.roots out.length) W cv ov fp

set_option maxRecDepth 100000 in
set_option maxHeartbeats 4000000 in
theorem nodes_node (Lo : Nat) (w0 : World) (gb : Nat) (tv : Value) (n : Nd) (k : Fo) (b : Nat) (cv av kv : Value) (ks fa fk : List Nat) (hb : w0.heap[b]? = some (.cells (nodeCells n cv av kv) 50 (0, 0))) (hcv : sliceV cv) (ha : Arr w0 fa av (n.args.map i64)) (hk : Arr w0 fk kv (ks.map ptr)) (hkl : ks.length = k.len)
    (hlo : ∀ y ∈ fa, Lo ≤ y) (ha8 : n.args.length * 8 ≤ 140737488351232) (ih : NodesAll Lo w0 gb tv k ks) (W : World) (ov : Value) (fp : List Nat) (out : List (Nd × List Int)) (h : Cn Lo w0 W gb tv ov fp out) (hlen : out.length + k.count + 1 ≤ 1000000) :
    Calls Try.prog 48 #[ptr b, ptr gb] W (NodesPost Lo w0 W gb tv ov fp out n k) := by
  obtain ⟨i0, hi, hz0, hz1, hz2⟩ := info_parts info3
  obtain ⟨i1, hi1, hy0, hy1, hy2⟩ := info_parts info48
  have hbW := h.ext.block hb
  obtain ⟨ca, cl0, ccap, rfl⟩ := hcv
  obtain ⟨aa, acap, hav, -⟩ := id ha
  obtain ⟨kd, pd, ar, lf, rg, tp⟩ := n
  simp only [List.length_map] at hav ha8
  obtain ⟨an, han⟩ : ∃ n, ar.length = n := ⟨_, rfl⟩
  rw [han] at hav
  subst hav
  obtain ⟨ka, kcap, rfl, hk1, hk2, hk3⟩ := hk.rd
  rw [List.length_map] at hk1
  simp only [List.length_map] at hbW hk
  obtain ⟨cn, hcn⟩ : ∃ n, ks.length = n := ⟨_, rfl⟩
  rw [hcn] at hkl hk1 hbW
  have f0 : W.cell? ⟨b, 0, none⟩ = some (i64 kd) := by rw [cell_of_heap hbW]; rfl
  have f1 : W.cell? ⟨b, 1, none⟩ = some (.slice ca cl0 ccap) := by rw [cell_of_heap hbW]; rfl
  have f2 : W.cell? ⟨b, 2, none⟩ = some (i64 pd) := by rw [cell_of_heap hbW]; rfl
  have f3 : W.cell? ⟨b, 3, none⟩ = some (.slice aa an acap) := by rw [cell_of_heap hbW]; rfl
  have f4 : W.cell? ⟨b, 4, none⟩ = some (i64 lf) := by rw [cell_of_heap hbW]; rfl
  have f5 : W.cell? ⟨b, 5, none⟩ = some (i64 rg) := by rw [cell_of_heap hbW]; rfl
  have f6 : W.cell? ⟨b, 6, none⟩ = some (i64 tp) := by rw [cell_of_heap hbW]; rfl
  have f7 : W.cell? ⟨b, 7, none⟩ = some (.slice ka cn kcap) := by rw [cell_of_heap hbW]; rfl
  have hbl := heap_lt hbW
  have hgbl := heap_lt h.cell
  have hcn2 : cn ≤ 1000000 := by have := k.len_le_count; omega
  have hK0 : CnK Lo w0 W gb tv ov fp W.heap.size ⟨kd, pd, ar, lf, rg, tp⟩ (.slice aa an acap) out [] (W.alloc (.cells #[i64 kd, .slice none 0 0, i64 pd, .slice aa an acap, i64 lf, i64 rg, i64 tp] 48)) (.slice none 0 0) ov fp := by
    have hl := h.own
    have hf := h.lt
    refine ⟨h.ext' ((Ext.refl W).alloc _), hgbl, Frc.ext w0 ((Ext.refl W).alloc _) _ _ _, heap_alloc_new _ _, World.ownsRow_nil .., Nat.le_refl _, fun g hg => by simp [Value.ownBlock] at hg, fun e => by have := (hl _ e).2; omega, fun hm => by have := hf _ hm; omega⟩
  have HL0 : Hid (CnLoop Lo w0 W gb tv ov fp W.heap.size ⟨kd, pd, ar, lf, rg, tp⟩ (.slice aa an acap) out k 0 (W.alloc (.cells #[i64 kd, .slice none 0 0, i64 pd, .slice aa an acap, i64 lf, i64 rg, i64 tp] 48))) := ⟨.nil, k, _, _, _, rfl, rfl, by simpa [Fo.flat, Fo.roots] using hK0⟩
  have HH := Lib.hid h
  have HA := Lib.hid ha
  have HK3 := Lib.hid hk3
  have HCN := Lib.hid hcn
  have HKL := Lib.hid hkl
  have HLO := Lib.hid hlo
  have HIH := Lib.hid ih
  have HAN := Lib.hid han
  unfold maxLen at hk2
  clear h ha hk hk3 hcn hkl hlo ih hb hbW hK0 han
  go_enter Try.func48, Try.ntmps48
  go_wp2_with fail
  clear f0 f1 f2 f3 f4 f5 f6 f7
  go_loopw [18] (fun i wr => ∃ j : Nat, j ≤ cn ∧ i = .int .i64 j ∧ Hid (CnLoop Lo w0 W gb tv ov fp W.heap.size ⟨kd, pd, ar, lf, rg, tp⟩ (.slice aa an acap) out k j wr)) (fun i _ => cn - (intOf i).toNat)
  case atStart => exact ⟨0, Nat.zero_le _, rfl, HL0⟩
  case round =>
    obtain ⟨j, hj, rfl, HL⟩ := hrel
    clear HL0
    by_cases hlt : j < cn
    · obtain ⟨G, R, cv', ov', fp', hG, hGl, hK⟩ := HL.out
      cases R with
      | nil =>
        exfalso
        rw [Fo.app_nil] at hG
        have := HKL.out
        rw [hG, hGl] at this
        omega
      | cons n' k' R' =>
        obtain ⟨bk, hbk⟩ : ∃ bk, ks[j]? = some bk := ⟨ks[j]'(by have := HCN.out; omega), List.getElem?_eq_getElem _⟩
        obtain ⟨g, off, rfl, hcell⟩ := HK3.out j (ptr bk) (by simp [hbk])
        have e0 := hK.cn.ext.cell hcell
        have el := World.block_lt_of_cell? wr _ e0
        have hks : ks = ks.take j ++ bk :: ks.drop (j + 1) := by
          have hlt2 : j < ks.length := by have := HCN.out; omega
          have h2 : ks[j] = bk := by rw [List.getElem?_eq_getElem hlt2] at hbk; exact Option.some.inj hbk
          rw [← h2, ← List.drop_eq_getElem_cons hlt2, List.take_append_drop]
        obtain ⟨o0, o1, o2, o3, o4, o5, o6, ol⟩ := seven_facts hK.oblk
        obtain ⟨rl, hrl⟩ : ∃ rl, G.roots out.length = rl := ⟨_, rfl⟩
        obtain ⟨outl, houtl⟩ : ∃ l, out ++ G.flat out.length = l := ⟨_, rfl⟩
        have hcnt : G.count + k'.count + 1 ≤ k.count := by rw [hG, Fo.count_app]; simp only [Fo.count]; omega
        have hlL : outl.length = out.length + G.count := by rw [← houtl, List.length_append, Fo.flat_len]
        have hrL : rl.length ≤ 1000000 := by
          rw [← hrl, Fo.roots_len]
          have := G.len_le_count
          omega
        rw [hrl, houtl] at hK
        have hcall := HIH.out G n' k' R' (ks.take j) bk (ks.drop (j + 1)) hG hks (by rw [List.length_take, hGl]; have := HCN.out; omega) wr.drew ov' fp' outl (hK.ext (Ext.refl wr).drew).cn (by omega)
        unfold NodesPost at hcall
        obtain ⟨r, hr⟩ : ∃ r, ((outl.length + k'.count : Nat) : Int) = r := ⟨_, rfl⟩
        rw [hr] at hcall
        obtain ⟨m, hm⟩ : ∃ m, rl.length = m := ⟨_, rfl⟩
        have HK1 := Lib.hid hK
        have HCALL := Lib.hid hcall
        have HRL := Lib.hid hrl
        have HOL := Lib.hid houtl
        have HR := Lib.hid hr
        have HM := Lib.hid hm
        have HLL := Lib.hid hlL
        have HG := Lib.hid hG
        have HGL := Lib.hid hGl
        rw [hm] at hrL
        clear hG hGl hK hcell hrl houtl hcall hr hcnt hlL hm hks hbk
        go_wp2_with fail
        refine wp_region_seq (fun w' => w'.cell? ⟨W.heap.size, 1, none⟩ = some cv') [(0, 0), (1, 1), (2, 0), (3, 0), (4, 2), (5, 2), (6, 3), (7, 0), (8, 3)] (by kernel_rfl) (by kernel_rfl) o1 (fun hS => ?_)
        simp only [List.map, nthOp]
        refine seqL_yield rfl (fun w' => by go_simp; rfl) ?_
        try simp only [Act.put, List.setIfInBounds_toArray, List.set_cons_zero, List.set_cons_succ]
        refine seqL_read hS rfl (fun w' hE => by go_simp; rfl) ?_
        try simp only [Act.put, List.setIfInBounds_toArray, List.set_cons_zero, List.set_cons_succ]
        refine seqL_yield rfl (fun w' => by go_simp; rfl) ?_
        try simp only [Act.put, List.setIfInBounds_toArray, List.set_cons_zero, List.set_cons_succ]
        refine seqL_yield rfl (fun w' => by go_simp; rfl) ?_
        try simp only [Act.put, List.setIfInBounds_toArray, List.set_cons_zero, List.set_cons_succ]
        refine seqL_grow rfl (fun K hK => ?_)
        have HKK := Lib.hid hK
        clear hK
        go_simp
        refine HCALL.out.mono ?_
        rintro e w2 ⟨rfl, ov2, fp2, hng2, hfrm2⟩
        have hK2 := (HK1.out.ext (Ext.refl wr).drew).call hng2 hfrm2
        have HK2 := Lib.hid hK2
        have hS2 : w2.cell? ⟨W.heap.size, 1, none⟩ = some cv' := by rw [cell_of_heap hK2.oblk]; rfl
        clear hng2 hfrm2 hK2
        refine HKK.out _ _ hS2 (fun _ => ?_)
        clear HKK K
        try simp only [Act.put, List.setIfInBounds_toArray, List.set_cons_zero, List.set_cons_succ]
        refine seqL_grow rfl (fun K hK => ?_)
        have HKK := Lib.hid hK
        clear hK
        go_simp
        refine HKK.out _ _ (by rw [World.cell?_alloc_lt _ _ _ (World.block_lt_of_cell? _ _ hS2)]; exact hS2) (fun _ => ?_)
        clear HKK K
        try simp only [Act.put, List.setIfInBounds_toArray, List.set_cons_zero, List.set_cons_succ]
        refine seqL_loud rfl (fun K hK => ?_)
        have HKK := Lib.hid hK
        clear hK
        have hsz := HK2.out.frm.size
        refine wp_append_lies _ _ _ 30 rfl W.heap.size 3 i0 (.int .i64 0) 1 8 Try.underlying30 hi hz0 hz1 hz2 rfl (by decide) cv' m (rl.map i64) rfl (HM.out ▸ HK2.out.own.alloc _) ⟨w2.heap.size, 0, none⟩ 1 1 [i64 r] rfl rfl (World.news_of_block (heap_alloc_new _ _)) (by simp [Value.oneCell']) (by decide) (by unfold maxLen; omega) (by omega) (by rw [World.size_alloc]; omega) _ rfl ?_
        intro g' cap' w4 hown hgrow hat hlt'
        refine HKK.out _ _ ?_
        clear HKK K
        try simp only [Act.put, List.setIfInBounds_toArray, List.set_cons_zero, List.set_cons_succ]
        have h4 := HK2.out.at4 ((Ext.refl w2).alloc _) hgrow
        have q1 : w4.cell? ⟨W.heap.size, 1, none⟩ = some cv' := by rw [cell_of_heap h4]; rfl
        have z1 := free_of_heap h4 1
        have HK3' := Lib.hid (HK2.out.more ((Ext.refl w2).alloc _) HM.out hown hgrow hat)
        clear h4 hown hgrow hat hlt' hsz hS2
        refine seqL_yield rfl (fun w' => by go_simp; rfl) ?_
        try simp only [Act.put, List.setIfInBounds_toArray, List.set_cons_zero, List.set_cons_succ]
        refine seqL_loud rfl (fun K hK => ?_)
        have HKK := Lib.hid hK
        clear hK
        go_simp
        refine HKK.out _ _ (seqL_nil ?_)
        clear HKK K
        try simp only [Act.put, List.setIfInBounds_toArray, List.set_cons_zero, List.set_cons_succ]
        clear q1 z1 hS o0 o1 o2 o3 o4 o5 o6 ol e0 el
        go_wp2_with fail
        go_roundw
        case rel =>
          have hfin := HK3'.out
          have e1 : outl ++ (Fo.one n' k').flat outl.length = out ++ (G.app (Fo.one n' k')).flat out.length := by rw [HLL.out, Fo.flat_app, ← HOL.out, List.append_assoc]
          have e2 : rl ++ [r] = (G.app (Fo.one n' k')).roots out.length := by rw [Fo.roots_app, Fo.roots_one, HRL.out, ← HR.out, HLL.out]
          rw [e1, e2] at hfin
          exact ⟨j + 1, by omega, by go_num, G.app (Fo.one n' k'), R', _, _, _, by rw [Fo.app_assoc]; exact HG.out, by rw [Fo.len_app, HGL.out]; rfl, hfin⟩
        case measure => simp [intOf]; omega
    · have hfin : ∃ cv' ov' fp', CnK Lo w0 W gb tv ov fp W.heap.size ⟨kd, pd, ar, lf, rg, tp⟩ (.slice aa an acap) (out ++ k.flat out.length) (k.roots out.length) wr cv' ov' fp' := by
        obtain ⟨G, R, cv', ov', fp', hG, hGl, hK⟩ := HL.out
        have hl := HKL.out
        rw [hG, Fo.len_app, hGl] at hl
        have : R = .nil := by
          cases R with
          | nil => rfl
          | cons n' k' R' => simp [Fo.len] at hl; omega
        subst this
        rw [Fo.app_nil] at hG
        subst hG
        exact ⟨cv', ov', fp', hK⟩
      obtain ⟨cv', ov', fp', hK⟩ := hfin
      obtain ⟨fc, hfc, hsep⟩ := hK.fin
      obtain ⟨cs, hown, hout⟩ := hK.cn.nodes
      have hrL : (k.roots out.length).length * 8 ≤ 140737488351232 := by
        rw [Fo.roots_len]
        have := k.len_le_count
        omega
      have haW : Arr wr fa (.slice aa an acap) (ar.map i64) := HA.out.ext hK.cn.ext
      have hal := HA.out.lt
      have hol := hK.cn.own
      have hlowg := hK.cn.low
      have hstep := fun W1 (e : Ext wr W1) w4 g cap n (hn : (out ++ k.flat out.length).length = n) => @Cn.step Lo w0 wr W1 w4 gb tv ov' fp' fc fa _ hK.cn e ⟨kd, pd, ar, lf, rg, tp⟩ (k.roots out.length) cv' (.slice aa an acap) hfc haW hrL ha8 (fun y hy => by
        rcases List.mem_append.1 hy with hy | hy
        · exact (hsep y hy).2
        · have h1 := hal y hy
          exact ⟨HLO.out y hy, by omega, fun e => by have := (hol y e).1; omega⟩) cs hout g cap n hn
      have hNN : out.length + k.count ≤ 1000000 := by omega
      obtain ⟨N, hN⟩ : ∃ N, (out ++ k.flat out.length).length = N := ⟨_, rfl⟩
      have hstep := fun W1 (e : Ext wr W1) w4 g cap => hstep W1 e w4 g cap N hN
      have hNv : N = out.length + k.count := by rw [← hN, List.length_append, Fo.flat_len]
      have hNb : N ≤ 1000000 := by omega
      rw [hN] at hown
      obtain ⟨oa, ocap, hov, -⟩ := owns_row hown
      obtain ⟨cva, cvn, hcvv, -⟩ := owns_row hK.own
      obtain ⟨c0, c1, cz0, cz1, cl⟩ := two_facts hK.cn.cell
      have hcell := hK.cn.cell
      have hsepg := hK.cn.sep
      have hpost : ∀ e W' ov2, e = Ending.returned (i64 (N : Int)) → Cn Lo w0 W' gb tv ov2 (fp' ++ (fc ++ fa)) ((out ++ k.flat out.length) ++ [(⟨kd, pd, ar, lf, rg, tp⟩, k.roots out.length)]) → wr.heap.size ≤ W'.heap.size → (∀ y, y < wr.heap.size → y ≠ gb → ov'.ownBlock ≠ some y → W'.heap[y]? = wr.heap[y]?) → (∀ g, ov2.ownBlock = some g → ov'.ownBlock = some g ∨ wr.heap.size ≤ g) → NodesPost Lo w0 W gb tv ov fp out ⟨kd, pd, ar, lf, rg, tp⟩ k e W' :=
        fun e W' ov2 he h1 h2 h3 h4 => nodes_fin hK.frm he hNv h1 h2 h3 h4 (fun y hy => (hsep y hy).1) hal
      obtain ⟨o0, o1, o2, o3, o4, o5, o6, ol⟩ := seven_facts hK.oblk
      have hbase := hK.cn.ext.size
      simp only [ndCells, hov] at hown hstep hpost c1 hcell hsepg
      have hcvv2 : Hid (cv' = _) := hcvv
      have HOWN := Lib.hid hown
      have HSTEP := Lib.hid hstep
      have HPOST := Lib.hid hpost
      have HCELL := Lib.hid hcell
      have HSEP := Lib.hid hsepg
      clear hown hstep hpost hcell hsepg hout hK hfc hsep haW hal hol HL hrL hov hN hNv HH hcvv
      go_wp2_with fail
      refine wp_region_seq (Ext wr) [(0, 0), (1, 0), (2, 0), (3, 0), (4, 1), (5, 1), (6, 2), (7, 3), (8, 0), (9, 0), (10, 3)] (by kernel_rfl) (by kernel_rfl) (Ext.refl wr).drew (fun hS => ?_)
      simp only [List.map, nthOp]
      refine seqL_yield rfl (fun w' => by go_simp; rfl) ?_
      try simp only [Act.put, List.setIfInBounds_toArray, List.set_cons_zero, List.set_cons_succ]
      refine seqL_yield rfl (fun w' => by go_simp; rfl) ?_
      try simp only [Act.put, List.setIfInBounds_toArray, List.set_cons_zero, List.set_cons_succ]
      refine seqL_yield rfl (fun w' => by go_simp; rfl) ?_
      try simp only [Act.put, List.setIfInBounds_toArray, List.set_cons_zero, List.set_cons_succ]
      refine seqL_yield rfl (fun w' => by go_simp; rfl) ?_
      try simp only [Act.put, List.setIfInBounds_toArray, List.set_cons_zero, List.set_cons_succ]
      refine seqL_read hS rfl (fun w' hE => by have q := hE.cell c1; clear hE; go_simp; rfl) ?_
      try simp only [Act.put, List.setIfInBounds_toArray, List.set_cons_zero, List.set_cons_succ]
      refine seqL_read hS rfl (fun w' hE => by have q0 := hE.cell o0; have q1 := hE.cell o1; have q2 := hE.cell o2; have q3 := hE.cell o3; have q4 := hE.cell o4; have q5 := hE.cell o5; have q6 := hE.cell o6; clear hE; go_simp; rfl) ?_
      try simp only [Act.put, List.setIfInBounds_toArray, List.set_cons_zero, List.set_cons_succ]
      refine seqL_grow rfl (fun K hK => ?_)
      have HKK := Lib.hid hK
      clear hK
      go_simp
      refine HKK.out _ _ (hS.alloc _) (fun hS1 => ?_)
      clear HKK K
      try simp only [Act.put, List.setIfInBounds_toArray, List.set_cons_zero, List.set_cons_succ]
      refine seqL_loud rfl (fun K hK => ?_)
      have HKK := Lib.hid hK
      clear hK
      have hnews := World.news_of_block (heap_alloc_new wr.drew (.cells #[i64 kd, cv', i64 pd, .slice aa an acap, i64 lf, i64 rg, i64 tp] 48))
      refine wp_append_lies _ _ _ 31 rfl w0.heap.size 48 i1 (.agg #[.int .i64 0, .slice none 0 0, .int .i64 0, .slice none 0 0, .int .i64 0, .int .i64 0, .int .i64 0]) 7 88 Try.underlying31 hi1 hy0 hy1 hy2 rfl (by decide) (.slice oa N ocap) N cs rfl (owns_at HOWN.out fun g hg => Below.block hS1 g ((HOWN.out.lt g hg).2)) ⟨wr.drew.heap.size, 0, none⟩ 1 1 [i64 kd, cv', i64 pd, .slice aa an acap, i64 lf, i64 rg, i64 tp] rfl rfl hnews (by rw [hcvv2.out]; simp [Value.oneCell']) (by decide) (by unfold maxLen; omega) (by omega) (by have := hS1.size; omega) _ rfl ?_
      intro g' cap' w4 hown4 hgrow hat hlt'
      refine HKK.out _ _ ?_
      clear HKK K
      try simp only [Act.put, List.setIfInBounds_toArray, List.set_cons_zero, List.set_cons_succ]
      have hfin := HSTEP.out _ hS1 w4 g' cap' hown4 hgrow hat
      have h2 : w4.heap[gb]? = some (.cells #[tv, .slice oa N ocap] 33) := by
        rw [hgrow.block gb (by have := hS1.size; omega) (fun e => (HSEP.out gb e.symm).1 rfl), Below.block hS1 gb cl]
        exact HCELL.out
      obtain ⟨k0, k1, kz0, kz1, kl⟩ := two_facts h2
      have HFIN := Lib.hid hfin
      clear hfin h2 hown4 hgrow hat hlt' hnews
      refine seqL_yield rfl (fun w' => by go_simp; rfl) ?_
      try simp only [Act.put, List.setIfInBounds_toArray, List.set_cons_zero, List.set_cons_succ]
      refine seqL_yield rfl (fun w' => by go_simp; rfl) ?_
      try simp only [Act.put, List.setIfInBounds_toArray, List.set_cons_zero, List.set_cons_succ]
      refine seqL_loud rfl (fun K hK => ?_)
      have HKK := Lib.hid hK
      clear hK
      go_simp
      refine HKK.out _ _ (seqL_nil ?_)
      clear HKK K
      try simp only [Act.put, List.setIfInBounds_toArray, List.set_cons_zero, List.set_cons_succ]
      clear hS hS1
      go_wp2
      go_ret
      exact HPOST.out _ _ _ (ret_i64 (by omega)) HFIN.out.1 HFIN.out.2.1 HFIN.out.2.2.1 HFIN.out.2.2.2
end Go.Proofs.Ytodlkjjoenglgaa

/- A tree's parts in memory: wSpots' list; another tree in a part's place. -/
namespace Go.Proofs.Ytodlkjjoenglgaa
open Go Go.RowKit

theorem nodes_all (Lo : Nat) (w0 : World) (gb : Nat) (tv : Value) (f : Fo) : ∀ bs fp, isF w0 f bs fp → (∀ x ∈ fp, Lo ≤ x) → f.ArgsLe → NodesAll Lo w0 gb tv f bs := by
  induction f with
  | nil => intro bs fp _ _ _ G n k R gs b rs h; cases G <;> cases h
  | cons m q r ihq ihr =>
    intro bs fp h hlo ha G n k R gs b rs hG hbs hgl
    obtain ⟨b0, bs', cv, av, kv, ks, fa, fk, fpk, fpr, rfl, rfl, hb, hcv, haa, hkk, hfk, hfr⟩ := h
    obtain ⟨a1, a2, a3⟩ := ha
    cases G with
    | nil =>
      simp only [Fo.app, Fo.cons.injEq] at hG
      obtain ⟨rfl, rfl, rfl⟩ := hG
      have : gs = [] := List.eq_nil_of_length_eq_zero hgl
      subst this
      simp only [List.nil_append, List.cons.injEq] at hbs
      obtain ⟨rfl, rfl⟩ := hbs
      intro W ov fp out hC hlen
      exact nodes_node Lo w0 gb tv m q b0 cv av kv ks fa fk hb hcv haa hkk hfk.len (fun y hy => hlo y (by simp [hy])) a1 (ihq ks fpk hfk (fun y hy => hlo y (by simp [hy])) a2) W ov fp out hC hlen
    | cons n0 k0 G =>
      simp only [Fo.app, Fo.cons.injEq] at hG
      obtain ⟨rfl, rfl, rfl⟩ := hG
      cases gs with
      | nil => simp [Fo.len] at hgl
      | cons g0 gs =>
        simp only [List.cons_append, List.cons.injEq] at hbs
        obtain ⟨rfl, rfl⟩ := hbs
        exact ihr _ fpr hfr (fun y hy => hlo y (by simp [hy])) a3 G n k R gs b rs rfl rfl (by simpa [Fo.len] using hgl)

/-- A forest in memory, with the list of its parts: of each the block and the number of parameters. -/
def isP (w : World) : Fo → List Nat → List Nat → Nat → List (Nat × Nat) → Prop
  | .nil, bs, fp, _, sp => bs = [] ∧ fp = [] ∧ sp = []
  | .cons n k r, bs, fp, s, sp => ∃ b bs' cv av kv ks fa fk fpk fpr spk spr, bs = b :: bs' ∧ fp = b :: (fa ++ (fk ++ (fpk ++ fpr))) ∧ sp = (b, s) :: (spk ++ spr) ∧
      w.heap[b]? = some (.cells (nodeCells n cv av kv) 50 (0, 0)) ∧ sliceV cv ∧ Arr w fa av (n.args.map i64) ∧ Arr w fk kv (ks.map ptr) ∧ isP w k ks fpk (if isQ n.kind then s + 1 else s) spk ∧ isP w r bs' fpr s spr
theorem isP_of {w : World} {f : Fo} : ∀ {bs fp : List Nat} (s : Nat), isF w f bs fp → ∃ sp, isP w f bs fp s sp := by
  induction f with
  | nil => intro bs fp s h; exact ⟨[], h.1, h.2, rfl⟩
  | cons n k r ihk ihr =>
    intro bs fp s h
    obtain ⟨b, bs', cv, av, kv, ks, fa, fk, fpk, fpr, rfl, rfl, hb, hcv, haa, hkk, hfk, hfr⟩ := h
    obtain ⟨spk, h1⟩ := ihk (if isQ n.kind then s + 1 else s) hfk
    obtain ⟨spr, h2⟩ := ihr s hfr
    exact ⟨_, b, bs', cv, av, kv, ks, fa, fk, fpk, fpr, spk, spr, rfl, rfl, rfl, hb, hcv, haa, hkk, h1, h2⟩
theorem isP.toF {w : World} {f : Fo} : ∀ {bs fp : List Nat} {s : Nat} {sp : List (Nat × Nat)}, isP w f bs fp s sp → isF w f bs fp := by
  induction f with
  | nil => intro bs fp s sp h; exact ⟨h.1, h.2.1⟩
  | cons n k r ihk ihr =>
    rintro bs fp s sp ⟨b, bs', cv, av, kv, ks, fa, fk, fpk, fpr, spk, spr, rfl, rfl, rfl, hb, hcv, haa, hkk, hfk, hfr⟩
    exact ⟨b, bs', cv, av, kv, ks, fa, fk, fpk, fpr, rfl, rfl, hb, hcv, haa, hkk, ihk hfk, ihr hfr⟩
theorem isP.ext {w w' : World} (e : Ext w w') {f : Fo} : ∀ {bs fp : List Nat} {s : Nat} {sp : List (Nat × Nat)}, isP w f bs fp s sp → isP w' f bs fp s sp := by
  induction f with
  | nil => intro bs fp s sp h; exact h
  | cons n k r ihk ihr =>
    rintro bs fp s sp ⟨b, bs', cv, av, kv, ks, fa, fk, fpk, fpr, spk, spr, rfl, rfl, rfl, hb, hcv, haa, hkk, hfk, hfr⟩
    exact ⟨b, bs', cv, av, kv, ks, fa, fk, fpk, fpr, spk, spr, rfl, rfl, rfl, e.block hb, hcv, haa.ext e, hkk.ext e, ihk hfk, ihr hfr⟩
theorem isP.len {w : World} {f : Fo} : ∀ {bs fp : List Nat} {s : Nat} {sp : List (Nat × Nat)}, isP w f bs fp s sp → sp.length = f.count := by
  induction f with
  | nil => rintro bs fp s sp ⟨-, -, rfl⟩; rfl
  | cons n k r ihk ihr =>
    rintro bs fp s sp ⟨b, bs', cv, av, kv, ks, fa, fk, fpk, fpr, spk, spr, rfl, rfl, rfl, hb, hcv, haa, hkk, hfk, hfr⟩
    simp [Fo.count, ihk hfk, ihr hfr]
theorem innerN_len (n : Nd) (G : List Int) : (innerN n G).length = if isQ n.kind then G.length + 1 else G.length := by
  unfold innerN
  split <;> simp_all
/-- A part. -/
theorem isP.get {w : World} {f : Fo} : ∀ {bs fp : List Nat} {G : List Int} {sp : List (Nat × Nat)}, isP w f bs fp G.length sp → ∀ {i b s : Nat}, sp[i]? = some (b, s) →
    ∃ n k G' fpi, (f.spots G)[i]? = some ((n, k), G') ∧ s = G'.length ∧ isF w (Fo.one n k) [b] fpi ∧ (∀ x ∈ fpi, x ∈ fp) ∧ b ∈ fpi := by
  induction f with
  | nil => rintro bs fp G sp ⟨-, -, rfl⟩ i b s h; simp at h
  | cons n k r ihk ihr =>
    rintro bs fp G sp ⟨b0, bs', cv, av, kv, ks, fa, fk, fpk, fpr, spk, spr, rfl, rfl, rfl, hb, hcv, haa, hkk, hfk, hfr⟩ i b s h
    cases i with
    | zero =>
      simp only [List.getElem?_cons_zero, Option.some.injEq, Prod.mk.injEq] at h
      obtain ⟨rfl, rfl⟩ := h
      refine ⟨n, k, G, b0 :: (fa ++ (fk ++ (fpk ++ []))), rfl, rfl, ⟨b0, [], cv, av, kv, ks, fa, fk, fpk, [], rfl, rfl, hb, hcv, haa, hkk, hfk.toF, rfl, rfl⟩, fun x hx => ?_, by simp⟩
      simp only [List.mem_cons, List.mem_append, List.not_mem_nil, or_false] at hx ⊢
      grind
    | succ i =>
      simp only [List.getElem?_cons_succ] at h
      simp only [Fo.spots, List.getElem?_cons_succ]
      have hlk := hfk.len
      rw [← innerN_len] at hfk
      by_cases hi : i < k.count
      · rw [List.getElem?_append_left (by omega)] at h
        obtain ⟨n', k', G', fpi, h1, h2, h3, h4, h5⟩ := ihk hfk h
        refine ⟨n', k', G', fpi, ?_, h2, h3, fun x hx => by have := h4 x hx; simp [this], h5⟩
        rw [List.getElem?_append_left (by rw [Fo.spots_len]; exact hi)]
        exact h1
      · rw [List.getElem?_append_right (by omega)] at h
        obtain ⟨n', k', G', fpi, h1, h2, h3, h4, h5⟩ := ihr hfr h
        refine ⟨n', k', G', fpi, ?_, h2, h3, fun x hx => by have := h4 x hx; simp [this], h5⟩
        rw [List.getElem?_append_right (by rw [Fo.spots_len]; omega), Fo.spots_len, ← hlk]
        exact h1
theorem isP.mem {w : World} {f : Fo} : ∀ {bs fp : List Nat} {s0 : Nat} {sp : List (Nat × Nat)}, isP w f bs fp s0 sp → ∀ {i b s : Nat}, sp[i]? = some (b, s) → b ∈ fp := by
  induction f with
  | nil => rintro bs fp s0 sp ⟨-, -, rfl⟩ i b s h; simp at h
  | cons n k r ihk ihr =>
    rintro bs fp s0 sp ⟨b0, bs', cv, av, kv, ks, fa, fk, fpk, fpr, spk, spr, rfl, rfl, rfl, hb, hcv, haa, hkk, hfk, hfr⟩ i b s h
    cases i with
    | zero =>
      simp only [List.getElem?_cons_zero, Option.some.injEq, Prod.mk.injEq] at h
      obtain ⟨rfl, rfl⟩ := h
      simp
    | succ i =>
      simp only [List.getElem?_cons_succ] at h
      by_cases hi : i < spk.length
      · rw [List.getElem?_append_left hi] at h
        have := ihk hfk h
        simp [this]
      · rw [List.getElem?_append_right (by omega)] at h
        have := ihr hfr h
        simp [this]

/-- Another tree in a part's place: its root is written over the part's. -/
theorem isP.repl {w w' : World} {n' : Nd} {k' : Fo} {b : Nat} {cv' av' kv' : Value} {ks' fa' fk' fpk' : List Nat} (hb' : w'.heap[b]? = some (.cells (nodeCells n' cv' av' kv') 50 (0, 0))) (hcv' : sliceV cv') (haa' : Arr w' fa' av' (n'.args.map i64)) (hkk' : Arr w' fk' kv' (ks'.map ptr)) (hfk' : isF w' k' ks' fpk')
    {f : Fo} : ∀ {bs fp : List Nat} {s0 : Nat} {sp : List (Nat × Nat)}, isP w f bs fp s0 sp → fp.Nodup → (∀ x ∈ fp, x ≠ b → w'.heap[x]? = w.heap[x]?) → ∀ {i s : Nat}, sp[i]? = some (b, s) →
    ∃ fp'', isF w' (Fo.repl i n' k' f) bs fp'' ∧ ∀ x ∈ fp'', x ∈ fp ∨ x ∈ fa' ++ (fk' ++ fpk') := by
  induction f with
  | nil => rintro bs fp s0 sp ⟨-, -, rfl⟩ _ _ i s h; simp at h
  | cons n k r ihk ihr =>
    rintro bs fp s0 sp ⟨b0, bs', cv, av, kv, ks, fa, fk, fpk, fpr, spk, spr, rfl, rfl, rfl, hb, hcv, haa, hkk, hfk, hfr⟩ hnd hkeep i s h
    have hnd1 := hnd
    simp only [List.nodup_cons, List.nodup_append, List.mem_append] at hnd1
    cases i with
    | zero =>
      simp only [List.getElem?_cons_zero, Option.some.injEq, Prod.mk.injEq] at h
      obtain ⟨rfl, rfl⟩ := h
      have hr : isF w' r bs' fpr := hfr.toF.kept fun x hx => hkeep x (by simp [hx]) (fun e => hnd1.1 (by subst e; simp [hx]))
      refine ⟨b0 :: (fa' ++ (fk' ++ (fpk' ++ fpr))), ?_, fun x hx => ?_⟩
      · show isF w' (.cons n' k' r) _ _
        exact ⟨b0, bs', cv', av', kv', ks', fa', fk', fpk', fpr, rfl, rfl, hb', hcv', haa', hkk', hfk', hr⟩
      · simp only [List.mem_cons, List.mem_append] at hx ⊢
        grind
    | succ i =>
      simp only [List.getElem?_cons_succ] at h
      have hlk := hfk.len
      simp only [Fo.repl]
      rw [if_neg (by omega)]
      by_cases hi : i < k.count
      · rw [if_pos (by omega)]
        rw [List.getElem?_append_left (by omega)] at h
        have hm := hfk.mem h
        obtain ⟨fp2, h1, h2⟩ := ihk hfk (by grind) (fun x hx hne => hkeep x (by simp [hx]) hne) h
        rw [Nat.add_sub_cancel]
        have hne0 : b0 ≠ b := fun e => hnd1.1 (by subst e; simp [hm])
        have hfa : ∀ x ∈ fa, w'.heap[x]? = w.heap[x]? := fun x hx => hkeep x (by simp [hx]) (fun e => by subst e; grind)
        have hfkk : ∀ x ∈ fk, w'.heap[x]? = w.heap[x]? := fun x hx => hkeep x (by simp [hx]) (fun e => by subst e; grind)
        have hr : isF w' r bs' fpr := hfr.toF.kept fun x hx => hkeep x (by simp [hx]) (fun e => by subst e; grind)
        refine ⟨b0 :: (fa ++ (fk ++ (fp2 ++ fpr))), ⟨b0, bs', cv, av, kv, ks, fa, fk, fp2, fpr, rfl, rfl, (hkeep b0 (by simp) hne0).trans hb, hcv, haa.kept hfa, hkk.kept hfkk, h1, hr⟩, fun x hx => ?_⟩
        simp only [List.mem_cons, List.mem_append] at hx ⊢
        rcases hx with hx | hx | hx | hx | hx
        · exact .inl (.inl hx)
        · exact .inl (.inr (.inl hx))
        · exact .inl (.inr (.inr (.inl hx)))
        · have := h2 x hx
          simp only [List.mem_append] at this
          rcases this with h' | h'
          · exact .inl (.inr (.inr (.inr (.inl h'))))
          · exact .inr h'
        · exact .inl (.inr (.inr (.inr (.inr hx))))
      · rw [if_neg (by omega)]
        rw [List.getElem?_append_right (by omega)] at h
        have hm := hfr.mem h
        obtain ⟨fp2, h1, h2⟩ := ihr hfr (by grind) (fun x hx hne => hkeep x (by simp [hx]) hne) h
        rw [show i + 1 - 1 - k.count = i - spk.length by omega]
        have hne0 : b0 ≠ b := fun e => hnd1.1 (by subst e; simp [hm])
        have hfa : ∀ x ∈ fa, w'.heap[x]? = w.heap[x]? := fun x hx => hkeep x (by simp [hx]) (fun e => by subst e; grind)
        have hfkk : ∀ x ∈ fk, w'.heap[x]? = w.heap[x]? := fun x hx => hkeep x (by simp [hx]) (fun e => by subst e; grind)
        have hkf : isF w' k ks fpk := hfk.toF.kept fun x hx => hkeep x (by simp [hx]) (fun e => by subst e; grind)
        refine ⟨b0 :: (fa ++ (fk ++ (fpk ++ fp2))), ⟨b0, bs', cv, av, kv, ks, fa, fk, fpk, fp2, rfl, rfl, (hkeep b0 (by simp) hne0).trans hb, hcv, haa.kept hfa, hkk.kept hfkk, hkf, h1⟩, fun x hx => ?_⟩
        simp only [List.mem_cons, List.mem_append] at hx ⊢
        rcases hx with hx | hx | hx | hx | hx
        · exact .inl (.inl hx)
        · exact .inl (.inr (.inl hx))
        · exact .inl (.inr (.inr (.inl hx)))
        · exact .inl (.inr (.inr (.inr (.inl hx))))
        · have := h2 x hx
          simp only [List.mem_append] at this
          rcases this with h' | h'
          · exact .inl (.inr (.inr (.inr (.inr h'))))
          · exact .inr h'
end Go.Proofs.Ytodlkjjoenglgaa

/- wSpots. -/
namespace Go.Proofs.Ytodlkjjoenglgaa
open Go Go.RowKit

theorem info66 : (Try.prog.info? 66).map (fun i => (i.zero, i.size, i.bytes)) = some (some (.agg #[.pointer none, .int .i64 0]), 2, 16) := by kernel_rfl
theorem wpList_append_lies {P : Program} {ops : Array Oper} {rest : List Oper} {o : Oper} {a : Act} {w : World} {Q : Exit → Act → World → Prop} (hgd : o.guard = none) (s x : Operand) (t : TypeId)
    (ho : o.op = .call { callee := .builtin .append, args := #[s, x], argTypes := #[t, t] })
    (base : Nat) (e : TypeId) (i : TypeInfo) (z : Value) (size bytes : Nat) (ht : P.underlying t = some (.slice e)) (hi : P.info? e = some i) (hz : i.zero = some z)
    (hsize : i.size = size) (hby : i.bytes = bytes) (hzs : z.cells.size = size) (hsz : 0 < size)
    (v : Value) (n : Nat) (xs : List Value) (hs : a.eval s = v) (hown : w.ownsRow base e size v n xs)
    (ad : Addr) (m c : Nat) (news : List Value) (hx : a.eval x = .slice (some ad) m c) (hl : news.length = m * size) (hnews : ∀ j u, news[j]? = some u → w.cell? (ad.add j) = some u) (h1 : ∀ u ∈ news, u.oneCell' = true)
    (hm : 0 < m) (h63 : n + m ≤ maxLen) (hbytes : (n + m) * bytes ≤ 140737488355328) (hbase : base ≤ w.heap.size)
    (h : ∀ g cap w', w'.ownsRow base e size (.slice (some ⟨g, 0, none⟩) (n + m) cap) (n + m) (xs ++ news) → w.grownBy w' v.ownBlock → wpList P ops Q rest (a.put o.dst (.slice (some ⟨g, 0, none⟩) (n + m) cap)) w') : wpList P ops Q (o :: rest) a w :=
  wpList_plain hgd fun _ hK => wp_append_lies w s x t ho base e i z size bytes ht hi hz hsize hby hzs hsz v n xs hs hown ad m c news hx hl hnews h1 hm h63 hbytes hbase _ rfl fun g cap w' h2 h3 _ _ => hK _ _ (h g cap w' h2 h3)

def spCells (l : List (Nat × Nat)) : List Value := l.flatMap fun x => [ptr x.1, i64 (x.2 : Int)]
theorem spCells_snoc (l : List (Nat × Nat)) (b s : Nat) : spCells (l ++ [(b, s)]) = spCells l ++ [ptr b, i64 (s : Int)] := by simp [spCells, List.flatMap_append]
theorem spCells_len (l : List (Nat × Nat)) : (spCells l).length = l.length * 2 := by
  induction l with
  | nil => rfl
  | cons x l ih => simp [spCells] at ih ⊢; omega
theorem spCells_get : ∀ (l : List (Nat × Nat)) (i b s : Nat), l[i]? = some (b, s) → (spCells l)[i * 2]? = some (ptr b) ∧ (spCells l)[i * 2 + 1]? = some (i64 (s : Int)) := by
  intro l
  induction l with
  | nil => intro i b s h; simp at h
  | cons x l ih =>
    intro i b s h
    cases i with
    | zero => simp only [List.getElem?_cons_zero, Option.some.injEq] at h; subst h; exact ⟨rfl, rfl⟩
    | succ i =>
      have := ih i b s (by simpa using h)
      rw [show (i + 1) * 2 = i * 2 + 1 + 1 by omega]
      exact this

/-- The list of parts that is being collected; sv: the slice in block ob. -/
structure Sp (w0 W : World) (ob : Nat) (sv : Value) (l : List (Nat × Nat)) : Prop where
  ext : Ext w0 W
  cell : W.heap[ob]? = some (.cells #[sv] 61)
  low : w0.heap.size ≤ ob
  own : W.ownsRow w0.heap.size 66 2 sv l.length (spCells l)
theorem own_type {W : World} {base sz n : Nat} {e : TypeId} {sv : Value} {xs : List Value} (h : W.ownsRow base e sz sv n xs) {b : Nat} {cs : Array Value} {T : TypeId} (hc : W.heap[b]? = some (.cells cs T)) (hne : e ≠ T) : sv.ownBlock ≠ some b := by
  intro hb
  rcases h.2 with ⟨rfl, -⟩ | ⟨g, cap, cur, rfl, -, hg, -⟩
  · simp [Value.ownBlock] at hb
  · have : g = b := by simpa [Value.ownBlock] using hb
    subst this
    rw [hg] at hc
    simp only [Option.some.injEq, Obj.cells.injEq] at hc
    exact hne hc.2.1
theorem Sp.ext' {w0 W W' : World} {ob : Nat} {sv : Value} {l : List (Nat × Nat)} (h : Sp w0 W ob sv l) (e : Ext W W') : Sp w0 W' ob sv l :=
  ⟨h.ext.trans e, e.block h.cell, h.low, owns_at h.own fun g hg => Below.block e g (h.own.lt g hg).2⟩
theorem Sp.step {w0 W W1 w4 : World} {ob : Nat} {sv : Value} {l : List (Nat × Nat)} (h : Sp w0 W ob sv l) (e : Ext W W1) {b s g cap n : Nat} (hn : l.length = n) (hown : w4.ownsRow w0.heap.size 66 2 (.slice (some ⟨g, 0, none⟩) (n + 1) cap) (n + 1) (spCells l ++ [ptr b, i64 (s : Int)])) (hg : W1.grownBy w4 sv.ownBlock) :
    w4.heap[ob]? = some (.cells #[sv] 61) ∧ Sp w0 (w4.setCell ⟨ob, 0, none⟩ (.slice (some ⟨g, 0, none⟩) (n + 1) cap)) ob (.slice (some ⟨g, 0, none⟩) (n + 1) cap) (l ++ [(b, s)]) := by
  have hol := heap_lt h.cell
  have hc : w4.heap[ob]? = some (.cells #[sv] 61) := by
    rw [hg.block ob (by have := e.size; omega) (fun e' => own_type h.own h.cell (by decide) e'.symm), Below.block e ob hol]
    exact h.cell
  have hgo : g ≠ ob := fun e' => own_type hown hc (by decide) (by rw [e']; rfl)
  refine ⟨hc, ((h.ext.trans e).of_grown hg (fun k hk => (h.own.lt k hk).1)).setCell (p := ⟨ob, 0, none⟩) h.low _, heap_setCell_at _ hc, h.low, ?_⟩
  rw [List.length_append, hn, spCells_snoc]
  exact owns_at hown fun g' hg' => by
    have : g' = g := by simpa [Value.ownBlock, eq_comm] using hg'
    subst this
    exact heap_setCell_ne _ hgo

def SpotsPost (w0 : World) (ob : Nat) (l : List (Nat × Nat)) (e : Ending) (W' : World) : Prop := e = .returned (.tuple #[]) ∧ ∃ sv', Sp w0 W' ob sv' l
def SpotsAll (w0 : World) (ob : Nat) (f : Fo) : Prop :=
  ∀ G n k R, f = Fo.app G (.cons n k R) → ∀ b fp (s : Nat) sp, isP w0 (Fo.one n k) [b] fp s sp → ∀ W sv l, Sp w0 W ob sv l → l.length + k.count + 1 ≤ 1000000 → s + k.count ≤ 1000000 → Calls Try.prog 35 #[ptr b, i64 (s : Int), ptr ob] W (SpotsPost w0 ob (l ++ sp))

/-- Between two rounds: the children that are through. -/
def SpLoop (w0 : World) (ob : Nat) (k : Fo) (ks : List Nat) (s : Nat) (l spk : List (Nat × Nat)) (j : Nat) (W : World) : Prop :=
  ∃ G R gs rs fpR spG spR sv, k = Fo.app G R ∧ G.len = j ∧ ks = gs ++ rs ∧ gs.length = j ∧ spk = spG ++ spR ∧ isP w0 R rs fpR s spR ∧ Sp w0 W ob sv (l ++ spG)

set_option maxRecDepth 100000 in
set_option maxHeartbeats 4000000 in
theorem spots_plain (w0 : World) (ob : Nat) (n : Nd) (k : Fo) (b s : Nat) (cv av kv : Value) (ks fk fpk : List Nat) (spk : List (Nat × Nat)) (hb : w0.heap[b]? = some (.cells (nodeCells n cv av kv) 50 (0, 0))) (hkk : Arr w0 fk kv (ks.map ptr)) (hkd : isQ n.kind = false) (hfk : isP w0 k ks fpk s spk)
    (ih : SpotsAll w0 ob k) (W : World) (sv : Value) (l : List (Nat × Nat)) (h : Sp w0 W ob sv l) (hlen : l.length + k.count + 1 ≤ 1000000) (hs : s + k.count ≤ 1000000) :
    Calls Try.prog 35 #[ptr b, i64 (s : Int), ptr ob] W (SpotsPost w0 ob (l ++ (b, s) :: spk)) := by
  obtain ⟨i0, hi, hz0, hz1, hz2⟩ := info_parts info66
  have hbW := h.ext.block hb
  obtain ⟨ka, kcap, rfl, hk1, hk2, hk3⟩ := hkk.rd
  rw [List.length_map] at hk1
  simp only [List.length_map] at hbW
  obtain ⟨cn, hcn⟩ : ∃ n, ks.length = n := ⟨_, rfl⟩
  have hkl : k.len = cn := by rw [← hcn]; exact hfk.toF.len.symm
  rw [hcn] at hk1 hbW
  obtain ⟨kd, pd, ar, lf, rg, tp⟩ := n
  simp only at hkd
  have b7 : (kd == 7) = false := by unfold isQ at hkd; simp at hkd; simpa using hkd.1
  have b8 : (kd == 8) = false := by unfold isQ at hkd; simp at hkd; simpa using hkd.2
  clear hkd
  have f0 : W.cell? ⟨b, 0, none⟩ = some (i64 kd) := by rw [cell_of_heap hbW]; rfl
  have f7 : W.cell? ⟨b, 7, none⟩ = some (.slice ka cn kcap) := by rw [cell_of_heap hbW]; rfl
  have hbl := heap_lt hbW
  have hcell := h.cell
  have hne : b ≠ ob := fun e => by subst e; rw [hcell] at hbW; simp at hbW
  have o0 : W.cell? ⟨ob, 0, none⟩ = some sv := by rw [cell_of_heap hcell]; rfl
  have oz : W.frozen? ⟨ob, 0, none⟩ = false := free_of_heap hcell 0
  have hol := heap_lt hcell
  obtain ⟨m, hm⟩ : ∃ m, l.length = m := ⟨_, rfl⟩
  have hbase := h.ext.size
  have hown := h.own
  rw [hm] at hown hlen
  have hstep := fun W1 (e : Ext W W1) w4 g cap => @Sp.step w0 W W1 w4 ob sv l h e b s g cap m hm
  have hcn2 : cn ≤ 1000000 := by have := k.len_le_count; omega
  have HBW := Lib.hid hbW
  have HOWN := Lib.hid hown
  have HSTEP := Lib.hid hstep
  have HK3 := Lib.hid hk3
  have HCN := Lib.hid hcn
  have HKL := Lib.hid hkl
  have HF := Lib.hid hfk
  have HIH := Lib.hid ih
  have HM := Lib.hid hm
  unfold maxLen at hk2
  clear h hk3 hkl hfk ih hb hbW hkk hcell hown hstep hcn hm
  go_enter Try.func35, Try.ntmps35
  go_wp2_with (
    at_builtin
    refine wpList_append_lies rfl _ _ 61 rfl w0.heap.size 66 i0 (.agg #[.pointer none, .int .i64 0]) 2 16 Try.underlying61 hi hz0 hz1 hz2 rfl (by decide) sv m (spCells l) rfl (HOWN.out.alloc _) ⟨W.heap.size, 0, none⟩ 1 1 [ptr b, i64 (s : Int)] rfl rfl (World.news_of_block (heap_alloc_new _ _)) (by simp [Value.oneCell']) (by decide) (by unfold maxLen; omega) (by omega) (by rw [World.size_alloc]; omega) ?_
    intro g cap w4 hown hgrow
    obtain ⟨hc4, hsp4⟩ := HSTEP.out _ ((Ext.refl W).alloc _) w4 g cap hown hgrow
    have q0 : w4.cell? ⟨ob, 0, none⟩ = some sv := by rw [cell_of_heap hc4]; rfl
    have qz : w4.frozen? ⟨ob, 0, none⟩ = false := free_of_heap hc4 0
    have hb4 : w4.heap[b]? = _ := (hgrow.block b (by rw [World.size_alloc]; omega) (fun e => own_type HOWN.out HBW.out (by decide) e.symm)).trans ((heap_alloc_lt hbl).trans HBW.out)
    have f0' : w4.cell? ⟨b, 0, none⟩ = some (i64 kd) := by rw [cell_of_heap hb4]; rfl
    have f7' : w4.cell? ⟨b, 7, none⟩ = some (.slice ka cn kcap) := by rw [cell_of_heap hb4]; rfl
    have HSP4 := Lib.hid hsp4
    clear hown hgrow hc4 hsp4 hb4 f0 f7 o0 oz HSTEP HOWN
    have HL0 : Hid (SpLoop w0 ob k ks s (l ++ [(b, s)]) spk 0 (w4.setCell ⟨ob, 0, none⟩ (.slice (some ⟨g, 0, none⟩) (m + 1) cap))) := ⟨.nil, k, [], ks, fpk, [], spk, _, rfl, rfl, rfl, rfl, rfl, HF.out, by simpa using HSP4.out⟩
    clear HSP4
    )
  clear q0 qz f0' f7'
  go_loopw [39] (fun i wr => ∃ j : Nat, j ≤ cn ∧ i = .int .i64 j ∧ Hid (SpLoop w0 ob k ks s (l ++ [(b, s)]) spk j wr)) (fun i _ => cn - (intOf i).toNat)
  case atStart => exact ⟨0, Nat.zero_le _, rfl, HL0⟩
  case round =>
    obtain ⟨j, hj, rfl, HL⟩ := hrel
    clear HL0
    by_cases hlt : j < cn
    · obtain ⟨G, R, gs, rs, fpR, spG, spR, sv', hG, hGl, hks, hgl, hsp, hR, hSp⟩ := HL.out
      cases R with
      | nil =>
        exfalso
        rw [Fo.app_nil] at hG
        have := HKL.out
        rw [hG, hGl] at this
        omega
      | cons n' k' R' =>
        obtain ⟨bk, rs', cvk, avk, kvk, ksk, fak, fkk, fpkk, fprk, spkk, sprk, rfl, rfl, rfl, gb, gcv, gaa, gkk, gfk, gfr⟩ := hR
        obtain ⟨g2, off, rfl, hcell⟩ := HK3.out j (ptr bk) (by rw [hks, List.getElem?_map, List.getElem?_append_right (by omega), hgl, Nat.sub_self]; rfl)
        have e0 := hSp.ext.cell hcell
        have el := World.block_lt_of_cell? wr _ e0
        have hcnt : G.count + k'.count + 1 ≤ k.count := by rw [hG, Fo.count_app]; simp only [Fo.count]; omega
        have hspl : spG.length = G.count := by
          have h1 := HF.out.len
          have h2 := gfk.len
          have h3 := gfr.len
          rw [hsp, hG, Fo.count_app] at h1
          simp only [Fo.count, List.length_append, List.length_cons] at h1
          omega
        have hcall := HIH.out G n' k' R' hG bk _ s _ (show isP w0 (Fo.one n' k') [bk] (bk :: (fak ++ (fkk ++ (fpkk ++ [])))) s ((bk, s) :: (spkk ++ [])) from ⟨bk, [], cvk, avk, kvk, ksk, fak, fkk, fpkk, [], spkk, [], rfl, rfl, rfl, gb, gcv, gaa, gkk, gfk, rfl, rfl, rfl⟩) wr sv' _ hSp (by rw [List.length_append, List.length_append, hspl, HM.out]; simp only [List.length_singleton]; omega) (by omega)
        have HCALL := Lib.hid hcall
        have HNX := Lib.hid (fun sv2 W2 (h : Sp w0 W2 ob sv2 ((l ++ [(b, s)]) ++ spG ++ ((bk, s) :: (spkk ++ [])))) => (⟨G.app (Fo.one n' k'), R', gs ++ [bk], rs', fprk, spG ++ ((bk, s) :: spkk), sprk, sv2, by rw [Fo.app_assoc]; exact hG, by rw [Fo.len_app, hGl]; rfl, by rw [hks]; simp, by simp [hgl], by rw [hsp]; simp, gfr, by simpa using h⟩ : SpLoop w0 ob k ks s (l ++ [(b, s)]) spk (j + 1) W2))
        clear hG hGl hks hgl hsp hSp hcell gb gcv gaa gkk gfk gfr hcnt hspl hcall
        go_wp2_with fail
        refine HCALL.out.mono ?_
        rintro e w5 ⟨rfl, sv2, hsp5⟩
        have H5 := Lib.hid (HNX.out sv2 w5 hsp5)
        clear hsp5 e0 el
        go_wp2_with fail
        go_roundw
        case rel => exact ⟨j + 1, by omega, by go_num, H5⟩
        case measure => simp [intOf]; omega
    · have hfin : ∃ sv', Sp w0 wr ob sv' (l ++ (b, s) :: spk) := by
        obtain ⟨G, R, gs, rs, fpR, spG, spR, sv', hG, hGl, hks, hgl, hsp, hR, hSp⟩ := HL.out
        have hl := HKL.out
        rw [hG, Fo.len_app, hGl] at hl
        have : R = .nil := by
          cases R with
          | nil => rfl
          | cons n' k' R' => simp [Fo.len] at hl; omega
        subst this
        obtain ⟨-, -, rfl⟩ := hR
        rw [List.append_nil] at hsp
        subst hsp
        exact ⟨sv', by simpa using hSp⟩
      have HFIN := Lib.hid hfin
      clear hfin HL
      go_wp2
      exact bodyPost_end (results_none rfl _ _ _) rfl ⟨rfl, HFIN.out⟩

set_option maxRecDepth 100000 in
set_option maxHeartbeats 4000000 in
theorem spots_ex (w0 : World) (ob : Nat) (n : Nd) (k : Fo) (b s : Nat) (cv av kv : Value) (ks fk fpk : List Nat) (spk : List (Nat × Nat)) (hb : w0.heap[b]? = some (.cells (nodeCells n cv av kv) 50 (0, 0))) (hkk : Arr w0 fk kv (ks.map ptr)) (hkd : n.kind = 7) (hfk : isP w0 k ks fpk (s + 1) spk)
    (ih : SpotsAll w0 ob k) (W : World) (sv : Value) (l : List (Nat × Nat)) (h : Sp w0 W ob sv l) (hlen : l.length + k.count + 1 ≤ 1000000) (hs : s + k.count ≤ 1000000) :
    Calls Try.prog 35 #[ptr b, i64 (s : Int), ptr ob] W (SpotsPost w0 ob (l ++ (b, s) :: spk)) := by
  obtain ⟨i0, hi, hz0, hz1, hz2⟩ := info_parts info66
  have hbW := h.ext.block hb
  obtain ⟨ka, kcap, rfl, hk1, hk2, hk3⟩ := hkk.rd
  rw [List.length_map] at hk1
  simp only [List.length_map] at hbW
  obtain ⟨cn, hcn⟩ : ∃ n, ks.length = n := ⟨_, rfl⟩
  have hkl : k.len = cn := by rw [← hcn]; exact hfk.toF.len.symm
  rw [hcn] at hk1 hbW
  obtain ⟨kd, pd, ar, lf, rg, tp⟩ := n
  simp only at hkd
  subst hkd
  have f0 : W.cell? ⟨b, 0, none⟩ = some (i64 7) := by rw [cell_of_heap hbW]; rfl
  have f7 : W.cell? ⟨b, 7, none⟩ = some (.slice ka cn kcap) := by rw [cell_of_heap hbW]; rfl
  have hbl := heap_lt hbW
  have hcell := h.cell
  have hne : b ≠ ob := fun e => by subst e; rw [hcell] at hbW; simp at hbW
  have o0 : W.cell? ⟨ob, 0, none⟩ = some sv := by rw [cell_of_heap hcell]; rfl
  have oz : W.frozen? ⟨ob, 0, none⟩ = false := free_of_heap hcell 0
  have hol := heap_lt hcell
  obtain ⟨m, hm⟩ : ∃ m, l.length = m := ⟨_, rfl⟩
  have hbase := h.ext.size
  have hown := h.own
  rw [hm] at hown hlen
  have hstep := fun W1 (e : Ext W W1) w4 g cap => @Sp.step w0 W W1 w4 ob sv l h e b s g cap m hm
  have hcn2 : cn ≤ 1000000 := by have := k.len_le_count; omega
  have HBW := Lib.hid hbW
  have HOWN := Lib.hid hown
  have HSTEP := Lib.hid hstep
  have HK3 := Lib.hid hk3
  have HCN := Lib.hid hcn
  have HKL := Lib.hid hkl
  have HF := Lib.hid hfk
  have HIH := Lib.hid ih
  have HM := Lib.hid hm
  unfold maxLen at hk2
  clear h hk3 hkl hfk ih hb hbW hkk hcell hown hstep hcn hm
  go_enter Try.func35, Try.ntmps35
  go_wp2_with (
    at_builtin
    refine wpList_append_lies rfl _ _ 61 rfl w0.heap.size 66 i0 (.agg #[.pointer none, .int .i64 0]) 2 16 Try.underlying61 hi hz0 hz1 hz2 rfl (by decide) sv m (spCells l) rfl (HOWN.out.alloc _) ⟨W.heap.size, 0, none⟩ 1 1 [ptr b, i64 (s : Int)] rfl rfl (World.news_of_block (heap_alloc_new _ _)) (by simp [Value.oneCell']) (by decide) (by unfold maxLen; omega) (by omega) (by rw [World.size_alloc]; omega) ?_
    intro g cap w4 hown hgrow
    obtain ⟨hc4, hsp4⟩ := HSTEP.out _ ((Ext.refl W).alloc _) w4 g cap hown hgrow
    have q0 : w4.cell? ⟨ob, 0, none⟩ = some sv := by rw [cell_of_heap hc4]; rfl
    have qz : w4.frozen? ⟨ob, 0, none⟩ = false := free_of_heap hc4 0
    have hb4 : w4.heap[b]? = _ := (hgrow.block b (by rw [World.size_alloc]; omega) (fun e => own_type HOWN.out HBW.out (by decide) e.symm)).trans ((heap_alloc_lt hbl).trans HBW.out)
    have f0' : w4.cell? ⟨b, 0, none⟩ = some (i64 7) := by rw [cell_of_heap hb4]; rfl
    have f7' : w4.cell? ⟨b, 7, none⟩ = some (.slice ka cn kcap) := by rw [cell_of_heap hb4]; rfl
    have HSP4 := Lib.hid hsp4
    clear hown hgrow hc4 hsp4 hb4 f0 f7 o0 oz HSTEP HOWN
    have HL0 : Hid (SpLoop w0 ob k ks (s + 1) (l ++ [(b, s)]) spk 0 (w4.setCell ⟨ob, 0, none⟩ (.slice (some ⟨g, 0, none⟩) (m + 1) cap))) := ⟨.nil, k, [], ks, fpk, [], spk, _, rfl, rfl, rfl, rfl, rfl, HF.out, by simpa using HSP4.out⟩
    clear HSP4
    )
  clear q0 qz f0' f7'
  go_loopw [39] (fun i wr => ∃ j : Nat, j ≤ cn ∧ i = .int .i64 j ∧ Hid (SpLoop w0 ob k ks (s + 1) (l ++ [(b, s)]) spk j wr)) (fun i _ => cn - (intOf i).toNat)
  case atStart => exact ⟨0, Nat.zero_le _, rfl, HL0⟩
  case round =>
    obtain ⟨j, hj, rfl, HL⟩ := hrel
    clear HL0
    by_cases hlt : j < cn
    · obtain ⟨G, R, gs, rs, fpR, spG, spR, sv', hG, hGl, hks, hgl, hsp, hR, hSp⟩ := HL.out
      cases R with
      | nil =>
        exfalso
        rw [Fo.app_nil] at hG
        have := HKL.out
        rw [hG, hGl] at this
        omega
      | cons n' k' R' =>
        obtain ⟨bk, rs', cvk, avk, kvk, ksk, fak, fkk, fpkk, fprk, spkk, sprk, rfl, rfl, rfl, gb, gcv, gaa, gkk, gfk, gfr⟩ := hR
        obtain ⟨g2, off, rfl, hcell⟩ := HK3.out j (ptr bk) (by rw [hks, List.getElem?_map, List.getElem?_append_right (by omega), hgl, Nat.sub_self]; rfl)
        have e0 := hSp.ext.cell hcell
        have el := World.block_lt_of_cell? wr _ e0
        have hcnt : G.count + k'.count + 1 ≤ k.count := by rw [hG, Fo.count_app]; simp only [Fo.count]; omega
        have hspl : spG.length = G.count := by
          have h1 := HF.out.len
          have h2 := gfk.len
          have h3 := gfr.len
          rw [hsp, hG, Fo.count_app] at h1
          simp only [Fo.count, List.length_append, List.length_cons] at h1
          omega
        have hcall := HIH.out G n' k' R' hG bk _ (s + 1) _ (show isP w0 (Fo.one n' k') [bk] (bk :: (fak ++ (fkk ++ (fpkk ++ [])))) (s + 1) ((bk, (s + 1)) :: (spkk ++ [])) from ⟨bk, [], cvk, avk, kvk, ksk, fak, fkk, fpkk, [], spkk, [], rfl, rfl, rfl, gb, gcv, gaa, gkk, gfk, rfl, rfl, rfl⟩) wr sv' _ hSp (by rw [List.length_append, List.length_append, hspl, HM.out]; simp only [List.length_singleton]; omega) (by omega)
        have HCALL := Lib.hid hcall
        have HNX := Lib.hid (fun sv2 W2 (h : Sp w0 W2 ob sv2 ((l ++ [(b, s)]) ++ spG ++ ((bk, (s + 1)) :: (spkk ++ [])))) => (⟨G.app (Fo.one n' k'), R', gs ++ [bk], rs', fprk, spG ++ ((bk, (s + 1)) :: spkk), sprk, sv2, by rw [Fo.app_assoc]; exact hG, by rw [Fo.len_app, hGl]; rfl, by rw [hks]; simp, by simp [hgl], by rw [hsp]; simp, gfr, by simpa using h⟩ : SpLoop w0 ob k ks (s + 1) (l ++ [(b, s)]) spk (j + 1) W2))
        clear hG hGl hks hgl hsp hSp hcell gb gcv gaa gkk gfk gfr hcnt hspl hcall
        go_wp2_with fail
        refine HCALL.out.mono ?_
        rintro e w5 ⟨rfl, sv2, hsp5⟩
        have H5 := Lib.hid (HNX.out sv2 w5 hsp5)
        clear hsp5 e0 el
        go_wp2_with fail
        go_roundw
        case rel => exact ⟨j + 1, by omega, by go_num, H5⟩
        case measure => simp [intOf]; omega
    · have hfin : ∃ sv', Sp w0 wr ob sv' (l ++ (b, s) :: spk) := by
        obtain ⟨G, R, gs, rs, fpR, spG, spR, sv', hG, hGl, hks, hgl, hsp, hR, hSp⟩ := HL.out
        have hl := HKL.out
        rw [hG, Fo.len_app, hGl] at hl
        have : R = .nil := by
          cases R with
          | nil => rfl
          | cons n' k' R' => simp [Fo.len] at hl; omega
        subst this
        obtain ⟨-, -, rfl⟩ := hR
        rw [List.append_nil] at hsp
        subst hsp
        exact ⟨sv', by simpa using hSp⟩
      have HFIN := Lib.hid hfin
      clear hfin HL
      go_wp2
      exact bodyPost_end (results_none rfl _ _ _) rfl ⟨rfl, HFIN.out⟩

set_option maxRecDepth 100000 in
set_option maxHeartbeats 4000000 in
theorem spots_all (w0 : World) (ob : Nat) (n : Nd) (k : Fo) (b s : Nat) (cv av kv : Value) (ks fk fpk : List Nat) (spk : List (Nat × Nat)) (hb : w0.heap[b]? = some (.cells (nodeCells n cv av kv) 50 (0, 0))) (hkk : Arr w0 fk kv (ks.map ptr)) (hkd : n.kind = 8) (hfk : isP w0 k ks fpk (s + 1) spk)
    (ih : SpotsAll w0 ob k) (W : World) (sv : Value) (l : List (Nat × Nat)) (h : Sp w0 W ob sv l) (hlen : l.length + k.count + 1 ≤ 1000000) (hs : s + k.count ≤ 1000000) :
    Calls Try.prog 35 #[ptr b, i64 (s : Int), ptr ob] W (SpotsPost w0 ob (l ++ (b, s) :: spk)) := by
  obtain ⟨i0, hi, hz0, hz1, hz2⟩ := info_parts info66
  have hbW := h.ext.block hb
  obtain ⟨ka, kcap, rfl, hk1, hk2, hk3⟩ := hkk.rd
  rw [List.length_map] at hk1
  simp only [List.length_map] at hbW
  obtain ⟨cn, hcn⟩ : ∃ n, ks.length = n := ⟨_, rfl⟩
  have hkl : k.len = cn := by rw [← hcn]; exact hfk.toF.len.symm
  rw [hcn] at hk1 hbW
  obtain ⟨kd, pd, ar, lf, rg, tp⟩ := n
  simp only at hkd
  subst hkd
  have f0 : W.cell? ⟨b, 0, none⟩ = some (i64 8) := by rw [cell_of_heap hbW]; rfl
  have f7 : W.cell? ⟨b, 7, none⟩ = some (.slice ka cn kcap) := by rw [cell_of_heap hbW]; rfl
  have hbl := heap_lt hbW
  have hcell := h.cell
  have hne : b ≠ ob := fun e => by subst e; rw [hcell] at hbW; simp at hbW
  have o0 : W.cell? ⟨ob, 0, none⟩ = some sv := by rw [cell_of_heap hcell]; rfl
  have oz : W.frozen? ⟨ob, 0, none⟩ = false := free_of_heap hcell 0
  have hol := heap_lt hcell
  obtain ⟨m, hm⟩ : ∃ m, l.length = m := ⟨_, rfl⟩
  have hbase := h.ext.size
  have hown := h.own
  rw [hm] at hown hlen
  have hstep := fun W1 (e : Ext W W1) w4 g cap => @Sp.step w0 W W1 w4 ob sv l h e b s g cap m hm
  have hcn2 : cn ≤ 1000000 := by have := k.len_le_count; omega
  have HBW := Lib.hid hbW
  have HOWN := Lib.hid hown
  have HSTEP := Lib.hid hstep
  have HK3 := Lib.hid hk3
  have HCN := Lib.hid hcn
  have HKL := Lib.hid hkl
  have HF := Lib.hid hfk
  have HIH := Lib.hid ih
  have HM := Lib.hid hm
  unfold maxLen at hk2
  clear h hk3 hkl hfk ih hb hbW hkk hcell hown hstep hcn hm
  go_enter Try.func35, Try.ntmps35
  go_wp2_with (
    at_builtin
    refine wpList_append_lies rfl _ _ 61 rfl w0.heap.size 66 i0 (.agg #[.pointer none, .int .i64 0]) 2 16 Try.underlying61 hi hz0 hz1 hz2 rfl (by decide) sv m (spCells l) rfl (HOWN.out.alloc _) ⟨W.heap.size, 0, none⟩ 1 1 [ptr b, i64 (s : Int)] rfl rfl (World.news_of_block (heap_alloc_new _ _)) (by simp [Value.oneCell']) (by decide) (by unfold maxLen; omega) (by omega) (by rw [World.size_alloc]; omega) ?_
    intro g cap w4 hown hgrow
    obtain ⟨hc4, hsp4⟩ := HSTEP.out _ ((Ext.refl W).alloc _) w4 g cap hown hgrow
    have q0 : w4.cell? ⟨ob, 0, none⟩ = some sv := by rw [cell_of_heap hc4]; rfl
    have qz : w4.frozen? ⟨ob, 0, none⟩ = false := free_of_heap hc4 0
    have hb4 : w4.heap[b]? = _ := (hgrow.block b (by rw [World.size_alloc]; omega) (fun e => own_type HOWN.out HBW.out (by decide) e.symm)).trans ((heap_alloc_lt hbl).trans HBW.out)
    have f0' : w4.cell? ⟨b, 0, none⟩ = some (i64 8) := by rw [cell_of_heap hb4]; rfl
    have f7' : w4.cell? ⟨b, 7, none⟩ = some (.slice ka cn kcap) := by rw [cell_of_heap hb4]; rfl
    have HSP4 := Lib.hid hsp4
    clear hown hgrow hc4 hsp4 hb4 f0 f7 o0 oz HSTEP HOWN
    have HL0 : Hid (SpLoop w0 ob k ks (s + 1) (l ++ [(b, s)]) spk 0 (w4.setCell ⟨ob, 0, none⟩ (.slice (some ⟨g, 0, none⟩) (m + 1) cap))) := ⟨.nil, k, [], ks, fpk, [], spk, _, rfl, rfl, rfl, rfl, rfl, HF.out, by simpa using HSP4.out⟩
    clear HSP4
    )
  clear q0 qz f0' f7'
  go_loopw [39] (fun i wr => ∃ j : Nat, j ≤ cn ∧ i = .int .i64 j ∧ Hid (SpLoop w0 ob k ks (s + 1) (l ++ [(b, s)]) spk j wr)) (fun i _ => cn - (intOf i).toNat)
  case atStart => exact ⟨0, Nat.zero_le _, rfl, HL0⟩
  case round =>
    obtain ⟨j, hj, rfl, HL⟩ := hrel
    clear HL0
    by_cases hlt : j < cn
    · obtain ⟨G, R, gs, rs, fpR, spG, spR, sv', hG, hGl, hks, hgl, hsp, hR, hSp⟩ := HL.out
      cases R with
      | nil =>
        exfalso
        rw [Fo.app_nil] at hG
        have := HKL.out
        rw [hG, hGl] at this
        omega
      | cons n' k' R' =>
        obtain ⟨bk, rs', cvk, avk, kvk, ksk, fak, fkk, fpkk, fprk, spkk, sprk, rfl, rfl, rfl, gb, gcv, gaa, gkk, gfk, gfr⟩ := hR
        obtain ⟨g2, off, rfl, hcell⟩ := HK3.out j (ptr bk) (by rw [hks, List.getElem?_map, List.getElem?_append_right (by omega), hgl, Nat.sub_self]; rfl)
        have e0 := hSp.ext.cell hcell
        have el := World.block_lt_of_cell? wr _ e0
        have hcnt : G.count + k'.count + 1 ≤ k.count := by rw [hG, Fo.count_app]; simp only [Fo.count]; omega
        have hspl : spG.length = G.count := by
          have h1 := HF.out.len
          have h2 := gfk.len
          have h3 := gfr.len
          rw [hsp, hG, Fo.count_app] at h1
          simp only [Fo.count, List.length_append, List.length_cons] at h1
          omega
        have hcall := HIH.out G n' k' R' hG bk _ (s + 1) _ (show isP w0 (Fo.one n' k') [bk] (bk :: (fak ++ (fkk ++ (fpkk ++ [])))) (s + 1) ((bk, (s + 1)) :: (spkk ++ [])) from ⟨bk, [], cvk, avk, kvk, ksk, fak, fkk, fpkk, [], spkk, [], rfl, rfl, rfl, gb, gcv, gaa, gkk, gfk, rfl, rfl, rfl⟩) wr sv' _ hSp (by rw [List.length_append, List.length_append, hspl, HM.out]; simp only [List.length_singleton]; omega) (by omega)
        have HCALL := Lib.hid hcall
        have HNX := Lib.hid (fun sv2 W2 (h : Sp w0 W2 ob sv2 ((l ++ [(b, s)]) ++ spG ++ ((bk, (s + 1)) :: (spkk ++ [])))) => (⟨G.app (Fo.one n' k'), R', gs ++ [bk], rs', fprk, spG ++ ((bk, (s + 1)) :: spkk), sprk, sv2, by rw [Fo.app_assoc]; exact hG, by rw [Fo.len_app, hGl]; rfl, by rw [hks]; simp, by simp [hgl], by rw [hsp]; simp, gfr, by simpa using h⟩ : SpLoop w0 ob k ks (s + 1) (l ++ [(b, s)]) spk (j + 1) W2))
        clear hG hGl hks hgl hsp hSp hcell gb gcv gaa gkk gfk gfr hcnt hspl hcall
        go_wp2_with fail
        refine HCALL.out.mono ?_
        rintro e w5 ⟨rfl, sv2, hsp5⟩
        have H5 := Lib.hid (HNX.out sv2 w5 hsp5)
        clear hsp5 e0 el
        go_wp2_with fail
        go_roundw
        case rel => exact ⟨j + 1, by omega, by go_num, H5⟩
        case measure => simp [intOf]; omega
    · have hfin : ∃ sv', Sp w0 wr ob sv' (l ++ (b, s) :: spk) := by
        obtain ⟨G, R, gs, rs, fpR, spG, spR, sv', hG, hGl, hks, hgl, hsp, hR, hSp⟩ := HL.out
        have hl := HKL.out
        rw [hG, Fo.len_app, hGl] at hl
        have : R = .nil := by
          cases R with
          | nil => rfl
          | cons n' k' R' => simp [Fo.len] at hl; omega
        subst this
        obtain ⟨-, -, rfl⟩ := hR
        rw [List.append_nil] at hsp
        subst hsp
        exact ⟨sv', by simpa using hSp⟩
      have HFIN := Lib.hid hfin
      clear hfin HL
      go_wp2
      exact bodyPost_end (results_none rfl _ _ _) rfl ⟨rfl, HFIN.out⟩

theorem spots_forest (w0 : World) (ob : Nat) (f : Fo) : SpotsAll w0 ob f := by
  induction f with
  | nil => intro G n k R h; cases G <;> cases h
  | cons m q r ihq ihr =>
    intro G n k R hG b fp s sp hP W sv l hS hl hs
    cases G with
    | nil =>
      simp only [Fo.app, Fo.cons.injEq] at hG
      obtain ⟨rfl, rfl, rfl⟩ := hG
      obtain ⟨b0, bs', cv, av, kv, ks, fa, fk, fpk, fpr, spk, spr, hbs, rfl, rfl, hb, hcv, haa, hkk, hfk, hfr⟩ := hP
      obtain ⟨rfl, rfl⟩ := List.cons.inj hbs
      obtain ⟨-, -, rfl⟩ := hfr
      rw [List.append_nil]
      by_cases hq : isQ m.kind = true
      · rw [if_pos hq] at hfk
        have hk : m.kind = 7 ∨ m.kind = 8 := by unfold isQ at hq; simpa using hq
        rcases hk with h | h
        · exact spots_ex w0 ob m q b s cv av kv ks fk fpk spk hb hkk h hfk ihq W sv l hS hl hs
        · exact spots_all w0 ob m q b s cv av kv ks fk fpk spk hb hkk h hfk ihq W sv l hS hl hs
      · have hq : isQ m.kind = false := by simpa using hq
        rw [hq] at hfk
        exact spots_plain w0 ob m q b s cv av kv ks fk fpk spk hb hkk hq hfk ihq W sv l hS hl hs
    | cons n0 k0 G =>
      simp only [Fo.app, Fo.cons.injEq] at hG
      obtain ⟨rfl, rfl, rfl⟩ := hG
      exact ihr G n k R rfl b fp s sp hP W sv l hS hl hs
theorem spots_root {w0 : World} {ob : Nat} {n : Nd} {k : Fo} {b s : Nat} {fp : List Nat} {sp : List (Nat × Nat)} (hP : isP w0 (Fo.one n k) [b] fp s sp) (W : World) (sv : Value) (hS : Sp w0 W ob sv []) (hl : k.count + 1 ≤ 1000000) (hs : s + k.count ≤ 1000000) :
    Calls Try.prog 35 #[ptr b, i64 (s : Int), ptr ob] W (SpotsPost w0 ob sp) := by
  have := spots_forest w0 ob (Fo.one n k) .nil n k .nil rfl b fp s sp hP W sv [] hS (by simpa using hl) hs
  simpa using this
end Go.Proofs.Ytodlkjjoenglgaa

/- wChange: what 'by' must do, what wChange's function does. -/
namespace Go.Proofs.Ytodlkjjoenglgaa
open Go Go.RowKit

/-- The world has grown, but for some blocks. -/
structure Ext1 (X : List Nat) (w w' : World) : Prop where
  os : w'.os = w.os
  tape : w'.tape = w.tape
  output : w'.output = w.output
  size : w.heap.size ≤ w'.heap.size
  block : ∀ x, x < w.heap.size → x ∉ X → w'.heap[x]? = w.heap[x]?
theorem Ext1.of {w w' : World} (e : Ext w w') (X : List Nat) : Ext1 X w w' := ⟨e.os, e.tape, e.output, e.size, fun x hx _ => Below.block e x hx⟩
theorem Ext1.ext {X : List Nat} {a w w' : World} (h : Ext1 X w w') (e : Ext a w) (hX : ∀ x ∈ X, a.heap.size ≤ x) : Ext a w' :=
  ⟨h.os.trans e.os, h.tape.trans e.tape, h.output.trans e.output, Nat.le_trans e.size h.size, fun x hx => (h.block x (Nat.lt_of_lt_of_le hx e.size) (fun hm => by have := hX x hm; omega)).trans (Below.block e x hx)⟩
theorem Ext1.trans {X : List Nat} {a b c : World} (h : Ext1 X a b) (k : Ext1 X b c) : Ext1 X a c :=
  ⟨k.os.trans h.os, k.tape.trans h.tape, k.output.trans h.output, Nat.le_trans h.size k.size, fun x hx hm => (k.block x (Nat.lt_of_lt_of_le hx h.size) hm).trans (h.block x hx hm)⟩
theorem Ext1.then {X : List Nat} {a b c : World} (h : Ext1 X a b) (k : Ext b c) : Ext1 X a c := h.trans (Ext1.of k X)
theorem Ext1.setCell {X : List Nat} {a b : World} (h : Ext1 X a b) {p : Addr} (hp : p.block ∈ X ∨ a.heap.size ≤ p.block) (u : Value) : Ext1 X a (b.setCell p u) :=
  ⟨h.os, h.tape, h.output, by simp; exact h.size, fun x hx hm => (heap_setCell_ne u (fun e => by subst e; rcases hp with hp | hp; exact hm hp; omega)).trans (h.block x hx hm)⟩

/-- What 'by' does with a tree that is given to it. -/
def ByPost (D : Dom) (atoms : List AtD) (can : Bool) (W : World) (G : List Int) (n : Nd) (k : Fo) (fp : List Nat) (e : Ending) (W' : World) : Prop :=
  Ext1 fp W W' ∧ ((can = false ∧ e = .returned (.pointer none)) ∨ (can = true ∧ ∃ b' n' k' fp', e = .returned (ptr b') ∧ isF W' (Fo.one n' k') [b'] fp' ∧ (∀ x ∈ fp', x ∈ fp ∨ W.heap.size ≤ x) ∧ Same D atoms G n k n' k' ∧ (Fo.one n' k').count ≤ 2000 ∧ (Fo.one n' k').ArgsLe))
structure ByOK (w : World) (D : Dom) (atoms : List AtD) (f : FuncId) (cpt : Array Value) (can : List Int → Nd → Fo → Bool) : Prop where
  ent : EntersF f
  run : ∀ W, Ext w W → ∀ G n k b fp, Tr W w.heap.size n k b fp → OkF D G (Fo.one n k) → (Fo.one n k).Shaped → (Fo.one n k).count ≤ 30 → (Fo.one n k).ArgsLe → G.length ≤ 100 →
    Calls Try.prog f (#[ptr b, i64 (G.length : Int)] ++ cpt) W (ByPost D atoms (can G n k) W G n k fp)
theorem ByOK.ext {w w' : World} {D : Dom} {atoms : List AtD} {f : FuncId} {cpt : Array Value} {can : List Int → Nd → Fo → Bool} (h : ByOK w D atoms f cpt can) (e : Ext w w') : ByOK w' D atoms f cpt can :=
  ⟨h.ent, fun W hW G n k b fp ht => h.run W (e.trans hW) G n k b fp ⟨ht.tree, ht.nd, fun x hx => Nat.le_trans e.size (ht.new x hx)⟩⟩

theorem repl_count (i : Nat) (n' : Nd) (k' f : Fo) : (Fo.repl i n' k' f).count ≤ f.count + (Fo.one n' k').count := by
  induction f generalizing i with
  | nil => simp [Fo.repl, Fo.count]
  | cons n k r ihk ihr =>
    simp only [Fo.repl]
    rw [Fo.count_one] at *
    split
    · simp only [Fo.count]; omega
    · split
      · have := ihk (i - 1); simp only [Fo.count]; omega
      · have := ihr (i - 1 - k.count); simp only [Fo.count]; omega
theorem repl_args (i : Nat) (n' : Nd) (k' f : Fo) (h : f.ArgsLe) (h' : (Fo.one n' k').ArgsLe) : (Fo.repl i n' k' f).ArgsLe := by
  induction f generalizing i with
  | nil => trivial
  | cons n k r ihk ihr =>
    obtain ⟨h1, h2, h3⟩ := h
    obtain ⟨g1, g2, -⟩ := h'
    simp only [Fo.repl]
    split
    · exact ⟨g1, g2, h3⟩
    · split
      · exact ⟨h1, ihk _ h2, h3⟩
      · exact ⟨h1, h2, ihr _ h3⟩
theorem spots_args {f : Fo} : ∀ {G : List Int} {n : Nd} {k : Fo} {G' : List Int}, ((n, k), G') ∈ f.spots G → f.ArgsLe → (Fo.one n k).ArgsLe ∧ (Fo.one n k).count ≤ f.count ∧ G'.length ≤ G.length + f.count := by
  induction f with
  | nil => intro G n k G' h; simp [Fo.spots] at h
  | cons m q r ihq ihr =>
    intro G n k G' h ha
    obtain ⟨a1, a2, a3⟩ := ha
    simp only [Fo.spots, List.mem_cons, List.mem_append] at h
    simp only [Fo.count]
    rcases h with h | h | h
    · obtain ⟨⟨rfl, rfl⟩, rfl⟩ := by simpa using h
      exact ⟨⟨a1, a2, trivial⟩, by rw [Fo.count_one]; omega, by omega⟩
    · obtain ⟨h1, h2, h3⟩ := ihq h a2
      rw [innerN_len] at h3
      exact ⟨h1, by omega, by split at h3 <;> omega⟩
    · obtain ⟨h1, h2, h3⟩ := ihr h a3
      exact ⟨h1, by omega, by omega⟩

/-- What wChange's function does with the tree. -/
def ChangePost (w : World) (D : Dom) (atoms : List AtD) (ts : List Int) (n : Nd) (k : Fo) (b : Nat) (e : Ending) (W' : World) : Prop :=
  Ext w W' ∧ (e = .returned (.bool false) ∨ (e = .returned (.bool true) ∧ ∃ n' k' fp', isF W' (Fo.one n' k') [b] fp' ∧ (∀ x ∈ fp', w.heap.size ≤ x) ∧ Same D atoms ts n k n' k' ∧ (Fo.one n' k').count ≤ 2100 ∧ (Fo.one n' k').ArgsLe))
/-- The parts that can be changed. -/
def CanL (can : List Int → Nd → Fo → Bool) (ts : List Int) (n : Nd) (k : Fo) (sp l : List (Nat × Nat)) : Prop :=
  ∀ b s, (b, s) ∈ l → ∃ (i : Nat) (n' : Nd) (k' : Fo) (G' : List Int), sp[i]? = some (b, s) ∧ ((Fo.one n k).spots ts)[i]? = some ((n', k'), G') ∧ s = G'.length ∧ can G' n' k' = true
theorem change_fin {D : Dom} {atoms : List AtD} {ts : List Int} {n n2 : Nd} {k k2 : Fo} {i : Nat} {n' : Nd} {k' : Fo} {G' : List Int} (hi : ((Fo.one n k).spots ts)[i]? = some ((n', k'), G')) (hs : (Fo.one n k).Shaped) (ho : OkF D ts (Fo.one n k)) (hsame : Same D atoms G' n' k' n2 k2) :
    ∃ n3 k3, Fo.repl i n2 k2 (Fo.one n k) = Fo.one n3 k3 ∧ Same D atoms ts n k n3 k3 := by
  obtain ⟨n3, k3, h⟩ := one_of_len (f := Fo.repl i n2 k2 (Fo.one n k)) (by rw [Fo.repl_len]; rfl)
  obtain ⟨h1, h2, h3⟩ := repl_same D atoms n2 k2 (Fo.one n k) i ts n' k' G' hi hs ho (fun _ _ => hsame)
  rw [h] at h1 h2 h3
  refine ⟨n3, k3, h, h1, h2, fun ps he => ?_⟩
  have := h3 ps he
  simpa [Fo.one, evF] using this
end Go.Proofs.Ytodlkjjoenglgaa

/- wChange, walked. -/
namespace Go.Proofs.Ytodlkjjoenglgaa
open Go Go.RowKit

theorem copy_tr {n : Nd} {k : Fo} (hc : (Fo.one n k).count ≤ 1000000) (ha : (Fo.one n k).ArgsLe) (W : World) (b : Nat) (fp : List Nat) (h : isF W (Fo.one n k) [b] fp) : Calls Try.prog 19 #[ptr b] W fun e W' => ∃ b' fp', e = .returned (ptr b') ∧ Ext W W' ∧ Tr W' W.heap.size n k b' fp' := by
  refine (copy_one n k hc ha W b fp h).mono ?_
  rintro e W' ⟨b', fp', h1, h2, h3, h4, h5⟩
  exact ⟨b', fp', h1, h2, h3, h4, h5⟩
theorem eight_facts {w : World} {b : Nat} {c0 c1 c2 c3 c4 c5 c6 c7 : Value} {T : TypeId} (h : w.heap[b]? = some (.cells #[c0, c1, c2, c3, c4, c5, c6, c7] T)) :
    w.cell? ⟨b, 0, none⟩ = some c0 ∧ w.cell? ⟨b, 1, none⟩ = some c1 ∧ w.cell? ⟨b, 2, none⟩ = some c2 ∧ w.cell? ⟨b, 3, none⟩ = some c3 ∧ w.cell? ⟨b, 4, none⟩ = some c4 ∧ w.cell? ⟨b, 5, none⟩ = some c5 ∧ w.cell? ⟨b, 6, none⟩ = some c6 ∧ w.cell? ⟨b, 7, none⟩ = some c7 ∧ b < w.heap.size :=
  ⟨by rw [cell_of_heap h]; rfl, by rw [cell_of_heap h]; rfl, by rw [cell_of_heap h]; rfl, by rw [cell_of_heap h]; rfl, by rw [cell_of_heap h]; rfl, by rw [cell_of_heap h]; rfl, by rw [cell_of_heap h]; rfl, by rw [cell_of_heap h]; rfl, heap_lt h⟩

theorem heap_eight {w : World} {b : Nat} {c0 c1 c2 c3 c4 c5 c6 c7 : Value} {T : TypeId} (v0 v1 v2 v3 v4 v5 v6 v7 : Value) (h : w.heap[b]? = some (.cells #[c0, c1, c2, c3, c4, c5, c6, c7] T)) :
    ((((((((w.setCell ⟨b, 0, none⟩ v0).setCell ⟨b, 1, none⟩ v1).setCell ⟨b, 2, none⟩ v2).setCell ⟨b, 3, none⟩ v3).setCell ⟨b, 4, none⟩ v4).setCell ⟨b, 5, none⟩ v5).setCell ⟨b, 6, none⟩ v6).setCell ⟨b, 7, none⟩ v7).heap[b]? = some (.cells #[v0, v1, v2, v3, v4, v5, v6, v7] T) := by
  have h := (heap_setCell_at (j := 0) v0 h).trans (show _ = some (Obj.cells #[v0, c1, c2, c3, c4, c5, c6, c7] T) from rfl)
  have h := (heap_setCell_at (j := 1) v1 h).trans (show _ = some (Obj.cells #[v0, v1, c2, c3, c4, c5, c6, c7] T) from rfl)
  have h := (heap_setCell_at (j := 2) v2 h).trans (show _ = some (Obj.cells #[v0, v1, v2, c3, c4, c5, c6, c7] T) from rfl)
  have h := (heap_setCell_at (j := 3) v3 h).trans (show _ = some (Obj.cells #[v0, v1, v2, v3, c4, c5, c6, c7] T) from rfl)
  have h := (heap_setCell_at (j := 4) v4 h).trans (show _ = some (Obj.cells #[v0, v1, v2, v3, v4, c5, c6, c7] T) from rfl)
  have h := (heap_setCell_at (j := 5) v5 h).trans (show _ = some (Obj.cells #[v0, v1, v2, v3, v4, v5, c6, c7] T) from rfl)
  have h := (heap_setCell_at (j := 6) v6 h).trans (show _ = some (Obj.cells #[v0, v1, v2, v3, v4, v5, v6, c7] T) from rfl)
  have h := (heap_setCell_at (j := 7) v7 h).trans (show _ = some (Obj.cells #[v0, v1, v2, v3, v4, v5, v6, v7] T) from rfl)
  exact h
theorem heap_eight_ne {w : World} {b x : Nat} (v0 v1 v2 v3 v4 v5 v6 v7 : Value) (h : x ≠ b) : ((((((((w.setCell ⟨b, 0, none⟩ v0).setCell ⟨b, 1, none⟩ v1).setCell ⟨b, 2, none⟩ v2).setCell ⟨b, 3, none⟩ v3).setCell ⟨b, 4, none⟩ v4).setCell ⟨b, 5, none⟩ v5).setCell ⟨b, 6, none⟩ v6).setCell ⟨b, 7, none⟩ v7).heap[x]? = w.heap[x]? := by
  rw [heap_setCell_ne _ h, heap_setCell_ne _ h, heap_setCell_ne _ h, heap_setCell_ne _ h, heap_setCell_ne _ h, heap_setCell_ne _ h, heap_setCell_ne _ h, heap_setCell_ne _ h]
theorem Ext.eight {a w : World} (h : Ext a w) {b : Nat} (hb : a.heap.size ≤ b) (v0 v1 v2 v3 v4 v5 v6 v7 : Value) : Ext a ((((((((w.setCell ⟨b, 0, none⟩ v0).setCell ⟨b, 1, none⟩ v1).setCell ⟨b, 2, none⟩ v2).setCell ⟨b, 3, none⟩ v3).setCell ⟨b, 4, none⟩ v4).setCell ⟨b, 5, none⟩ v5).setCell ⟨b, 6, none⟩ v6).setCell ⟨b, 7, none⟩ v7) :=
  ((((((((h.setCell (p := ⟨b, 0, none⟩) hb v0).setCell (p := ⟨b, 1, none⟩) hb v1).setCell (p := ⟨b, 2, none⟩) hb v2).setCell (p := ⟨b, 3, none⟩) hb v3).setCell (p := ⟨b, 4, none⟩) hb v4).setCell (p := ⟨b, 5, none⟩) hb v5).setCell (p := ⟨b, 6, none⟩) hb v6).setCell (p := ⟨b, 7, none⟩) hb v7)

set_option maxRecDepth 100000 in
set_option maxHeartbeats 8000000 in
theorem change_any (w : World) (D : Dom) (atoms : List AtD) (f : FuncId) (cpt : Array Value) (can : List Int → Nd → Fo → Bool) (hby : ByOK w D atoms f cpt can) (ts : List Int) (cb bb wb : Nat) (ta : Option Addr) (tcap : Nat) (which : Int)
    (hcb : w.cell? ⟨cb, 0, none⟩ = some (.slice ta ts.length tcap)) (hbb : w.cell? ⟨bb, 0, none⟩ = some (.func (.func f) #[] cpt)) (hwb : w.cell? ⟨wb, 0, none⟩ = some (i64 which)) (n : Nd) (k : Fo) (hs : (Fo.one n k).Shaped) (ho : OkF D ts (Fo.one n k)) (hc : (Fo.one n k).count ≤ 30) (ha : (Fo.one n k).ArgsLe) (hts : ts.length ≤ 50)
    (W : World) (hW : Ext w W) (b : Nat) (fp : List Nat) (ht : Tr W w.heap.size n k b fp) :
    Calls Try.prog 51 #[ptr b, ptr cb, ptr bb, ptr wb] W (ChangePost w D atoms ts n k b) := by
  obtain ⟨i0, hi, hz0, hz1, hz2⟩ := info_parts info66
  obtain ⟨sp, hP⟩ := isP_of ts.length ht.tree
  have hspl := hP.len
  have hent := hby.ent
  unfold EntersF at hent
  -- what the calls on the part j do
  have hpart : ∀ (j b' s' : Nat), sp[j]? = some (b', s') → ∃ n' k' G', ((Fo.one n k).spots ts)[j]? = some ((n', k'), G') ∧ s' = G'.length ∧ b' ∈ fp ∧
      (∀ W', Ext W W' → Calls Try.prog 19 #[ptr b'] W' fun e W2 => ∃ b2 fp2, e = .returned (ptr b2) ∧ Ext W' W2 ∧ Tr W2 W'.heap.size n' k' b2 fp2) ∧
      (∀ W', Ext w W' → ∀ b2 fp2, Tr W' w.heap.size n' k' b2 fp2 → Calls Try.prog f (#[ptr b2, i64 (s' : Int)] ++ cpt) W' (ByPost D atoms (can G' n' k') W' G' n' k' fp2)) ∧
      ∃ cv av kv, W.heap[b']? = some (.cells (nodeCells n' cv av kv) 50) := by
    intro j b' s' hj
    obtain ⟨n', k', G', fpi, h1, h2, h3, h4, h5⟩ := hP.get hj
    obtain ⟨g1, g2, g3⟩ := spots_args (List.mem_of_getElem? h1) ha
    obtain ⟨g4, g5⟩ := spots_ok (List.mem_of_getElem? h1) ho hs
    refine ⟨n', k', G', h1, h2, h4 b' h5, fun W' hW' => copy_tr (by omega) g1 W' b' fpi (h3.ext hW'), fun W' hW' b2 fp2 htr => ?_, ?_⟩
    · rw [h2]
      exact hby.run W' hW' G' n' k' b2 fp2 htr g4 g5 (by omega) g1 (by omega)
    · obtain ⟨bx, bs', cv, av, kv, ks, fa, fk, fpk, fpr, hbx, -, hb, -⟩ := h3
      obtain ⟨rfl, -⟩ := List.cons.inj hbx
      exact ⟨cv, av, kv, hb⟩
  have hspots := fun (W' : World) ob sv (hS : Sp W W' ob sv []) => spots_root hP W' sv hS (by have := Fo.count_one n k; omega) (by have := Fo.count_one n k; omega)
  have hc0 := hW.cell hcb
  have hb0 := hW.cell hbb
  have hw0 := hW.cell hwb
  obtain ⟨N, hN⟩ : ∃ N, sp.length = N := ⟨_, rfl⟩
  have hNb : N ≤ 30 := by omega
  have hNp : 0 < N := by rw [Fo.count_one] at hspl; omega
  have hcl := World.block_lt_of_cell? W _ hc0
  have hbl := World.block_lt_of_cell? W _ hb0
  have hwl := World.block_lt_of_cell? W _ hw0
  obtain ⟨tn, htn⟩ : ∃ n, ts.length = n := ⟨_, rfl⟩
  rw [htn] at hc0 hspots hts
  have HPART := Lib.hid hpart
  have HSPOTS := Lib.hid hspots
  have HN := Lib.hid hN
  have HP := Lib.hid hP
  have HW := Lib.hid hW
  have HT := Lib.hid ht
  have HS := Lib.hid hs
  have HO := Lib.hid ho
  have HA := Lib.hid ha
  have HCNT := Lib.hid hc
  clear hpart hspots hN hP hW ht hs ho ha hc hspl hcb hbb hwb hby htn
  go_enter Try.func51, Try.ntmps51
  go_wp2_with fail
  refine (HSPOTS.out _ W.heap.size (.slice none 0 0) ⟨(Ext.refl W).alloc _, heap_alloc_new _ _, Nat.le_refl _, World.ownsRow_nil ..⟩).mono ?_
  rintro e W2 ⟨rfl, sv, hS⟩
  obtain ⟨sa, scap, rfl, s1, s2, srow⟩ := owns_row hS.own
  rw [HN.out] at hS srow s1
  have o0 : W2.cell? ⟨W.heap.size, 0, none⟩ = some (.slice sa N scap) := by rw [cell_of_heap hS.cell]; rfl
  have HE2 := Lib.hid hS.ext
  have hol := heap_lt hS.cell
  have HROW := Lib.hid srow
  replace hc0 := HE2.out.cell hc0
  replace hb0 := HE2.out.cell hb0
  replace hw0 := HE2.out.cell hw0
  unfold maxLen at s2
  clear hS srow
  have H0 : Hid (W2.ownsRow W2.heap.size 66 2 (.slice none 0 0) ([] : List (Nat × Nat)).length (spCells [])) := World.ownsRow_nil ..
  have HC0 : Hid (CanL can ts n k sp []) := fun b s h => by cases h
  go_wp2_with fail
  go_loopw [7, 18] (fun v i wr => ∃ j : Nat, ∃ l, j ≤ N ∧ i = .int .i64 j ∧ l.length ≤ j ∧ Hid (wr.ownsRow W2.heap.size 66 2 v l.length (spCells l)) ∧ Hid (CanL can ts n k sp l) ∧ Ext W2 wr) (fun _ i _ => N - (intOf i).toNat)
  case atStart => exact ⟨0, [], Nat.zero_le _, rfl, Nat.le_refl _, H0, HC0, Ext.refl _⟩
  case round =>
    obtain ⟨j, l, hj, rfl, hlj, HL, HC, hE⟩ := hrel
    clear H0 HC0
    have c0 := hE.cell hc0
    have b0 := hE.cell hb0
    have w0' := hE.cell hw0
    have HE := Lib.hid hE
    have HEW := Lib.hid (HE2.out.trans hE)
    have HEw := Lib.hid ((HW.out.trans HE2.out).trans hE)
    clear hE
    by_cases hlt : j < N
    · obtain ⟨⟨b', s'⟩, hbs⟩ : ∃ x, sp[j]? = some x := ⟨sp[j]'(by have := HN.out; omega), List.getElem?_eq_getElem _⟩
      obtain ⟨n', k', G', h1, h2, h3, hcopy, hbyc, -⟩ := HPART.out j b' s' hbs
      obtain ⟨g1, g2⟩ := spCells_get sp j b' s' hbs
      obtain ⟨rb, roff, rfl, rcell⟩ := HROW.out j hlt [ptr b', i64 (s' : Int)] (Nat.le_refl _) (fun i y hi => by
        match i with
        | 0 => cases hi; exact g1
        | 1 => cases hi; exact g2
        | i + 2 => simp at hi)
      have e0 : wr.cell? ⟨rb, roff + j * 2, none⟩ = some (ptr b') := HE.out.cell (rcell 0 _ rfl)
      have e1 : wr.cell? ⟨rb, roff + j * 2 + 1, none⟩ = some (i64 (s' : Int)) := HE.out.cell (rcell 1 _ rfl)
      have el := World.block_lt_of_cell? wr _ e0
      have HH := Lib.hid (And.intro hbs (And.intro h1 h2))
      have HCOPY := Lib.hid hcopy
      have HBY := Lib.hid hbyc
      clear hbs h1 h2 h3 hcopy hbyc g1 g2 rcell
      go_upto_region 6 with fail
      generalize hW3 : wr.alloc (.cells #[ptr b', i64 (s' : Int)] 66) = W3
      have HE3 : Hid (Ext wr W3) := by show Ext wr W3; rw [← hW3]; exact (Ext.refl wr).alloc _
      have hb3 : W3.heap[wr.heap.size]? = some (.cells #[ptr b', i64 (s' : Int)] 66) := by rw [← hW3]; exact heap_alloc_new _ _
      obtain ⟨x0, x1, -, -, xl⟩ := two_facts hb3
      have y0 := HE3.out.cell b0
      have HB3 := Lib.hid hb3
      clear hW3 hb3
      obtain ⟨cc, hcc⟩ : ∃ c, can G' n' k' = c := ⟨_, rfl⟩
      rw [hcc] at HBY
      have HCN := Lib.hid hcc
      clear hcc
      cases cc with
      | false =>
        refine wp_region_seq (Ext W3) [(0, 1), (1, 0), (2, 1), (4, 0), (5, 1), (3, 2), (6, 2), (7, 0)] (by kernel_rfl) (by kernel_rfl) (Ext.refl W3).drew (fun hS => ?_)
        simp only [List.map, nthOp]
        refine seqL_read hS rfl (fun w' hE => by have q := hE.cell y0; clear hE; go_simp; rfl) ?_
        try simp only [Act.put, List.setIfInBounds_toArray, List.set_cons_zero, List.set_cons_succ]
        refine seqL_yield rfl (fun w' => by go_simp; rfl) ?_
        try simp only [Act.put, List.setIfInBounds_toArray, List.set_cons_zero, List.set_cons_succ]
        refine seqL_read hS rfl (fun w' hE => by have q := hE.cell x0; clear hE; go_simp; rfl) ?_
        try simp only [Act.put, List.setIfInBounds_toArray, List.set_cons_zero, List.set_cons_succ]
        refine seqL_yield rfl (fun w' => by go_simp; rfl) ?_
        try simp only [Act.put, List.setIfInBounds_toArray, List.set_cons_zero, List.set_cons_succ]
        refine seqL_read hS rfl (fun w' hE => by have q := hE.cell x1; clear hE; go_simp; rfl) ?_
        try simp only [Act.put, List.setIfInBounds_toArray, List.set_cons_zero, List.set_cons_succ]
        refine seqL_grow rfl (fun K hK => ?_)
        have HKK := Lib.hid hK
        clear hK
        go_simp
        refine (HCOPY.out _ ((HEW.out.trans HE3.out).trans hS)).mono ?_
        rintro e w4 ⟨b2, fp2, rfl, hE4, htr⟩
        have hS4 := hS.trans hE4
        have htr2 : Tr w4 w.heap.size n' k' b2 fp2 := ⟨htr.tree, htr.nd, fun x hx => Nat.le_trans (HEw.out.trans (HE3.out.trans hS)).size (htr.new x hx)⟩
        have hnew : ∀ x ∈ fp2, W3.heap.size ≤ x := fun x hx => Nat.le_trans hS.size (htr.new x hx)
        have HTR := Lib.hid htr2
        have HNW := Lib.hid hnew
        refine HKK.out _ _ hS4 (fun _ => ?_)
        clear HKK K htr htr2 hnew hE4
        try simp only [Act.put, List.setIfInBounds_toArray, List.set_cons_zero, List.set_cons_succ]
        refine seqL_grow rfl (fun K hK => ?_)
        have HKK := Lib.hid hK
        clear hK
        go_simp
        refine (HBY.out _ (HEw.out.trans (HE3.out.trans hS4)) b2 fp2 HTR.out).mono ?_
        rintro e w5 ⟨hX, hr⟩
        have hS5 : Ext W3 w5 := hX.ext hS4 HNW.out
        obtain rfl : e = .returned (.pointer none) := by
          rcases hr with ⟨-, h⟩ | ⟨h, -⟩
          · exact h
          · exact absurd h (by decide)
        clear hr
        refine HKK.out _ _ hS5 (fun _ => ?_)
        clear HKK K hX hS4
        try simp only [Act.put, List.setIfInBounds_toArray, List.set_cons_zero, List.set_cons_succ]
        refine seqL_yield rfl (fun w' => by go_simp; rfl) ?_
        try simp only [Act.put, List.setIfInBounds_toArray, List.set_cons_zero, List.set_cons_succ]
        refine seqL_nil ?_
        have HS5 := Lib.hid (HE.out.trans (HE3.out.trans hS5))
        have HROW2 := Lib.hid (owns_at HL.out fun g hg => Below.block (HE3.out.trans hS5) g ((HL.out.lt g hg).2))
        clear hS hS5 x0 x1 xl y0 c0 b0 w0' e0 e1 el HB3 HE3
        go_wp2_with fail
        go_roundw
        case rel => exact ⟨j + 1, l, by omega, by go_num, by omega, HROW2, HC, HS5.out⟩
        case measure => simp [intOf]; omega
      | true =>
        refine wp_region_seq (Ext W3) [(0, 1), (1, 0), (2, 1), (4, 0), (5, 1), (3, 2), (6, 2), (7, 0)] (by kernel_rfl) (by kernel_rfl) (Ext.refl W3).drew (fun hS => ?_)
        simp only [List.map, nthOp]
        refine seqL_read hS rfl (fun w' hE => by have q := hE.cell y0; clear hE; go_simp; rfl) ?_
        try simp only [Act.put, List.setIfInBounds_toArray, List.set_cons_zero, List.set_cons_succ]
        refine seqL_yield rfl (fun w' => by go_simp; rfl) ?_
        try simp only [Act.put, List.setIfInBounds_toArray, List.set_cons_zero, List.set_cons_succ]
        refine seqL_read hS rfl (fun w' hE => by have q := hE.cell x0; clear hE; go_simp; rfl) ?_
        try simp only [Act.put, List.setIfInBounds_toArray, List.set_cons_zero, List.set_cons_succ]
        refine seqL_yield rfl (fun w' => by go_simp; rfl) ?_
        try simp only [Act.put, List.setIfInBounds_toArray, List.set_cons_zero, List.set_cons_succ]
        refine seqL_read hS rfl (fun w' hE => by have q := hE.cell x1; clear hE; go_simp; rfl) ?_
        try simp only [Act.put, List.setIfInBounds_toArray, List.set_cons_zero, List.set_cons_succ]
        refine seqL_grow rfl (fun K hK => ?_)
        have HKK := Lib.hid hK
        clear hK
        go_simp
        refine (HCOPY.out _ ((HEW.out.trans HE3.out).trans hS)).mono ?_
        rintro e w4 ⟨b2, fp2, rfl, hE4, htr⟩
        have hS4 := hS.trans hE4
        have htr2 : Tr w4 w.heap.size n' k' b2 fp2 := ⟨htr.tree, htr.nd, fun x hx => Nat.le_trans (HEw.out.trans (HE3.out.trans hS)).size (htr.new x hx)⟩
        have hnew : ∀ x ∈ fp2, W3.heap.size ≤ x := fun x hx => Nat.le_trans hS.size (htr.new x hx)
        have HTR := Lib.hid htr2
        have HNW := Lib.hid hnew
        refine HKK.out _ _ hS4 (fun _ => ?_)
        clear HKK K htr htr2 hnew hE4
        try simp only [Act.put, List.setIfInBounds_toArray, List.set_cons_zero, List.set_cons_succ]
        refine seqL_grow rfl (fun K hK => ?_)
        have HKK := Lib.hid hK
        clear hK
        go_simp
        refine (HBY.out _ (HEw.out.trans (HE3.out.trans hS4)) b2 fp2 HTR.out).mono ?_
        rintro e w5 ⟨hX, hr⟩
        have hS5 : Ext W3 w5 := hX.ext hS4 HNW.out
        rcases hr with ⟨h, -⟩ | ⟨-, b3, n3, k3, fp3, rfl, -⟩
        · exact absurd h (by decide)
        refine HKK.out _ _ hS5 (fun _ => ?_)
        clear HKK K hX hS4
        try simp only [Act.put, List.setIfInBounds_toArray, List.set_cons_zero, List.set_cons_succ]
        refine seqL_yield rfl (fun w' => by go_simp; rfl) ?_
        try simp only [Act.put, List.setIfInBounds_toArray, List.set_cons_zero, List.set_cons_succ]
        refine seqL_nil ?_
        have HS5 := Lib.hid (HE.out.trans (HE3.out.trans hS5))
        have hb5 := hS5.block HB3.out
        clear x0 x1 xl
        obtain ⟨x0, x1, -, -, xl⟩ := two_facts hb5
        have hrow2 := owns_at HL.out fun g hg => Below.block (HE3.out.trans hS5) g ((HL.out.lt g hg).2)
        obtain ⟨m, hm⟩ : ∃ m, l.length = m := ⟨_, rfl⟩
        have hlm : m ≤ 30 := by omega
        rw [hm] at hrow2
        obtain ⟨va, vcap, hvv, -⟩ := owns_row hrow2
        subst hvv
        have HROW2 := Lib.hid hrow2
        have hsz5 : W2.heap.size ≤ w5.heap.size := HS5.out.size
        have HM := Lib.hid hm
        have HC2 : Hid (CanL can ts n k sp (l ++ [(b', s')])) := fun bb' ss' hm => by
          rcases List.mem_append.1 hm with hm | hm
          · exact HC.out bb' ss' hm
          · obtain ⟨rfl, rfl⟩ := by simpa using hm
            exact ⟨j, n', k', G', HH.out.1, HH.out.2.1, HH.out.2.2, HCN.out⟩
        clear hS hS5 y0 c0 b0 w0' e0 e1 el HE3 hm hb5 HB3 hrow2
        go_wp2_with (
          at_builtin
          refine wpList_append_lies rfl _ _ 61 rfl W2.heap.size 66 i0 (.agg #[.pointer none, .int .i64 0]) 2 16 Try.underlying61 hi hz0 hz1 hz2 rfl (by decide) _ m (spCells l) rfl (HROW2.out.alloc _) ⟨w5.heap.size, 0, none⟩ 1 1 [ptr b', i64 (s' : Int)] rfl rfl (World.news_of_block (heap_alloc_new _ _)) (by simp [Value.oneCell']) (by decide) (by unfold maxLen; omega) (by omega) (by rw [World.size_alloc]; omega) ?_
          intro g cap w6 hown hgrow
          have HE6 : Hid (Ext W2 w6) := (HS5.out.alloc _).of_grown hgrow (fun k hk => (HROW2.out.lt k hk).1)
          have HO6 : Hid (w6.ownsRow W2.heap.size 66 2 (.slice (some ⟨g, 0, none⟩) (m + 1) cap) (l ++ [(b', s')]).length (spCells (l ++ [(b', s')]))) := by
            show World.ownsRow _ _ _ _ _ _ _
            rw [List.length_append, HM.out, spCells_snoc]
            exact hown
          clear hown hgrow
          )
        go_roundw
        case rel => exact ⟨j + 1, l ++ [(b', s')], by omega, by go_num, by simp; omega, HO6, HC2, HE6.out⟩
        case measure => simp [intOf]; omega
    · have hjN : j = N := by omega
      subst hjN
      obtain ⟨va, vcap, hvv, -, v2, vrow⟩ := owns_row HL.out
      subst hvv
      obtain ⟨m, hm⟩ : ∃ m, l.length = m := ⟨_, rfl⟩
      have hHL := HL.out
      rw [hm] at hHL hlj vrow ⊢
      have HM := Lib.hid hm
      have HVR := Lib.hid vrow
      unfold maxLen at v2
      clear hm hHL HL vrow
      by_cases hm0 : m = 0
      · subst hm0
        go_wp2
        go_ret
        exact ⟨HEw.out, .inl rfl⟩
      · have hm1 : (m == 0) = false := by simpa using hm0
        go_wp2_with fail
        refine (pick_any _ which m (by omega) (by omega)).mono ?_
        rintro e w' ⟨rfl, p, hp, rfl⟩
        obtain ⟨⟨b', s'⟩, hbs⟩ : ∃ x, l[p]? = some x := ⟨l[p]'(by have := HM.out; omega), List.getElem?_eq_getElem _⟩
        obtain ⟨g1, g2⟩ := spCells_get l p b' s' hbs
        obtain ⟨rb, roff, rfl, rcell⟩ := HVR.out p hp [ptr b', i64 (s' : Int)] (Nat.le_refl _) (fun i y hi => by
          match i with
          | 0 => cases hi; exact g1
          | 1 => cases hi; exact g2
          | i + 2 => simp at hi)
        have e0 : wr.cell? ⟨rb, roff + p * 2, none⟩ = some (ptr b') := rcell 0 _ rfl
        have e1 : wr.cell? ⟨rb, roff + p * 2 + 1, none⟩ = some (i64 (s' : Int)) := rcell 1 _ rfl
        have el := World.block_lt_of_cell? wr _ e0
        obtain ⟨i, n', k', G', hi1, hi2, hi3, hi4⟩ := HC.out b' s' (List.mem_of_getElem? hbs)
        obtain ⟨n2, k2, G2, h1, h2, h3, hcopy, hbyc, cvp, avp, kvp, hblk⟩ := HPART.out i b' s' hi1
        rw [hi2] at h1
        simp only [Option.some.injEq, Prod.mk.injEq] at h1
        obtain ⟨⟨rfl, rfl⟩, rfl⟩ := h1
        rw [hi4] at hbyc
        have hblk2 := HEW.out.block hblk
        have hbW := heap_lt hblk
        have hbw : w.heap.size ≤ b' := HT.out.new b' h3
        have HI1 := Lib.hid hi1
        have HI2 := Lib.hid hi2
        have HCOPY := Lib.hid hcopy
        have HBY := Lib.hid hbyc
        have HBLK := Lib.hid hblk2
        clear hbs g1 g2 rcell hi1 hi2 hi3 hi4 h2 h3 hcopy hbyc hblk hblk2
        go_upto_region 12 with fail
        generalize hW3 : wr.alloc (.cells #[ptr b', i64 (s' : Int)] 66) = W3
        have HE3 : Hid (Ext wr W3) := by show Ext wr W3; rw [← hW3]; exact (Ext.refl wr).alloc _
        have hb3 : W3.heap[wr.heap.size]? = some (.cells #[ptr b', i64 (s' : Int)] 66) := by rw [← hW3]; exact heap_alloc_new _ _
        obtain ⟨x0, x1, -, -, xl⟩ := two_facts hb3
        have y0 := HE3.out.cell b0
        clear hW3 hb3
        refine wp_region_seq (Ext W3) [(0, 0), (1, 1), (2, 1), (3, 0), (4, 1), (6, 0), (7, 1), (5, 2), (8, 2), (9, 0), (10, 2), (11, 0), (12, 3)] (by kernel_rfl) (by kernel_rfl) (Ext.refl W3).drew (fun hS => ?_)
        simp only [List.map, nthOp]
        refine seqL_yield rfl (fun w' => by go_simp; rfl) ?_
        try simp only [Act.put, List.setIfInBounds_toArray, List.set_cons_zero, List.set_cons_succ]
        refine seqL_read hS rfl (fun w' hE => by have q := hE.cell x0; clear hE; go_simp; rfl) ?_
        try simp only [Act.put, List.setIfInBounds_toArray, List.set_cons_zero, List.set_cons_succ]
        refine seqL_read hS rfl (fun w' hE => by have q := hE.cell y0; clear hE; go_simp; rfl) ?_
        try simp only [Act.put, List.setIfInBounds_toArray, List.set_cons_zero, List.set_cons_succ]
        refine seqL_yield rfl (fun w' => by go_simp; rfl) ?_
        try simp only [Act.put, List.setIfInBounds_toArray, List.set_cons_zero, List.set_cons_succ]
        refine seqL_read hS rfl (fun w' hE => by have q := hE.cell x0; clear hE; go_simp; rfl) ?_
        try simp only [Act.put, List.setIfInBounds_toArray, List.set_cons_zero, List.set_cons_succ]
        refine seqL_yield rfl (fun w' => by go_simp; rfl) ?_
        try simp only [Act.put, List.setIfInBounds_toArray, List.set_cons_zero, List.set_cons_succ]
        refine seqL_read hS rfl (fun w' hE => by have q := hE.cell x1; clear hE; go_simp; rfl) ?_
        try simp only [Act.put, List.setIfInBounds_toArray, List.set_cons_zero, List.set_cons_succ]
        refine seqL_grow rfl (fun K hK => ?_)
        have HKK := Lib.hid hK
        clear hK
        go_simp
        refine (HCOPY.out _ ((HEW.out.trans HE3.out).trans hS)).mono ?_
        rintro e w4 ⟨b2, fp2, rfl, hE4, htr⟩
        have hS4 := hS.trans hE4
        have htr2 : Tr w4 w.heap.size n' k' b2 fp2 := ⟨htr.tree, htr.nd, fun x hx => Nat.le_trans (HEw.out.trans (HE3.out.trans hS)).size (htr.new x hx)⟩
        have hnew : ∀ x ∈ fp2, W3.heap.size ≤ x := fun x hx => Nat.le_trans hS.size (htr.new x hx)
        have HTR := Lib.hid htr2
        have HNW := Lib.hid hnew
        refine HKK.out _ _ hS4 (fun _ => ?_)
        clear HKK K htr htr2 hnew hE4
        try simp only [Act.put, List.setIfInBounds_toArray, List.set_cons_zero, List.set_cons_succ]
        refine seqL_grow rfl (fun K hK => ?_)
        have HKK := Lib.hid hK
        clear hK
        go_simp
        refine (HBY.out _ (HEw.out.trans (HE3.out.trans hS4)) b2 fp2 HTR.out).mono ?_
        rintro e w5 ⟨hX, hr⟩
        have hS5 : Ext W3 w5 := hX.ext hS4 HNW.out
        rcases hr with ⟨h, -⟩ | ⟨-, b3, n3, k3, fp3, rfl, ht3, hf3, hsame, hcnt3, harg3⟩
        · exact absurd h (by decide)
        refine HKK.out _ _ hS5 (fun _ => ?_)
        clear HKK K
        try simp only [Act.put, List.setIfInBounds_toArray, List.set_cons_zero, List.set_cons_succ]
        refine seqL_yield rfl (fun w' => by go_simp; rfl) ?_
        try simp only [Act.put, List.setIfInBounds_toArray, List.set_cons_zero, List.set_cons_succ]
        refine seqL_grow rfl (fun K hK => ?_)
        have HKK := Lib.hid hK
        clear hK
        obtain ⟨bx, bs', cv3, av3, kv3, ks3, fa3, fk3, fpk3, fpr3, hbx, rfl, hb3, hcv3, haa3, hkk3, hfk3, hfr3⟩ := ht3
        obtain ⟨rfl, rfl⟩ := List.cons.inj hbx
        obtain ⟨-, rfl⟩ := hfr3
        obtain ⟨cc1, cc2, cc3, rfl⟩ := hcv3
        obtain ⟨aa1, aa3, hav3, -⟩ := id haa3
        obtain ⟨aa2, han3⟩ : ∃ n, (n3.args.map i64).length = n := ⟨_, rfl⟩
        rw [han3] at hav3
        subst hav3
        obtain ⟨kk1, kk3, hkv3, -⟩ := id hkk3
        obtain ⟨kk2, hkn3⟩ : ∃ n, (ks3.map ptr).length = n := ⟨_, rfl⟩
        rw [hkn3] at hkv3
        subst hkv3
        clear han3 hkn3
        obtain ⟨z0, z1, z2, z3, z4, z5, z6, z7, zl⟩ := eight_facts hb3
        have hsz4 := hS4.size
        have hnew3 : ∀ x ∈ fa3 ++ (fk3 ++ fpk3), W3.heap.size ≤ x := fun x hx => by
          have hx' : x ∈ b3 :: (fa3 ++ (fk3 ++ (fpk3 ++ []))) := by simp at hx ⊢; grind
          rcases hf3 x hx' with h | h
          · exact HNW.out x h
          · omega
        have HNW3 := Lib.hid hnew3
        have HAA := Lib.hid haa3
        have HKK3 := Lib.hid hkk3
        have HFK3 := Lib.hid hfk3
        have HSAME := Lib.hid hsame
        have HARG := Lib.hid harg3
        clear hb3 haa3 hkk3 hfk3 hsame harg3 hnew3 hf3 hX
        go_simp
        refine HKK.out _ _ hS5 (fun _ => ?_)
        clear HKK K z0 z1 z2 z3 z4 z5 z6 z7 zl
        try simp only [Act.put, List.setIfInBounds_toArray, List.set_cons_zero, List.set_cons_succ]
        refine seqL_yield rfl (fun w' => by go_simp; rfl) ?_
        try simp only [Act.put, List.setIfInBounds_toArray, List.set_cons_zero, List.set_cons_succ]
        refine seqL_loud rfl (fun K hK => ?_)
        have HKK := Lib.hid hK
        clear hK
        obtain ⟨q0, q1, q2, q3, q4, q5, q6, q7, ql⟩ := eight_facts ((HE3.out.trans hS5).block HBLK.out)
        have u0 := free_of_heap ((HE3.out.trans hS5).block HBLK.out) 0
        have u1 := free_of_heap ((HE3.out.trans hS5).block HBLK.out) 1
        have u2 := free_of_heap ((HE3.out.trans hS5).block HBLK.out) 2
        have u3 := free_of_heap ((HE3.out.trans hS5).block HBLK.out) 3
        have u4 := free_of_heap ((HE3.out.trans hS5).block HBLK.out) 4
        have u5 := free_of_heap ((HE3.out.trans hS5).block HBLK.out) 5
        have u6 := free_of_heap ((HE3.out.trans hS5).block HBLK.out) 6
        have u7 := free_of_heap ((HE3.out.trans hS5).block HBLK.out) 7
        go_simp
        refine HKK.out _ _ (seqL_nil ?_)
        clear HKK K q0 q1 q2 q3 q4 q5 q6 q7 ql u0 u1 u2 u3 u4 u5 u6 u7
        try simp only [Act.put, List.setIfInBounds_toArray, List.set_cons_zero, List.set_cons_succ]
        have hfin : ChangePost w D atoms ts n k b (.returned (.bool true)) ((((((((w5.setCell ⟨b', 0, none⟩ (i64 n3.kind)).setCell ⟨b', 1, none⟩ (.slice cc1 cc2 cc3)).setCell ⟨b', 2, none⟩ (i64 n3.pred)).setCell ⟨b', 3, none⟩ (.slice aa1 aa2 aa3)).setCell ⟨b', 4, none⟩ (i64 n3.left)).setCell ⟨b', 5, none⟩ (i64 n3.right)).setCell ⟨b', 6, none⟩ (i64 n3.typ)).setCell ⟨b', 7, none⟩ (.slice kk1 kk2 kk3)) := by
          have hEw5 := HEw.out.trans (HE3.out.trans hS5)
          have hEW5 := HEW.out.trans (HE3.out.trans hS5)
          have hsz3 := (HEW.out.trans HE3.out).size
          have hne : ∀ x ∈ fa3 ++ (fk3 ++ fpk3), x ≠ b' := fun x hx => by have := HNW3.out x hx; omega
          obtain ⟨fp'', r1, r2⟩ := HP.out.repl (w' := ((((((((w5.setCell ⟨b', 0, none⟩ (i64 n3.kind)).setCell ⟨b', 1, none⟩ (.slice cc1 cc2 cc3)).setCell ⟨b', 2, none⟩ (i64 n3.pred)).setCell ⟨b', 3, none⟩ (.slice aa1 aa2 aa3)).setCell ⟨b', 4, none⟩ (i64 n3.left)).setCell ⟨b', 5, none⟩ (i64 n3.right)).setCell ⟨b', 6, none⟩ (i64 n3.typ)).setCell ⟨b', 7, none⟩ (.slice kk1 kk2 kk3))) (n' := n3) (k' := k3) (b := b') (cv' := .slice cc1 cc2 cc3) (av' := .slice aa1 aa2 aa3) (kv' := .slice kk1 kk2 kk3) (ks' := ks3) (fa' := fa3) (fk' := fk3) (fpk' := fpk3)
            (heap_eight _ _ _ _ _ _ _ _ ((HE3.out.trans hS5).block HBLK.out)) ⟨_, _, _, rfl⟩ (HAA.out.kept fun x hx => heap_eight_ne _ _ _ _ _ _ _ _ (hne x (by simp [hx]))) (HKK3.out.kept fun x hx => heap_eight_ne _ _ _ _ _ _ _ _ (hne x (by simp [hx]))) (HFK3.out.kept fun x hx => heap_eight_ne _ _ _ _ _ _ _ _ (hne x (by simp [hx])))
            HT.out.nd (fun x hx hxb => (heap_eight_ne _ _ _ _ _ _ _ _ hxb).trans (Below.block hEW5 x (HT.out.lt x hx))) HI1.out
          obtain ⟨n4, k4, h4, h5⟩ := change_fin HI2.out HS.out HO.out HSAME.out
          rw [h4] at r1
          have hcr := repl_count i n3 k3 (Fo.one n k)
          have har := repl_args i n3 k3 (Fo.one n k) HA.out HARG.out
          rw [h4] at hcr har
          have := HCNT.out
          refine ⟨hEw5.eight hbw _ _ _ _ _ _ _ _, .inr ⟨rfl, n4, k4, fp'', r1, fun x hx => ?_, h5, by omega, har⟩⟩
          rcases r2 x hx with h | h
          · exact HT.out.new x h
          · have := HNW3.out x h
            have := (HEw.out.trans HE3.out).size
            omega
        have HFIN := Lib.hid hfin
        clear hfin
        go_wp2
        go_ret
        exact HFIN.out
end Go.Proofs.Ytodlkjjoenglgaa

/- wTrueOf: the plain part. -/
namespace Go.Proofs.Ytodlkjjoenglgaa
open Go Go.RowKit

/-- A fault with no code is none. -/
def Cz (v : Int × Int) : Prop := v.1 = 0 → v = (0, 0)
theorem cz_ok : Cz (0, 0) := fun _ => rfl
theorem cz_code {c x : Int} (h : c ≠ 0) : Cz (c, x) := fun e => absurd e h
theorem cz_typesV (ts : List (ByteArray × Int)) : Cz (typesV ts) := by
  unfold typesV
  split
  · exact cz_code (by decide)
  · cases h : firstBad (tyCode ts) ts.length with
    | some i => exact cz_code (firstBad_of_some h).2
    | none => exact cz_ok
theorem cz_objectsV (n : Nat) (os : List (ByteArray × Int)) : Cz (objectsV n os) := by
  unfold objectsV
  split
  · exact cz_code (by decide)
  · cases h : firstBad (obCode n os) os.length with
    | some i => exact cz_code (firstBad_of_some h).2
    | none => exact cz_ok
theorem cz_domV (D : Dom) : Cz (domV D) := by
  unfold domV
  split
  · rename_i h
    exact cz_code fun e => h (cz_typesV D.types e)
  · split
    · rename_i h
      exact cz_code fun e => h (cz_objectsV _ _ e)
    · unfold domPreds
      split
      · exact cz_code (by decide)
      · split
        · rename_i h; exact cz_code h
        · unfold domSchemas
          split
          · exact cz_code (by decide)
          · cases h : firstBad (schemaCode D) D.schemas.length with
            | some i => exact cz_code (firstBad_of_some h).2
            | none =>
              show Cz (domTail D)
              unfold domTail
              split
              · rename_i h; exact cz_code h
              · split
                · rename_i h; exact cz_code h
                · exact cz_ok
theorem cz_shapeGo : ∀ (l : List (Nd × List Int)) (pre : List Int), Cz (shapeGo pre l) := by
  intro l
  induction l with
  | nil =>
    intro pre
    unfold shapeGo
    split
    · exact cz_code (by decide)
    · exact cz_ok
  | cons x l ih =>
    intro pre
    unfold shapeGo
    cases h : nodeStep pre x with
    | inl c =>
      refine cz_code ?_
      unfold nodeStep at h
      split at h
      · cases h; decide
      · split at h
        · cases h; decide
        · cases hw : walkBack pre pre.length x.2.reverse with
          | none => rw [hw] at h; cases h; decide
          | some a => rw [hw] at h; cases h
    | inr a => exact ih _
theorem cz_valV (D : Dom) (C : Cnd) : Cz (valV D C) := by
  unfold valV
  split
  · exact cz_domV D
  · split
    · rename_i h; exact cz_code h
    · split
      · unfold shapeV
        split
        · exact cz_code (by decide)
        · exact cz_shapeGo _ _
      · unfold valQuant
        cases h : firstBad (fq D C) C.nodes.length with
        | some i => exact cz_code (firstBad_of_some h).2
        | none =>
          show Cz (valLeaf D C)
          unfold valLeaf
          cases h : firstBad (fl D C) C.nodes.length with
          | some i => exact cz_code (firstBad_of_some h).2
          | none => exact cz_ok
theorem cz_valuesV (D : Dom) (C : Cnd) (args : List Int) : Cz (valuesV D C args) := by
  unfold valuesV
  split
  · exact cz_code (by decide)
  · split
    · rename_i h; exact cz_code h
    · exact cz_ok
theorem cz_evalV (D : Dom) (C : Cnd) (atoms : List AtD) (args : List Int) : Cz (evalV D C atoms args) := by
  unfold evalV
  split
  · exact cz_valV D C
  · split
    · exact cz_code (by decide)
    · split
      · rename_i h; exact cz_code h
      · exact cz_valuesV D C args

theorem evalV_inv {D : Dom} {C : Cnd} {atoms : List AtD} {args : List Int} (h : evalV D C atoms args = (0, 0)) : valV D C = (0, 0) ∧ valuesV D C args = (0, 0) ∧ ∀ C' : Cnd, C'.types = C.types → valV D C' = (0, 0) → evalV D C' atoms args = (0, 0) := by
  unfold evalV at h
  split at h
  · rename_i h1; exact absurd h h1
  · rename_i h1
    split at h
    · cases h
    · rename_i h2
      split at h
      · rename_i h3; exact absurd (congrArg Prod.fst h) h3
      · rename_i h3
        refine ⟨by simpa using h1, h, fun C' ht hv => ?_⟩
        unfold evalV
        rw [if_neg (by simpa using hv), if_neg h2, if_neg h3]
        unfold valuesV at h ⊢
        rw [ht]
        exact h
theorem valuesV_env {D : Dom} {C : Cnd} {args : List Int} (h : valuesV D C args = (0, 0)) : Env D C.types args := by
  have hl := valuesV_len h
  unfold valuesV at h
  split at h
  · cases h
  · split at h
    · rename_i h1; exact absurd (congrArg Prod.fst h) h1
    · rename_i h1
      have h1 : scan (argC D C.types args) args.length = 0 := by simpa using h1
      refine ⟨hl, fun i hi => ?_⟩
      have := scan_zero h1 i (by omega)
      unfold argC at this
      split at this
      · cases this
      · rename_i h2
        split at this
        · cases this
        · rename_i h3
          exact ⟨by omega, by omega, by simpa using h3⟩
/-- A right tree's condition that is not too large passes. -/
theorem valV_right {D : Dom} {ts : List Int} {n : Nd} {k : Fo} (h1 : domV D = (0, 0)) (h2 : paramsCode D ts = 0) (hs : (Fo.one n k).Shaped) (hc : (Fo.one n k).count ≤ 30) (ho : OkF D ts (Fo.one n k)) (hl : LimF ts (Fo.one n k)) : valV D ⟨ts, (Fo.one n k).flat 0⟩ = (0, 0) := by
  unfold valV
  rw [if_neg (by simpa using h1), if_neg (by simpa using h2)]
  simp only [shapeV_flat n k hs]
  rw [if_neg (show ¬ 30 < (Fo.one n k).count by omega), if_neg (by simp)]
  have ho' := AllF.and.1 ho
  have hlf := (all_flat (fun n ps => leafCode D n ps = 0) (Fo.one n k) 0 ts).2 ho'.1
  have hq := (all_flat (fun n ps => isQ n.kind = true → inRange D.types n.typ ∧ ps.length < 6) (Fo.one n k) 0 ts).2 (AllF.imp (fun n ps h hQ => ⟨h.1 hQ, h.2 hQ⟩) (AllF.and.2 ⟨ho'.2, hl⟩))
  unfold valQuant
  rw [firstBad_none]
  · show valLeaf D _ = _
    unfold valLeaf
    rw [firstBad_none]
    intro j hj
    rw [Fo.flat_len] at hj
    unfold fl
    rw [scopesV_flat]
    exact hlf j hj
  · intro j hj
    rw [Fo.flat_len] at hj
    unfold fq
    rw [scopesV_flat]
    exact quantCode_zero.2 (hq j hj)
theorem valV_lim {D : Dom} {ts : List Int} {n : Nd} {k : Fo} (h : valV D ⟨ts, (Fo.one n k).flat 0⟩ = (0, 0)) : (Fo.one n k).count ≤ 30 ∧ LimF ts (Fo.one n k) := by
  unfold valV at h
  split at h
  · rename_i h1; exact absurd h h1
  · split at h
    · rename_i h2; exact absurd (congrArg Prod.fst h) h2
    · split at h
      · rename_i h3; exact absurd h h3
      · rename_i h3
        have h3 : shapeV ((Fo.one n k).flat 0) = (0, 0) := by simpa using h3
        refine ⟨by have := (shapeV_ok h3).2.1; rwa [Fo.flat_len] at this, ?_⟩
        unfold valQuant at h
        cases hq : firstBad (fq D ⟨ts, (Fo.one n k).flat 0⟩) ((Fo.one n k).flat 0).length with
        | some i => rw [hq] at h; exact absurd (congrArg Prod.fst h) (firstBad_of_some hq).2
        | none =>
          have hq := firstBad_of_none hq
          unfold fq at hq
          rw [scopesV_flat, Fo.flat_len] at hq
          have hq' := (all_flat (fun n ps => isQ n.kind = true → inRange D.types n.typ ∧ ps.length < 6) (Fo.one n k) 0 ts).1 fun i hi => quantCode_zero.1 (hq i hi)
          exact AllF.imp (fun n ps h hQ => (h hQ).2) hq'
theorem flat_args {w : World} {f : Fo} : ∀ (b : Nat) (nv : Value) (l : List (Nd × List Int)), Sl w 7 88 rNode nv l → (∀ i, i < f.count → l[b + i]? = (f.flat b)[i]?) → f.ArgsLe := by
  induction f with
  | nil => intro b nv l _ _; trivial
  | cons n k r ihk ihr =>
    intro b nv l hl hf
    simp only [Fo.count] at hf
    have hi : l[b + k.count]? = some (n, k.roots b) := by
      rw [hf k.count (by omega), Fo.flat, List.getElem?_append_right (by rw [Fo.flat_len]; exact Nat.le_refl _), Fo.flat_len, Nat.sub_self]
      rfl
    obtain ⟨_, _, _, _, _, av, _, _, _, _, _, _, hav, _⟩ := node_at hl hi
    refine ⟨by obtain ⟨_, _, _, _, _, q, _⟩ := hav.open; exact q, ihk b nv l hl (fun i hi => by rw [hf i (by omega), Fo.flat, List.getElem?_append_left (by rw [Fo.flat_len]; exact hi)]), ihr (b + k.count + 1) nv l hl (fun i hi => by
      rw [show b + k.count + 1 + i = b + (k.count + 1 + i) by omega, hf _ (by omega), Fo.flat, List.getElem?_append_right (by rw [Fo.flat_len]; omega), Fo.flat_len, show k.count + 1 + i - k.count = i + 1 by omega, List.getElem?_cons_succ])⟩

/-- What wTrueOf's condition 'true' gives. -/
def D0 : Dom := ⟨[], [], [], [], [], []⟩
theorem dom0 (w : World) : DomAt w ⟨.slice none 0 0, .slice none 0 0, .slice none 0 0, .slice none 0 0, .slice none 0 0, .slice none 0 0⟩ D0 := by
  have h : ∀ {X : Type} (sz b : Nat) (R : World → List Value → X → Prop), Sl w sz b R (.slice none 0 0) [] := fun sz b R => ⟨none, 0, rfl, Nat.le_refl _, Nat.zero_le _, by simp, fun i x h => by simp at h⟩
  exact ⟨h _ _ _, h _ _ _, h _ _ _, h _ _ _, h _ _ _, h _ _ _⟩
theorem eval0 : evalV D0 ⟨[], [(zNd 1, [])]⟩ [] [] = (0, 0) := by decide
end Go.Proofs.Ytodlkjjoenglgaa

/- wTrueOf, walked. -/
namespace Go.Proofs.Ytodlkjjoenglgaa
open Go Go.RowKit

/-- wTrueOf's variables: the domain, the condition, the fault in block ft. -/
structure TrSt (w W : World) (c0 c1 c2 c3 c4 c5 tv nv : Value) (ft : Nat) (x y : Int) : Prop where
  ext : Ext w W
  b0 : W.heap[w.heap.size]? = some (.cells #[c0, c1, c2, c3, c4, c5] 29)
  b1 : W.heap[w.heap.size + 1]? = some (.cells #[tv, nv] 33)
  f : W.heap[ft]? = some (.cells #[i64 x, i64 y] 70)
  hft : w.heap.size + 1 < ft
theorem TrSt.ext' {w W W' : World} {c0 c1 c2 c3 c4 c5 tv nv : Value} {ft : Nat} {x y : Int} (h : TrSt w W c0 c1 c2 c3 c4 c5 tv nv ft x y) (e : Ext W W') : TrSt w W' c0 c1 c2 c3 c4 c5 tv nv ft x y :=
  ⟨h.ext.trans e, e.block h.b0, e.block h.b1, e.block h.f, h.hft⟩
theorem TrSt.store {w W : World} {c0 c1 c2 c3 c4 c5 tv nv : Value} {ft : Nat} {x y : Int} (h : TrSt w W c0 c1 c2 c3 c4 c5 tv nv ft x y) (x' y' : Int) : TrSt w ((W.setCell ⟨ft, 0, none⟩ (i64 x')).setCell ⟨ft, 1, none⟩ (i64 y')) c0 c1 c2 c3 c4 c5 tv nv ft x' y' := by
  have := h.hft
  exact ⟨h.ext.two (by omega) _ _, (heap_two_ne _ _ (by omega)).trans h.b0, (heap_two_ne _ _ (by omega)).trans h.b1, heap_two _ _ h.f, h.hft⟩
/-- The changed condition in block gb. -/
structure PSt (W : World) (gb Lo ft : Nat) (tv nv : Value) (l : List (Nd × List Int)) : Prop where
  cell : W.heap[gb]? = some (.cells #[tv, nv] 33)
  nod : NodNew Lo W nv l
  lo : ft < Lo
  hgb : Lo ≤ gb
theorem PSt.ext' {W W' : World} {gb Lo ft : Nat} {tv nv : Value} {l : List (Nd × List Int)} (h : PSt W gb Lo ft tv nv l) (e : Ext W W') : PSt W' gb Lo ft tv nv l := ⟨e.block h.cell, h.nod.ext e, h.lo, h.hgb⟩
theorem PSt.store {W : World} {gb Lo ft : Nat} {tv nv : Value} {l : List (Nd × List Int)} (h : PSt W gb Lo ft tv nv l) (u v : Value) : PSt ((W.setCell ⟨ft, 0, none⟩ u).setCell ⟨ft, 1, none⟩ v) gb Lo ft tv nv l := by
  have h1 := h.lo
  have h2 := h.hgb
  exact ⟨(heap_two_ne _ _ (by omega)).trans h.cell, h.nod.kept fun x hx _ => heap_two_ne _ _ (by omega), h.lo, h.hgb⟩

theorem eval0_any (W : World) (B : Nat) (hB : W.heap[B]? = some (.cells #[i64 1, .slice none 0 0, i64 0, .slice none 0 0, i64 0, i64 0, i64 0] 48)) :
    Calls Try.prog 46 #[.agg #[.slice none 0 0, .slice none 0 0, .slice none 0 0, .slice none 0 0, .slice none 0 0, .slice none 0 0], .agg #[.slice none 0 0, .slice (some ⟨B, 0, none⟩) 1 1], .slice none 0 0, .slice none 0 0] W fun e W' => e = .returned (.tuple #[.bool true, faultV (0, 0)]) ∧ Ext W W' := by
  have hsl : Sl W 7 88 rNode (.slice (some ⟨B, 0, none⟩) 1 1) [(zNd 1, [])] := by
    refine ⟨_, 1, rfl, Nat.le_refl _, by decide, by simp, fun i x hx => ?_⟩
    have hi : i = 0 := by
      have := (List.getElem?_eq_some_iff.1 hx).1
      simp at this
      exact this
    subst hi
    cases hx
    refine ⟨[i64 1, .slice none 0 0, i64 0, .slice none 0 0, i64 0, i64 0, i64 0], rfl, ⟨.slice none 0 0, .slice none 0 0, rfl, IntsAt.nil W, IntsAt.nil W⟩, B, 0, rfl, fun j y hj => ?_⟩
    rw [cell_of_heap hB]
    simpa using hj
  have h := evalTop W ⟨.slice none 0 0, .slice none 0 0, .slice none 0 0, .slice none 0 0, .slice none 0 0, .slice none 0 0⟩ D0 (dom0 W) (.slice none 0 0) (.slice (some ⟨B, 0, none⟩) 1 1) ⟨[], [(zNd 1, [])]⟩ ⟨IntsAt.nil W, hsl⟩ (.slice none 0 0) [] ⟨none, 0, rfl, Nat.le_refl _, Nat.zero_le _, by simp, fun i x h => by simp at h⟩ (.slice none 0 0) [] (IntsAt.nil W)
    (zNd 1) .nil (fun _ => ⟨rfl, shaped_true, by decide, ⟨⟨rfl, fun h => by cases h⟩, trivial, trivial⟩⟩)
  rw [eval0] at h
  refine h.mono ?_
  rintro e W' ⟨hE, b, rfl, -, hb⟩
  rw [hb rfl, ev_true]
  exact ⟨rfl, hE⟩

set_option maxRecDepth 100000 in
set_option maxHeartbeats 8000000 in
theorem trueOf_any (w : World) (d : DomV) (D : Dom) (hd : DomAt w d D) (tv nv : Value) (C : Cnd) (hc : CndAt w tv nv C) (lv : Value) (atoms : List AtD) (hl : Sl w 2 32 rAtom lv atoms) (av : Value) (args : List Int) (ha : IntsAt w av args) (fc : FuncId) (cpt : Array Value) (hfe : EntersF fc)
    (hchg : ∀ n k, valV D C = (0, 0) → C.nodes = (Fo.one n k).flat 0 → (Fo.one n k).Shaped → (Fo.one n k).count ≤ 30 → OkF D C.types (Fo.one n k) → (Fo.one n k).ArgsLe → ∀ w1, Ext w w1 → ∀ W, Ext w1 W → ∀ b fp, Tr W w1.heap.size n k b fp → Calls Try.prog fc (#[ptr b] ++ cpt) W (ChangePost w1 D atoms C.types n k b)) :
    Calls Try.prog 15 #[.agg d.cells, .agg #[tv, nv], lv, av, .func (.func fc) #[] cpt] w fun e w' => e = .returned (.bool true) ∧ Ext w w' := by
  obtain ⟨n, k, hnk⟩ : ∃ n k, valV D C = (0, 0) → C.nodes = (Fo.one n k).flat 0 ∧ (Fo.one n k).Shaped ∧ (Fo.one n k).count ≤ 30 ∧ OkF D C.types (Fo.one n k) ∧ LimF C.types (Fo.one n k) := by
    by_cases h : valV D C = (0, 0)
    · obtain ⟨-, -, n, k, h1⟩ := valV_inv h
      exact ⟨n, k, fun _ => h1⟩
    · exact ⟨zNd 1, .nil, fun h' => absurd h' h⟩
  obtain ⟨ts, ns⟩ := C
  simp only at hnk hchg
  have hev := fun W (hW : Ext w W) => evalTop W d D (hd.ext hW) tv nv ⟨ts, ns⟩ (hc.ext hW) lv atoms (Sl.ext hl hW (rAtom.ext hW)) av args (ha.ext hW) n k fun h => ⟨(hnk h).1, (hnk h).2.1, (hnk h).2.2.1, (hnk h).2.2.2.1⟩
  have hts8 : ts.length * 8 ≤ 140737488351232 := by obtain ⟨_, _, _, _, _, q, _⟩ := hc.types.open; exact q
  have hargs : valV D ⟨ts, ns⟩ = (0, 0) → (Fo.one n k).ArgsLe := fun h => flat_args 0 nv ns hc.nodes (fun i _ => by rw [Nat.zero_add, (hnk h).1])
  have hcond : valV D ⟨ts, ns⟩ = (0, 0) → ∀ W (_ : Ext w W) (z : Int) (_ : z = (ns.length : Int) - 1), Calls Try.prog 47 #[.agg #[tv, nv], i64 z] W (CondPost W n k) := fun h W hW z hz => by
    have h1 := (hnk h).1
    have hcl : ns.length = k.count + 1 := by rw [h1, Fo.flat_len, Fo.count_one]
    rw [show z = (k.count : Int) by omega]
    have := (hnk h).2.2.1
    exact cond_root w tv nv ts n k (by rw [← h1]; exact hc) (by omega) W hW
  have hchg' := fun h => hchg n k h (hnk h).1 (hnk h).2.1 (hnk h).2.2.1 (hnk h).2.2.2.1 (hargs h)
  -- what follows on the changed condition
  have hval2 := fun W (hW : Ext w W) Lo nv2 l (h : NodNew Lo W nv2 l) => valV_any W d D (hd.ext hW) tv nv2 ⟨ts, l⟩ ⟨hc.types.ext hW, h.sl⟩
  have hev2 := fun n2 k2 (hs : (Fo.one n2 k2).Shaped) (ho : OkF D ts (Fo.one n2 k2)) tv2 W (hW : Ext w W) (ht : IntsAt W tv2 ts) Lo nv2 (h : NodNew Lo W nv2 ((Fo.one n2 k2).flat 0)) =>
    evalTop W d D (hd.ext hW) tv2 nv2 ⟨ts, (Fo.one n2 k2).flat 0⟩ ⟨ht, h.sl⟩ lv atoms (Sl.ext hl hW (rAtom.ext hW)) av args (ha.ext hW) n2 k2 fun hv => ⟨rfl, hs, by
      obtain ⟨-, -, n3, k3, e, -, h3, -⟩ := valV_inv hv
      have := congrArg List.length e
      simp only [Fo.flat_len] at this
      omega, ho⟩
  have hneg := fun n2 k2 (hs : (Fo.one n2 k2).Shaped) W (hW : Ext w W) Lo nv2 (h : NodNew Lo W nv2 ((Fo.one n2 k2).flat 0)) =>
    negTop W d D (hd.ext hW) tv nv2 ⟨ts, (Fo.one n2 k2).flat 0⟩ ⟨hc.types.ext hW, h.sl⟩ n2 k2 fun hv => ⟨rfl, hs, by
      obtain ⟨-, -, n3, k3, e, -, h3, -⟩ := valV_inv hv
      have := congrArg List.length e
      simp only [Fo.flat_len] at this
      omega⟩
  have htvx := fun W (hW : Ext w W) => hc.types.ext hW
  have hfe' := hfe
  unfold EntersF at hfe'
  obtain ⟨v0, hv0⟩ : ∃ v, evalV D ⟨ts, ns⟩ atoms args = v := ⟨_, rfl⟩
  have hcz := cz_evalV D ⟨ts, ns⟩ atoms args
  obtain ⟨r, hr⟩ : ∃ r, evN D atoms n (evF D atoms k) args = r := ⟨_, rfl⟩
  rw [hv0] at hcz
  simp only [hv0, hr] at hev
  have hok : v0 = (0, 0) → valV D ⟨ts, ns⟩ = (0, 0) ∧ Env D ts args ∧ ∀ l, valV D ⟨ts, l⟩ = (0, 0) → evalV D ⟨ts, l⟩ atoms args = (0, 0) := fun h => by
    obtain ⟨h1, h2, h3⟩ := evalV_inv (hv0.trans h)
    exact ⟨h1, valuesV_env h2, fun l hl => h3 ⟨ts, l⟩ rfl hl⟩
  obtain ⟨nn, hnn⟩ : ∃ n, ns.length = n := ⟨_, rfl⟩
  obtain ⟨ta, tn, tcap, htv⟩ := Sl.slice hc.types
  obtain ⟨na, ncap, ncv, nav, hnv, -, -, n3, -⟩ := hc.nodes.nodes
  obtain ⟨la, ln, lcap, hlv⟩ := Sl.slice hl
  obtain ⟨aa, an, acap, hav⟩ := Sl.slice ha
  obtain ⟨t1, tn1, tcap1, e1⟩ := hd.types.slice
  obtain ⟨t2, tn2, tcap2, e2⟩ := hd.objects.slice
  obtain ⟨t3, tn3, tcap3, e3⟩ := hd.preds.slice
  obtain ⟨t4, tn4, tcap4, e4⟩ := hd.schemas.slice
  obtain ⟨t5, tn5, tcap5, e5⟩ := hd.init.slice
  obtain ⟨t6, tn6, tcap6, e6⟩ := hd.goal.slice
  have hdc : d.cells = #[d.tv, d.ov, d.pv, d.sv, d.iv, d.gv] := rfl
  rw [hdc] at hev hval2 hev2 hneg ⊢
  simp only at hnv n3
  rw [hnn] at hnv n3
  subst htv hnv hlv hav
  simp only [hnn, e1, e2, e3, e4, e5, e6] at hev hcond hval2 hev2 hneg ⊢
  have HEV := Lib.hid hev
  have HCOND := Lib.hid hcond
  have HCHG := Lib.hid hchg'
  have HVAL2 := Lib.hid hval2
  have HEV2 := Lib.hid hev2
  have HNEG := Lib.hid hneg
  have HTV := Lib.hid htvx
  have HOK := Lib.hid hok
  have HNK := Lib.hid hnk
  have HCZ := Lib.hid hcz
  have HRR := Lib.hid hr
  have HNP : Hid (valV D ⟨ts, ns⟩ = (0, 0) → 1 ≤ nn) := fun h => by rw [← hnn, (hnk h).1, Fo.flat_len, Fo.count_one]; omega
  clear hev hcond hchg' hchg hval2 hev2 hneg htvx hok hnk hcz hr hv0 hnn hargs hd hc hl ha hdc e1 e2 e3 e4 e5 e6 hfe
  obtain ⟨v0c, v0i⟩ := v0
  go_enter Try.func15, Try.ntmps15
  go_wp2_with fail
  refine (eval0_any _ (w.heap.size + 1 + 1) (by
    have h := heap_alloc_new ((w.alloc (.cells #[.slice t1 tn1 tcap1, .slice t2 tn2 tcap2, .slice t3 tn3 tcap3, .slice t4 tn4 tcap4, .slice t5 tn5 tcap5, .slice t6 tn6 tcap6] 29)).alloc (.cells #[.slice ta tn tcap, .slice na nn ncap] 33)) (.cells #[i64 1, .slice none 0 0, i64 0, .slice none 0 0, i64 0, i64 0, i64 0] 48)
    rwa [World.size_alloc, World.size_alloc] at h)).mono ?_
  rintro e w1 ⟨rfl, hE⟩
  have B0 := Lib.hid (hE.of_new.of_new.block (heap_alloc_new w _))
  have B1 := Lib.hid (hE.of_new.block (heap_alloc_second w _ _))
  have HE1 := Lib.hid hE.of_new.of_new.of_new
  have hsz1 : w.heap.size + 2 < w1.heap.size := by have := hE.size; simp only [World.size_alloc] at this; omega
  clear hE
  obtain ⟨b0, b1, b2, b3, b4, b5, bl⟩ := six_facts B0.out
  obtain ⟨c0, c1, cz0, cz1, cl⟩ := two_facts B1.out
  go_wp2_with fail
  refine (HEV.out _ (HE1.out.alloc _)).mono ?_
  rintro e w2 ⟨hE2, bo1, rfl, htop⟩
  have hE2' := hE2.of_new
  replace B0 := Lib.hid (hE2'.block B0.out)
  replace B1 := Lib.hid (hE2'.block B1.out)
  have HE2 := Lib.hid (HE1.out.trans hE2')
  have hsz2 := hE2'.size
  clear hE2 hE2' b0 b1 b2 b3 b4 b5 bl c0 c1 cz0 cz1 cl HEV
  obtain ⟨b0, b1, b2, b3, b4, b5, bl⟩ := six_facts B0.out
  obtain ⟨c0, c1, cz0, cz1, cl⟩ := two_facts B1.out
  by_cases hc0 : v0c = 0
  · subst hc0
    have hv0 := HCZ.out rfl
    have hvi : v0i = 0 := congrArg Prod.snd hv0
    subst hvi
    obtain rfl := htop.2 rfl
    obtain ⟨hv1, henv, hev1⟩ := HOK.out rfl
    have HV1 := Lib.hid hv1
    have HENV := Lib.hid henv
    have HEV1 := Lib.hid hev1
    have hnp := HNP.out hv1
    clear htop hv0 hv1 henv hev1 HOK HCZ HNP
    go_wp2_with fail
    generalize hW : w2.alloc (.cells #[i64 0, i64 0] 70) = W2
    have hEW : Ext w2 W2 := by rw [← hW]; exact (Ext.refl w2).alloc _
    have HS0 : Hid (TrSt w W2 (.slice t1 tn1 tcap1) (.slice t2 tn2 tcap2) (.slice t3 tn3 tcap3) (.slice t4 tn4 tcap4) (.slice t5 tn5 tcap5) (.slice t6 tn6 tcap6) (.slice ta tn tcap) (.slice na nn ncap) w2.heap.size 0 0) := ⟨HE2.out.trans hEW, hEW.block B0.out, hEW.block B1.out, by rw [← hW]; exact heap_alloc_new _ _, by omega⟩
    clear hW hEW b0 b1 b2 b3 b4 b5 bl c0 c1 cz0 cz1 cl B0 B1 HE1 HE2
    refine (HCOND.out HV1.out W2 HS0.out.ext _ (by omega)).mono ?_
    rintro e w3 ⟨bt, fp, rfl, hE3, htr⟩
    have HS3 := Lib.hid (HS0.out.ext' hE3)
    have HTR := Lib.hid htr
    have HE3 := Lib.hid hE3
    clear hE3 htr HCOND
    obtain ⟨b0, b1, b2, b3, b4, b5, bl⟩ := six_facts HS3.out.b0
    obtain ⟨c0, c1, cz0, cz1, cl⟩ := two_facts HS3.out.b1
    obtain ⟨x0, x1, xz0, xz1, xl⟩ := two_facts HS3.out.f
    go_wp2_with fail
    refine (HCHG.out HV1.out W2 HS0.out.ext w3 HE3.out bt fp HTR.out).mono ?_
    rintro e w4 ⟨hE4, hr⟩
    have HS4 := Lib.hid (HS0.out.ext' hE4)
    have HE4 := Lib.hid hE4
    clear hE4 b0 b1 b2 b3 b4 b5 bl c0 c1 cz0 cz1 cl x0 x1 xz0 xz1 xl HTR HE3 HS3 HCHG
    obtain ⟨b0, b1, b2, b3, b4, b5, bl⟩ := six_facts HS4.out.b0
    obtain ⟨c0, c1, cz0, cz1, cl⟩ := two_facts HS4.out.b1
    obtain ⟨x0, x1, xz0, xz1, xl⟩ := two_facts HS4.out.f
    rcases hr with rfl | ⟨rfl, n', k', fp4, hF, hlo, hsame, hcnt, harg⟩
    · go_wp2
      go_ret
      exact ⟨rfl, HS4.out.ext⟩
    · have hlow := HE4.out.size
      have hft2 := (two_facts HS0.out.f).2.2.2.2
      have hnodes := nodes_all W2.heap.size w4 w4.heap.size (.slice ta tn tcap) (Fo.one n' k') [bt] fp4 hF hlo harg .nil n' k' .nil [] bt [] rfl rfl rfl (w4.alloc (.cells #[.slice ta tn tcap, .slice none 0 0] 33)) (.slice none 0 0) [] [] ⟨(Ext.refl w4).alloc _, heap_alloc_new _ _, Nat.le_refl _, hlow, ⟨[], World.ownsRow_nil .., rfl, rfl⟩, by simp, fun g hg => by simp [Value.ownBlock] at hg, by simp⟩ (by rw [Fo.count_one] at hcnt; simp; omega)
      have HNODES := Lib.hid hnodes
      have HSAME := Lib.hid hsame
      have hcn2 : (Fo.one n' k').count ≤ 2100 := hcnt
      clear hnodes hsame hF hlo harg
      go_wp2_with fail
      refine HNODES.out.mono ?_
      rintro e w6 ⟨he, ov, fp6, hcn, -⟩
      obtain ⟨z, hz⟩ : ∃ z : Int, ((([] : List (Nd × List Int)).length + k'.count : Nat) : Int) = z := ⟨_, rfl⟩
      rw [hz] at he
      subst he
      have hP : PSt w6 w4.heap.size W2.heap.size w2.heap.size (.slice ta tn tcap) ov ((Fo.one n' k').flat 0) := by
        obtain ⟨cs, ho, hO⟩ := hcn.nodes
        rw [List.nil_append] at ho hO
        exact ⟨hcn.cell, ⟨by simp only [Fo.flat_len]; omega, cs, fp6, _, ho, hlow, hO, hcn.new⟩, hft2, hlow⟩
      have hovs : sliceV ov := by
        obtain ⟨cs, ho, -⟩ := hcn.nodes
        obtain ⟨a, cap, h, -⟩ := owns_row ho
        exact ⟨_, _, _, h⟩
      obtain ⟨oa, on, ocap, rfl⟩ := hovs
      have HS6 := Lib.hid (HS4.out.ext' hcn.ext)
      have HP6 := Lib.hid hP
      clear hcn hP hz HNODES b0 b1 b2 b3 b4 b5 bl c0 c1 cz0 cz1 cl x0 x1 xz0 xz1 xl hft2 HE4
      obtain ⟨b0, b1, b2, b3, b4, b5, bl⟩ := six_facts HS6.out.b0
      obtain ⟨c0, c1, cz0, cz1, cl⟩ := two_facts HS6.out.b1
      obtain ⟨x0, x1, xz0, xz1, xl⟩ := two_facts HS6.out.f
      obtain ⟨g0, g1, gz0, gz1, gl⟩ := two_facts HP6.out.cell
      have hvr := valV_flat (valV_inv HV1.out).1 (valV_inv HV1.out).2.1 HSAME.out.shaped HSAME.out.ok
      have hcz2 := cz_valV D ⟨ts, (Fo.one n' k').flat 0⟩
      have hval := HVAL2.out _ HS6.out.ext _ _ _ HP6.out.nod
      obtain ⟨v2, hv2⟩ : ∃ v, valV D ⟨ts, (Fo.one n' k').flat 0⟩ = v := ⟨_, rfl⟩
      rw [hv2] at hvr hcz2 hval
      obtain ⟨v2c, v2i⟩ := v2
      have HVAL := Lib.hid hval
      have HV2 := Lib.hid hv2
      clear hval hv2 HVAL2
      go_wp2_with fail
      refine HVAL.out.mono ?_
      rintro e w7 ⟨rfl, hE7⟩
      have HS7 := Lib.hid (HS6.out.ext' hE7)
      have HP7 := Lib.hid (HP6.out.ext' hE7)
      clear hE7 HVAL b0 b1 b2 b3 b4 b5 bl c0 c1 cz0 cz1 cl x0 x1 xz0 xz1 xl g0 g1 gz0 gz1 gl
      obtain ⟨b0, b1, b2, b3, b4, b5, bl⟩ := six_facts HS7.out.b0
      obtain ⟨c0, c1, cz0, cz1, cl⟩ := two_facts HS7.out.b1
      obtain ⟨x0, x1, xz0, xz1, xl⟩ := two_facts HS7.out.f
      obtain ⟨g0, g1, gz0, gz1, gl⟩ := two_facts HP7.out.cell
      by_cases hv2c : v2c = 0
      · subst hv2c
        have hvi : v2i = 0 := congrArg Prod.snd (hcz2 rfl)
        subst hvi
        have hev2 := HEV1.out _ HV2.out
        clear hvr hcz2
        have hlim := valV_lim HV2.out
        have hsev := HSAME.out.ev args HENV.out
        rw [HRR.out] at hsev
        have hx2 := fun W (hW : Ext w W) (ht : IntsAt W (.slice ta tn tcap) ts) Lo nv2 (h : NodNew Lo W nv2 _) => HEV2.out n' k' HSAME.out.shaped HSAME.out.ok (.slice ta tn tcap) W hW ht Lo nv2 h
        rw [hev2] at hx2
        simp only [hsev] at hx2
        have HX2 := Lib.hid hx2
        have HSEV := Lib.hid hsev
        have HLIM := Lib.hid hlim
        clear hev2 hlim hsev hx2
        go_wp2_with fail
        refine (HX2.out _ (HS7.out.ext.alloc _) (HTV.out _ (HS7.out.ext.alloc _)) _ _ (HP7.out.nod.ext ((Ext.refl w7).alloc _))).mono ?_
        rintro e w8 ⟨hE8, bo2, rfl, htop2⟩
        obtain rfl := htop2.2 rfl
        have HS8 := Lib.hid (HS7.out.ext' hE8.of_new)
        have HP8 := Lib.hid (HP7.out.ext' hE8.of_new)
        have hlt1 := HS8.out.hft
        have hlt2 := HP8.out.lo
        have hlt3 := HP8.out.hgb
        clear hE8 htop2 HX2 b0 b1 b2 b3 b4 b5 bl c0 c1 cz0 cz1 cl x0 x1 xz0 xz1 xl g0 g1 gz0 gz1 gl
        obtain ⟨b0, b1, b2, b3, b4, b5, bl⟩ := six_facts HS8.out.b0
        obtain ⟨c0, c1, cz0, cz1, cl⟩ := two_facts HS8.out.b1
        obtain ⟨x0, x1, xz0, xz1, xl⟩ := two_facts HS8.out.f
        obtain ⟨g0, g1, gz0, gz1, gl⟩ := two_facts HP8.out.cell
        have HS8' := Lib.hid (HS8.out.store 0 0)
        have HP8' := Lib.hid (HP8.out.store (i64 0) (i64 0))
        have hnv : negV D ⟨ts, (Fo.one n' k').flat 0⟩ (ngF true (Fo.one n' k')) = if 30 < (ngF true (Fo.one n' k')).count then (10, -13) else (0, 0) := by
          unfold negV
          rw [if_neg (by simpa using HV2.out)]
        have hneg := HNEG.out n' k' HSAME.out.shaped _ HS8'.out.ext _ _ HP8'.out.nod
        rw [hnv] at hneg
        obtain ⟨n3, k3, hn3⟩ := ng_one (b := true) HSAME.out.shaped
        rw [hn3] at hneg
        have hsh3 : (Fo.one n3 k3).Shaped := by rw [← hn3]; exact ngF_shaped _ true HSAME.out.shaped
        have hok3 : OkF D ts (Fo.one n3 k3) := by rw [← hn3]; exact ngF_ok true HSAME.out.ok
        have hlim3 : LimF ts (Fo.one n3 k3) := by rw [← hn3]; exact ngF_lim true HLIM.out.2
        have hev3 : evN D atoms n3 (evF D atoms k3) args = !bo2 := by
          have h := ngF_ev D atoms (Fo.one n' k') true args HSAME.out.shaped
          rw [hn3, evF_one, evF_one, List.map_singleton, HSEV.out] at h
          have h := List.cons.inj h
          rw [h.1]
          cases bo2 <;> rfl
        by_cases h30 : 30 < (Fo.one n3 k3).count
        · rw [if_pos h30] at hneg
          have HNG := Lib.hid hneg
          clear hneg hnv hn3 hsh3 hok3 hlim3 hev3 h30
          go_wp2_with fail
          refine HNG.out.mono ?_
          rintro e w9 ⟨hE9, tv3, nv3, rfl, ⟨ua, un, uc, rfl⟩, ⟨va, vn, vc, rfl⟩, -⟩
          have HS9 := Lib.hid (HS8'.out.ext' hE9)
          clear hE9 HNG b0 b1 b2 b3 b4 b5 bl c0 c1 cz0 cz1 cl x0 x1 xz0 xz1 xl g0 g1 gz0 gz1 gl
          obtain ⟨x0, x1, xz0, xz1, xl⟩ := two_facts HS9.out.f
          go_wp2
          go_ret
          exact ⟨rfl, (HS9.out.store 10 (-13)).ext.alloc _⟩
        · rw [if_neg h30] at hneg
          have hval3 := valV_right (valV_inv HV1.out).1 (valV_inv HV1.out).2.1 hsh3 (by omega) hok3 hlim3
          have hx3 := fun tv3 W (hW : Ext w W) (ht : IntsAt W tv3 ts) Lo nv2 (h : NodNew Lo W nv2 _) => HEV2.out n3 k3 hsh3 hok3 tv3 W hW ht Lo nv2 h
          rw [HEV1.out _ hval3] at hx3
          simp only [hev3] at hx3
          have HX3 := Lib.hid hx3
          have HNG := Lib.hid hneg
          clear hneg hnv hn3 hsh3 hok3 hlim3 hev3 h30 hval3 hx3 HEV2
          go_wp2_with fail
          refine HNG.out.mono ?_
          rintro e w9 ⟨hE9, tv3, nv3, rfl, ⟨ua, un, uc, rfl⟩, ⟨va, vn, vc, rfl⟩, h9⟩
          obtain ⟨hI9, hN9⟩ := h9 rfl
          have hsz8 := HS8.out.hft
          have hfl8 := (two_facts HS8.out.f).2.2.2.2
          have HS9 := Lib.hid (HS8'.out.ext' hE9)
          have hk9 : ∀ x, ((w8.setCell ⟨w2.heap.size, 0, none⟩ (i64 0)).setCell ⟨w2.heap.size, 1, none⟩ (i64 0)).heap.size ≤ x → x < w9.heap.size → ((w9.setCell ⟨w2.heap.size, 0, none⟩ (i64 0)).setCell ⟨w2.heap.size, 1, none⟩ (i64 0)).heap[x]? = w9.heap[x]? := fun x hx _ => heap_two_ne _ _ (by simp only [World.size_setCell] at hx; omega)
          have HI9 := Lib.hid (hI9.kept hk9)
          have HN9 := Lib.hid (hN9.kept hk9)
          have HS9' := Lib.hid (HS9.out.store 0 0)
          clear hE9 HNG hI9 hN9 hk9 h9 b0 b1 b2 b3 b4 b5 bl c0 c1 cz0 cz1 cl x0 x1 xz0 xz1 xl g0 g1 gz0 gz1 gl
          obtain ⟨b0, b1, b2, b3, b4, b5, bl⟩ := six_facts HS9.out.b0
          obtain ⟨c0, c1, cz0, cz1, cl⟩ := two_facts HS9.out.b1
          obtain ⟨x0, x1, xz0, xz1, xl⟩ := two_facts HS9.out.f
          go_wp2_with fail
          refine (HX3.out _ _ (HS9'.out.ext.alloc _) (HI9.out.ext ((Ext.refl _).alloc _)).ints _ _ (HN9.out.ext ((Ext.refl _).alloc _))).mono ?_
          rintro e w10 ⟨hE10, bo3, rfl, htop3⟩
          obtain rfl := htop3.2 rfl
          have HS10 := Lib.hid (HS9'.out.ext' hE10.of_new)
          clear hE10 htop3 HX3 b0 b1 b2 b3 b4 b5 bl c0 c1 cz0 cz1 cl x0 x1 xz0 xz1 xl
          obtain ⟨x0, x1, xz0, xz1, xl⟩ := two_facts HS10.out.f
          have HFE := Lib.hid (HS10.out.store 0 0).ext
          cases bo2 with
          | true =>
            go_wp2
            go_ret
            exact ⟨rfl, HFE.out⟩
          | false =>
            go_wp2
            go_ret
            exact ⟨rfl, HFE.out⟩
      · have hv22 : v2c = 2 := by
          rcases hvr with h | h
          · exact absurd (congrArg Prod.fst h) hv2c
          · exact h
        subst hv22
        clear hvr hcz2 hv2c
        go_wp2
        go_ret
        exact ⟨rfl, HS7.out.ext.alloc _⟩
  · have hb : bo1 = false := htop.1 (fun h => hc0 (congrArg Prod.fst h))
    subst hb
    clear htop HOK HCZ
    go_wp2
    go_ret
    exact ⟨rfl, HE2.out.alloc _⟩
end Go.Proofs.Ytodlkjjoenglgaa
