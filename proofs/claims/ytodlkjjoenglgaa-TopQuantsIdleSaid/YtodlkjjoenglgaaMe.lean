/- Parts of a proof about conditions: Ev1 Ev2. -/
import Derived.Test.YtodlkjjoenglgaaMd
/- condition.value, Bind, values. -/
namespace Go.Proofs.Ytodlkjjoenglgaa
open Go Go.RowKit

def valueOf (ps : List Int) (x : Int) : Int := if x < 0 then ps.getD (-1 - x).toNat 0 else x
theorem value_any (w : World) (pv : Value) (ps : List Int) (hp : IntsAt w pv ps) (x : Int) (hx : -(ps.length : Int) ≤ x) :
    Calls Try.prog 86 #[i64 x, pv] w fun e w' => e = .returned (i64 (valueOf ps x)) ∧ w = w' := by
  obtain ⟨pa, pcap, rfl, -, p2, p3, hcell⟩ := hp.open
  obtain ⟨r, hr⟩ : ∃ r, valueOf ps x = r := ⟨_, rfl⟩
  rw [hr]
  obtain ⟨n, hn⟩ : ∃ n, ps.length = n := ⟨_, rfl⟩
  rw [hn] at hcell hx p3 ⊢
  unfold maxLen at p2
  by_cases h : x < 0
  · obtain ⟨b, off, rfl, hc⟩ := hcell (-1 - x).toNat (by omega)
    have hv : r = ps.getD (-1 - x).toNat 0 := by rw [← hr]; unfold valueOf; rw [if_pos h]
    rw [← hv] at hc
    have hlt := World.block_lt_of_cell? w _ hc
    have h4 : 0 ≤ -1 - x := by omega
    have h5 : (-1 - x) < n := by omega
    clear hv hr hn hcell hp
    go_enter Try.func86, Try.ntmps86
    go_wp2
    go_ret
    exact ⟨rfl, rfl⟩
  · have hv : r = x := by rw [← hr]; unfold valueOf; rw [if_neg h]
    subst hv
    clear hr hn hcell hp
    go_enter Try.func86, Try.ntmps86
    go_wp2
    go_ret
    exact ⟨rfl, rfl⟩

def bindA (ps : List Int) (a : AtD) : AtD := ⟨a.pred, a.args.map (valueOf ps)⟩
theorem results_atom {fn : Func} {p : Tmp} {tmps : Array Value} {b : Nat} {w : World} {x : Int} {v : Value} (h : fn.results = #[.cell p 46]) (ht : tmps.getD p undef = .pointer (some ⟨b, 0, none⟩)) (hb : w.heap[b]? = some (.cells #[i64 x, v] 46)) :
    (results fn tmps).run Try.prog w = .ok (.agg #[i64 x, v]) w := by
  have h0 : w.cell? ⟨b, 0, none⟩ = some (i64 x) := by rw [cell_of_heap hb]; rfl
  have h1 : w.cell? ⟨b, 1, none⟩ = some v := by rw [cell_of_heap hb]; rfl
  rw [Array.getD_eq_getD_getElem?] at ht
  simp only [results, h]
  simp [go_sem, ht, h0, h1, Sem.run_bind, Result.andThen]

theorem owns_keep {w w' : World} {base : Nat} {e : TypeId} {sz : Nat} {v : Value} {n : Nat} {xs : List Value} (h : w.ownsRow base e sz v n xs) (hk : ∀ k, base ≤ k → w'.heap[k]? = w.heap[k]?) : w'.ownsRow base e sz v n xs := by
  obtain ⟨hl, h⟩ := h
  refine ⟨hl, ?_⟩
  rcases h with h | ⟨g, cap, cur, h1, h2, h3, h4⟩
  · exact .inl h
  · exact .inr ⟨g, cap, cur, h1, h2, (hk g h2).trans h3, h4⟩
/-- Between two rounds of Bind. -/
structure BdInv (w : World) (p : Int) (av : Value) (xs : List Int) (k : Nat) (v : Value) (W : World) : Prop where
  ext : Ext w W
  box : W.heap[w.heap.size]? = some (.cells #[i64 p, av] 46)
  res : W.heap[w.heap.size + 1]? = some (.cells #[i64 0, .slice none 0 0] 46)
  out : W.heap[w.heap.size + 1 + 1]? = some (.cells #[i64 p, v] 46)
  own : W.ownsRow (w.heap.size + 3) 3 1 v k ((xs.take k).map i64)

set_option maxRecDepth 20000 in
set_option maxHeartbeats 2000000 in
theorem bind_any (w : World) (a : AtD) (av pv : Value) (ps : List Int) (ha : IntsAt w av a.args) (hp : IntsAt w pv ps) (hx : ∀ x ∈ a.args, -(ps.length : Int) ≤ x) :
    Calls Try.prog 85 #[.agg #[i64 a.pred, av], pv] w fun e w' => Ext w w' ∧ ∃ v, e = .returned (.agg #[i64 a.pred, v]) ∧ IntsAt w' v (bindA ps a).args := by
  obtain ⟨i0, hi, hz0, hz1, hz2⟩ := info_parts info3
  obtain ⟨aa, acap, rfl, a1, a2, a3, hcell⟩ := ha.open
  have hval := fun W (hW : Ext w W) x (h : -(ps.length : Int) ≤ x) => value_any W pv ps (hp.ext hW) x h
  obtain ⟨pa, pcap, rfl⟩ := hp.slice
  obtain ⟨p, l⟩ := a
  obtain ⟨xs, hxs⟩ : ∃ xs, l.map (valueOf ps) = xs := ⟨_, rfl⟩
  have hxl : xs.length = l.length := by rw [← hxs, List.length_map]
  have hxg : ∀ k (h : k < l.length), xs.take (k + 1) = xs.take k ++ [valueOf ps (l.getD k 0)] := fun k h => by
    rw [List.take_add_one, ← hxs, List.getElem?_map, List.getElem?_eq_getElem h, List.getD_eq_getElem?_getD, List.getElem?_eq_getElem h]; rfl
  have hxr : ∀ k, k < l.length → -(ps.length : Int) ≤ l.getD k 0 := fun k h => by
    rw [List.getD_eq_getElem?_getD, List.getElem?_eq_getElem h]; exact hx _ (List.getElem_mem h)
  simp only [bindA, hxs] at hcell hxl a1 a3 ⊢
  obtain ⟨n, hn⟩ : ∃ n, l.length = n := ⟨_, rfl⟩
  obtain ⟨pn, hpn⟩ : ∃ n, ps.length = n := ⟨_, rfl⟩
  simp only [hn, hpn] at hcell hxl hxg hxr a1 a3 hval ⊢
  have HCELL := Lib.hid hcell
  have HVAL := Lib.hid hval
  have HXG := Lib.hid hxg
  have HXR := Lib.hid hxr
  have HXL := Lib.hid hxl
  unfold maxLen at a2
  clear ha hp hx hxs hcell hval hxg hxr hxl hn hpn
  go_enter Try.func85, Try.ntmps85
  go_wp2_with fail
  have H0 : Hid (BdInv w p (.slice aa n acap) xs 0 (.slice none 0 0) (((w.alloc (.cells #[i64 p, .slice aa n acap] 46)).alloc (.cells #[i64 0, .slice none 0 0] 46)).alloc (.cells #[i64 p, .slice none 0 0] 46))) := by
    refine ⟨(((Ext.refl w).alloc _).alloc _).alloc _, ?_, ?_, ?_, World.ownsRow_nil ..⟩
    · exact (heap_alloc_lt (by simp; omega)).trans ((heap_alloc_lt (by simp)).trans (heap_alloc_new _ _))
    · exact (heap_alloc_lt (by simp)).trans (heap_alloc_second _ _ _)
    · have h := heap_alloc_new ((w.alloc (.cells #[i64 p, .slice aa n acap] 46)).alloc (.cells #[i64 0, .slice none 0 0] 46)) (.cells #[i64 p, .slice none 0 0] 46)
      rwa [World.size_alloc, World.size_alloc] at h
  go_loopw [14] (fun i wr => ∃ k : Nat, k ≤ n ∧ i = .int .i64 k ∧ ∃ v, Hid (BdInv w p (.slice aa n acap) xs k v wr)) (fun i _ => n - (intOf i).toNat)
  case atStart => exact ⟨0, Nat.zero_le _, rfl, _, H0⟩
  case round =>
    obtain ⟨k, hk, rfl, v, HI⟩ := hrel
    clear H0
    obtain ⟨g0, g1, gz0, gz1, gl⟩ := two_facts HI.out.out
    by_cases hlt : k < n
    · obtain ⟨b, off, rfl, hc⟩ := HCELL.out k hlt
      obtain ⟨x, hx⟩ : ∃ x, l.getD k 0 = x := ⟨_, rfl⟩
      rw [hx] at hc
      have hxr := HXR.out k hlt
      have hxg := HXG.out k hlt
      rw [hx] at hxr hxg
      have e0 := HI.out.ext.cell hc
      have elt := World.block_lt_of_cell? wr _ e0
      have hcall := fun W hW => HVAL.out W hW x hxr
      obtain ⟨y, hy⟩ : ∃ y, valueOf ps x = y := ⟨_, rfl⟩
      rw [hy] at hxg hcall
      have HCALL := Lib.hid hcall
      have HXG1 := Lib.hid hxg
      clear hc hx hxr hxg hcall hy
      go_wp2_with fail
      refine wp_region_seq (Ext wr) [(0, 0), (1, 1), (2, 0), (3, 0), (4, 2), (5, 2), (6, 3), (7, 0), (8, 3)] (by kernel_rfl) (by kernel_rfl) (Ext.refl wr).drew (fun hS => ?_)
      simp only [List.map, nthOp]
      refine seqL_yield rfl (fun w' => by go_simp; rfl) ?_
      try simp only [Act.put, List.setIfInBounds_toArray, List.set_cons_zero, List.set_cons_succ]
      refine seqL_read hS rfl (fun w' hE => by have q := hE.cell g1; clear hE; go_simp; rfl) ?_
      try simp only [Act.put, List.setIfInBounds_toArray, List.set_cons_zero, List.set_cons_succ]
      iterate 2
        refine seqL_yield rfl (fun w' => by go_simp; rfl) ?_
        try simp only [Act.put, List.setIfInBounds_toArray, List.set_cons_zero, List.set_cons_succ]
      refine seqL_grow rfl (fun K hK => ?_)
      have HKK := Lib.hid hK
      clear hK
      go_simp
      refine (HCALL.out _ (HI.out.ext.trans hS)).mono ?_
      rintro e w3 ⟨rfl, rfl⟩
      refine HKK.out _ _ hS (fun hS => ?_)
      clear HKK K
      try simp only [Act.put, List.setIfInBounds_toArray, List.set_cons_zero, List.set_cons_succ]
      refine seqL_grow rfl (fun K hK => ?_)
      have HKK := Lib.hid hK
      clear hK
      go_simp
      refine HKK.out _ _ (hS.alloc _) (fun hS1 => ?_)
      clear HKK K
      try simp only [Act.put, List.setIfInBounds_toArray, List.set_cons_zero, List.set_cons_succ]
      refine seqL_loud rfl (fun K hK => ?_)
      have HKK := Lib.hid hK
      clear hK
      have hown1 : World.ownsRow _ (w.heap.size + 3) 3 1 v k ((xs.take k).map i64) := (HI.out.own.kept (row := none) ⟨hS1.os, hS1.tape, hS1.output, hS1.size, fun j hj _ => Below.block hS1 j hj⟩ (by cases Value.ownBlock _ <;> simp))
      refine wp_append_lies _ _ _ 30 rfl (w.heap.size + 3) 3 i0 (.int .i64 0) 1 8 Try.underlying30 hi hz0 hz1 hz2 rfl (by decide) v k ((xs.take k).map i64) rfl hown1 ⟨wr.drew.heap.size, 0, none⟩ 1 1 [i64 y] rfl rfl (World.news_of_block (heap_alloc_new _ _)) (by simp [Value.oneCell']) (by decide) (by unfold maxLen; omega) (by omega) (by have h1 := hS1.size; omega) _ rfl ?_
      intro g' cap' w4 hown2 hgrow hat hlt'
      refine HKK.out _ _ ?_
      clear HKK K
      try simp only [Act.put, List.setIfInBounds_toArray, List.set_cons_zero, List.set_cons_succ]
      refine seqL_yield rfl (fun w' => by go_simp; rfl) ?_
      try simp only [Act.put, List.setIfInBounds_toArray, List.set_cons_zero, List.set_cons_succ]
      have hgl := HI.out.ext.size
      have hrow : ∀ j, v.ownBlock = some j → w.heap.size + 3 ≤ j := fun j hj => (hown1.lt j hj).1
      have hkept : ∀ j, j < w.heap.size + 3 → w4.heap[j]? = wr.heap[j]? := fun j hj => by
        have hjl : j < wr.heap.size := by have := heap_lt HI.out.out; omega
        rw [hgrow.block j (by have := hS1.size; omega) (by intro e; have := hrow j e.symm; omega)]
        exact Below.block hS1 j hjl
      have h24 : w4.heap[w.heap.size + 1 + 1]? = some (.cells #[i64 p, v] 46) := (hkept _ (by omega)).trans HI.out.out
      have q1 : w4.cell? ⟨w.heap.size + 1 + 1, 1, none⟩ = some v := by rw [cell_of_heap h24]; rfl
      have q2 : w4.frozen? ⟨w.heap.size + 1 + 1, 1, none⟩ = false := free_of_heap h24 1
      have hE4 : Ext w w4 := (HI.out.ext.trans hS1).of_grown hgrow (fun j hj => by have := hrow j hj; omega)
      have HNEW : Hid (BdInv w p (.slice (some ⟨b, off, none⟩) n acap) xs (k + 1) (.slice (some ⟨g', 0, none⟩) (k + 1) cap') (w4.setCell ⟨w.heap.size + 1 + 1, 1, none⟩ (.slice (some ⟨g', 0, none⟩) (k + 1) cap'))) := by
        refine ⟨hE4.setCell (p := ⟨w.heap.size + 1 + 1, 1, none⟩) (by simp; omega) _, ?_, ?_, ?_, ?_⟩
        · rw [heap_setCell_ne _ (by simp; omega), hkept _ (by omega)]; exact HI.out.box
        · rw [heap_setCell_ne _ (by simp), hkept _ (by omega)]; exact HI.out.res
        · exact heap_setCell_at _ h24
        · rw [HXG1.out, List.map_append]
          exact owns_keep hown2 fun j hj => heap_setCell_ne _ (by simp; omega)
      clear hgl hrow hkept h24 hE4 hown1 hown2 hgrow hat hlt'
      refine seqL_loud rfl (fun K hK => ?_)
      have HKK := Lib.hid hK
      clear hK
      go_simp
      refine HKK.out _ _ (seqL_nil ?_)
      clear HKK K
      try simp only [Act.put, List.setIfInBounds_toArray, List.set_cons_zero, List.set_cons_succ]
      go_wp2_with fail
      go_roundw
      case rel => exact ⟨k + 1, by omega, by go_num, _, HNEW⟩
      case measure => simp [intOf]; omega
    · have hkn : k = n := by omega
      subst hkn
      obtain ⟨s0, s1, sz0, sz1, sl⟩ := two_facts HI.out.res
      have hv : sliceV v := by
        obtain ⟨a, cap, h, _⟩ := owns_row HI.out.own
        exact ⟨_, _, _, h⟩
      obtain ⟨va, vn, vcap, rfl⟩ := hv
      go_wp2_with fail
      refine bodyPost_ret (results_atom rfl rfl (heap_two _ _ HI.out.res)) rfl ⟨HI.out.ext.two (by omega) _ _, _, rfl, ?_⟩
      have h1 := HI.out.own
      rw [← HXL.out, List.take_length] at h1
      exact IntsAt.of_owns (owns_keep h1 fun j hj => (heap_setCell_ne _ (by simp; omega)).trans (heap_setCell_ne _ (by simp; omega))) rfl (by have := HXL.out; omega)
end Go.Proofs.Ytodlkjjoenglgaa

/- condition.values. -/
namespace Go.Proofs.Ytodlkjjoenglgaa
open Go Go.RowKit

def argC (D : Dom) (ts args : List Int) (i : Nat) : Int :=
  if args.getD i 0 < 0 ∨ (D.objects.length : Int) ≤ args.getD i 0 then 3
  else if isA D.types (D.objects.getD (args.getD i 0).toNat dNI).2 (ts.getD i 0) = false then 8 else 0
def valuesV (D : Dom) (C : Cnd) (args : List Int) : Int × Int :=
  if args.length ≠ C.types.length then (9, -12) else if scan (argC D C.types args) args.length ≠ 0 then (scan (argC D C.types args) args.length, -12) else (0, 0)

set_option maxRecDepth 20000 in
set_option maxHeartbeats 2000000 in
theorem values_any (w : World) (d : DomV) (D : Dom) (hd : DomAt w d D) (hpre : DomPre D) (tv nv : Value) (C : Cnd) (hc : CndAt w tv nv C) (av : Value) (args : List Int) (ha : IntsAt w av args) :
    Calls Try.prog 60 #[.agg d.cells, .agg #[tv, nv], av] w fun e w' => e = .returned (faultV (valuesV D C args)) ∧ Ext w w' := by
  obtain ⟨v, hv⟩ : ∃ v, valuesV D C args = v := ⟨_, rfl⟩
  rw [hv]
  have his := fun W (hW : Ext w W) (t y : Int) (h1 : -1 ≤ t) (h2 : t < D.types.length) => is_any W d.tv D.types (Sl.ext hd.types hW fun _ _ h => h) hpre.hier t y h1 h2
  have hobj := hpre.objs
  obtain ⟨oa, ocap, ho0, -, ho2, ho3, horow, -⟩ := hd.objects.rows2
  obtain ⟨ta, tcap, ht0, -, ht2, ht3, htc⟩ := hc.types.open
  obtain ⟨aa, acap, rfl, -, a2, a3, hac⟩ := ha.open
  obtain ⟨na, ncap, _, _, hnv, -⟩ := hc.nodes.nodes
  obtain ⟨t1, tn1, tcap1, e1⟩ := hd.types.slice
  obtain ⟨nn, hnn⟩ : ∃ n, C.nodes.length = n := ⟨_, rfl⟩
  obtain ⟨no, hno⟩ : ∃ n, D.objects.length = n := ⟨_, rfl⟩
  obtain ⟨nt, hnt⟩ : ∃ n, C.types.length = n := ⟨_, rfl⟩
  obtain ⟨n, hn⟩ : ∃ n, args.length = n := ⟨_, rfl⟩
  obtain ⟨f, hf⟩ : ∃ f, argC D C.types args = f := ⟨_, rfl⟩
  have hff : ∀ i, f i = if args.getD i 0 < 0 ∨ (no : Int) ≤ args.getD i 0 then 3 else if isA D.types (D.objects.getD (args.getD i 0).toNat dNI).2 (C.types.getD i 0) = false then 8 else 0 := fun i => by rw [← hf, ← hno]; rfl
  have h1 : v = if n ≠ nt then (9, -12) else if scan f n ≠ 0 then (scan f n, -12) else (0, 0) := by rw [← hv, ← hn, ← hnt, ← hf]; unfold valuesV; rfl
  obtain ⟨tv0, ov, qv, sv, iv, gv⟩ := d
  simp only at ho0 ht0 hnv e1 his
  subst ho0 ht0 hnv e1
  simp only [DomV.cells, hno, hnt, hn, hnn] at hobj horow htc hac ho3 ht3 a3 his ⊢
  have HIS := Lib.hid his
  have HOBJ := Lib.hid hobj
  have HOROW := Lib.hid horow
  have HTC := Lib.hid htc
  have HAC := Lib.hid hac
  have HFF := Lib.hid hff
  have H1 := Lib.hid h1
  unfold maxLen at ho2 ht2 a2
  clear his hobj horow htc hac hff h1 hno hnt hn hnn hf hv hd hpre hc ha
  by_cases hl : n = nt
  · subst hl
    have H1a := Lib.hid (show v = _ by rw [H1.out, if_neg (by simp)])
    clear H1
    go_enter Try.func60, Try.ntmps60
    go_wp2_with fail
    generalize hW0 : ((w.alloc (.cells #[.slice t1 tn1 tcap1, .slice oa no ocap, qv, sv, iv, gv] 29)).alloc (.cells #[.slice ta n tcap, .slice na nn ncap] 33)).alloc (.cells #[.int .i64 0, .int .i64 0] 70) = W0
    have B0 : Hid (W0.heap[w.heap.size]? = some (.cells #[.slice t1 tn1 tcap1, .slice oa no ocap, qv, sv, iv, gv] 29)) := by
      show _ = _
      rw [← hW0]; exact (heap_alloc_lt (by simp; omega)).trans ((heap_alloc_lt (by simp)).trans (heap_alloc_new _ _))
    have B1 : Hid (W0.heap[w.heap.size + 1]? = some (.cells #[.slice ta n tcap, .slice na nn ncap] 33)) := by
      show _ = _
      rw [← hW0]; exact (heap_alloc_lt (by simp)).trans (heap_alloc_second _ _ _)
    have B2 : Hid (W0.heap[w.heap.size + 1 + 1]? = some (.cells #[i64 0, i64 0] 70)) := by
      show _ = _
      rw [← hW0]
      have h := heap_alloc_new ((w.alloc (.cells #[.slice t1 tn1 tcap1, .slice oa no ocap, qv, sv, iv, gv] 29)).alloc (.cells #[.slice ta n tcap, .slice na nn ncap] 33)) (.cells #[.int .i64 0, .int .i64 0] 70)
      rwa [World.size_alloc, World.size_alloc] at h
    have HE0 : Hid (Ext w W0) := by
      show Ext w W0
      rw [← hW0]; exact (((Ext.refl w).alloc _).alloc _).alloc _
    clear hW0
    have H0 : Hid (∀ j, j < 0 → f j = 0) := fun j hj => absurd hj (Nat.not_lt_zero j)
    go_loopw [18] (fun i wr => ∃ k : Nat, k ≤ n ∧ i = .int .i64 k ∧ Hid (∀ j, j < k → f j = 0) ∧ Ext W0 wr) (fun i _ => n - (intOf i).toNat)
    case atStart => exact ⟨0, Nat.zero_le _, rfl, H0, Ext.refl _⟩
    case round =>
      obtain ⟨k, hk, rfl, H, hE⟩ := hrel
      clear H0
      obtain ⟨b0, b1, b2, b3, b4, b5, bl⟩ := six_facts (hE.block B0.out)
      obtain ⟨c0, c1, cz0, cz1, cl⟩ := two_facts (hE.block B1.out)
      obtain ⟨r0, r1, z0, z1, rl⟩ := two_facts (hE.block B2.out)
      have HE := Lib.hid hE
      have HEE := Lib.hid (HE0.out.trans hE)
      clear hE
      by_cases hlt : k < n
      · obtain ⟨ba, offa, rfl, hca⟩ := HAC.out k hlt
        obtain ⟨x, hx⟩ : ∃ x, args.getD k 0 = x := ⟨_, rfl⟩
        have hfk := HFF.out k
        rw [hx] at hca hfk
        have e0 := HEE.out.cell hca
        have elt := World.block_lt_of_cell? wr _ e0
        have HFK := Lib.hid hfk
        clear hca hfk hx
        by_cases hx1 : x < 0
        · have HV : Hid (v = (3, -12)) := by
            have h3 : f k = 3 := by rw [HFK.out, if_pos (.inl hx1)]
            show v = _
            rw [H1a.out, scan_hit hlt H.out (by rw [h3]; decide), h3]; rfl
          go_wp2
          rw [HV.out]
          exact bodyPost_ret (results_fault rfl rfl (heap_two _ _ (HE.out.block B2.out))) rfl ⟨rfl, HEE.out.two (b := w.heap.size + 1 + 1) (by omega) _ _⟩
        · by_cases hx2 : (no : Int) ≤ x
          · have HV : Hid (v = (3, -12)) := by
              have h3 : f k = 3 := by rw [HFK.out, if_pos (.inr hx2)]
              show v = _
              rw [H1a.out, scan_hit hlt H.out (by rw [h3]; decide), h3]; rfl
            go_wp2
            rw [HV.out]
            exact bodyPost_ret (results_fault rfl rfl (heap_two _ _ (HE.out.block B2.out))) rfl ⟨rfl, HEE.out.two (b := w.heap.size + 1 + 1) (by omega) _ _⟩
          · obtain ⟨o, rfl⟩ : ∃ o : Nat, x = o := ⟨x.toNat, by omega⟩
            have hon : o < no := by omega
            obtain ⟨bo, offo, rfl, hco⟩ := HOROW.out o hon
            obtain ⟨bt, offt, rfl, hct⟩ := HTC.out k hlt
            have hob := HOBJ.out o hon
            obtain ⟨ot, hot⟩ : ∃ t, (D.objects.getD o dNI).2 = t := ⟨_, rfl⟩
            obtain ⟨ct, hct'⟩ : ∃ t, C.types.getD k 0 = t := ⟨_, rfl⟩
            have e1 : wr.cell? ⟨bo, offo + o * 2 + 1, none⟩ = some (i64 ot) := by rw [← hot]; exact HEE.out.cell (hco 1 _ rfl)
            have g0 := HEE.out.cell hct
            rw [hct'] at g0
            rw [hot] at hob
            have hcall := fun W hW => HIS.out W hW ot ct hob.1 hob.2
            have hfk : f k = if isA D.types ot ct = false then 8 else 0 := by
              rw [HFK.out, if_neg (by omega), Int.toNat_natCast, hot, hct']
            obtain ⟨r, hr⟩ : ∃ r, isA D.types ot ct = r := ⟨_, rfl⟩
            rw [hr] at hcall hfk
            have HCALL := Lib.hid hcall
            have HFK2 := Lib.hid hfk
            have etl := World.block_lt_of_cell? wr _ e1
            have gtl := World.block_lt_of_cell? wr _ g0
            clear hcall hfk hr hot hct' hob hco hct HFK
            go_wp2_with fail
            refine wp_region_seq (Ext wr) [(0, 0), (1, 1), (2, 0), (3, 1), (4, 0), (5, 0), (6, 0), (7, 1), (8, 0), (9, 1), (10, 0), (11, 0), (12, 1), (13, 2), (14, 0), (15, 0)] (by kernel_rfl) (by kernel_rfl) (Ext.refl wr).drew (fun hS => ?_)
            simp only [List.map, nthOp]
            refine seqL_yield rfl (fun w' => by go_simp; rfl) ?_
            try simp only [Act.put, List.setIfInBounds_toArray, List.set_cons_zero, List.set_cons_succ]
            refine seqL_read hS rfl (fun w' hE => by have q := hE.cell b0; clear hE; go_simp; rfl) ?_
            try simp only [Act.put, List.setIfInBounds_toArray, List.set_cons_zero, List.set_cons_succ]
            refine seqL_yield rfl (fun w' => by go_simp; rfl) ?_
            try simp only [Act.put, List.setIfInBounds_toArray, List.set_cons_zero, List.set_cons_succ]
            refine seqL_read hS rfl (fun w' hE => by have q := hE.cell b1; clear hE; go_simp; rfl) ?_
            try simp only [Act.put, List.setIfInBounds_toArray, List.set_cons_zero, List.set_cons_succ]
            refine seqL_yield rfl (fun w' => by go_simp; rfl) ?_
            try simp only [Act.put, List.setIfInBounds_toArray, List.set_cons_zero, List.set_cons_succ]
            refine seqL_yield rfl (fun w' => by go_simp; rfl) ?_
            try simp only [Act.put, List.setIfInBounds_toArray, List.set_cons_zero, List.set_cons_succ]
            refine seqL_yield rfl (fun w' => by go_simp; rfl) ?_
            try simp only [Act.put, List.setIfInBounds_toArray, List.set_cons_zero, List.set_cons_succ]
            refine seqL_read hS rfl (fun w' hE => by have q := hE.cell e1; clear hE; go_simp; rfl) ?_
            try simp only [Act.put, List.setIfInBounds_toArray, List.set_cons_zero, List.set_cons_succ]
            refine seqL_yield rfl (fun w' => by go_simp; rfl) ?_
            try simp only [Act.put, List.setIfInBounds_toArray, List.set_cons_zero, List.set_cons_succ]
            refine seqL_read hS rfl (fun w' hE => by have q := hE.cell c0; clear hE; go_simp; rfl) ?_
            try simp only [Act.put, List.setIfInBounds_toArray, List.set_cons_zero, List.set_cons_succ]
            refine seqL_yield rfl (fun w' => by go_simp; rfl) ?_
            try simp only [Act.put, List.setIfInBounds_toArray, List.set_cons_zero, List.set_cons_succ]
            refine seqL_yield rfl (fun w' => by go_simp; rfl) ?_
            try simp only [Act.put, List.setIfInBounds_toArray, List.set_cons_zero, List.set_cons_succ]
            refine seqL_read hS rfl (fun w' hE => by have q := hE.cell g0; clear hE; go_simp; rfl) ?_
            try simp only [Act.put, List.setIfInBounds_toArray, List.set_cons_zero, List.set_cons_succ]
            refine seqL_grow rfl (fun K hK => ?_)
            have HKK := Lib.hid hK
            clear hK
            go_simp
            refine (HCALL.out _ (HEE.out.trans hS)).mono ?_
            rintro e w3 ⟨rfl, hE3⟩
            refine HKK.out _ _ (hS.trans hE3) (fun hS => ?_)
            clear HKK K hE3
            try simp only [Act.put, List.setIfInBounds_toArray, List.set_cons_zero, List.set_cons_succ]
            iterate 2
              refine seqL_yield rfl (fun w' => by go_simp; rfl) ?_
              try simp only [Act.put, List.setIfInBounds_toArray, List.set_cons_zero, List.set_cons_succ]
            refine seqL_nil ?_
            have HS := Lib.hid (HE.out.trans hS)
            clear hS b0 b1 b2 b3 b4 b5 bl c0 c1 cz0 cz1 cl r0 r1 z0 z1 rl e0 e1 g0 elt etl gtl
            obtain ⟨r0, r1, z0, z1, rl⟩ := two_facts (HS.out.block B2.out)
            cases r with
            | true =>
              have hok : Hid (∀ j, j < k + 1 → f j = 0) := fun j hj => by
                rcases Nat.lt_succ_iff_lt_or_eq.1 hj with h' | rfl
                · exact H.out j h'
                · rw [HFK2.out, if_neg (by decide)]
              go_wp2_with fail
              go_roundw
              case rel => exact ⟨k + 1, by omega, by go_num, hok, HS.out⟩
              case measure => simp [intOf]; omega
            | false =>
              have HV : Hid (v = (8, -12)) := by
                have h3 : f k = 8 := by rw [HFK2.out, if_pos rfl]
                show v = _
                rw [H1a.out, scan_hit hlt H.out (by rw [h3]; decide), h3]; rfl
              go_wp2
              rw [HV.out]
              exact bodyPost_ret (results_fault rfl rfl (heap_two _ _ (HS.out.block B2.out))) rfl ⟨rfl, (HE0.out.trans HS.out).two (b := w.heap.size + 1 + 1) (by omega) _ _⟩
      · have hkn : k = n := by omega
        subst hkn
        have HV : Hid (v = (0, 0)) := by show v = _; rw [H1a.out, scan_none H.out]; rfl
        go_wp2
        rw [HV.out]
        exact bodyPost_ret (results_fault rfl rfl (heap_two _ _ (HE.out.block B2.out))) rfl ⟨rfl, HEE.out.two (b := w.heap.size + 1 + 1) (by omega) _ _⟩
  · have HV := Lib.hid (show v = (9, -12) by rw [H1.out, if_pos hl])
    have hb : ((n : Int) != (nt : Int)) = true := by simpa using fun h => hl (by omega)
    clear hl H1
    go_enter Try.func60, Try.ntmps60
    go_wp2
    rw [HV.out]
    refine bodyPost_ret (results_fault rfl rfl (by have h := heap_alloc_new ((w.alloc (.cells #[.slice t1 tn1 tcap1, .slice oa no ocap, qv, sv, iv, gv] 29)).alloc (.cells #[.slice ta nt tcap, .slice na nn ncap] 33)) (.cells #[.int .i64 9, .int .i64 (-12)] 70); rwa [World.size_alloc, World.size_alloc] at h)) rfl ⟨rfl, (((Ext.refl w).alloc _).alloc _).alloc _⟩
end Go.Proofs.Ytodlkjjoenglgaa
