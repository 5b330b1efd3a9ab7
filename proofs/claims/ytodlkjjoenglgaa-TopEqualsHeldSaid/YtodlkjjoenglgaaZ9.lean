/- TopEqualsHeld: whatever the input, it returns true, and the input reads as it did -/
import Derived.Test.YtodlkjjoenglgaaMj
import Derived.Test.YtodlkjjoenglgaaMf
/- What the laws' closures make: trees over trees, changed arguments. -/
namespace Go.Proofs.Ytodlkjjoenglgaa
open Go Go.RowKit

/-- A new node over new kids. -/
theorem con_tree {W W' : World} {k : Fo} {bs fp : List Nat} {T : TypeId} {b : Nat} {nd : Nd} (hf : isF W k bs fp) (cs : Array Value) (hcs : cs = (bs.map ptr).toArray) (l : Nat) (hl : bs.length = l) (hm : l ≤ maxLen) (e : Ext (W.alloc (.cells cs T)) W') (hargs : nd.args = [])
    (hb : W'.heap[b]? = some (.cells (nodeCells nd (.slice none 0 0) (.slice none 0 0) (.slice (some ⟨W.heap.size, 0, none⟩) l l)) 50 (0, 0))) (hbs : W.heap.size ≤ b) :
    ∃ fp', isF W' (Fo.one nd k) [b] fp' ∧ ∀ x ∈ fp', x ∈ fp ∨ W.heap.size ≤ x := by
  subst hcs
  have ha : Arr W' [] (.slice none 0 0) (nd.args.map i64) := by rw [hargs]; exact Arr.nil _ _ _ (Nat.zero_le _)
  refine ⟨_, isF_node hb ⟨_, _, _, rfl⟩ ha (arr_new e l (by rw [List.length_map, hl]) hm) (hf.ext e.of_new), fun x hx => ?_⟩
  simp only [List.append_nil, List.nil_append, List.mem_cons, List.mem_append, List.not_mem_nil, or_false] at hx
  rcases hx with rfl | rfl | hx
  · exact .inr hbs
  · exact .inr (Nat.le_refl _)
  · exact .inl hx
/-- A new node without kids. -/
theorem leaf_tree {W' : World} {b : Nat} {nd : Nd} (hargs : nd.args = []) (hb : W'.heap[b]? = some (.cells (nodeCells nd (.slice none 0 0) (.slice none 0 0) (.slice none 0 0)) 50 (0, 0))) :
    isF W' (Fo.one nd .nil) [b] [b] := by
  have ha : Arr W' [] (.slice none 0 0) (nd.args.map i64) := by rw [hargs]; exact Arr.nil _ _ _ (Nat.zero_le _)
  have h := isF_node (k := .nil) (bs := []) (fp := []) (fk := []) hb ⟨_, _, _, rfl⟩ ha (Arr.nil _ none 0 (Nat.zero_le _)) ⟨rfl, rfl⟩
  simpa using h
/-- A node over kids, as wCon and wQuant make it. -/
theorem con_alloc {W : World} {N : Nat} (hN : W.heap.size = N) {k : Fo} {bs fp : List Nat} (hf : isF W k bs fp) (cs : Array Value) (hcs : cs = (bs.map ptr).toArray) (l : Nat) (hl : bs.length = l) (hm : l ≤ maxLen) (T : TypeId) (nd : Nd) (hargs : nd.args = []) :
    ((W.alloc (.cells cs T)).alloc (.cells (nodeCells nd (.slice none 0 0) (.slice none 0 0) (.slice (some ⟨N, 0, none⟩) l l)) 50)).heap.size = N + 1 + 1 ∧
    ∃ fp', isF ((W.alloc (.cells cs T)).alloc (.cells (nodeCells nd (.slice none 0 0) (.slice none 0 0) (.slice (some ⟨N, 0, none⟩) l l)) 50)) (Fo.one nd k) [N + 1] fp' ∧ ∀ x ∈ fp', x ∈ fp ∨ N ≤ x := by
  subst hN
  refine ⟨by simp only [World.size_alloc], con_tree hf cs hcs l hl hm ((Ext.refl _).alloc _) hargs ?_ (by omega)⟩
  have h := heap_alloc_new (W.alloc (.cells cs T)) (.cells (nodeCells nd (.slice none 0 0) (.slice none 0 0) (.slice (some ⟨W.heap.size, 0, none⟩) l l)) 50)
  rwa [World.size_alloc] at h
theorem nil_of_leaf {n : Nd} {k : Fo} (hs : (Fo.one n k).Shaped) (hk : n.kind = 2 ∨ n.kind = 3) : k = .nil := by
  obtain ⟨-, s2, -⟩ := hs
  have : k.len = 0 := by
    rcases hk with hk | hk <;> rw [hk] at s2 <;> unfold arityOf at s2 <;> simp at s2 <;> exact s2
  cases k with
  | nil => rfl
  | cons _ _ _ => simp [Fo.len] at this
/-- An argument of a node is changed in place. -/
theorem arr_put {w : World} {f : List Nat} {a : Option Addr} {l cap : Nat} {xs : List Value} (h : Arr w f (.slice a l cap) xs) {j : Nat} (hj : j < xs.length) :
    ∃ g off, a = some ⟨g, off, none⟩ ∧ f = [g] ∧ g < w.heap.size ∧ w.cell? ⟨g, off + j, none⟩ = some xs[j] ∧ w.frozen? ⟨g, off + j, none⟩ = false ∧ ∀ v, Arr (w.setCell ⟨g, off + j, none⟩ v) f (.slice a l cap) (xs.set j v) := by
  obtain ⟨a', cap', hs, h1, h2, h3⟩ := h
  cases hs
  rcases h3 with ⟨rfl, -⟩ | ⟨g, off, cur, e, rfl, rfl, hg, hc⟩
  · simp at hj
  · refine ⟨g, off, rfl, rfl, heap_lt hg, ?_, free_of_heap hg _, fun v => ⟨_, _, by rw [List.length_set], by rw [List.length_set]; exact h1, h2, .inr ⟨g, off, _, e, rfl, rfl, heap_setCell_at v hg, fun i x hx => ?_⟩⟩⟩
    · rw [cell_of_heap hg]
      exact hc j _ (List.getElem?_eq_getElem hj)
    · have hjc := hc j _ (List.getElem?_eq_getElem hj)
      have hlt := (Array.getElem?_eq_some_iff.1 hjc).1
      by_cases hij : i = j
      · subst hij
        rw [List.getElem?_set_self hj] at hx
        cases hx
        rw [Array.getElem?_setIfInBounds_self_of_lt hlt]
      · rw [List.getElem?_set_ne (fun h => hij h.symm)] at hx
        rw [Array.getElem?_setIfInBounds_ne (by omega)]
        exact hc i x hx
/-- The node's argument j is x now. -/
theorem node_put {w : World} {b : Nat} {n : Nd} {cv av kv : Value} {ks fa fk fpk : List Nat} {k : Fo} (hb : w.heap[b]? = some (.cells (nodeCells n cv av kv) 50 (0, 0))) (hcv : sliceV cv) (hkk : Arr w fk kv (ks.map ptr)) (hfk : isF w k ks fpk)
    {g off j : Nat} {x : Int} (hg : fa = [g]) (hnd : (b :: (fa ++ (fk ++ (fpk ++ [])))).Nodup) (ha : Arr (w.setCell ⟨g, off + j, none⟩ (i64 x)) fa av ((n.args.map i64).set j (i64 x))) :
    isF (w.setCell ⟨g, off + j, none⟩ (i64 x)) (Fo.one { n with args := n.args.set j x } k) [b] (b :: (fa ++ (fk ++ (fpk ++ [])))) := by
  subst hg
  have hne : ∀ y ∈ b :: (fk ++ fpk), y ≠ g := by
    intro y hy h
    subst h
    simp only [List.append_nil, List.nodup_cons, List.mem_cons, List.mem_append, List.singleton_append] at hnd hy
    rcases hy with rfl | hy
    · exact hnd.1 (.inl rfl)
    · exact hnd.2.1 (by simpa using hy)
  refine isF_node (cv := cv) (av := av) (kv := kv) ((heap_setCell_ne _ (hne b (by simp))).trans hb) hcv ?_ (hkk.kept fun y hy => heap_setCell_ne _ (hne y (by simp [hy]))) (hfk.kept fun y hy => heap_setCell_ne _ (hne y (by simp [hy])))
  rw [show ({ n with args := n.args.set j x } : Nd).args = n.args.set j x from rfl, List.map_set]
  exact ha
end Go.Proofs.Ytodlkjjoenglgaa

/- TopEqualsHeld's closure, walked. -/
namespace Go.Proofs.Ytodlkjjoenglgaa
open Go Go.RowKit

theorem enters30 : EntersF 30 := fun args W => enters_of Try.func30 (by kernel_rfl) rfl args W
def canHeld (_ : List Int) (n : Nd) (_ : Fo) : Bool := decide (n.kind = 3) || (decide (n.kind = 2) && decide (0 < n.args.length))

/-- What the closure's last steps make of the equality in block eb and the changed leaf in block b. -/
theorem held_fin {D : Dom} (hpre : DomPre D) {atoms : List AtD} {some' : Bool} {G : List Int} {t' : Int} {n : Nd} {j : Nat} {W W' : World} {fp : List Nat}
    (hj : j < n.args.length) (hk : n.kind = 2) (ht : inRange D.types t') (hat : t' = (D.preds.getD n.pred.toNat dPr).2.getD j 0) (ho : OkF D G (Fo.one n .nil)) (hs : (Fo.one n .nil).Shaped) (hal : n.args.length * 8 ≤ 140737488351232)
    (he1 : Ext1 fp W W') (rb : Nat) (fp' : List Nat) (hF : isF W' (Fo.one (heldT some' G.length t' n .nil j).1 (heldT some' G.length t' n .nil j).2) [rb] fp') (hfp' : ∀ x ∈ fp', x ∈ fp ∨ W.heap.size ≤ x) :
    ByPost D atoms true W G n .nil fp (.returned (ptr rb)) W' := by
  refine ⟨he1, .inr ⟨rfl, rb, _, _, fp', rfl, hF, hfp', held_same D hpre atoms some' G t' n .nil j hj hk ht hat ho hs, ?_, ?_⟩⟩
  · unfold heldT
    cases some' <;> simp [Fo.one, Fo.count]
  · unfold heldT
    cases some' <;> simp [Fo.one, Fo.ArgsLe, qNd, zNd, eNd, hal]

set_option maxRecDepth 100000 in
set_option maxHeartbeats 8000000 in
theorem held_any (w : World) (d : DomV) (D : Dom) (hd : DomAt w d D) (hpre : DomPre D) (hin : ∀ x ∈ D.preds, TypesIn D x.2) (atoms : List AtD) (ab db sb : Nat) (arg : Int) (some' : Bool)
    (ha : w.heap[ab]? = some (.cells #[i64 arg] 3)) (hdb : w.heap[db]? = some (.cells d.cells 29)) (hsb : w.heap[sb]? = some (.cells #[.bool some'] 4)) :
    ByOK w D atoms 30 #[ptr ab, ptr db, ptr sb] canHeld := by
  refine ⟨enters30, fun W hW G n k b fp ht ho hs hc hal hG => ?_⟩
  obtain ⟨hF, hnd, hlo⟩ := ht
  obtain ⟨bx, bs', cv, av, kv, ks, fa, fk, fpk, fpr, hbx, hfp, hb, hcv, haa, hkk, hfk, hfr⟩ := id hF
  obtain ⟨rfl, rfl⟩ := List.cons.inj hbx
  obtain ⟨-, rfl⟩ := hfr
  subst hfp
  obtain ⟨c1, c2, c3, rfl⟩ := hcv
  obtain ⟨a1, a3, hav, -⟩ := id haa
  rw [List.length_map] at hav
  subst hav
  obtain ⟨k1, k3, hkv, -⟩ := id hkk
  obtain ⟨kn, hkn⟩ : ∃ n, (ks.map ptr).length = n := ⟨_, rfl⟩
  rw [hkn] at hkv
  subst hkv
  have hd' := hd.ext hW
  obtain ⟨kd, pd, ar, lf, rg, tp⟩ := n
  have hargl : ar.length * 8 ≤ 140737488351232 := hal.1
  obtain ⟨an, han⟩ : ∃ n, ar.length = n := ⟨_, rfl⟩
  obtain ⟨pa, pn, pcap, hpv⟩ := hd.preds.slice
  have hdc : W.heap[db]? = some (.cells #[d.tv, d.ov, d.pv, d.sv, d.iv, d.gv] 29) := hW.block hdb
  obtain ⟨-, -, d2, -, -, -, dl⟩ := six_facts hdc
  rw [hpv] at d2
  have A0 : W.cell? ⟨ab, 0, none⟩ = some (i64 arg) := by rw [cell_of_heap (hW.block ha)]; rfl
  have S0 : W.heap[sb]? = some (.cells #[.bool some'] 4) := hW.block hsb
  have al := heap_lt (hW.block ha)
  have sl := heap_lt S0
  have hsw := heap_lt hsb
  obtain ⟨x0, x1, x2, x3, x4, x5, x6, x7, xl⟩ := eight_facts hb
  simp only [han] at x3 hb haa
  have HF := Lib.hid hF
  have HO := Lib.hid ho
  have HS := Lib.hid hs
  have HB := Lib.hid hb
  have HAA := Lib.hid haa
  have HKK1 := Lib.hid hkk
  have HFK := Lib.hid hfk
  have HND := Lib.hid hnd
  have HLO := Lib.hid hlo
  have HD := Lib.hid hd'
  have HAL := Lib.hid hargl
  have HS0 := Lib.hid S0
  have HAN := Lib.hid han
  have HKN := Lib.hid hkn
  have HPV := Lib.hid hpv
  have han2 : an ≤ 1000000000000000 := by omega
  obtain ⟨gn, hgn⟩ : ∃ n, G.length = n := ⟨_, rfl⟩
  have HGN := Lib.hid hgn
  rw [hgn] at hG
  rw [hgn]
  clear hF ho hs hb haa hkk hfk hnd hlo hd' hd hargl hal S0 ha hdb hsb hdc han hkn hc hW hpv hgn
  by_cases hk3 : kd = 3
  · subst hk3
    go_enter Try.func30, Try.ntmps30
    go_upto_region 3 with fail
    refine wp_region_seq (Ext W) [(0, 0), (1, 0), (2, 0), (3, 1), (4, 0), (5, 0), (6, 0), (7, 1), (8, 2), (9, 0)] (by kernel_rfl) (by kernel_rfl) (Ext.refl W).drew (fun hS => ?_)
    simp only [List.map, nthOp]
    refine seqL_yield rfl (fun w' => by go_simp; rfl) ?_
    try simp only [Act.put, List.setIfInBounds_toArray, List.set_cons_zero, List.set_cons_succ]
    refine seqL_yield rfl (fun w' => by go_simp; rfl) ?_
    try simp only [Act.put, List.setIfInBounds_toArray, List.set_cons_zero, List.set_cons_succ]
    refine seqL_yield rfl (fun w' => by go_simp; rfl) ?_
    try simp only [Act.put, List.setIfInBounds_toArray, List.set_cons_zero, List.set_cons_succ]
    refine seqL_read hS rfl (fun w' hE => by have q := hE.cell x5; clear hE; go_simp; rfl) ?_
    try simp only [Act.put, List.setIfInBounds_toArray, List.set_cons_zero, List.set_cons_succ]
    refine seqL_yield rfl (fun w' => by go_simp; rfl) ?_
    try simp only [Act.put, List.setIfInBounds_toArray, List.set_cons_zero, List.set_cons_succ]
    refine seqL_yield rfl (fun w' => by go_simp; rfl) ?_
    try simp only [Act.put, List.setIfInBounds_toArray, List.set_cons_zero, List.set_cons_succ]
    refine seqL_yield rfl (fun w' => by go_simp; rfl) ?_
    try simp only [Act.put, List.setIfInBounds_toArray, List.set_cons_zero, List.set_cons_succ]
    refine seqL_read hS rfl (fun w' hE => by have q := hE.cell x4; clear hE; go_simp; rfl) ?_
    try simp only [Act.put, List.setIfInBounds_toArray, List.set_cons_zero, List.set_cons_succ]
    refine seqL_grow rfl (fun K hK => ?_)
    have HKK := Lib.hid hK
    clear hK
    go_simp
    refine (equal2_any _ rg lf).mono ?_
    rintro e w1 ⟨rfl, rfl⟩
    refine HKK.out _ _ (hS.alloc _) (fun _ => ?_)
    clear HKK K
    try simp only [Act.put, List.setIfInBounds_toArray, List.set_cons_zero, List.set_cons_succ]
    refine seqL_yield rfl (fun w' => by go_simp; rfl) ?_
    try simp only [Act.put, List.setIfInBounds_toArray, List.set_cons_zero, List.set_cons_succ]
    refine seqL_nil ?_
    go_wp2
    go_ret
    refine ⟨Ext1.of ((Ext.refl W).drew.alloc _) _, .inr ⟨by simp [canHeld], W.heap.size, eNd rg lf, .nil, _, rfl, leaf_tree rfl (heap_alloc_new _ _), fun x hx => .inr (by simp at hx; omega), eq_same D atoms G _ k rfl HO.out, by simp [Fo.one, Fo.count], by simp [Fo.one, Fo.ArgsLe, eNd]⟩⟩
  · have hk3' : (kd == 3) = false := by simpa using hk3
    by_cases hk2 : kd = 2
    · subst hk2
      by_cases ha0 : an = 0
      · subst ha0
        go_enter Try.func30, Try.ntmps30
        go_wp2
        go_ret
        exact ⟨Ext1.of (Ext.refl W) _, .inl ⟨by simp [canHeld, HAN.out], rfl⟩⟩
      · have ha0' : (an == 0) = false := by simpa using ha0
        have hokl := (HO.out).1.1
        unfold leafCode at hokl
        rw [if_pos (show (Nd.mk 2 pd ar lf rg tp).kind = 2 from rfl)] at hokl
        obtain ⟨⟨hp1, hp2⟩, hp3, -⟩ := atomCode_zero.1 hokl
        obtain ⟨p, hpp⟩ : ∃ p : Nat, pd = p := ⟨pd.toNat, by simp at hp1; omega⟩
        subst hpp
        simp only [Int.toNat_natCast] at hp2 hp3
        have hp2 : p < D.preds.length := by omega
        obtain ⟨P, hP⟩ : ∃ P, D.preds[p]? = some P := ⟨_, List.getElem?_eq_getElem hp2⟩
        have hPg : (D.preds.getD p dPr).2 = P.2 := by rw [List.getD_eq_getElem?_getD, hP]; rfl
        rw [hPg] at hp3
        obtain ⟨pa', pcap', hps, -, -, -, hrow⟩ := HD.out.preds.open
        rw [HPV.out] at hps
        cases hps
        obtain ⟨c, hcl, ⟨tv, rfl, hti, -⟩, rb, roff, rfl, hcell⟩ := hrow p P hP
        have t1 := hcell 1 _ rfl
        obtain ⟨ta, tc, rfl⟩ := hti.slice
        have tl := World.block_lt_of_cell? W _ t1
        have hpl : P.2.length = an := by
          rw [← HAN.out]
          exact hp3.symm
        rw [hpl] at t1
        have HTI := Lib.hid hti
        have HPL := Lib.hid hpl
        have HIN := Lib.hid (hin _ (List.mem_of_getElem? hP))
        have HPG := Lib.hid hPg
        obtain ⟨pn, hpn⟩ : ∃ n, D.preds.length = n := ⟨_, rfl⟩
        rw [hpn] at d2 hp2
        clear hcell hcl hti hpl hrow hokl hp3 hp1 hin hP hPg HPV hpn
        go_enter Try.func30, Try.ntmps30
        go_upto_region 6 with fail
        refine wp_region_seq (Ext W) [(0, 1), (1, 0), (2, 0), (3, 0), (4, 0), (5, 1), (6, 0), (7, 2), (8, 0)] (by kernel_rfl) (by kernel_rfl) (Ext.refl W).drew (fun hS => ?_)
        simp only [List.map, nthOp]
        refine seqL_read hS rfl (fun w' hE => by have q := hE.cell A0; clear hE; go_simp; rfl) ?_
        try simp only [Act.put, List.setIfInBounds_toArray, List.set_cons_zero, List.set_cons_succ]
        refine seqL_yield rfl (fun w' => by go_simp; rfl) ?_
        try simp only [Act.put, List.setIfInBounds_toArray, List.set_cons_zero, List.set_cons_succ]
        refine seqL_yield rfl (fun w' => by go_simp; rfl) ?_
        try simp only [Act.put, List.setIfInBounds_toArray, List.set_cons_zero, List.set_cons_succ]
        refine seqL_yield rfl (fun w' => by go_simp; rfl) ?_
        try simp only [Act.put, List.setIfInBounds_toArray, List.set_cons_zero, List.set_cons_succ]
        refine seqL_yield rfl (fun w' => by go_simp; rfl) ?_
        try simp only [Act.put, List.setIfInBounds_toArray, List.set_cons_zero, List.set_cons_succ]
        refine seqL_read hS rfl (fun w' hE => by have q := hE.cell x3; clear hE; go_simp; rfl) ?_
        try simp only [Act.put, List.setIfInBounds_toArray, List.set_cons_zero, List.set_cons_succ]
        refine seqL_yield rfl (fun w' => by go_simp; rfl) ?_
        try simp only [Act.put, List.setIfInBounds_toArray, List.set_cons_zero, List.set_cons_succ]
        refine seqL_grow rfl (fun K hK => ?_)
        have HKK := Lib.hid hK
        clear hK
        go_simp
        refine (pick_any _ arg an (by omega) (by omega)).mono ?_
        rintro e w1 ⟨rfl, j, hj, rfl⟩
        refine HKK.out _ _ hS (fun _ => ?_)
        clear HKK K
        try simp only [Act.put, List.setIfInBounds_toArray, List.set_cons_zero, List.set_cons_succ]
        refine seqL_yield rfl (fun w' => by go_simp; rfl) ?_
        try simp only [Act.put, List.setIfInBounds_toArray, List.set_cons_zero, List.set_cons_succ]
        refine seqL_nil ?_
        obtain ⟨ti, tcp, hts, -, -, -, htr⟩ := HTI.out.open
        obtain ⟨tb, tof, hta, tc0⟩ := htr j (by rw [HPL.out]; exact hj)
        cases hts
        subst hta
        have tcl := World.block_lt_of_cell? W _ tc0
        obtain ⟨t', htt⟩ : ∃ t, P.2.getD j 0 = t := ⟨_, rfl⟩
        rw [htt] at tc0
        have hjv : j < (ar.map i64).length := by rw [List.length_map, HAN.out]; exact hj
        obtain ⟨g, off, rfl, hfg, hgl, g0, gz, hput⟩ := arr_put HAA.out hjv
        obtain ⟨xj, hxj⟩ : ∃ x, ar.getD j 0 = x := ⟨_, rfl⟩
        have hxj2 : (ar.map i64)[j] = i64 xj := by rw [List.getElem_map, ← hxj, List.getD_eq_getElem?_getD, List.getElem?_eq_getElem (by rw [HAN.out]; exact hj)]; rfl
        rw [hxj2] at g0
        have HPUT := Lib.hid hput
        have HFG := Lib.hid hfg
        have HXJ := Lib.hid hxj
        have HTT := Lib.hid htt
        have hgw : w.heap.size ≤ g := HLO.out g (by rw [hfg]; simp)
        clear hput hfg hxj hxj2 htt htr hS
        go_wp2_with fail
        refine (equal2_any _ _ _).mono ?_
        rintro e w1 ⟨rfl, rfl⟩
        go_upto_region 8 with fail
        generalize hW2 : World.alloc _ _ = W2
        have HE2 : Hid (Ext W W2) := by show Ext W W2; rw [← hW2]; exact (Ext.refl W).alloc _
        have HQ : Hid (W2.heap[W.heap.size]? = some (.cells (nodeCells (eNd (-1 - (gn : Int)) xj) (.slice none 0 0) (.slice none 0 0) (.slice none 0 0)) 50 (0, 0))) := by show W2.heap[W.heap.size]? = _; rw [← hW2]; exact heap_alloc_new _ _
        have hpw2 := HE2.out.size
        have hsz2 : W2.heap.size = W.heap.size + 1 := by rw [← hW2]; simp [World.size_alloc]
        replace d2 := HE2.out.cell d2
        replace t1 := HE2.out.cell t1
        replace tc0 := HE2.out.cell tc0
        have x2' := HE2.out.cell x2
        have x3' := HE2.out.cell x3
        have v0' := HE2.out.cell g0
        have gz' := (HE2.out.frozen g0).trans gz
        clear hW2 x0 x1 x2 x3 x4 x5 x6 x7 g0 gz A0
        refine wp_region_seq (Ext W2) [(0, 0), (1, 1), (2, 0), (3, 0), (4, 0), (5, 0), (6, 1), (7, 0), (8, 0), (9, 1), (10, 0), (11, 0), (12, 1), (13, 0)] (by kernel_rfl) (by kernel_rfl) (Ext.refl W2).drew.drew (fun hS => ?_)
        simp only [List.map, nthOp]
        refine seqL_yield rfl (fun w' => by go_simp; rfl) ?_
        try simp only [Act.put, List.setIfInBounds_toArray, List.set_cons_zero, List.set_cons_succ]
        refine seqL_read hS rfl (fun w' hE => by have q := hE.cell d2; clear hE; go_simp; rfl) ?_
        try simp only [Act.put, List.setIfInBounds_toArray, List.set_cons_zero, List.set_cons_succ]
        refine seqL_yield rfl (fun w' => by go_simp; rfl) ?_
        try simp only [Act.put, List.setIfInBounds_toArray, List.set_cons_zero, List.set_cons_succ]
        refine seqL_yield rfl (fun w' => by go_simp; rfl) ?_
        try simp only [Act.put, List.setIfInBounds_toArray, List.set_cons_zero, List.set_cons_succ]
        refine seqL_yield rfl (fun w' => by go_simp; rfl) ?_
        try simp only [Act.put, List.setIfInBounds_toArray, List.set_cons_zero, List.set_cons_succ]
        refine seqL_yield rfl (fun w' => by go_simp; rfl) ?_
        try simp only [Act.put, List.setIfInBounds_toArray, List.set_cons_zero, List.set_cons_succ]
        refine seqL_read hS rfl (fun w' hE => by have q := hE.cell x2'; clear hE; go_simp; rfl) ?_
        try simp only [Act.put, List.setIfInBounds_toArray, List.set_cons_zero, List.set_cons_succ]
        refine seqL_yield rfl (fun w' => by go_simp; rfl) ?_
        try simp only [Act.put, List.setIfInBounds_toArray, List.set_cons_zero, List.set_cons_succ]
        refine seqL_yield rfl (fun w' => by go_simp; rfl) ?_
        try simp only [Act.put, List.setIfInBounds_toArray, List.set_cons_zero, List.set_cons_succ]
        refine seqL_read hS rfl (fun w' hE => by have q := hE.cell t1; clear hE; go_simp; rfl) ?_
        try simp only [Act.put, List.setIfInBounds_toArray, List.set_cons_zero, List.set_cons_succ]
        refine seqL_yield rfl (fun w' => by go_simp; rfl) ?_
        try simp only [Act.put, List.setIfInBounds_toArray, List.set_cons_zero, List.set_cons_succ]
        refine seqL_yield rfl (fun w' => by go_simp; rfl) ?_
        try simp only [Act.put, List.setIfInBounds_toArray, List.set_cons_zero, List.set_cons_succ]
        refine seqL_read hS rfl (fun w' hE => by have q := hE.cell tc0; clear hE; go_simp; rfl) ?_
        try simp only [Act.put, List.setIfInBounds_toArray, List.set_cons_zero, List.set_cons_succ]
        refine seqL_yield rfl (fun w' => by go_simp; rfl) ?_
        try simp only [Act.put, List.setIfInBounds_toArray, List.set_cons_zero, List.set_cons_succ]
        refine seqL_nil ?_
        go_upto_region 10 with fail
        generalize hW3 : World.drew _ = W3
        have hF3 : isF W3 (Fo.one { (⟨2, p, ar, lf, rg, tp⟩ : Nd) with args := ar.set j (-1 - (gn : Int)) } k) [b] (b :: (fa ++ (fk ++ (fpk ++ [])))) := by
          obtain ⟨g', off', hgo, -, -, -, -, hput⟩ := arr_put (HAA.out.ext HE2.out) hjv
          cases hgo
          rw [← hW3]
          exact (node_put (n := ⟨2, p, ar, lf, rg, tp⟩) (HE2.out.block HB.out) ⟨_, _, _, rfl⟩ (HKK1.out.ext HE2.out) (HFK.out.ext HE2.out) HFG.out HND.out (hput _)).kept fun _ _ => rfl
        have hQ3 : W3.heap[W.heap.size]? = some (.cells (nodeCells (eNd (-1 - (gn : Int)) xj) (.slice none 0 0) (.slice none 0 0) (.slice none 0 0)) 50 (0, 0)) := by
          rw [← hW3]
          refine (heap_setCell_ne _ (by show _ ≠ g; omega)).trans HQ.out
        have s3 : W3.cell? ⟨sb, 0, none⟩ = some (.bool some') := by
          have h : W3.heap[sb]? = some (.cells #[.bool some'] 4) := by
            rw [← hW3]
            exact (heap_setCell_ne _ (by show _ ≠ g; omega)).trans (HE2.out.block HS0.out)
          rw [cell_of_heap h]; rfl
        have hX3 : Ext1 (b :: (fa ++ (fk ++ (fpk ++ [])))) W W3 := by
          rw [← hW3]
          exact ((Ext1.of HE2.out _).setCell (.inl (by rw [HFG.out]; simp)) _).then (Ext.refl _).drew.drew
        obtain rfl := nil_of_leaf HS.out (.inl rfl)
        have htin : inRange D.types t' := by
          have hjl : j < P.2.length := by rw [HPL.out]; exact hj
          rw [← HTT.out, List.getD_eq_getElem?_getD, List.getElem?_eq_getElem hjl]
          exact HIN.out _ (List.getElem_mem hjl)
        have hcan : canHeld G ⟨2, p, ar, lf, rg, tp⟩ .nil = true := by simp [canHeld, HAN.out]; omega
        have HCAN := Lib.hid hcan
        clear hcan
        have hsz3 : W3.heap.size = W.heap.size + 1 := by rw [← hW3, ← hsz2]; simp
        have hl3 : sb < W3.heap.size := by omega
        clear hW3 hS d2 t1 tc0 x2' x3' v0' gz' HQ
        cases some' with
        | true =>
          go_wp2_with fail
          refine (con_any _ 5 _ 2 2).mono ?_
          rintro e w5 ⟨rfl, rfl⟩
          go_wp2_with fail
          refine (quant2_any _ 7 _ _).mono ?_
          rintro e w5 ⟨rfl, rfl⟩
          go_wp2
          go_ret
          obtain ⟨z1, f1, g1, g2⟩ := con_alloc hsz3 ((leaf_tree rfl hQ3).app hF3) #[ptr W.heap.size, ptr b] rfl 2 rfl (by decide) 37 (zNd 5) rfl
          obtain ⟨z2, f2, g3, g4⟩ := con_alloc z1 g1 #[ptr (W.heap.size + 1 + 1)] rfl 1 rfl (by decide) 37 (qNd 7 t') rfl
          rw [HCAN.out]
          refine held_fin hpre (some' := true) (j := j) (t' := t') (n := ⟨2, p, ar, lf, rg, tp⟩) (by show j < ar.length; rw [HAN.out]; exact hj) rfl htin (by rw [← HTT.out, ← HPG.out]; rfl) HO.out HS.out HAL.out (hX3.then ((((Ext.refl W3).alloc _).alloc _).alloc _ |>.alloc _)) (W.heap.size + 1 + 1 + 1 + 1) f2 ?_ fun x hx => ?_
          · unfold heldT
            rw [if_pos rfl]
            show isF _ (Fo.one (qNd 7 t') (Fo.one (zNd 5) (Fo.cons (eNd (-1 - (G.length : Int)) (ar.getD j 0)) .nil (Fo.one _ .nil)))) _ _
            rw [HXJ.out, HGN.out]
            exact g3
          · rcases g4 x hx with h | h
            · rcases g2 x h with h | h
              · rcases List.mem_append.1 h with h | h
                · simp at h; omega
                · exact .inl h
              · omega
            · omega
        | false =>
          go_wp2_with fail
          refine (con_any _ 4 _ 1 1).mono ?_
          rintro e w5 ⟨rfl, rfl⟩
          go_wp2_with fail
          refine (con_any _ 6 _ 2 2).mono ?_
          rintro e w5 ⟨rfl, rfl⟩
          go_wp2_with fail
          refine (quant2_any _ 8 _ _).mono ?_
          rintro e w5 ⟨rfl, rfl⟩
          go_wp2
          go_ret
          obtain ⟨z1, f1, g1, g2⟩ := con_alloc hsz3 (leaf_tree rfl hQ3) #[ptr W.heap.size] rfl 1 rfl (by decide) 37 (zNd 4) rfl
          obtain ⟨z2, f2, g3, g4⟩ := con_alloc z1 (g1.app (hF3.ext (((Ext.refl W3).alloc _).alloc _))) #[ptr (W.heap.size + 1 + 1), ptr b] rfl 2 rfl (by decide) 37 (zNd 6) rfl
          obtain ⟨z3, f3, g5, g6⟩ := con_alloc z2 g3 #[ptr (W.heap.size + 1 + 1 + 1 + 1)] rfl 1 rfl (by decide) 37 (qNd 8 t') rfl
          rw [HCAN.out]
          refine held_fin hpre (some' := false) (j := j) (t' := t') (n := ⟨2, p, ar, lf, rg, tp⟩) (by show j < ar.length; rw [HAN.out]; exact hj) rfl htin (by rw [← HTT.out, ← HPG.out]; rfl) HO.out HS.out HAL.out (hX3.then ((((((Ext.refl W3).alloc _).alloc _).alloc _ |>.alloc _)|>.alloc _)|>.alloc _)) (W.heap.size + 1 + 1 + 1 + 1 + 1 + 1) f3 ?_ fun x hx => ?_
          · unfold heldT
            rw [if_neg (by decide)]
            show isF _ (Fo.one (qNd 8 t') (Fo.one (zNd 6) (Fo.cons (zNd 4) (Fo.one (eNd (-1 - (G.length : Int)) (ar.getD j 0)) .nil) (Fo.one _ .nil)))) _ _
            rw [HXJ.out, HGN.out]
            exact g5
          · rcases g6 x hx with h | h
            · rcases g4 x h with h | h
              · rcases List.mem_append.1 h with h | h
                · rcases g2 x h with h | h
                  · simp at h; omega
                  · omega
                · exact .inl h
              · omega
            · omega
    · have hk2' : (kd == 2) = false := by simpa using hk2
      go_enter Try.func30, Try.ntmps30
      go_wp2
      go_ret
      exact ⟨Ext1.of (Ext.refl W) _, .inl ⟨by simp [canHeld, hk3, hk2], rfl⟩⟩
end Go.Proofs.Ytodlkjjoenglgaa

/- TopEqualsHeld, walked. -/
namespace Go.Proofs.Ytodlkjjoenglgaa
open Go Go.RowKit

theorem dom_in {D : Dom} (h : domV D = (0, 0)) : ∀ x ∈ D.preds, TypesIn D x.2 := by
  intro x hx
  obtain ⟨i, hi, rfl⟩ := List.getElem_of_mem hx
  have h1 := (domV_ok h).2.2.2 i hi
  unfold predCode at h1
  rw [List.getD_eq_getElem?_getD, List.getElem?_eq_getElem hi] at h1
  split at h1
  · exact absurd h1 (by decide)
  · split at h1
    · exact absurd h1 (by decide)
    · exact (paramsCode_zero h1).2

set_option maxRecDepth 100000 in
set_option maxHeartbeats 8000000 in
theorem f9_any (w : World) (d : DomV) (D : Dom) (hd : DomAt w d D) (tv nv : Value) (C : Cnd) (hc : CndAt w tv nv C) (lv : Value) (atoms : List AtD) (hl : Sl w 2 32 rAtom lv atoms) (av : Value) (args : List Int) (ha : IntsAt w av args) (which arg : Int) (some' : Bool) :
    Calls Try.prog 9 #[.agg d.cells, .agg #[tv, nv], lv, av, i64 which, i64 arg, .bool some'] w fun e w' => e = .returned (.bool true) ∧ Ext w w' := by
  have hlaw := fun (db xb sb : Nat) (W : World) (hW : Ext w W) (h1 : W.heap[db]? = some (.cells d.cells 29)) (h2 : W.heap[xb]? = some (.cells #[i64 arg] 3)) (h3 : W.heap[sb]? = some (.cells #[.bool some'] 4)) (w2 : World) (h : Ext W w2) cb bb wb =>
    law_any w2 d D (hd.ext (hW.trans h)) tv nv C (hc.ext (hW.trans h)) lv atoms (Sl.ext hl (hW.trans h) (rAtom.ext (hW.trans h))) av args (ha.ext (hW.trans h)) 30 #[ptr xb, ptr db, ptr sb] canHeld
      (fun hv => held_any w2 d D (hd.ext (hW.trans h)) (domV_pre (valV_inv hv).1) (dom_in (valV_inv hv).1) atoms xb db sb arg some' (h.block h2) (h.block h1) (h.block h3)) cb bb wb which
  obtain ⟨ta, tn, tcap, htv⟩ := Sl.slice hc.types
  obtain ⟨na, nn, ncap, hnv⟩ := Sl.slice hc.nodes
  obtain ⟨la, ln, lcap, hlv⟩ := Sl.slice hl
  obtain ⟨aa, an, acap, hav⟩ := Sl.slice ha
  obtain ⟨t1, tn1, tcap1, e1⟩ := hd.types.slice
  obtain ⟨t2, tn2, tcap2, e2⟩ := hd.objects.slice
  obtain ⟨t3, tn3, tcap3, e3⟩ := hd.preds.slice
  obtain ⟨t4, tn4, tcap4, e4⟩ := hd.schemas.slice
  obtain ⟨t5, tn5, tcap5, e5⟩ := hd.init.slice
  obtain ⟨t6, tn6, tcap6, e6⟩ := hd.goal.slice
  have hdc : d.cells = #[d.tv, d.ov, d.pv, d.sv, d.iv, d.gv] := rfl
  rw [hdc] at hlaw ⊢
  subst htv hnv hlv hav
  simp only [e1, e2, e3, e4, e5, e6] at hlaw ⊢
  clear hd hc hl ha hdc e1 e2 e3 e4 e5 e6
  go_enter Try.func9, Try.ntmps9
  go_upto_region 1 with fail
  generalize hW1 : World.alloc _ _ = W1
  have HE1 : Hid (Ext w W1) := by show Ext w W1; rw [← hW1]; exact (Ext.alloc (Ext.alloc (Ext.alloc (Ext.alloc (Ext.refl w) _) _) _) _)
  have B0 : Hid (W1.heap[w.heap.size]? = some (.cells #[.slice t1 tn1 tcap1, .slice t2 tn2 tcap2, .slice t3 tn3 tcap3, .slice t4 tn4 tcap4, .slice t5 tn5 tcap5, .slice t6 tn6 tcap6] 29)) := by
    show W1.heap[_]? = _
    rw [← hW1]
    have h := heap_alloc_new w (.cells #[.slice t1 tn1 tcap1, .slice t2 tn2 tcap2, .slice t3 tn3 tcap3, .slice t4 tn4 tcap4, .slice t5 tn5 tcap5, .slice t6 tn6 tcap6] 29)
    exact Ext.block (Ext.alloc (Ext.alloc (Ext.alloc (Ext.refl _) _) _) _) h
  have B1 : Hid (W1.heap[w.heap.size + 1]? = some (.cells #[.slice ta tn tcap, .slice na nn ncap] 33)) := by
    show W1.heap[_]? = _
    rw [← hW1]
    have h := heap_alloc_new (w.alloc (.cells #[.slice t1 tn1 tcap1, .slice t2 tn2 tcap2, .slice t3 tn3 tcap3, .slice t4 tn4 tcap4, .slice t5 tn5 tcap5, .slice t6 tn6 tcap6] 29)) (.cells #[.slice ta tn tcap, .slice na nn ncap] 33)
    simp only [World.size_alloc] at h
    exact Ext.block (Ext.alloc (Ext.alloc (Ext.refl _) _) _) h
  have B2 : Hid (W1.heap[w.heap.size + 1 + 1]? = some (.cells #[i64 arg] 3)) := by
    show W1.heap[_]? = _
    rw [← hW1]
    have h := heap_alloc_new ((w.alloc (.cells #[.slice t1 tn1 tcap1, .slice t2 tn2 tcap2, .slice t3 tn3 tcap3, .slice t4 tn4 tcap4, .slice t5 tn5 tcap5, .slice t6 tn6 tcap6] 29)).alloc (.cells #[.slice ta tn tcap, .slice na nn ncap] 33)) (.cells #[i64 arg] 3)
    simp only [World.size_alloc] at h
    exact Ext.block (Ext.alloc (Ext.refl _) _) h
  have B3 : Hid (W1.heap[w.heap.size + 1 + 1 + 1]? = some (.cells #[.bool some'] 4)) := by
    show W1.heap[_]? = _
    rw [← hW1]
    have h := heap_alloc_new (((w.alloc (.cells #[.slice t1 tn1 tcap1, .slice t2 tn2 tcap2, .slice t3 tn3 tcap3, .slice t4 tn4 tcap4, .slice t5 tn5 tcap5, .slice t6 tn6 tcap6] 29)).alloc (.cells #[.slice ta tn tcap, .slice na nn ncap] 33)).alloc (.cells #[i64 arg] 3)) (.cells #[.bool some'] 4)
    simp only [World.size_alloc] at h
    exact Ext.block (Ext.refl _) h
  have HLAW := Lib.hid (hlaw w.heap.size (w.heap.size + 1 + 1) (w.heap.size + 1 + 1 + 1) W1 HE1.out B0.out B2.out B3.out)
  clear hlaw hW1
  refine wp_region_seq (Ext W1) [(0, 1), (1, 1), (2, 0), (3, 0), (4, 1), (5, 0), (6, 0), (7, 2), (8, 2), (9, 0)] (by kernel_rfl) (by kernel_rfl) (Ext.refl W1).drew (fun hS => ?_)
  simp only [List.map, nthOp]
  refine seqL_read hS rfl (fun w' hE => by obtain ⟨q0, q1, q2, q3, q4, q5, -⟩ := six_facts (hE.block B0.out); clear hE; go_simp; rfl) ?_
  try simp only [Act.put, List.setIfInBounds_toArray, List.set_cons_zero, List.set_cons_succ]
  refine seqL_read hS rfl (fun w' hE => by obtain ⟨q0, q1, -⟩ := two_facts (hE.block B1.out); clear hE; go_simp; rfl) ?_
  try simp only [Act.put, List.setIfInBounds_toArray, List.set_cons_zero, List.set_cons_succ]
  refine seqL_yield rfl (fun w' => by go_simp; rfl) ?_
  try simp only [Act.put, List.setIfInBounds_toArray, List.set_cons_zero, List.set_cons_succ]
  refine seqL_yield rfl (fun w' => by go_simp; rfl) ?_
  try simp only [Act.put, List.setIfInBounds_toArray, List.set_cons_zero, List.set_cons_succ]
  refine seqL_read hS rfl (fun w' hE => by obtain ⟨q0, q1, -⟩ := two_facts (hE.block B1.out); clear hE; go_simp; rfl) ?_
  try simp only [Act.put, List.setIfInBounds_toArray, List.set_cons_zero, List.set_cons_succ]
  refine seqL_yield rfl (fun w' => by go_simp; rfl) ?_
  try simp only [Act.put, List.setIfInBounds_toArray, List.set_cons_zero, List.set_cons_succ]
  refine seqL_yield rfl (fun w' => by go_simp; rfl) ?_
  try simp only [Act.put, List.setIfInBounds_toArray, List.set_cons_zero, List.set_cons_succ]
  refine seqL_grow rfl (fun K hK => ?_)
  have HKK := Lib.hid hK
  clear hK
  go_simp
  refine (mkchange_ok _ ta na tn tcap nn ncap which 30 _).mono ?_
  rintro e w2 ⟨cb, bb, wb, rfl, hE2, hcb, hbb, hwb⟩
  refine HKK.out _ _ (hS.trans hE2) (fun _ => ?_)
  clear HKK K
  replace hS := hS.trans hE2
  try simp only [Act.put, List.setIfInBounds_toArray, List.set_cons_zero, List.set_cons_succ]
  refine seqL_grow rfl (fun K hK => ?_)
  have HKK := Lib.hid hK
  clear hK
  go_simp
  refine (HLAW.out w2 hS cb bb wb hcb hbb hwb).mono ?_
  rintro e w3 ⟨rfl, hE3⟩
  refine HKK.out _ _ (hS.trans hE3) (fun _ => ?_)
  clear HKK K
  replace hS := hS.trans hE3
  try simp only [Act.put, List.setIfInBounds_toArray, List.set_cons_zero, List.set_cons_succ]
  refine seqL_yield rfl (fun w' => by go_simp; rfl) ?_
  try simp only [Act.put, List.setIfInBounds_toArray, List.set_cons_zero, List.set_cons_succ]
  refine seqL_nil ?_
  have HS := Lib.hid (HE1.out.trans hS)
  go_wp2
  go_ret
  exact ⟨rfl, HS.out⟩
end Go.Proofs.Ytodlkjjoenglgaa

/- TopEqualsHeld: the row. -/
namespace Go.Proofs.Ytodlkjjoenglgaa
open Go Go.RowKit Go.ChangeShapes Go.WideShapes Go.ChangeAt

set_option maxRecDepth 100000 in
theorem f9_lifted (os : Os) (started : os.Started) (H : Type) (enc : TypeId × Value → H) :
    ReturnsInHanded {} Try.checked os 9 .any (Rows.topEqualsHeldSpec.pre6 enc Try.prog Try.f9 Rows.topEqualsHeldRow.domain false) (Rows.topEqualsHeldSpec.post enc Try.prog Try.f9 false true false false) := by
  refine returnsInHanded_of_change_sized (C := Try.checked) own started (by kernel_rfl) Try.func9
    (ChangeSpec.witness6 (enc := enc) (C := Try.checked) false ⟨#[], #[.agg #[.slice none 0 0, .slice none 0 0, .slice none 0 0, .slice none 0 0, .slice none 0 0, .slice none 0 0], .agg #[.slice none 0 0, .slice none 0 0], .slice none 0 0, .slice none 0 0, .int .i64 0, .int .i64 0, .bool false], []⟩ 8 (by kernel_rfl) (by kernel_rfl) (by kernel_rfl) (by kernel_rfl)) ?_
  intro W base args ds gs before hval0 hW _ hz _
  have hval : ∀ (j : Nat) t v, Try.f9.params[j]? = some t → args[j]? = some v → Value.okWide Try.prog W .any base t v := hval0
  have hW' := hW
  obtain ⟨p, q, hA0, hV, rfl, -, -⟩ := hW
  obtain ⟨rfl, rfl⟩ := trodVars_none hV
  have hA : DataW.TrodAll enc Try.prog W 0 (fun _ => true) true [29, 33, 26, 30, 3, 3, 4] args.toList ds p := hA0
  have hz' : (DataW.weightsEach Try.prog [29, 33, 26, 30, 3, 3, 4] ds).all (· ≤ reachBytes) = true := by
    have h : (DataW.weightsEach Try.prog ([29, 33, 26, 30, 3, 3, 4] ++ []) (ds ++ [])).all (· ≤ reachBytes) = true := hz
    rwa [List.append_nil, List.append_nil] at h
  obtain ⟨d, D, tv, nv, C, lv, atoms, av, argl, which, vs, dr, pr, hargs, hD, hC, hl, ha, hAr, hvr, d1, d2, d3, d4, d5, rfl⟩ := args_read (ts := [3, 4]) (base := base) hA (fun j t v ht hv => hval j t v (by rw [← Array.getElem?_toList]; exact ht) (by rw [← Array.getElem?_toList]; exact hv)) hz'
  obtain ⟨v6, vs6, d6, ds6, p6, q6, rfl, rfl, rfl, h6, hA6⟩ := trodAll_cons hAr
  obtain ⟨v7, vs7, d7, ds7, p7, q7, rfl, rfl, rfl, h7, hA7⟩ := trodAll_cons hA6
  obtain ⟨rfl, rfl, rfl⟩ := trodAll_nil hA7
  obtain ⟨x6, rfl⟩ := okWide_int Try.underlying3 (hvr 0 3 v6 rfl rfl)
  obtain ⟨x7, rfl⟩ := okWide_bool Try.underlying4 (hvr 1 4 v7 rfl rfl)
  obtain rfl : args = #[.agg d.cells, .agg #[tv, nv], lv, av, i64 which, i64 x6, .bool x7] := Array.toList_inj.1 hargs
  refine (f9_any W d D hD tv nv C hC lv atoms hl av argl ha which x6 x7).mono fun e W' ⟨he, hE⟩ => ?_
  subst he
  exact ⟨_, rfl, law_post hW' rfl (fun t ht => by
    have ht : t ∈ [29, 33, 26, 30, 3, 3, 4] := ht
    simp only [List.mem_cons, List.not_mem_nil, or_false] at ht
    exact param_ok (by rcases ht with h | h | h | h | h | h | h <;> simp [h])) rfl rfl rfl rfl hE⟩

theorem topEqualsHeld_holds : Rows.TopEqualsHeldSaid :=
  OpenClaim.holds_of_wide 9 Try.f9 rfl rfl rfl rfl rfl rfl rfl ⟨rfl, rfl, rfl, rfl, rfl⟩ rfl rfl rfl rfl rfl (by kernel_rfl) Try.func9 (by kernel_rfl)
    (of_decide_eq_true (by kernel_rfl)) (by unfold Func.isWrapper; rw [if_neg (by decide +kernel)]; exact ⟨rfl, rfl⟩)
    (fun os started H enc _ => f9_lifted os started H enc)
end Go.Proofs.Ytodlkjjoenglgaa
