/- TopQuantsIdle: whatever the input, it returns true, and the input reads as it did. -/
import Derived.Test.YtodlkjjoenglgaaMj
import Derived.Test.YtodlkjjoenglgaaMf
/- What the laws' closures make: trees over trees, changed arguments. -/
namespace Go.Proofs.Ytodlkjjoenglgaa
open Go Go.RowKit

/-- A new node over new kids. -/
theorem con_tree {W W' : World} {k : Fo} {bs fp : List Nat} {T : TypeId} {b : Nat} {nd : Nd} (hf : isF W k bs fp) (cs : Array Value) (hcs : cs = (bs.map ptr).toArray) (l : Nat) (hl : bs.length = l) (hm : l ≤ maxLen) (e : Ext (W.alloc (.cells cs T)) W') (hargs : nd.args = [])
    (hb : W'.heap[b]? = some (.cells (nodeCells nd (.slice none 0 0) (.slice none 0 0) (.slice (some ⟨W.heap.size, 0, none⟩) l l)) 50 (0, 0))) (hbs : W.heap.size ≤ b) :
    ∃ fp', isF W' (Fo.one nd k) [b] fp' ∧ ∀ x ∈ fp', x ∈ fp ∨ W.heap.size ≤ x := by
  subst hcs
  have ha : Arr W' [] (.slice none 0 0) (nd.args.map i64) := by rw [hargs]; exact Arr.nil _ _ _ (Nat.zero_le _)
  refine ⟨_, isF_node hb ⟨_, _, _, rfl⟩ ha (arr_new e l (by rw [List.length_map, hl]) hm) (hf.ext e.of_new), fun x hx => ?_⟩
  simp only [List.append_nil, List.nil_append, List.mem_cons, List.mem_append, List.not_mem_nil, or_false] at hx
  rcases hx with rfl | rfl | hx
  · exact .inr hbs
  · exact .inr (Nat.le_refl _)
  · exact .inl hx
/-- A new node without kids. -/
theorem leaf_tree {W' : World} {b : Nat} {nd : Nd} (hargs : nd.args = []) (hb : W'.heap[b]? = some (.cells (nodeCells nd (.slice none 0 0) (.slice none 0 0) (.slice none 0 0)) 50 (0, 0))) :
    isF W' (Fo.one nd .nil) [b] [b] := by
  have ha : Arr W' [] (.slice none 0 0) (nd.args.map i64) := by rw [hargs]; exact Arr.nil _ _ _ (Nat.zero_le _)
  have h := isF_node (k := .nil) (bs := []) (fp := []) (fk := []) hb ⟨_, _, _, rfl⟩ ha (Arr.nil _ none 0 (Nat.zero_le _)) ⟨rfl, rfl⟩
  simpa using h
/-- A node over kids, as wCon and wQuant make it. -/
theorem con_alloc {W : World} {N : Nat} (hN : W.heap.size = N) {k : Fo} {bs fp : List Nat} (hf : isF W k bs fp) (cs : Array Value) (hcs : cs = (bs.map ptr).toArray) (l : Nat) (hl : bs.length = l) (hm : l ≤ maxLen) (T : TypeId) (nd : Nd) (hargs : nd.args = []) :
    ((W.alloc (.cells cs T)).alloc (.cells (nodeCells nd (.slice none 0 0) (.slice none 0 0) (.slice (some ⟨N, 0, none⟩) l l)) 50)).heap.size = N + 1 + 1 ∧
    ∃ fp', isF ((W.alloc (.cells cs T)).alloc (.cells (nodeCells nd (.slice none 0 0) (.slice none 0 0) (.slice (some ⟨N, 0, none⟩) l l)) 50)) (Fo.one nd k) [N + 1] fp' ∧ ∀ x ∈ fp', x ∈ fp ∨ N ≤ x := by
  subst hN
  refine ⟨by simp only [World.size_alloc], con_tree hf cs hcs l hl hm ((Ext.refl _).alloc _) hargs ?_ (by omega)⟩
  have h := heap_alloc_new (W.alloc (.cells cs T)) (.cells (nodeCells nd (.slice none 0 0) (.slice none 0 0) (.slice (some ⟨W.heap.size, 0, none⟩) l l)) 50)
  rwa [World.size_alloc] at h
theorem nil_of_leaf {n : Nd} {k : Fo} (hs : (Fo.one n k).Shaped) (hk : n.kind = 2 ∨ n.kind = 3) : k = .nil := by
  obtain ⟨-, s2, -⟩ := hs
  have : k.len = 0 := by
    rcases hk with hk | hk <;> rw [hk] at s2 <;> unfold arityOf at s2 <;> simp at s2 <;> exact s2
  cases k with
  | nil => rfl
  | cons _ _ _ => simp [Fo.len] at this
/-- An argument of a node is changed in place. -/
theorem arr_put {w : World} {f : List Nat} {a : Option Addr} {l cap : Nat} {xs : List Value} (h : Arr w f (.slice a l cap) xs) {j : Nat} (hj : j < xs.length) :
    ∃ g off, a = some ⟨g, off, none⟩ ∧ f = [g] ∧ g < w.heap.size ∧ w.cell? ⟨g, off + j, none⟩ = some xs[j] ∧ w.frozen? ⟨g, off + j, none⟩ = false ∧ ∀ v, Arr (w.setCell ⟨g, off + j, none⟩ v) f (.slice a l cap) (xs.set j v) := by
  obtain ⟨a', cap', hs, h1, h2, h3⟩ := h
  cases hs
  rcases h3 with ⟨rfl, -⟩ | ⟨g, off, cur, e, rfl, rfl, hg, hc⟩
  · simp at hj
  · refine ⟨g, off, rfl, rfl, heap_lt hg, ?_, free_of_heap hg _, fun v => ⟨_, _, by rw [List.length_set], by rw [List.length_set]; exact h1, h2, .inr ⟨g, off, _, e, rfl, rfl, heap_setCell_at v hg, fun i x hx => ?_⟩⟩⟩
    · rw [cell_of_heap hg]
      exact hc j _ (List.getElem?_eq_getElem hj)
    · have hjc := hc j _ (List.getElem?_eq_getElem hj)
      have hlt := (Array.getElem?_eq_some_iff.1 hjc).1
      by_cases hij : i = j
      · subst hij
        rw [List.getElem?_set_self hj] at hx
        cases hx
        rw [Array.getElem?_setIfInBounds_self_of_lt hlt]
      · rw [List.getElem?_set_ne (fun h => hij h.symm)] at hx
        rw [Array.getElem?_setIfInBounds_ne (by omega)]
        exact hc i x hx
/-- The node's argument j is x now. -/
theorem node_put {w : World} {b : Nat} {n : Nd} {cv av kv : Value} {ks fa fk fpk : List Nat} {k : Fo} (hb : w.heap[b]? = some (.cells (nodeCells n cv av kv) 50 (0, 0))) (hcv : sliceV cv) (hkk : Arr w fk kv (ks.map ptr)) (hfk : isF w k ks fpk)
    {g off j : Nat} {x : Int} (hg : fa = [g]) (hnd : (b :: (fa ++ (fk ++ (fpk ++ [])))).Nodup) (ha : Arr (w.setCell ⟨g, off + j, none⟩ (i64 x)) fa av ((n.args.map i64).set j (i64 x))) :
    isF (w.setCell ⟨g, off + j, none⟩ (i64 x)) (Fo.one { n with args := n.args.set j x } k) [b] (b :: (fa ++ (fk ++ (fpk ++ [])))) := by
  subst hg
  have hne : ∀ y ∈ b :: (fk ++ fpk), y ≠ g := by
    intro y hy h
    subst h
    simp only [List.append_nil, List.nodup_cons, List.mem_cons, List.mem_append, List.singleton_append] at hnd hy
    rcases hy with rfl | hy
    · exact hnd.1 (.inl rfl)
    · exact hnd.2.1 (by simpa using hy)
  refine isF_node (cv := cv) (av := av) (kv := kv) ((heap_setCell_ne _ (hne b (by simp))).trans hb) hcv ?_ (hkk.kept fun y hy => heap_setCell_ne _ (hne y (by simp [hy]))) (hfk.kept fun y hy => heap_setCell_ne _ (hne y (by simp [hy])))
  rw [show ({ n with args := n.args.set j x } : Nd).args = n.args.set j x from rfl, List.map_set]
  exact ha
end Go.Proofs.Ytodlkjjoenglgaa

/- wArgs, walked: all arguments of a tree changed in place. -/
namespace Go.Proofs.Ytodlkjjoenglgaa
open Go Go.RowKit

/-- All arguments of atoms and equalities are such. -/
def ArgA (A : Int → Prop) : Fo → Prop
  | .nil => True
  | .cons n k r => ((n.kind = 2 → ∀ a ∈ n.args, A a) ∧ (n.kind = 3 → A n.left ∧ A n.right)) ∧ ArgA A k ∧ ArgA A r
/-- What the function does with an argument, wherever the blocks of X may have changed. -/
structure ArgBy (X : List Nat) (w0 : World) (A : Int → Prop) (g : Int → Int) (f : FuncId) (cpt : Array Value) : Prop where
  ent : EntersF f
  run : ∀ a, A a → ∀ W, Ext1 X w0 W → Calls Try.prog f (#[i64 a] ++ cpt) W fun e W' => e = .returned (i64 (g a)) ∧ Ext W W'
def ArgsPost (W : World) (g : Int → Int) (n : Nd) (k : Fo) (b : Nat) (fp : List Nat) (e : Ending) (W' : World) : Prop :=
  e = .returned (ptr b) ∧ Ext1 fp W W' ∧ isF W' (Fo.one (gN g n) (gF g k)) [b] fp
def ArgsAll (X : List Nat) (w0 : World) (A : Int → Prop) (g : Int → Int) (fc : FuncId) (cpt : Array Value) (f : Fo) : Prop :=
  ∀ G n k R, f = Fo.app G (.cons n k R) → ArgA A (Fo.one n k) → (Fo.one n k).count ≤ 1000000 → (Fo.one n k).ArgsLe → ∀ b fp, (∀ x ∈ fp, x ∈ X) → fp.Nodup → ∀ W, Ext1 X w0 W → isF W (Fo.one n k) [b] fp → Calls Try.prog 28 #[ptr b, .func (.func fc) #[] cpt] W (ArgsPost W g n k b fp)
theorem Ext1.wide {X Y : List Nat} {a b : World} (h : Ext1 X a b) (hs : ∀ x ∈ X, x ∈ Y) : Ext1 Y a b := ⟨h.os, h.tape, h.output, h.size, fun x hx hm => h.block x hx fun h' => hm (hs x h')⟩

/-- The node's own part is done; the children that are through: G. -/
structure ArgLoop (W : World) (g : Int → Int) (k : Fo) (b : Nat) (n' : Nd) (cv av kv : Value) (ks fa fk fpk : List Nat) (j : Nat) (wr : World) : Prop where
  ext : Ext1 (b :: (fa ++ (fk ++ (fpk ++ [])))) W wr
  cell : wr.heap[b]? = some (.cells (nodeCells n' cv av kv) 50 (0, 0))
  args : Arr wr fa av (n'.args.map i64)
  kids : Arr wr fk kv (ks.map ptr)
  part : ∃ G R gs rs fpG fpR, k = Fo.app G R ∧ G.len = j ∧ ks = gs ++ rs ∧ gs.length = j ∧ fpk = fpG ++ fpR ∧ isF wr (gF g G) gs fpG ∧ isF wr R rs fpR
theorem gF_app (g : Int → Int) (a c : Fo) : gF g (a.app c) = (gF g a).app (gF g c) := by
  induction a with
  | nil => rfl
  | cons n k r _ ih => simp [gF, Fo.app, ih]
theorem isF_head {w : World} {n : Nd} {k r : Fo} {bs fp : List Nat} (h : isF w (.cons n k r) bs fp) : ∃ b bs' f1 f2, bs = b :: bs' ∧ fp = f1 ++ f2 ∧ isF w (Fo.one n k) [b] f1 ∧ isF w r bs' f2 := by
  obtain ⟨b, bs', cv, av, kv, ks, fa, fk, fpk, fpr, rfl, rfl, h1, h2, h3, h4, h5, h6⟩ := h
  exact ⟨b, bs', _, fpr, rfl, by simp, isF_node h1 h2 h3 h4 h5, h6⟩
theorem argsLe_app {f g : Fo} (h : (f.app g).ArgsLe) : g.ArgsLe := by
  induction f with
  | nil => exact h
  | cons _ _ r _ ih => exact ih h.2.2
theorem argA_app {A : Int → Prop} {f g : Fo} (h : ArgA A (f.app g)) : ArgA A g := by
  induction f with
  | nil => exact h
  | cons _ _ r _ ih => exact ih h.2.2
/-- A child more. -/
theorem ArgLoop.step {W wr w5 : World} {g : Int → Int} {G : Fo} {b : Nat} {n' : Nd} {cv av kv : Value} {gs rs fa fk fpG f1 f2 : List Nat} {nn : Nd} {kk R : Fo} {bk : Nat} {ks fpk : List Nat} {k : Fo}
    (h : ArgLoop W g k b n' cv av kv ks fa fk fpk G.len wr) (hk : k = Fo.app G (.cons nn kk R)) (hks : ks = gs ++ bk :: rs) (hgl : gs.length = G.len) (hfp : fpk = fpG ++ (f1 ++ f2)) (hG : isF wr (gF g G) gs fpG) (hR : isF wr R rs f2) (hnd : (b :: (fa ++ (fk ++ (fpk ++ [])))).Nodup)
    (hX : Ext1 f1 wr w5) (hT : isF w5 (Fo.one (gN g nn) (gF g kk)) [bk] f1) : ArgLoop W g k b n' cv av kv ks fa fk fpk (G.len + 1) w5 := by
  subst hfp
  have hb := heap_lt h.cell
  have hla := h.args.lt
  have hlk := h.kids.lt
  have hlG := hG.lt
  have hlR := hR.lt
  have keep : ∀ x, x < wr.heap.size → x ∉ f1 → w5.heap[x]? = wr.heap[x]? := hX.block
  have hdis : ∀ x ∈ f1, x ≠ b ∧ x ∉ fa ∧ x ∉ fk ∧ x ∉ fpG ∧ x ∉ f2 := by
    intro x hx
    simp only [List.append_nil, List.nodup_cons, List.mem_append, List.nodup_append] at hnd
    grind
  refine ⟨h.ext.trans (hX.wide fun x hx => by simp [hx]), (keep b hb fun hm => (hdis b hm).1 rfl).trans h.cell, h.args.kept fun x hx => keep x (hla x hx) fun hm => (hdis x hm).2.1 hx, h.kids.kept fun x hx => keep x (hlk x hx) fun hm => (hdis x hm).2.2.1 hx,
    G.app (Fo.one nn kk), R, gs ++ [bk], rs, fpG ++ f1, f2, by rw [hk, Fo.app_assoc]; rfl, by rw [Fo.len_app]; rfl, by rw [hks]; simp, by simp [hgl], by simp, ?_, hR.kept fun x hx => keep x (hlR x hx) fun hm => (hdis x hm).2.2.2.2 hx⟩
  rw [gF_app]
  exact (hG.kept fun x hx => keep x (hlG x hx) fun hm => (hdis x hm).2.2.2.1 hx).app hT
theorem ArgLoop.start {W wr : World} {g : Int → Int} {k : Fo} {b : Nat} {n' : Nd} {cv av kv : Value} {ks fa fk fpk : List Nat} (he : Ext1 (b :: (fa ++ (fk ++ (fpk ++ [])))) W wr) (hb : wr.heap[b]? = some (.cells (nodeCells n' cv av kv) 50 (0, 0))) (ha : Arr wr fa av (n'.args.map i64)) (hk : Arr wr fk kv (ks.map ptr)) (hf : isF wr k ks fpk) :
    ArgLoop W g k b n' cv av kv ks fa fk fpk 0 wr := ⟨he, hb, ha, hk, .nil, k, [], ks, [], fpk, rfl, rfl, rfl, rfl, rfl, ⟨rfl, rfl⟩, hf⟩
theorem ArgLoop.done {W wr : World} {g : Int → Int} {k : Fo} {b : Nat} {n : Nd} {cv av kv : Value} {ks fa fk fpk : List Nat} {j : Nat} (h : ArgLoop W g k b (gN g n) cv av kv ks fa fk fpk j wr) (hj : k.len = j) (hcv : sliceV cv) : ArgsPost W g n k b (b :: (fa ++ (fk ++ (fpk ++ [])))) (.returned (ptr b)) wr := by
  obtain ⟨he, hb, ha, hk, G, R, gs, rs, fpG, fpR, rfl, hGl, rfl, hgl, rfl, hG, hR⟩ := h
  have : R = .nil := by
    rw [Fo.len_app, hGl] at hj
    cases R with
    | nil => rfl
    | cons _ _ _ => simp [Fo.len] at hj
  subst this
  obtain ⟨rfl, rfl⟩ := hR
  rw [Fo.app_nil]
  simp only [List.append_nil] at hk ⊢
  have := isF_node hb hcv ha hk hG
  exact ⟨rfl, by simpa using he, by simpa using this⟩

set_option maxRecDepth 100000 in
set_option maxHeartbeats 8000000 in
theorem args_other (X : List Nat) (w0 : World) (A : Int → Prop) (g : Int → Int) (fc : FuncId) (cpt : Array Value) (hby : ArgBy X w0 A g fc cpt) (n : Nd) (k : Fo) (hkd : n.kind ≠ 2 ∧ n.kind ≠ 3) (ih : ArgsAll X w0 A g fc cpt k) (hA : ArgA A (Fo.one n k)) (hcnt : (Fo.one n k).count ≤ 1000000) (hal : (Fo.one n k).ArgsLe)
    (b : Nat) (cv av kv : Value) (ks fa fk fpk : List Nat) (hsub : ∀ x ∈ b :: (fa ++ (fk ++ (fpk ++ []))), x ∈ X) (hnd : (b :: (fa ++ (fk ++ (fpk ++ [])))).Nodup) (W : World) (hW : Ext1 X w0 W)
    (hb : W.heap[b]? = some (.cells (nodeCells n cv av kv) 50 (0, 0))) (hcv : sliceV cv) (haa : Arr W fa av (n.args.map i64)) (hkk : Arr W fk kv (ks.map ptr)) (hfk : isF W k ks fpk) :
    Calls Try.prog 28 #[ptr b, .func (.func fc) #[] cpt] W (ArgsPost W g n k b (b :: (fa ++ (fk ++ (fpk ++ []))))) := by
  have hent := hby.ent
  unfold EntersF at hent
  have hkl : ks.length = k.len := hfk.len
  obtain ⟨cn, hcn⟩ : ∃ c, k.len = c := ⟨_, rfl⟩
  rw [hcn] at hkl
  have hcn30 : cn ≤ 1000000 := by have := k.len_le_count; rw [Fo.count_one] at hcnt; omega
  obtain ⟨c1, c2, c3, rfl⟩ := hcv
  obtain ⟨a1, a3, hav, -⟩ := id haa
  obtain ⟨an, han⟩ : ∃ c, (n.args.map i64).length = c := ⟨_, rfl⟩
  rw [han] at hav
  subst hav
  obtain ⟨k1, k3, hkv, -⟩ := id hkk
  rw [List.length_map, hkl] at hkv
  subst hkv
  have HBY := Lib.hid hby
  have HIH := Lib.hid ih
  have HA := Lib.hid hA
  have HCNT := Lib.hid hcnt
  have HAL := Lib.hid hal
  have HND := Lib.hid hnd
  have HSUB := Lib.hid hsub
  have HW := Lib.hid hW
  have HB := Lib.hid hb
  have HAA := Lib.hid haa
  have HKK1 := Lib.hid hkk
  have HFK := Lib.hid hfk
  have HCN := Lib.hid hcn
  have HAN := Lib.hid han
  have HKL := Lib.hid hkl
  obtain ⟨x0, x1, x2, x3, x4, x5, x6, x7, xl⟩ := eight_facts hb
  obtain ⟨kd, pd, ar, lf, rg, tp⟩ := n
  simp only at hkd
  clear hby ih hA hcnt hal hnd hsub hW hb haa hkk hfk hcn han hkl
  obtain ⟨hk2, hk3⟩ := hkd
  have hk2' : (kd == 2) = false := by simpa using hk2
  have hk3' : (kd == 3) = false := by simpa using hk3
  have hgn : gN g ⟨kd, pd, ar, lf, rg, tp⟩ = ⟨kd, pd, ar, lf, rg, tp⟩ := by unfold gN; rw [if_neg hk2, if_neg hk3]
  have HL0 : Hid (ArgLoop W g k b (gN g ⟨kd, pd, ar, lf, rg, tp⟩) (.slice c1 c2 c3) (.slice a1 an a3) (.slice k1 cn k3) ks fa fk fpk 0 W) := by
    show ArgLoop _ _ _ _ _ _ _ _ _ _ _ _ _ _
    rw [hgn]
    exact .start (Ext1.of (Ext.refl W) _) HB.out HAA.out HKK1.out HFK.out
  go_enter Try.func28, Try.ntmps28
  go_wp2_with fail
  go_loopw [69] (fun i wr => ∃ j : Nat, j ≤ cn ∧ i = .int .i64 j ∧ Hid (ArgLoop W g k b (gN g ⟨kd, pd, ar, lf, rg, tp⟩) (.slice c1 c2 c3) (.slice a1 an a3) (.slice k1 cn k3) ks fa fk fpk j wr)) (fun i _ => cn - (intOf i).toNat)
  case atStart => exact ⟨0, Nat.zero_le _, rfl, HL0⟩
  case round =>
    obtain ⟨j, hj, rfl, HL⟩ := hrel
    clear HL0
    by_cases hlt : j < cn
    · obtain ⟨G, R, gs, rs, fpG, fpR, hG, hGl, hks, hgl, hfp, hGF, hRF⟩ := HL.out.part
      subst hGl
      cases R with
      | nil =>
        exfalso
        rw [Fo.app_nil] at hG
        have := HCN.out
        rw [hG] at this
        omega
      | cons n' k' R' =>
        obtain ⟨bk, rs', f1, f2, rfl, rfl, hT, hR⟩ := isF_head hRF
        obtain ⟨ka, kcap, hkv, -, -, hcell⟩ := HL.out.kids.rd
        obtain ⟨kb, koff, hka, e0⟩ := hcell G.len (ptr bk) (by rw [List.getElem?_map, hks, List.getElem?_append_right (by omega), hgl, Nat.sub_self]; rfl)
        obtain rfl : k1 = ka := by injection hkv
        clear hkv
        subst hka
        have el := World.block_lt_of_cell? wr _ e0
        have hsub1 : ∀ x ∈ f1, x ∈ X := fun x hx => HSUB.out x (by rw [hfp]; simp [hx])
        have hnd1 : f1.Nodup := by
          have h := HND.out
          rw [hfp] at h
          simp only [List.append_nil, List.nodup_cons, List.nodup_append] at h
          grind
        have hE : Ext1 X w0 wr := HW.out.trans (HL.out.ext.wide HSUB.out)
        have hk' : (Fo.one n' k').count ≤ 1000000 ∧ (Fo.one n' k').ArgsLe ∧ ArgA A (Fo.one n' k') := by
          have h1 := HCNT.out
          have h2 := HAL.out.2.1
          have h3 := HA.out.2.1
          rw [hG] at h2 h3
          rw [Fo.count_one, hG, Fo.count_app] at h1
          simp only [Fo.count] at h1
          refine ⟨by rw [Fo.count_one]; omega, ?_, ?_⟩
          · have h := argsLe_app h2
            exact ⟨h.1, h.2.1, trivial⟩
          · have h := argA_app h3
            exact ⟨h.1, h.2.1, trivial⟩
        have hcall := HIH.out G n' k' R' hG hk'.2.2 hk'.1 hk'.2.1 bk f1 hsub1 hnd1 wr hE hT
        have HCALL := Lib.hid hcall
        have HNX := Lib.hid (fun w5 (hX : Ext1 f1 wr w5) (hT5 : isF w5 (Fo.one (gN g n') (gF g k')) [bk] f1) => HL.out.step hG hks hgl hfp hGF hR HND.out hX hT5)
        clear hG hks hgl hfp hGF hRF hT hR hcell hsub1 hnd1 hE hk' hcall
        go_wp2_with fail
        refine HCALL.out.mono ?_
        rintro e w5 ⟨rfl, hX5, hT5⟩
        have H5 := Lib.hid (HNX.out w5 hX5 hT5)
        clear hX5 hT5 e0 el
        go_wp2_with fail
        go_roundw
        case rel => exact ⟨G.len + 1, by omega, by go_num, H5⟩
        case measure => simp [intOf]; omega
    · have hjk : j = cn := by omega
      subst hjk
      go_wp2
      go_ret
      exact HL.out.done (n := ⟨kd, pd, ar, lf, rg, tp⟩) HCN.out ⟨_, _, _, rfl⟩
set_option maxRecDepth 100000 in
set_option maxHeartbeats 8000000 in
theorem args_equal (X : List Nat) (w0 : World) (A : Int → Prop) (g : Int → Int) (fc : FuncId) (cpt : Array Value) (hby : ArgBy X w0 A g fc cpt) (n : Nd) (k : Fo) (hkd : n.kind = 3) (ih : ArgsAll X w0 A g fc cpt k) (hA : ArgA A (Fo.one n k)) (hcnt : (Fo.one n k).count ≤ 1000000) (hal : (Fo.one n k).ArgsLe)
    (b : Nat) (cv av kv : Value) (ks fa fk fpk : List Nat) (hsub : ∀ x ∈ b :: (fa ++ (fk ++ (fpk ++ []))), x ∈ X) (hnd : (b :: (fa ++ (fk ++ (fpk ++ [])))).Nodup) (W : World) (hW : Ext1 X w0 W)
    (hb : W.heap[b]? = some (.cells (nodeCells n cv av kv) 50 (0, 0))) (hcv : sliceV cv) (haa : Arr W fa av (n.args.map i64)) (hkk : Arr W fk kv (ks.map ptr)) (hfk : isF W k ks fpk) :
    Calls Try.prog 28 #[ptr b, .func (.func fc) #[] cpt] W (ArgsPost W g n k b (b :: (fa ++ (fk ++ (fpk ++ []))))) := by
  have hent := hby.ent
  unfold EntersF at hent
  have hkl : ks.length = k.len := hfk.len
  obtain ⟨cn, hcn⟩ : ∃ c, k.len = c := ⟨_, rfl⟩
  rw [hcn] at hkl
  have hcn30 : cn ≤ 1000000 := by have := k.len_le_count; rw [Fo.count_one] at hcnt; omega
  obtain ⟨c1, c2, c3, rfl⟩ := hcv
  obtain ⟨a1, a3, hav, -⟩ := id haa
  obtain ⟨an, han⟩ : ∃ c, (n.args.map i64).length = c := ⟨_, rfl⟩
  rw [han] at hav
  subst hav
  obtain ⟨k1, k3, hkv, -⟩ := id hkk
  rw [List.length_map, hkl] at hkv
  subst hkv
  have HBY := Lib.hid hby
  have HIH := Lib.hid ih
  have HA := Lib.hid hA
  have HCNT := Lib.hid hcnt
  have HAL := Lib.hid hal
  have HND := Lib.hid hnd
  have HSUB := Lib.hid hsub
  have HW := Lib.hid hW
  have HB := Lib.hid hb
  have HAA := Lib.hid haa
  have HKK1 := Lib.hid hkk
  have HFK := Lib.hid hfk
  have HCN := Lib.hid hcn
  have HAN := Lib.hid han
  have HKL := Lib.hid hkl
  obtain ⟨x0, x1, x2, x3, x4, x5, x6, x7, xl⟩ := eight_facts hb
  obtain ⟨kd, pd, ar, lf, rg, tp⟩ := n
  simp only at hkd
  clear hby ih hA hcnt hal hnd hsub hW hb haa hkk hfk hcn han hkl
  subst hkd
  have hgn : gN g ⟨3, pd, ar, lf, rg, tp⟩ = ⟨3, pd, ar, g lf, g rg, tp⟩ := rfl
  have hA2 := HA.out.1.2 rfl
  go_enter Try.func28, Try.ntmps28
  go_upto_region 9 with fail
  refine wp_region_seq (Ext W) [(0, 0), (1, 0), (2, 0), (3, 0), (4, 0), (5, 0), (6, 0), (7, 1), (9, 0), (10, 0), (11, 0), (12, 0), (13, 0), (14, 1), (8, 2), (15, 2), (16, 0), (17, 0), (18, 0), (19, 3), (20, 0), (21, 0), (22, 0), (23, 3)] (by kernel_rfl) (by kernel_rfl) (Ext.refl W).drew (fun hS => ?_)
  simp only [List.map, nthOp]
  refine seqL_yield rfl (fun w' => by go_simp; rfl) ?_
  try simp only [Act.put, List.setIfInBounds_toArray, List.set_cons_zero, List.set_cons_succ]
  refine seqL_yield rfl (fun w' => by go_simp; rfl) ?_
  try simp only [Act.put, List.setIfInBounds_toArray, List.set_cons_zero, List.set_cons_succ]
  refine seqL_yield rfl (fun w' => by go_simp; rfl) ?_
  try simp only [Act.put, List.setIfInBounds_toArray, List.set_cons_zero, List.set_cons_succ]
  refine seqL_yield rfl (fun w' => by go_simp; rfl) ?_
  try simp only [Act.put, List.setIfInBounds_toArray, List.set_cons_zero, List.set_cons_succ]
  refine seqL_yield rfl (fun w' => by go_simp; rfl) ?_
  try simp only [Act.put, List.setIfInBounds_toArray, List.set_cons_zero, List.set_cons_succ]
  refine seqL_yield rfl (fun w' => by go_simp; rfl) ?_
  try simp only [Act.put, List.setIfInBounds_toArray, List.set_cons_zero, List.set_cons_succ]
  refine seqL_yield rfl (fun w' => by go_simp; rfl) ?_
  try simp only [Act.put, List.setIfInBounds_toArray, List.set_cons_zero, List.set_cons_succ]
  refine seqL_read hS rfl (fun w' hE => by have q := hE.cell x4; clear hE; go_simp; rfl) ?_
  try simp only [Act.put, List.setIfInBounds_toArray, List.set_cons_zero, List.set_cons_succ]
  refine seqL_yield rfl (fun w' => by go_simp; rfl) ?_
  try simp only [Act.put, List.setIfInBounds_toArray, List.set_cons_zero, List.set_cons_succ]
  refine seqL_yield rfl (fun w' => by go_simp; rfl) ?_
  try simp only [Act.put, List.setIfInBounds_toArray, List.set_cons_zero, List.set_cons_succ]
  refine seqL_yield rfl (fun w' => by go_simp; rfl) ?_
  try simp only [Act.put, List.setIfInBounds_toArray, List.set_cons_zero, List.set_cons_succ]
  refine seqL_yield rfl (fun w' => by go_simp; rfl) ?_
  try simp only [Act.put, List.setIfInBounds_toArray, List.set_cons_zero, List.set_cons_succ]
  refine seqL_yield rfl (fun w' => by go_simp; rfl) ?_
  try simp only [Act.put, List.setIfInBounds_toArray, List.set_cons_zero, List.set_cons_succ]
  refine seqL_read hS rfl (fun w' hE => by have q := hE.cell x5; clear hE; go_simp; rfl) ?_
  try simp only [Act.put, List.setIfInBounds_toArray, List.set_cons_zero, List.set_cons_succ]
  refine seqL_grow rfl (fun K hK => ?_)
  have HKK := Lib.hid hK
  clear hK
  go_simp
  refine (HBY.out.run lf hA2.1 _ (HW.out.trans (Ext1.of hS X))).mono ?_
  rintro e w3 ⟨rfl, hE1⟩
  have hS1 := hS.trans hE1
  refine HKK.out _ _ hS1 (fun _ => ?_)
  clear HKK K hE1
  try simp only [Act.put, List.setIfInBounds_toArray, List.set_cons_zero, List.set_cons_succ]
  refine seqL_grow rfl (fun K hK => ?_)
  have HKK := Lib.hid hK
  clear hK
  go_simp
  refine (HBY.out.run rg hA2.2 _ (HW.out.trans (Ext1.of hS1 X))).mono ?_
  rintro e w4 ⟨rfl, hE2⟩
  have hS2 := hS1.trans hE2
  refine HKK.out _ _ hS2 (fun _ => ?_)
  clear HKK K hE2
  try simp only [Act.put, List.setIfInBounds_toArray, List.set_cons_zero, List.set_cons_succ]
  refine seqL_yield rfl (fun w' => by go_simp; rfl) ?_
  try simp only [Act.put, List.setIfInBounds_toArray, List.set_cons_zero, List.set_cons_succ]
  refine seqL_yield rfl (fun w' => by go_simp; rfl) ?_
  try simp only [Act.put, List.setIfInBounds_toArray, List.set_cons_zero, List.set_cons_succ]
  refine seqL_yield rfl (fun w' => by go_simp; rfl) ?_
  try simp only [Act.put, List.setIfInBounds_toArray, List.set_cons_zero, List.set_cons_succ]
  refine seqL_loud rfl (fun K hK => ?_)
  have HKK := Lib.hid hK
  clear hK
  have hb4 := hS2.block HB.out
  obtain ⟨q0, q1, q2, q3, q4, q5, q6, q7, ql⟩ := eight_facts hb4
  have u4 := free_of_heap hb4 4
  go_simp
  refine HKK.out _ _ ?_
  clear HKK K q0 q1 q2 q3 q4 q5 q6 q7 ql u4
  try simp only [Act.put, List.setIfInBounds_toArray, List.set_cons_zero, List.set_cons_succ]
  refine seqL_yield rfl (fun w' => by go_simp; rfl) ?_
  try simp only [Act.put, List.setIfInBounds_toArray, List.set_cons_zero, List.set_cons_succ]
  refine seqL_yield rfl (fun w' => by go_simp; rfl) ?_
  try simp only [Act.put, List.setIfInBounds_toArray, List.set_cons_zero, List.set_cons_succ]
  refine seqL_yield rfl (fun w' => by go_simp; rfl) ?_
  try simp only [Act.put, List.setIfInBounds_toArray, List.set_cons_zero, List.set_cons_succ]
  refine seqL_loud rfl (fun K hK => ?_)
  have HKK := Lib.hid hK
  clear hK
  have p5 : (w4.setCell ⟨b, 4, none⟩ (i64 (g lf))).cell? ⟨b, 5, none⟩ = some (i64 rg) := by rw [cell_of_heap (heap_setCell_at _ hb4)]; rfl
  have z5 := free_of_heap (heap_setCell_at (j := 4) (i64 (g lf)) hb4) 5
  go_simp
  refine HKK.out _ _ (seqL_nil ?_)
  clear HKK K p5 z5
  try simp only [Act.put, List.setIfInBounds_toArray, List.set_cons_zero, List.set_cons_succ]
  have HL0 : Hid (ArgLoop W g k b (gN g ⟨3, pd, ar, lf, rg, tp⟩) (.slice c1 c2 c3) (.slice a1 an a3) (.slice k1 cn k3) ks fa fk fpk 0 ((w4.setCell ⟨b, 4, none⟩ (i64 (g lf))).setCell ⟨b, 5, none⟩ (i64 (g rg)))) := by
    show ArgLoop _ _ _ _ _ _ _ _ _ _ _ _ _ _
    have hne : ∀ x ∈ fa ++ (fk ++ fpk), x ≠ b := fun x hx e => by
      have h := HND.out
      rw [List.nodup_cons] at h
      exact h.1 (by rw [← e]; simpa using hx)
    have hkeep : ∀ x ∈ fa ++ (fk ++ fpk), x < W.heap.size → ((w4.setCell ⟨b, 4, none⟩ (i64 (g lf))).setCell ⟨b, 5, none⟩ (i64 (g rg))).heap[x]? = W.heap[x]? := fun x hx hl => by
      rw [heap_setCell_ne _ (hne x hx), heap_setCell_ne _ (hne x hx)]
      exact Below.block hS2 x hl
    rw [hgn]
    exact .start (((Ext1.of hS2 _).setCell (.inl (by simp)) _).setCell (.inl (by simp)) _) (heap_setCell_at _ (heap_setCell_at _ hb4)) (HAA.out.kept fun x hx => hkeep x (by simp [hx]) (HAA.out.lt x hx)) (HKK1.out.kept fun x hx => hkeep x (by simp [hx]) (HKK1.out.lt x hx)) (HFK.out.kept fun x hx => hkeep x (by simp [hx]) (HFK.out.lt x hx))
  have x0' : ((w4.setCell ⟨b, 4, none⟩ (i64 (g lf))).setCell ⟨b, 5, none⟩ (i64 (g rg))).cell? ⟨b, 7, none⟩ = some (.slice k1 cn k3) := by rw [cell_of_heap HL0.out.cell]; rfl
  have xl' : b < ((w4.setCell ⟨b, 4, none⟩ (i64 (g lf))).setCell ⟨b, 5, none⟩ (i64 (g rg))).heap.size := heap_lt HL0.out.cell
  clear hS hS1 hS2 hb4 x0 x1 x2 x3 x4 x5 x6 x7 xl
  go_wp2_with fail
  go_loopw [69] (fun i wr => ∃ j : Nat, j ≤ cn ∧ i = .int .i64 j ∧ Hid (ArgLoop W g k b (gN g ⟨3, pd, ar, lf, rg, tp⟩) (.slice c1 c2 c3) (.slice a1 an a3) (.slice k1 cn k3) ks fa fk fpk j wr)) (fun i _ => cn - (intOf i).toNat)
  case atStart => exact ⟨0, Nat.zero_le _, rfl, HL0⟩
  case round =>
    obtain ⟨j, hj, rfl, HL⟩ := hrel
    clear HL0
    by_cases hlt : j < cn
    · obtain ⟨G, R, gs, rs, fpG, fpR, hG, hGl, hks, hgl, hfp, hGF, hRF⟩ := HL.out.part
      subst hGl
      cases R with
      | nil =>
        exfalso
        rw [Fo.app_nil] at hG
        have := HCN.out
        rw [hG] at this
        omega
      | cons n' k' R' =>
        obtain ⟨bk, rs', f1, f2, rfl, rfl, hT, hR⟩ := isF_head hRF
        obtain ⟨ka, kcap, hkv, -, -, hcell⟩ := HL.out.kids.rd
        obtain ⟨kb, koff, hka, e0⟩ := hcell G.len (ptr bk) (by rw [List.getElem?_map, hks, List.getElem?_append_right (by omega), hgl, Nat.sub_self]; rfl)
        obtain rfl : k1 = ka := by injection hkv
        clear hkv
        subst hka
        have el := World.block_lt_of_cell? wr _ e0
        have hsub1 : ∀ x ∈ f1, x ∈ X := fun x hx => HSUB.out x (by rw [hfp]; simp [hx])
        have hnd1 : f1.Nodup := by
          have h := HND.out
          rw [hfp] at h
          simp only [List.append_nil, List.nodup_cons, List.nodup_append] at h
          grind
        have hE : Ext1 X w0 wr := HW.out.trans (HL.out.ext.wide HSUB.out)
        have hk' : (Fo.one n' k').count ≤ 1000000 ∧ (Fo.one n' k').ArgsLe ∧ ArgA A (Fo.one n' k') := by
          have h1 := HCNT.out
          have h2 := HAL.out.2.1
          have h3 := HA.out.2.1
          rw [hG] at h2 h3
          rw [Fo.count_one, hG, Fo.count_app] at h1
          simp only [Fo.count] at h1
          refine ⟨by rw [Fo.count_one]; omega, ?_, ?_⟩
          · have h := argsLe_app h2
            exact ⟨h.1, h.2.1, trivial⟩
          · have h := argA_app h3
            exact ⟨h.1, h.2.1, trivial⟩
        have hcall := HIH.out G n' k' R' hG hk'.2.2 hk'.1 hk'.2.1 bk f1 hsub1 hnd1 wr hE hT
        have HCALL := Lib.hid hcall
        have HNX := Lib.hid (fun w5 (hX : Ext1 f1 wr w5) (hT5 : isF w5 (Fo.one (gN g n') (gF g k')) [bk] f1) => HL.out.step hG hks hgl hfp hGF hR HND.out hX hT5)
        clear hG hks hgl hfp hGF hRF hT hR hcell hsub1 hnd1 hE hk' hcall
        go_wp2_with fail
        refine HCALL.out.mono ?_
        rintro e w5 ⟨rfl, hX5, hT5⟩
        have H5 := Lib.hid (HNX.out w5 hX5 hT5)
        clear hX5 hT5 e0 el
        go_wp2_with fail
        go_roundw
        case rel => exact ⟨G.len + 1, by omega, by go_num, H5⟩
        case measure => simp [intOf]; omega
    · have hjk : j = cn := by omega
      subst hjk
      go_wp2
      go_ret
      exact HL.out.done (n := ⟨3, pd, ar, lf, rg, tp⟩) HCN.out ⟨_, _, _, rfl⟩
/-- The first j arguments are changed. -/
def mixA (g : Int → Int) (l : List Int) (j : Nat) : List Value := ((l.take j).map g ++ l.drop j).map i64
theorem mixA_len (g : Int → Int) (l : List Int) (j : Nat) : (mixA g l j).length = l.length := by simp [mixA]; omega
theorem mixA_at (g : Int → Int) (l : List Int) (j : Nat) (h : j < (mixA g l j).length) : (mixA g l j)[j] = i64 (l.getD j 0) := by
  have hl := mixA_len g l j
  have hj : j < l.length := by omega
  simp only [mixA, List.getElem_map]
  rw [List.getElem_append_right (by simp; omega)]
  simp [List.getD_eq_getElem?_getD, List.getElem?_eq_getElem hj, Nat.min_eq_left (Nat.le_of_lt hj)]
theorem mixA_set (g : Int → Int) (l : List Int) (j : Nat) (hj : j < l.length) : (mixA g l j).set j (i64 (g (l.getD j 0))) = mixA g l (j + 1) := by
  refine List.ext_getElem? fun i => ?_
  simp only [mixA, List.getElem?_set, List.getElem?_map, List.length_map, List.length_append, List.length_take, List.length_drop, List.getElem?_append, List.getElem?_take, List.getElem?_drop]
  rw [List.getD_eq_getElem?_getD, List.getElem?_eq_getElem hj]
  by_cases h1 : j = i
  · subst h1
    rw [if_pos rfl, if_pos (by omega), if_pos (by omega), if_pos (by omega), List.getElem?_eq_getElem hj]
    rfl
  · rw [if_neg h1]
    by_cases h2 : i < j
    · rw [if_pos (by omega), if_pos h2, if_pos (by omega), if_pos (by omega)]
    · rw [if_neg (by omega), if_neg (by omega), show j + (i - min j l.length) = j + 1 + (i - min (j + 1) l.length) by omega]
theorem mixA_end (g : Int → Int) (l : List Int) : mixA g l l.length = (l.map g).map i64 := by simp [mixA]
set_option maxRecDepth 100000 in
set_option maxHeartbeats 8000000 in
theorem args_atom (X : List Nat) (w0 : World) (A : Int → Prop) (g : Int → Int) (fc : FuncId) (cpt : Array Value) (hby : ArgBy X w0 A g fc cpt) (n : Nd) (k : Fo) (hkd : n.kind = 2) (ih : ArgsAll X w0 A g fc cpt k) (hA : ArgA A (Fo.one n k)) (hcnt : (Fo.one n k).count ≤ 1000000) (hal : (Fo.one n k).ArgsLe)
    (b : Nat) (cv av kv : Value) (ks fa fk fpk : List Nat) (hsub : ∀ x ∈ b :: (fa ++ (fk ++ (fpk ++ []))), x ∈ X) (hnd : (b :: (fa ++ (fk ++ (fpk ++ [])))).Nodup) (W : World) (hW : Ext1 X w0 W)
    (hb : W.heap[b]? = some (.cells (nodeCells n cv av kv) 50 (0, 0))) (hcv : sliceV cv) (haa : Arr W fa av (n.args.map i64)) (hkk : Arr W fk kv (ks.map ptr)) (hfk : isF W k ks fpk) :
    Calls Try.prog 28 #[ptr b, .func (.func fc) #[] cpt] W (ArgsPost W g n k b (b :: (fa ++ (fk ++ (fpk ++ []))))) := by
  have hent := hby.ent
  unfold EntersF at hent
  have hkl : ks.length = k.len := hfk.len
  obtain ⟨cn, hcn⟩ : ∃ c, k.len = c := ⟨_, rfl⟩
  rw [hcn] at hkl
  have hcn30 : cn ≤ 1000000 := by have := k.len_le_count; rw [Fo.count_one] at hcnt; omega
  obtain ⟨c1, c2, c3, rfl⟩ := hcv
  obtain ⟨a1, a3, hav, -⟩ := id haa
  obtain ⟨an, han⟩ : ∃ c, (n.args.map i64).length = c := ⟨_, rfl⟩
  rw [han] at hav
  subst hav
  obtain ⟨k1, k3, hkv, -⟩ := id hkk
  rw [List.length_map, hkl] at hkv
  subst hkv
  have HBY := Lib.hid hby
  have HIH := Lib.hid ih
  have HA := Lib.hid hA
  have HCNT := Lib.hid hcnt
  have HAL := Lib.hid hal
  have HND := Lib.hid hnd
  have HSUB := Lib.hid hsub
  have HW := Lib.hid hW
  have HB := Lib.hid hb
  have HAA := Lib.hid haa
  have HKK1 := Lib.hid hkk
  have HFK := Lib.hid hfk
  have HCN := Lib.hid hcn
  have HAN := Lib.hid han
  have HKL := Lib.hid hkl
  obtain ⟨x0, x1, x2, x3, x4, x5, x6, x7, xl⟩ := eight_facts hb
  obtain ⟨kd, pd, ar, lf, rg, tp⟩ := n
  simp only at hkd
  clear hby ih hA hcnt hal hnd hsub hW hb haa hkk hfk hcn han hkl
  subst hkd
  have hgn : gN g ⟨2, pd, ar, lf, rg, tp⟩ = ⟨2, pd, ar.map g, lf, rg, tp⟩ := rfl
  have hA2 := Lib.hid (HA.out.1.1 rfl)
  have hal2 : an * 8 ≤ 140737488351232 := by have h := HAL.out.1; have h2 := HAN.out; rw [List.length_map] at h2; rw [← h2]; exact h
  have han := HAN.out
  rw [List.length_map] at han
  have HA0 : Hid (Arr W fa (.slice a1 an a3) (mixA g ar 0)) := by
    have h := HAA.out
    show Arr _ _ _ _
    simpa [mixA] using h
  have HNE : Hid (∀ x ∈ fa, x ≠ b ∧ x ∉ fk ∧ x ∉ fpk) := fun x hx => by
    have h := HND.out
    simp only [List.append_nil, List.nodup_cons, List.mem_append, List.nodup_append] at h
    grind
  go_enter Try.func28, Try.ntmps28
  go_wp2_with fail
  go_loopw [23] (fun i wr => ∃ j : Nat, j ≤ an ∧ i = .int .i64 j ∧ Hid (Ext1 fa W wr) ∧ Hid (Arr wr fa (.slice a1 an a3) (mixA g ar j))) (fun i _ => an - (intOf i).toNat)
  case atStart => exact ⟨0, Nat.zero_le _, rfl, Ext1.of (Ext.refl W) _, HA0⟩
  case round =>
    obtain ⟨j, hj, rfl, HE, HM⟩ := hrel
    clear HA0
    have hbr : wr.heap[b]? = some (.cells (nodeCells ⟨2, pd, ar, lf, rg, tp⟩ (.slice c1 c2 c3) (.slice a1 an a3) (.slice k1 cn k3)) 50 (0, 0)) := (HE.out.block b xl fun hm => (HNE.out b hm).1 rfl).trans HB.out
    clear x0 x1 x2 x3 x4 x5 x6 x7 xl
    obtain ⟨x0, x1, x2, x3, x4, x5, x6, x7, xl⟩ := eight_facts hbr
    have HBR := Lib.hid hbr
    clear hbr
    by_cases hlt : j < an
    · have hjl : j < (mixA g ar j).length := by rw [mixA_len, han]; exact hlt
      obtain ⟨gb, off, hao, hfg, hgl, e0, ez, -⟩ := arr_put HM.out hjl
      rw [mixA_at] at e0
      subst hao
      have hx : A (ar.getD j 0) := hA2.out _ (by
        rw [List.getD_eq_getElem?_getD, List.getElem?_eq_getElem (by omega)]
        exact List.getElem_mem _)
      obtain ⟨xj, hxj⟩ : ∃ x, ar.getD j 0 = x := ⟨_, rfl⟩
      rw [hxj] at hx e0
      have HXJ := Lib.hid hxj
      have HFG := Lib.hid hfg
      have HX := Lib.hid hx
      clear hjl hfg hxj hx
      go_upto_region 6 with fail
      refine wp_region_seq (Ext wr) [(0, 0), (1, 0), (2, 0), (3, 0), (4, 0), (5, 1), (6, 0), (7, 0), (8, 0), (9, 2), (10, 0), (11, 3)] (by kernel_rfl) (by kernel_rfl) (Ext.refl wr).drew (fun hS => ?_)
      simp only [List.map, nthOp]
      refine seqL_yield rfl (fun w' => by go_simp; rfl) ?_
      try simp only [Act.put, List.setIfInBounds_toArray, List.set_cons_zero, List.set_cons_succ]
      refine seqL_yield rfl (fun w' => by go_simp; rfl) ?_
      try simp only [Act.put, List.setIfInBounds_toArray, List.set_cons_zero, List.set_cons_succ]
      refine seqL_yield rfl (fun w' => by go_simp; rfl) ?_
      try simp only [Act.put, List.setIfInBounds_toArray, List.set_cons_zero, List.set_cons_succ]
      refine seqL_yield rfl (fun w' => by go_simp; rfl) ?_
      try simp only [Act.put, List.setIfInBounds_toArray, List.set_cons_zero, List.set_cons_succ]
      refine seqL_yield rfl (fun w' => by go_simp; rfl) ?_
      try simp only [Act.put, List.setIfInBounds_toArray, List.set_cons_zero, List.set_cons_succ]
      refine seqL_read hS rfl (fun w' hE => by have q := hE.cell x3; clear hE; go_simp; rfl) ?_
      try simp only [Act.put, List.setIfInBounds_toArray, List.set_cons_zero, List.set_cons_succ]
      refine seqL_yield rfl (fun w' => by go_simp; rfl) ?_
      try simp only [Act.put, List.setIfInBounds_toArray, List.set_cons_zero, List.set_cons_succ]
      refine seqL_yield rfl (fun w' => by go_simp; rfl) ?_
      try simp only [Act.put, List.setIfInBounds_toArray, List.set_cons_zero, List.set_cons_succ]
      refine seqL_yield rfl (fun w' => by go_simp; rfl) ?_
      try simp only [Act.put, List.setIfInBounds_toArray, List.set_cons_zero, List.set_cons_succ]
      refine seqL_grow rfl (fun K hK => ?_)
      have HKK := Lib.hid hK
      clear hK
      go_simp
      refine (HBY.out.run xj HX.out _ ((HW.out.trans (HE.out.wide fun x hx => HSUB.out x (by simp [hx]))).trans (Ext1.of hS X))).mono ?_
      rintro e w4 ⟨rfl, hE4⟩
      have hS4 := hS.trans hE4
      refine HKK.out _ _ hS4 (fun _ => ?_)
      clear HKK K hE4
      try simp only [Act.put, List.setIfInBounds_toArray, List.set_cons_zero, List.set_cons_succ]
      refine seqL_yield rfl (fun w' => by go_simp; rfl) ?_
      try simp only [Act.put, List.setIfInBounds_toArray, List.set_cons_zero, List.set_cons_succ]
      refine seqL_loud rfl (fun K hK => ?_)
      have HKK := Lib.hid hK
      clear hK
      have p0 := hS4.cell e0
      have pz := (hS4.frozen e0).trans ez
      go_simp
      refine HKK.out _ _ (seqL_nil ?_)
      clear HKK K p0 pz
      try simp only [Act.put, List.setIfInBounds_toArray, List.set_cons_zero, List.set_cons_succ]
      have HE5 : Hid (Ext1 fa W (w4.setCell ⟨gb, off + j, none⟩ (i64 (g xj)))) := (HE.out.then hS4).setCell (.inl (by rw [HFG.out]; simp)) _
      have HM5 : Hid (Arr (w4.setCell ⟨gb, off + j, none⟩ (i64 (g xj))) fa (.slice (some ⟨gb, off, none⟩) an a3) (mixA g ar (j + 1))) := by
        show Arr _ _ _ _
        obtain ⟨g2, off2, hgo, -, -, -, -, hput⟩ := arr_put (HM.out.ext hS4) (j := j) (by rw [mixA_len, han]; exact hlt)
        cases hgo
        rw [← mixA_set g ar j (by omega), HXJ.out]
        exact hput _
      clear hS hS4 e0 ez x0 x1 x2 x3 x4 x5 x6 x7
      go_wp2_with fail
      go_roundw
      case rel => exact ⟨j + 1, by omega, by go_num, HE5, HM5⟩
      case measure => simp [intOf]; omega
    · have hjn : an = j := by omega
      subst hjn
      have HL0 : Hid (ArgLoop W g k b (gN g ⟨2, pd, ar, lf, rg, tp⟩) (.slice c1 c2 c3) (.slice a1 an a3) (.slice k1 cn k3) ks fa fk fpk 0 wr) := by
        show ArgLoop _ _ _ _ _ _ _ _ _ _ _ _ _ _
        have hm := HM.out
        rw [← han, mixA_end] at hm
        rw [hgn, ← han]
        have hb := HBR.out
        rw [← han] at hb
        refine .start (HE.out.wide fun x hx => by simp [hx]) hb hm (HKK1.out.kept fun x hx => HE.out.block x (HKK1.out.lt x hx) fun h => (HNE.out x h).2.1 hx) (HFK.out.kept fun x hx => HE.out.block x (HFK.out.lt x hx) fun h => (HNE.out x h).2.2 hx)
      clear HM HE HBR han
      go_wp2_with fail
      go_loopw [69] (fun i wr => ∃ j : Nat, j ≤ cn ∧ i = .int .i64 j ∧ Hid (ArgLoop W g k b (gN g ⟨2, pd, ar, lf, rg, tp⟩) (.slice c1 c2 c3) (.slice a1 an a3) (.slice k1 cn k3) ks fa fk fpk j wr)) (fun i _ => cn - (intOf i).toNat)
      case atStart => exact ⟨0, Nat.zero_le _, rfl, HL0⟩
      case round =>
        obtain ⟨j, hj, rfl, HL⟩ := hrel
        clear HL0
        by_cases hlt2 : j < cn
        · obtain ⟨G, R, gs, rs, fpG, fpR, hG, hGl, hks, hgl, hfp, hGF, hRF⟩ := HL.out.part
          subst hGl
          cases R with
          | nil =>
            exfalso
            rw [Fo.app_nil] at hG
            have := HCN.out
            rw [hG] at this
            omega
          | cons n' k' R' =>
            obtain ⟨bk, rs', f1, f2, rfl, rfl, hT, hR⟩ := isF_head hRF
            obtain ⟨ka, kcap, hkv, -, -, hcell⟩ := HL.out.kids.rd
            obtain ⟨kb, koff, hka, e0⟩ := hcell G.len (ptr bk) (by rw [List.getElem?_map, hks, List.getElem?_append_right (by omega), hgl, Nat.sub_self]; rfl)
            obtain rfl : k1 = ka := by injection hkv
            clear hkv
            subst hka
            have el := World.block_lt_of_cell? wr _ e0
            have hsub1 : ∀ x ∈ f1, x ∈ X := fun x hx => HSUB.out x (by rw [hfp]; simp [hx])
            have hnd1 : f1.Nodup := by
              have h := HND.out
              rw [hfp] at h
              simp only [List.append_nil, List.nodup_cons, List.nodup_append] at h
              grind
            have hE : Ext1 X w0 wr := HW.out.trans (HL.out.ext.wide HSUB.out)
            have hk' : (Fo.one n' k').count ≤ 1000000 ∧ (Fo.one n' k').ArgsLe ∧ ArgA A (Fo.one n' k') := by
              have h1 := HCNT.out
              have h2 := HAL.out.2.1
              have h3 := HA.out.2.1
              rw [hG] at h2 h3
              rw [Fo.count_one, hG, Fo.count_app] at h1
              simp only [Fo.count] at h1
              refine ⟨by rw [Fo.count_one]; omega, ?_, ?_⟩
              · have h := argsLe_app h2
                exact ⟨h.1, h.2.1, trivial⟩
              · have h := argA_app h3
                exact ⟨h.1, h.2.1, trivial⟩
            have hcall := HIH.out G n' k' R' hG hk'.2.2 hk'.1 hk'.2.1 bk f1 hsub1 hnd1 wr hE hT
            have HCALL := Lib.hid hcall
            have HNX := Lib.hid (fun w5 (hX : Ext1 f1 wr w5) (hT5 : isF w5 (Fo.one (gN g n') (gF g k')) [bk] f1) => HL.out.step hG hks hgl hfp hGF hR HND.out hX hT5)
            clear hG hks hgl hfp hGF hRF hT hR hcell hsub1 hnd1 hE hk' hcall
            go_wp2_with fail
            refine HCALL.out.mono ?_
            rintro e w5 ⟨rfl, hX5, hT5⟩
            have H5 := Lib.hid (HNX.out w5 hX5 hT5)
            clear hX5 hT5 e0 el
            go_wp2_with fail
            go_roundw
            case rel => exact ⟨G.len + 1, by omega, by go_num, H5⟩
            case measure => simp [intOf]; omega
        · have hjk : j = cn := by omega
          subst hjk
          go_wp2
          go_ret
          exact HL.out.done (n := ⟨2, pd, ar, lf, rg, tp⟩) HCN.out ⟨_, _, _, rfl⟩

theorem args_forest (X : List Nat) (w0 : World) (A : Int → Prop) (g : Int → Int) (fc : FuncId) (cpt : Array Value) (hby : ArgBy X w0 A g fc cpt) (f : Fo) : ArgsAll X w0 A g fc cpt f := by
  induction f with
  | nil => intro G n k R h; cases G <;> cases h
  | cons m q r ihq ihr =>
    intro G n k R hG hA hc hl b fp hsub hnd W hW hF
    cases G with
    | nil =>
      simp only [Fo.app, Fo.cons.injEq] at hG
      obtain ⟨rfl, rfl, rfl⟩ := hG
      obtain ⟨b0, bs', cv, av, kv, ks, fa, fk, fpk, fpr, hbs, rfl, hb, hcv, haa, hkk, hfk, hfr⟩ := hF
      obtain ⟨rfl, rfl⟩ := List.cons.inj hbs
      obtain ⟨-, rfl⟩ := hfr
      by_cases h2 : m.kind = 2
      · exact args_atom X w0 A g fc cpt hby m q h2 ihq hA hc hl b cv av kv ks fa fk fpk hsub hnd W hW hb hcv haa hkk hfk
      · by_cases h3 : m.kind = 3
        · exact args_equal X w0 A g fc cpt hby m q h3 ihq hA hc hl b cv av kv ks fa fk fpk hsub hnd W hW hb hcv haa hkk hfk
        · exact args_other X w0 A g fc cpt hby m q ⟨h2, h3⟩ ihq hA hc hl b cv av kv ks fa fk fpk hsub hnd W hW hb hcv haa hkk hfk
    | cons n0 k0 G =>
      simp only [Fo.app, Fo.cons.injEq] at hG
      obtain ⟨rfl, rfl, rfl⟩ := hG
      exact ihr G n k R rfl hA hc hl b fp hsub hnd W hW hF
/-- wArgs. -/
theorem args_root {W : World} {A : Int → Prop} {g : Int → Int} {fc : FuncId} {cpt : Array Value} {n : Nd} {k : Fo} {b : Nat} {fp : List Nat} (hby : ArgBy fp W A g fc cpt) (hA : ArgA A (Fo.one n k)) (hc : (Fo.one n k).count ≤ 1000000) (hl : (Fo.one n k).ArgsLe) (hnd : fp.Nodup) (hF : isF W (Fo.one n k) [b] fp) :
    Calls Try.prog 28 #[ptr b, .func (.func fc) #[] cpt] W (ArgsPost W g n k b fp) :=
  args_forest fp W A g fc cpt hby (Fo.one n k) .nil n k .nil rfl hA hc hl b fp (fun _ h => h) hnd W (Ext1.of (Ext.refl W) _) hF

end Go.Proofs.Ytodlkjjoenglgaa

/- TopQuantsSwapped's closures, walked. -/
namespace Go.Proofs.Ytodlkjjoenglgaa
open Go Go.RowKit

theorem enters27 : EntersF 27 := fun args W => enters_of Try.func27 (by kernel_rfl) rfl args W
theorem enters29 : EntersF 29 := fun args W => enters_of Try.func29 (by kernel_rfl) rfl args W
def inB (a : Int) : Prop := -1000 ≤ a ∧ a ≤ 1000
theorem argA_of_ok {D : Dom} (hpre : DomPre D) {f : Fo} : ∀ {G : List Int}, OkF D G f → G.length + f.count ≤ 500 → ArgA inB f := by
  have hno := hpre.nobj
  induction f with
  | nil => intros; trivial
  | cons n k r ihk ihr =>
    intro G ho hc
    obtain ⟨⟨o1, -⟩, o2, o3⟩ := ho
    simp only [Fo.count] at hc
    have hb : ∀ a, ¬ argBad D G.length a → inB a := fun a h => by
      unfold argBad at h
      unfold inB
      omega
    refine ⟨⟨fun h2 a ha => hb a ((ok_args o1).1 h2 a ha), fun h3 => ⟨hb _ ((ok_args o1).2 h3).1, hb _ ((ok_args o1).2 h3).2⟩⟩, ihk o2 ?_, ihr o3 (by omega)⟩
    rw [innerN_len]
    split <;> omega
/-- The closure in a closure: a parameter's number is turned. -/
theorem swapG_any (X : List Nat) (W : World) (s : Nat) (hs : s ≤ 1000) (xb : Nat) (hx : W.heap[xb]? = some (.cells #[i64 s] 3)) (hn : xb ∉ X) : ArgBy X W inB (swapG s) 29 #[ptr xb] := by
  refine ⟨enters29, fun a ha W2 hW => ?_⟩
  have h := (hW.block xb (heap_lt hx) hn).trans hx
  have c0 : W2.cell? ⟨xb, 0, none⟩ = some (i64 s) := by rw [cell_of_heap h]; rfl
  have cl := heap_lt h
  unfold inB at ha
  clear h hx hn hW
  by_cases h1 : -1 - a = (s : Int)
  · have e : swapG s a = a - 1 := by unfold swapG; rw [if_pos h1]
    rw [e]
    have h1' : (-1 - a == (s : Int)) = true := by simpa using h1
    clear h1 e
    go_enter Try.func29, Try.ntmps29
    go_wp2
    go_ret
    exact ⟨by go_num, Ext.refl _⟩
  · have h1' : (-1 - a == (s : Int)) = false := by simpa using h1
    by_cases h2 : -1 - a = (s : Int) + 1
    · have e : swapG s a = a + 1 := by unfold swapG; rw [if_neg h1, if_pos h2]
      rw [e]
      have h2' : (-1 - a == (s : Int) + 1) = true := by simpa using h2
      clear h1 h2 e
      go_enter Try.func29, Try.ntmps29
      go_wp2
      go_ret
      exact ⟨by go_num, Ext.refl _⟩
    · have e : swapG s a = a := by unfold swapG; rw [if_neg h1, if_neg h2]
      rw [e]
      have h2' : (-1 - a == (s : Int) + 1) = false := by simpa using h2
      clear h1 h2 e
      go_enter Try.func29, Try.ntmps29
      go_wp2
      go_ret
      exact ⟨rfl, Ext.refl _⟩

def canSwap (_ : List Int) (n : Nd) (k : Fo) : Bool := match k with
  | .cons m _ _ => (decide (n.kind = 7) || decide (n.kind = 8)) && decide (m.kind = n.kind)
  | .nil => false
theorem gF_count (g : Int → Int) (f : Fo) : (gF g f).count = f.count := by
  induction f with
  | nil => rfl
  | cons n k r ihk ihr => simp [gF, Fo.count, ihk, ihr]
theorem gF_args (g : Int → Int) (f : Fo) (h : f.ArgsLe) : (gF g f).ArgsLe := by
  induction f with
  | nil => trivial
  | cons n k r ihk ihr =>
    refine ⟨?_, ihk h.2.1, ihr h.2.2⟩
    have := h.1
    unfold gN
    split
    · simpa using this
    · split <;> exact this

set_option maxRecDepth 100000 in
set_option maxHeartbeats 8000000 in
theorem swap_any (w : World) (D : Dom) (hpre : DomPre D) (atoms : List AtD) : ByOK w D atoms 27 #[] canSwap := by
  refine ⟨enters27, fun W hW G n k b fp ht ho hs hc hal hG => ?_⟩
  obtain ⟨hF, hnd, hlo⟩ := ht
  have hltF := hF.lt
  obtain ⟨bx, bs', cv, av, kv, ks, fa, fk, fpk, fpr, hbx, hfp, hb, hcv, haa, hkk, hfk, hfr⟩ := id hF
  obtain ⟨rfl, rfl⟩ := List.cons.inj hbx
  obtain ⟨-, rfl⟩ := hfr
  obtain ⟨c1, c2, c3, rfl⟩ := hcv
  obtain ⟨a1, a3, hav, -⟩ := id haa
  rw [List.length_map] at hav
  subst hav
  obtain ⟨kd, pd, ar, lf, rg, tp⟩ := n
  obtain ⟨an, han⟩ : ∃ n, ar.length = n := ⟨_, rfl⟩
  simp only [han] at hb haa
  obtain ⟨gn, hgn⟩ : ∃ n, G.length = n := ⟨_, rfl⟩
  have HGN := Lib.hid hgn
  rw [hgn] at hG ⊢
  have HO := Lib.hid ho
  have HS := Lib.hid hs
  have HAL := Lib.hid hal
  have HCNT := Lib.hid hc
  have HLT := Lib.hid hltF
  have HFP := Lib.hid hfp
  have HND := Lib.hid hnd
  have hsW : ∀ (W1 : World), W1 = W.alloc (.cells #[i64 gn] 3) → Ext W W1 := fun W1 h => by rw [h]; exact (Ext.refl W).alloc _
  by_cases hq : kd = 7 ∨ kd = 8
  · obtain ⟨-, hok1, m, q, rfl, hsh1⟩ := quant_inv (n := ⟨kd, pd, ar, lf, rg, tp⟩) hq ho hs
    obtain ⟨mb, ms', mcv, mav, mkv, mks, mfa, mfk, mfpk, mfpr, hks, hmfp, hmb, hmcv, hmaa, hmkk, hmfk, hmfr⟩ := hfk
    obtain ⟨hms, rfl⟩ := hmfr
    subst hms hks hmfp
    obtain ⟨k1, k3, hkv, -⟩ := id hkk
    subst hkv
    obtain ⟨kb, koff, rfl, hfk1, hkl, hk0, -, -⟩ := arr_put hkk (j := 0) (by simp)
    simp only [Nat.add_zero, List.getElem_map, List.getElem_cons_zero] at hk0
    obtain ⟨mc1, mc2, mc3, rfl⟩ := hmcv
    obtain ⟨ma1, ma3, hmav, -⟩ := id hmaa
    obtain ⟨man, hman⟩ : ∃ n, (m.args.map i64).length = n := ⟨_, rfl⟩
    rw [hman] at hmav
    subst hmav
    obtain ⟨mk1, mk3, hmkv, -⟩ := id hmkk
    obtain ⟨cn, hcn⟩ : ∃ n, (mks.map ptr).length = n := ⟨_, rfl⟩
    rw [hcn] at hmkv
    subst hmkv
    obtain ⟨md, mpd, mar, mlf, mrg, mtp⟩ := m
    have HB := Lib.hid hb
    have HMB := Lib.hid hmb
    have HKK := Lib.hid hkk
    have HMKK := Lib.hid hmkk
    have HQ := Lib.hid hmfk
    have HOK1 := Lib.hid hok1
    have HSH1 := Lib.hid hsh1
    have hbl := heap_lt hb
    have HFP2 := Lib.hid hfp
    clear hF hnd hlo hltF hbx hfp hb haa hkk hmb hmaa hmkk hmfk ho hs hal hc han hman hok1 hsh1 hfk1
    by_cases hmd : md = kd
    · subst hmd
      obtain ⟨-, hok2, x, r, rfl, hsh2⟩ := quant_inv (n := ⟨md, mpd, mar, mlf, mrg, mtp⟩) hq HOK1.out HSH1.out
      have hx1 : ∃ xb, mks = [xb] := by
        have h := HQ.out.len
        match mks, h with
        | [xb], _ => exact ⟨xb, rfl⟩
      obtain ⟨xb, rfl⟩ := hx1
      obtain rfl : cn = 1 := by simpa using hcn.symm
      obtain ⟨mkb, mkoff, hmke, -, hmkl, mk0, -, -⟩ := arr_put HMKK.out (j := 0) (by simp)
      subst hmke
      simp only [Nat.add_zero, List.getElem_map, List.getElem_cons_zero] at mk0
      have HOK2 := Lib.hid hok2
      clear hok2 hsh2 hcn
      rcases hq with rfl | rfl
      · go_enter Try.func27, Try.ntmps27
        go_upto_region 1 with fail
        generalize hW1 : World.alloc _ _ = W1
        have HE1 := Lib.hid (hsW W1 hW1.symm)
        obtain ⟨x0, x1, x2, x3, x4, x5, x6, x7, xl⟩ := eight_facts (HE1.out.block HB.out)
        obtain ⟨y0, y1, y2, y3, y4, y5, y6, y7, yl⟩ := eight_facts (HE1.out.block HMB.out)
        have k0 := HE1.out.cell hk0
        have kl := World.block_lt_of_cell? W1 _ k0
        have m0 := HE1.out.cell mk0
        have ml := World.block_lt_of_cell? W1 _ m0
        have HXB : Hid (W1.heap[W.heap.size]? = some (.cells #[i64 gn] 3)) := by
          show W1.heap[_]? = _
          rw [← hW1]
          exact heap_alloc_new _ _
        clear hW1
        refine wp_region_seq (Ext W1) [(0, 0), (1, 0), (2, 0), (3, 0), (4, 1), (5, 0), (6, 0), (7, 0), (8, 0), (9, 0), (10, 0), (11, 1), (12, 0), (13, 0), (14, 0), (15, 0), (16, 0), (17, 0), (18, 1), (19, 0), (20, 1), (21, 0), (22, 0), (23, 0), (24, 1), (25, 0), (26, 0), (27, 0), (28, 0), (29, 1), (30, 0), (31, 0)] (by kernel_rfl) (by kernel_rfl) (Ext.refl W1).drew (fun hS => ?_)
        simp only [List.map, nthOp]
        refine seqL_yield rfl (fun w' => by go_simp; rfl) ?_
        try simp only [Act.put, List.setIfInBounds_toArray, List.set_cons_zero, List.set_cons_succ]
        refine seqL_yield rfl (fun w' => by go_simp; rfl) ?_
        try simp only [Act.put, List.setIfInBounds_toArray, List.set_cons_zero, List.set_cons_succ]
        refine seqL_yield rfl (fun w' => by go_simp; rfl) ?_
        try simp only [Act.put, List.setIfInBounds_toArray, List.set_cons_zero, List.set_cons_succ]
        refine seqL_yield rfl (fun w' => by go_simp; rfl) ?_
        try simp only [Act.put, List.setIfInBounds_toArray, List.set_cons_zero, List.set_cons_succ]
        refine seqL_read hS rfl (fun w' hE => by have q := hE.cell x0; clear hE; go_simp; rfl) ?_
        try simp only [Act.put, List.setIfInBounds_toArray, List.set_cons_zero, List.set_cons_succ]
        refine seqL_yield rfl (fun w' => by go_simp; rfl) ?_
        try simp only [Act.put, List.setIfInBounds_toArray, List.set_cons_zero, List.set_cons_succ]
        refine seqL_yield rfl (fun w' => by go_simp; rfl) ?_
        try simp only [Act.put, List.setIfInBounds_toArray, List.set_cons_zero, List.set_cons_succ]
        refine seqL_pass0 rfl ?_
        try simp only [Act.put, List.setIfInBounds_toArray, List.set_cons_zero, List.set_cons_succ]
        refine seqL_pass0 rfl ?_
        try simp only [Act.put, List.setIfInBounds_toArray, List.set_cons_zero, List.set_cons_succ]
        refine seqL_pass0 rfl ?_
        try simp only [Act.put, List.setIfInBounds_toArray, List.set_cons_zero, List.set_cons_succ]
        refine seqL_pass0 rfl ?_
        try simp only [Act.put, List.setIfInBounds_toArray, List.set_cons_zero, List.set_cons_succ]
        refine seqL_pass1 rfl ?_
        try simp only [Act.put, List.setIfInBounds_toArray, List.set_cons_zero, List.set_cons_succ]
        refine seqL_pass0 rfl ?_
        try simp only [Act.put, List.setIfInBounds_toArray, List.set_cons_zero, List.set_cons_succ]
        refine seqL_yield rfl (fun w' => by go_simp; rfl) ?_
        try simp only [Act.put, List.setIfInBounds_toArray, List.set_cons_zero, List.set_cons_succ]
        refine seqL_yield rfl (fun w' => by go_simp; rfl) ?_
        try simp only [Act.put, List.setIfInBounds_toArray, List.set_cons_zero, List.set_cons_succ]
        refine seqL_yield rfl (fun w' => by go_simp; rfl) ?_
        try simp only [Act.put, List.setIfInBounds_toArray, List.set_cons_zero, List.set_cons_succ]
        refine seqL_yield rfl (fun w' => by go_simp; rfl) ?_
        try simp only [Act.put, List.setIfInBounds_toArray, List.set_cons_zero, List.set_cons_succ]
        refine seqL_yield rfl (fun w' => by go_simp; rfl) ?_
        try simp only [Act.put, List.setIfInBounds_toArray, List.set_cons_zero, List.set_cons_succ]
        refine seqL_read hS rfl (fun w' hE => by have q := hE.cell x7; clear hE; go_simp; rfl) ?_
        try simp only [Act.put, List.setIfInBounds_toArray, List.set_cons_zero, List.set_cons_succ]
        refine seqL_yield rfl (fun w' => by go_simp; rfl) ?_
        try simp only [Act.put, List.setIfInBounds_toArray, List.set_cons_zero, List.set_cons_succ]
        refine seqL_read hS rfl (fun w' hE => by have q := hE.cell k0; clear hE; go_simp; rfl) ?_
        try simp only [Act.put, List.setIfInBounds_toArray, List.set_cons_zero, List.set_cons_succ]
        refine seqL_yield rfl (fun w' => by go_simp; rfl) ?_
        try simp only [Act.put, List.setIfInBounds_toArray, List.set_cons_zero, List.set_cons_succ]
        refine seqL_yield rfl (fun w' => by go_simp; rfl) ?_
        try simp only [Act.put, List.setIfInBounds_toArray, List.set_cons_zero, List.set_cons_succ]
        refine seqL_yield rfl (fun w' => by go_simp; rfl) ?_
        try simp only [Act.put, List.setIfInBounds_toArray, List.set_cons_zero, List.set_cons_succ]
        refine seqL_read hS rfl (fun w' hE => by have q := hE.cell y0; clear hE; go_simp; rfl) ?_
        try simp only [Act.put, List.setIfInBounds_toArray, List.set_cons_zero, List.set_cons_succ]
        refine seqL_yield rfl (fun w' => by go_simp; rfl) ?_
        try simp only [Act.put, List.setIfInBounds_toArray, List.set_cons_zero, List.set_cons_succ]
        refine seqL_yield rfl (fun w' => by go_simp; rfl) ?_
        try simp only [Act.put, List.setIfInBounds_toArray, List.set_cons_zero, List.set_cons_succ]
        refine seqL_yield rfl (fun w' => by go_simp; rfl) ?_
        try simp only [Act.put, List.setIfInBounds_toArray, List.set_cons_zero, List.set_cons_succ]
        refine seqL_yield rfl (fun w' => by go_simp; rfl) ?_
        try simp only [Act.put, List.setIfInBounds_toArray, List.set_cons_zero, List.set_cons_succ]
        refine seqL_read hS rfl (fun w' hE => by have q := hE.cell x0; clear hE; go_simp; rfl) ?_
        try simp only [Act.put, List.setIfInBounds_toArray, List.set_cons_zero, List.set_cons_succ]
        refine seqL_yield rfl (fun w' => by go_simp; rfl) ?_
        try simp only [Act.put, List.setIfInBounds_toArray, List.set_cons_zero, List.set_cons_succ]
        refine seqL_yield rfl (fun w' => by go_simp; rfl) ?_
        try simp only [Act.put, List.setIfInBounds_toArray, List.set_cons_zero, List.set_cons_succ]
        refine seqL_nil ?_
        have hE2 := HE1.out.trans hS
        have HE2 := Lib.hid hE2
        have HXB2 := Lib.hid (hS.block HXB.out)
        clear hS
        go_wp2_with fail
        have hnx : W.heap.size ∉ mfpk := fun h => by have := HQ.out.lt _ h; omega
        have hargs := fun (W2 : World) (hE : Ext W W2) (hxb : W2.heap[W.heap.size]? = some (.cells #[i64 gn] 3)) => args_root (swapG_any mfpk W2 gn (by omega) W.heap.size hxb hnx) (argA_of_ok hpre HOK2.out (by have h := HCNT.out; simp only [Fo.one, Fo.count, List.length_append, List.length_singleton] at h ⊢; have h2 := HGN.out; omega)) (by have h := HCNT.out; simp only [Fo.one, Fo.count] at h ⊢; omega) (by have h := HAL.out; exact h.2.1.2.1) (by
          have h := HND.out
          rw [HFP.out] at h
          simp only [List.append_nil, List.nodup_cons, List.nodup_append] at h
          grind) (HQ.out.ext hE)
        refine (hargs _ HE2.out HXB2.out).mono ?_
        rintro e w3 ⟨rfl, hX3, hT3⟩
        have hdis : ∀ y, y ∈ b :: fk ∨ y ∈ mb :: mfk → y ∉ mfpk := by
          have h := HND.out
          rw [HFP.out] at h
          simp only [List.append_nil, List.nodup_cons, List.nodup_append, List.mem_cons, List.mem_append] at h
          intro y hy hm
          simp only [List.mem_cons] at hy
          grind
        have hkeep : ∀ y, y < W.heap.size → (y ∈ b :: fk ∨ y ∈ mb :: mfk) → w3.heap[y]? = W.heap[y]? := fun y hl hy => (hX3.block y (Nat.lt_of_lt_of_le hl HE2.out.size) (hdis y hy)).trans (Below.block HE2.out y hl)
        have hb3 := (hkeep b (heap_lt HB.out) (.inl (by simp))).trans HB.out
        have hm3 := (hkeep mb (heap_lt HMB.out) (.inr (by simp))).trans HMB.out
        have hk3 := HKK.out.kept (w' := w3) fun y hy => hkeep y (HKK.out.lt y hy) (.inl (by simp [hy]))
        obtain ⟨kb2, koff2, hke, -, hkl3, hk03, -, -⟩ := arr_put hk3 (j := 0) (by simp)
        cases hke
        simp only [Nat.add_zero, List.getElem_map, List.getElem_cons_zero] at hk03
        clear x0 x1 x2 x3 x4 x5 x6 x7 xl y0 y1 y2 y3 y4 y5 y6 y7 yl k0 kl m0 ml
        obtain ⟨x0, x1, x2, x3, x4, x5, x6, x7, xl⟩ := eight_facts hb3
        obtain ⟨y0, y1, y2, y3, y4, y5, y6, y7, yl⟩ := eight_facts hm3
        have k0 := hk03
        have hX0 := Lib.hid ((Ext1.of HE2.out fp).trans (hX3.wide (Y := fp) fun y hy => by rw [HFP.out]; simp [hy]))
        have HT3 := Lib.hid hT3
        clear hX3 hT3 hargs hdis hkeep hb3 hm3 hk3 hk03 hnx
        go_upto_region 4 with fail
        refine wp_region_seq (Ext w3) [(0, 0), (1, 0), (2, 0), (3, 0), (4, 1), (5, 0), (6, 0), (7, 0), (8, 1), (9, 0), (10, 1), (11, 0), (12, 0), (13, 0), (14, 1), (15, 0), (16, 0), (17, 0), (18, 0), (19, 1), (20, 0), (21, 0), (22, 0), (23, 0), (24, 1), (25, 0), (26, 2), (27, 2), (28, 0)] (by kernel_rfl) (by kernel_rfl) (Ext.refl w3).drew (fun hS => ?_)
        simp only [List.map, nthOp]
        refine seqL_yield rfl (fun w' => by go_simp; rfl) ?_
        try simp only [Act.put, List.setIfInBounds_toArray, List.set_cons_zero, List.set_cons_succ]
        refine seqL_yield rfl (fun w' => by go_simp; rfl) ?_
        try simp only [Act.put, List.setIfInBounds_toArray, List.set_cons_zero, List.set_cons_succ]
        refine seqL_yield rfl (fun w' => by go_simp; rfl) ?_
        try simp only [Act.put, List.setIfInBounds_toArray, List.set_cons_zero, List.set_cons_succ]
        refine seqL_yield rfl (fun w' => by go_simp; rfl) ?_
        try simp only [Act.put, List.setIfInBounds_toArray, List.set_cons_zero, List.set_cons_succ]
        refine seqL_read hS rfl (fun w' hE => by have q := hE.cell x0; clear hE; go_simp; rfl) ?_
        try simp only [Act.put, List.setIfInBounds_toArray, List.set_cons_zero, List.set_cons_succ]
        refine seqL_yield rfl (fun w' => by go_simp; rfl) ?_
        try simp only [Act.put, List.setIfInBounds_toArray, List.set_cons_zero, List.set_cons_succ]
        refine seqL_yield rfl (fun w' => by go_simp; rfl) ?_
        try simp only [Act.put, List.setIfInBounds_toArray, List.set_cons_zero, List.set_cons_succ]
        refine seqL_yield rfl (fun w' => by go_simp; rfl) ?_
        try simp only [Act.put, List.setIfInBounds_toArray, List.set_cons_zero, List.set_cons_succ]
        refine seqL_read hS rfl (fun w' hE => by have q := hE.cell x7; clear hE; go_simp; rfl) ?_
        try simp only [Act.put, List.setIfInBounds_toArray, List.set_cons_zero, List.set_cons_succ]
        refine seqL_yield rfl (fun w' => by go_simp; rfl) ?_
        try simp only [Act.put, List.setIfInBounds_toArray, List.set_cons_zero, List.set_cons_succ]
        refine seqL_read hS rfl (fun w' hE => by have q := hE.cell k0; clear hE; go_simp; rfl) ?_
        try simp only [Act.put, List.setIfInBounds_toArray, List.set_cons_zero, List.set_cons_succ]
        refine seqL_yield rfl (fun w' => by go_simp; rfl) ?_
        try simp only [Act.put, List.setIfInBounds_toArray, List.set_cons_zero, List.set_cons_succ]
        refine seqL_yield rfl (fun w' => by go_simp; rfl) ?_
        try simp only [Act.put, List.setIfInBounds_toArray, List.set_cons_zero, List.set_cons_succ]
        refine seqL_yield rfl (fun w' => by go_simp; rfl) ?_
        try simp only [Act.put, List.setIfInBounds_toArray, List.set_cons_zero, List.set_cons_succ]
        refine seqL_read hS rfl (fun w' hE => by have q := hE.cell y6; clear hE; go_simp; rfl) ?_
        try simp only [Act.put, List.setIfInBounds_toArray, List.set_cons_zero, List.set_cons_succ]
        refine seqL_yield rfl (fun w' => by go_simp; rfl) ?_
        try simp only [Act.put, List.setIfInBounds_toArray, List.set_cons_zero, List.set_cons_succ]
        refine seqL_yield rfl (fun w' => by go_simp; rfl) ?_
        try simp only [Act.put, List.setIfInBounds_toArray, List.set_cons_zero, List.set_cons_succ]
        refine seqL_yield rfl (fun w' => by go_simp; rfl) ?_
        try simp only [Act.put, List.setIfInBounds_toArray, List.set_cons_zero, List.set_cons_succ]
        refine seqL_yield rfl (fun w' => by go_simp; rfl) ?_
        try simp only [Act.put, List.setIfInBounds_toArray, List.set_cons_zero, List.set_cons_succ]
        refine seqL_read hS rfl (fun w' hE => by have q := hE.cell x0; clear hE; go_simp; rfl) ?_
        try simp only [Act.put, List.setIfInBounds_toArray, List.set_cons_zero, List.set_cons_succ]
        refine seqL_yield rfl (fun w' => by go_simp; rfl) ?_
        try simp only [Act.put, List.setIfInBounds_toArray, List.set_cons_zero, List.set_cons_succ]
        refine seqL_yield rfl (fun w' => by go_simp; rfl) ?_
        try simp only [Act.put, List.setIfInBounds_toArray, List.set_cons_zero, List.set_cons_succ]
        refine seqL_yield rfl (fun w' => by go_simp; rfl) ?_
        try simp only [Act.put, List.setIfInBounds_toArray, List.set_cons_zero, List.set_cons_succ]
        refine seqL_yield rfl (fun w' => by go_simp; rfl) ?_
        try simp only [Act.put, List.setIfInBounds_toArray, List.set_cons_zero, List.set_cons_succ]
        refine seqL_read hS rfl (fun w' hE => by have q := hE.cell x6; clear hE; go_simp; rfl) ?_
        try simp only [Act.put, List.setIfInBounds_toArray, List.set_cons_zero, List.set_cons_succ]
        refine seqL_yield rfl (fun w' => by go_simp; rfl) ?_
        try simp only [Act.put, List.setIfInBounds_toArray, List.set_cons_zero, List.set_cons_succ]
        refine seqL_grow rfl (fun K hK => ?_)
        have HKK := Lib.hid hK
        clear hK
        go_simp
        refine (quant2_any _ _ _ _).mono ?_
        rintro e w4 ⟨rfl, hw4⟩
        have HW4 := Lib.hid hw4
        have hS4 : Ext w3 w4 := by rw [hw4]; exact (hS.alloc _).alloc _
        clear hw4
        refine HKK.out _ _ hS4 (fun _ => ?_)
        clear HKK K
        try simp only [Act.put, List.setIfInBounds_toArray, List.set_cons_zero, List.set_cons_succ]
        refine seqL_grow rfl (fun K hK => ?_)
        have HKK := Lib.hid hK
        clear hK
        go_simp
        refine (quant2_any _ _ _ _).mono ?_
        rintro e w5 ⟨rfl, hw5⟩
        have HW5 := Lib.hid hw5
        have hS5 : Ext w3 w5 := by rw [hw5]; exact (hS4.alloc _).alloc _
        clear hw5
        refine HKK.out _ _ hS5 (fun _ => ?_)
        clear HKK K
        try simp only [Act.put, List.setIfInBounds_toArray, List.set_cons_zero, List.set_cons_succ]
        refine seqL_yield rfl (fun w' => by go_simp; rfl) ?_
        try simp only [Act.put, List.setIfInBounds_toArray, List.set_cons_zero, List.set_cons_succ]
        refine seqL_nil ?_
        go_wp2
        go_ret
        have hcan : canSwap G ⟨7, pd, ar, lf, rg, tp⟩ (Fo.one ⟨7, mpd, mar, mlf, mrg, mtp⟩ (Fo.one x r)) = true := by simp [canSwap, Fo.one]
        have hsz : w3.heap.size = w3.heap.size := rfl
        obtain ⟨z1, f1, g1, g2⟩ := con_alloc (W := w3.drew) (N := w3.heap.size) rfl (HT3.out.ext (Ext.refl w3).drew) #[ptr xb] rfl 1 rfl (by decide) 37 (qNd 7 tp) rfl
        obtain ⟨z2, f2, g3, g4⟩ := con_alloc (W := w4) (N := w4.heap.size) rfl (by rw [HW4.out]; exact g1) #[ptr (w3.heap.size + 1)] rfl 1 rfl (by decide) 37 (qNd 7 mtp) rfl
        rw [hcan]
        have hsame := swap_same D atoms G ⟨7, pd, ar, lf, rg, tp⟩ ⟨7, mpd, mar, mlf, mrg, mtp⟩ x r (by simp) rfl HO.out HS.out
        rw [HGN.out] at hsame
        have hc := HCNT.out
        have ha := HAL.out
        simp only [Fo.one, Fo.count] at hc
        have hs3 := hX0.out.size
        have hs4 := hS4.size
        refine ⟨hX0.out.then hS5, .inr ⟨rfl, w4.heap.size + 1, qNd 7 mtp, _, f2, rfl, by rw [HW5.out]; exact g3, fun y hy => ?_, hsame, ?_, ?_⟩⟩
        · rcases g4 y hy with h | h
          · rcases g2 y h with h | h
            · exact .inl (by rw [HFP.out]; simp [h])
            · exact .inr (by omega)
          · exact .inr (by omega)
        · simp only [Fo.one, Fo.count, gF, gF_count]
          omega
        · exact ⟨by simp [qNd], ⟨by simp [qNd], gF_args _ _ ha.2.1.2.1, trivial⟩, trivial⟩
      · go_enter Try.func27, Try.ntmps27
        go_upto_region 1 with fail
        generalize hW1 : World.alloc _ _ = W1
        have HE1 := Lib.hid (hsW W1 hW1.symm)
        obtain ⟨x0, x1, x2, x3, x4, x5, x6, x7, xl⟩ := eight_facts (HE1.out.block HB.out)
        obtain ⟨y0, y1, y2, y3, y4, y5, y6, y7, yl⟩ := eight_facts (HE1.out.block HMB.out)
        have k0 := HE1.out.cell hk0
        have kl := World.block_lt_of_cell? W1 _ k0
        have m0 := HE1.out.cell mk0
        have ml := World.block_lt_of_cell? W1 _ m0
        have HXB : Hid (W1.heap[W.heap.size]? = some (.cells #[i64 gn] 3)) := by
          show W1.heap[_]? = _
          rw [← hW1]
          exact heap_alloc_new _ _
        clear hW1
        refine wp_region_seq (Ext W1) [(0, 0), (1, 0), (2, 0), (3, 0), (4, 1), (5, 0), (6, 0), (7, 0), (8, 0), (9, 0), (10, 0), (11, 1), (12, 0), (13, 0), (14, 0), (15, 0), (16, 0), (17, 0), (18, 1), (19, 0), (20, 1), (21, 0), (22, 0), (23, 0), (24, 1), (25, 0), (26, 0), (27, 0), (28, 0), (29, 1), (30, 0), (31, 0)] (by kernel_rfl) (by kernel_rfl) (Ext.refl W1).drew (fun hS => ?_)
        simp only [List.map, nthOp]
        refine seqL_yield rfl (fun w' => by go_simp; rfl) ?_
        try simp only [Act.put, List.setIfInBounds_toArray, List.set_cons_zero, List.set_cons_succ]
        refine seqL_yield rfl (fun w' => by go_simp; rfl) ?_
        try simp only [Act.put, List.setIfInBounds_toArray, List.set_cons_zero, List.set_cons_succ]
        refine seqL_yield rfl (fun w' => by go_simp; rfl) ?_
        try simp only [Act.put, List.setIfInBounds_toArray, List.set_cons_zero, List.set_cons_succ]
        refine seqL_yield rfl (fun w' => by go_simp; rfl) ?_
        try simp only [Act.put, List.setIfInBounds_toArray, List.set_cons_zero, List.set_cons_succ]
        refine seqL_read hS rfl (fun w' hE => by have q := hE.cell x0; clear hE; go_simp; rfl) ?_
        try simp only [Act.put, List.setIfInBounds_toArray, List.set_cons_zero, List.set_cons_succ]
        refine seqL_yield rfl (fun w' => by go_simp; rfl) ?_
        try simp only [Act.put, List.setIfInBounds_toArray, List.set_cons_zero, List.set_cons_succ]
        refine seqL_yield rfl (fun w' => by go_simp; rfl) ?_
        try simp only [Act.put, List.setIfInBounds_toArray, List.set_cons_zero, List.set_cons_succ]
        refine seqL_yield rfl (fun w' => by go_simp; rfl) ?_
        try simp only [Act.put, List.setIfInBounds_toArray, List.set_cons_zero, List.set_cons_succ]
        refine seqL_yield rfl (fun w' => by go_simp; rfl) ?_
        try simp only [Act.put, List.setIfInBounds_toArray, List.set_cons_zero, List.set_cons_succ]
        refine seqL_yield rfl (fun w' => by go_simp; rfl) ?_
        try simp only [Act.put, List.setIfInBounds_toArray, List.set_cons_zero, List.set_cons_succ]
        refine seqL_yield rfl (fun w' => by go_simp; rfl) ?_
        try simp only [Act.put, List.setIfInBounds_toArray, List.set_cons_zero, List.set_cons_succ]
        refine seqL_read hS rfl (fun w' hE => by have q := hE.cell x0; clear hE; go_simp; rfl) ?_
        try simp only [Act.put, List.setIfInBounds_toArray, List.set_cons_zero, List.set_cons_succ]
        refine seqL_yield rfl (fun w' => by go_simp; rfl) ?_
        try simp only [Act.put, List.setIfInBounds_toArray, List.set_cons_zero, List.set_cons_succ]
        refine seqL_yield rfl (fun w' => by go_simp; rfl) ?_
        try simp only [Act.put, List.setIfInBounds_toArray, List.set_cons_zero, List.set_cons_succ]
        refine seqL_yield rfl (fun w' => by go_simp; rfl) ?_
        try simp only [Act.put, List.setIfInBounds_toArray, List.set_cons_zero, List.set_cons_succ]
        refine seqL_yield rfl (fun w' => by go_simp; rfl) ?_
        try simp only [Act.put, List.setIfInBounds_toArray, List.set_cons_zero, List.set_cons_succ]
        refine seqL_yield rfl (fun w' => by go_simp; rfl) ?_
        try simp only [Act.put, List.setIfInBounds_toArray, List.set_cons_zero, List.set_cons_succ]
        refine seqL_yield rfl (fun w' => by go_simp; rfl) ?_
        try simp only [Act.put, List.setIfInBounds_toArray, List.set_cons_zero, List.set_cons_succ]
        refine seqL_read hS rfl (fun w' hE => by have q := hE.cell x7; clear hE; go_simp; rfl) ?_
        try simp only [Act.put, List.setIfInBounds_toArray, List.set_cons_zero, List.set_cons_succ]
        refine seqL_yield rfl (fun w' => by go_simp; rfl) ?_
        try simp only [Act.put, List.setIfInBounds_toArray, List.set_cons_zero, List.set_cons_succ]
        refine seqL_read hS rfl (fun w' hE => by have q := hE.cell k0; clear hE; go_simp; rfl) ?_
        try simp only [Act.put, List.setIfInBounds_toArray, List.set_cons_zero, List.set_cons_succ]
        refine seqL_yield rfl (fun w' => by go_simp; rfl) ?_
        try simp only [Act.put, List.setIfInBounds_toArray, List.set_cons_zero, List.set_cons_succ]
        refine seqL_yield rfl (fun w' => by go_simp; rfl) ?_
        try simp only [Act.put, List.setIfInBounds_toArray, List.set_cons_zero, List.set_cons_succ]
        refine seqL_yield rfl (fun w' => by go_simp; rfl) ?_
        try simp only [Act.put, List.setIfInBounds_toArray, List.set_cons_zero, List.set_cons_succ]
        refine seqL_read hS rfl (fun w' hE => by have q := hE.cell y0; clear hE; go_simp; rfl) ?_
        try simp only [Act.put, List.setIfInBounds_toArray, List.set_cons_zero, List.set_cons_succ]
        refine seqL_yield rfl (fun w' => by go_simp; rfl) ?_
        try simp only [Act.put, List.setIfInBounds_toArray, List.set_cons_zero, List.set_cons_succ]
        refine seqL_yield rfl (fun w' => by go_simp; rfl) ?_
        try simp only [Act.put, List.setIfInBounds_toArray, List.set_cons_zero, List.set_cons_succ]
        refine seqL_yield rfl (fun w' => by go_simp; rfl) ?_
        try simp only [Act.put, List.setIfInBounds_toArray, List.set_cons_zero, List.set_cons_succ]
        refine seqL_yield rfl (fun w' => by go_simp; rfl) ?_
        try simp only [Act.put, List.setIfInBounds_toArray, List.set_cons_zero, List.set_cons_succ]
        refine seqL_read hS rfl (fun w' hE => by have q := hE.cell x0; clear hE; go_simp; rfl) ?_
        try simp only [Act.put, List.setIfInBounds_toArray, List.set_cons_zero, List.set_cons_succ]
        refine seqL_yield rfl (fun w' => by go_simp; rfl) ?_
        try simp only [Act.put, List.setIfInBounds_toArray, List.set_cons_zero, List.set_cons_succ]
        refine seqL_yield rfl (fun w' => by go_simp; rfl) ?_
        try simp only [Act.put, List.setIfInBounds_toArray, List.set_cons_zero, List.set_cons_succ]
        refine seqL_nil ?_
        have hE2 := HE1.out.trans hS
        have HE2 := Lib.hid hE2
        have HXB2 := Lib.hid (hS.block HXB.out)
        clear hS
        go_wp2_with fail
        have hnx : W.heap.size ∉ mfpk := fun h => by have := HQ.out.lt _ h; omega
        have hargs := fun (W2 : World) (hE : Ext W W2) (hxb : W2.heap[W.heap.size]? = some (.cells #[i64 gn] 3)) => args_root (swapG_any mfpk W2 gn (by omega) W.heap.size hxb hnx) (argA_of_ok hpre HOK2.out (by have h := HCNT.out; simp only [Fo.one, Fo.count, List.length_append, List.length_singleton] at h ⊢; have h2 := HGN.out; omega)) (by have h := HCNT.out; simp only [Fo.one, Fo.count] at h ⊢; omega) (by have h := HAL.out; exact h.2.1.2.1) (by
          have h := HND.out
          rw [HFP.out] at h
          simp only [List.append_nil, List.nodup_cons, List.nodup_append] at h
          grind) (HQ.out.ext hE)
        refine (hargs _ HE2.out HXB2.out).mono ?_
        rintro e w3 ⟨rfl, hX3, hT3⟩
        have hdis : ∀ y, y ∈ b :: fk ∨ y ∈ mb :: mfk → y ∉ mfpk := by
          have h := HND.out
          rw [HFP.out] at h
          simp only [List.append_nil, List.nodup_cons, List.nodup_append, List.mem_cons, List.mem_append] at h
          intro y hy hm
          simp only [List.mem_cons] at hy
          grind
        have hkeep : ∀ y, y < W.heap.size → (y ∈ b :: fk ∨ y ∈ mb :: mfk) → w3.heap[y]? = W.heap[y]? := fun y hl hy => (hX3.block y (Nat.lt_of_lt_of_le hl HE2.out.size) (hdis y hy)).trans (Below.block HE2.out y hl)
        have hb3 := (hkeep b (heap_lt HB.out) (.inl (by simp))).trans HB.out
        have hm3 := (hkeep mb (heap_lt HMB.out) (.inr (by simp))).trans HMB.out
        have hk3 := HKK.out.kept (w' := w3) fun y hy => hkeep y (HKK.out.lt y hy) (.inl (by simp [hy]))
        obtain ⟨kb2, koff2, hke, -, hkl3, hk03, -, -⟩ := arr_put hk3 (j := 0) (by simp)
        cases hke
        simp only [Nat.add_zero, List.getElem_map, List.getElem_cons_zero] at hk03
        clear x0 x1 x2 x3 x4 x5 x6 x7 xl y0 y1 y2 y3 y4 y5 y6 y7 yl k0 kl m0 ml
        obtain ⟨x0, x1, x2, x3, x4, x5, x6, x7, xl⟩ := eight_facts hb3
        obtain ⟨y0, y1, y2, y3, y4, y5, y6, y7, yl⟩ := eight_facts hm3
        have k0 := hk03
        have hX0 := Lib.hid ((Ext1.of HE2.out fp).trans (hX3.wide (Y := fp) fun y hy => by rw [HFP.out]; simp [hy]))
        have HT3 := Lib.hid hT3
        clear hX3 hT3 hargs hdis hkeep hb3 hm3 hk3 hk03 hnx
        go_upto_region 4 with fail
        refine wp_region_seq (Ext w3) [(0, 0), (1, 0), (2, 0), (3, 0), (4, 1), (5, 0), (6, 0), (7, 0), (8, 1), (9, 0), (10, 1), (11, 0), (12, 0), (13, 0), (14, 1), (15, 0), (16, 0), (17, 0), (18, 0), (19, 1), (20, 0), (21, 0), (22, 0), (23, 0), (24, 1), (25, 0), (26, 2), (27, 2), (28, 0)] (by kernel_rfl) (by kernel_rfl) (Ext.refl w3).drew (fun hS => ?_)
        simp only [List.map, nthOp]
        refine seqL_yield rfl (fun w' => by go_simp; rfl) ?_
        try simp only [Act.put, List.setIfInBounds_toArray, List.set_cons_zero, List.set_cons_succ]
        refine seqL_yield rfl (fun w' => by go_simp; rfl) ?_
        try simp only [Act.put, List.setIfInBounds_toArray, List.set_cons_zero, List.set_cons_succ]
        refine seqL_yield rfl (fun w' => by go_simp; rfl) ?_
        try simp only [Act.put, List.setIfInBounds_toArray, List.set_cons_zero, List.set_cons_succ]
        refine seqL_yield rfl (fun w' => by go_simp; rfl) ?_
        try simp only [Act.put, List.setIfInBounds_toArray, List.set_cons_zero, List.set_cons_succ]
        refine seqL_read hS rfl (fun w' hE => by have q := hE.cell x0; clear hE; go_simp; rfl) ?_
        try simp only [Act.put, List.setIfInBounds_toArray, List.set_cons_zero, List.set_cons_succ]
        refine seqL_yield rfl (fun w' => by go_simp; rfl) ?_
        try simp only [Act.put, List.setIfInBounds_toArray, List.set_cons_zero, List.set_cons_succ]
        refine seqL_yield rfl (fun w' => by go_simp; rfl) ?_
        try simp only [Act.put, List.setIfInBounds_toArray, List.set_cons_zero, List.set_cons_succ]
        refine seqL_yield rfl (fun w' => by go_simp; rfl) ?_
        try simp only [Act.put, List.setIfInBounds_toArray, List.set_cons_zero, List.set_cons_succ]
        refine seqL_read hS rfl (fun w' hE => by have q := hE.cell x7; clear hE; go_simp; rfl) ?_
        try simp only [Act.put, List.setIfInBounds_toArray, List.set_cons_zero, List.set_cons_succ]
        refine seqL_yield rfl (fun w' => by go_simp; rfl) ?_
        try simp only [Act.put, List.setIfInBounds_toArray, List.set_cons_zero, List.set_cons_succ]
        refine seqL_read hS rfl (fun w' hE => by have q := hE.cell k0; clear hE; go_simp; rfl) ?_
        try simp only [Act.put, List.setIfInBounds_toArray, List.set_cons_zero, List.set_cons_succ]
        refine seqL_yield rfl (fun w' => by go_simp; rfl) ?_
        try simp only [Act.put, List.setIfInBounds_toArray, List.set_cons_zero, List.set_cons_succ]
        refine seqL_yield rfl (fun w' => by go_simp; rfl) ?_
        try simp only [Act.put, List.setIfInBounds_toArray, List.set_cons_zero, List.set_cons_succ]
        refine seqL_yield rfl (fun w' => by go_simp; rfl) ?_
        try simp only [Act.put, List.setIfInBounds_toArray, List.set_cons_zero, List.set_cons_succ]
        refine seqL_read hS rfl (fun w' hE => by have q := hE.cell y6; clear hE; go_simp; rfl) ?_
        try simp only [Act.put, List.setIfInBounds_toArray, List.set_cons_zero, List.set_cons_succ]
        refine seqL_yield rfl (fun w' => by go_simp; rfl) ?_
        try simp only [Act.put, List.setIfInBounds_toArray, List.set_cons_zero, List.set_cons_succ]
        refine seqL_yield rfl (fun w' => by go_simp; rfl) ?_
        try simp only [Act.put, List.setIfInBounds_toArray, List.set_cons_zero, List.set_cons_succ]
        refine seqL_yield rfl (fun w' => by go_simp; rfl) ?_
        try simp only [Act.put, List.setIfInBounds_toArray, List.set_cons_zero, List.set_cons_succ]
        refine seqL_yield rfl (fun w' => by go_simp; rfl) ?_
        try simp only [Act.put, List.setIfInBounds_toArray, List.set_cons_zero, List.set_cons_succ]
        refine seqL_read hS rfl (fun w' hE => by have q := hE.cell x0; clear hE; go_simp; rfl) ?_
        try simp only [Act.put, List.setIfInBounds_toArray, List.set_cons_zero, List.set_cons_succ]
        refine seqL_yield rfl (fun w' => by go_simp; rfl) ?_
        try simp only [Act.put, List.setIfInBounds_toArray, List.set_cons_zero, List.set_cons_succ]
        refine seqL_yield rfl (fun w' => by go_simp; rfl) ?_
        try simp only [Act.put, List.setIfInBounds_toArray, List.set_cons_zero, List.set_cons_succ]
        refine seqL_yield rfl (fun w' => by go_simp; rfl) ?_
        try simp only [Act.put, List.setIfInBounds_toArray, List.set_cons_zero, List.set_cons_succ]
        refine seqL_yield rfl (fun w' => by go_simp; rfl) ?_
        try simp only [Act.put, List.setIfInBounds_toArray, List.set_cons_zero, List.set_cons_succ]
        refine seqL_read hS rfl (fun w' hE => by have q := hE.cell x6; clear hE; go_simp; rfl) ?_
        try simp only [Act.put, List.setIfInBounds_toArray, List.set_cons_zero, List.set_cons_succ]
        refine seqL_yield rfl (fun w' => by go_simp; rfl) ?_
        try simp only [Act.put, List.setIfInBounds_toArray, List.set_cons_zero, List.set_cons_succ]
        refine seqL_grow rfl (fun K hK => ?_)
        have HKK := Lib.hid hK
        clear hK
        go_simp
        refine (quant2_any _ _ _ _).mono ?_
        rintro e w4 ⟨rfl, hw4⟩
        have HW4 := Lib.hid hw4
        have hS4 : Ext w3 w4 := by rw [hw4]; exact (hS.alloc _).alloc _
        clear hw4
        refine HKK.out _ _ hS4 (fun _ => ?_)
        clear HKK K
        try simp only [Act.put, List.setIfInBounds_toArray, List.set_cons_zero, List.set_cons_succ]
        refine seqL_grow rfl (fun K hK => ?_)
        have HKK := Lib.hid hK
        clear hK
        go_simp
        refine (quant2_any _ _ _ _).mono ?_
        rintro e w5 ⟨rfl, hw5⟩
        have HW5 := Lib.hid hw5
        have hS5 : Ext w3 w5 := by rw [hw5]; exact (hS4.alloc _).alloc _
        clear hw5
        refine HKK.out _ _ hS5 (fun _ => ?_)
        clear HKK K
        try simp only [Act.put, List.setIfInBounds_toArray, List.set_cons_zero, List.set_cons_succ]
        refine seqL_yield rfl (fun w' => by go_simp; rfl) ?_
        try simp only [Act.put, List.setIfInBounds_toArray, List.set_cons_zero, List.set_cons_succ]
        refine seqL_nil ?_
        go_wp2
        go_ret
        have hcan : canSwap G ⟨8, pd, ar, lf, rg, tp⟩ (Fo.one ⟨8, mpd, mar, mlf, mrg, mtp⟩ (Fo.one x r)) = true := by simp [canSwap, Fo.one]
        have hsz : w3.heap.size = w3.heap.size := rfl
        obtain ⟨z1, f1, g1, g2⟩ := con_alloc (W := w3.drew) (N := w3.heap.size) rfl (HT3.out.ext (Ext.refl w3).drew) #[ptr xb] rfl 1 rfl (by decide) 37 (qNd 8 tp) rfl
        obtain ⟨z2, f2, g3, g4⟩ := con_alloc (W := w4) (N := w4.heap.size) rfl (by rw [HW4.out]; exact g1) #[ptr (w3.heap.size + 1)] rfl 1 rfl (by decide) 37 (qNd 8 mtp) rfl
        rw [hcan]
        have hsame := swap_same D atoms G ⟨8, pd, ar, lf, rg, tp⟩ ⟨8, mpd, mar, mlf, mrg, mtp⟩ x r (by simp) rfl HO.out HS.out
        rw [HGN.out] at hsame
        have hc := HCNT.out
        have ha := HAL.out
        simp only [Fo.one, Fo.count] at hc
        have hs3 := hX0.out.size
        have hs4 := hS4.size
        refine ⟨hX0.out.then hS5, .inr ⟨rfl, w4.heap.size + 1, qNd 8 mtp, _, f2, rfl, by rw [HW5.out]; exact g3, fun y hy => ?_, hsame, ?_, ?_⟩⟩
        · rcases g4 y hy with h | h
          · rcases g2 y h with h | h
            · exact .inl (by rw [HFP.out]; simp [h])
            · exact .inr (by omega)
          · exact .inr (by omega)
        · simp only [Fo.one, Fo.count, gF, gF_count]
          omega
        · exact ⟨by simp [qNd], ⟨by simp [qNd], gF_args _ _ ha.2.1.2.1, trivial⟩, trivial⟩
    · have hcan : canSwap G ⟨kd, pd, ar, lf, rg, tp⟩ (Fo.one ⟨md, mpd, mar, mlf, mrg, mtp⟩ q) = false := by
        have : ¬ md = kd := hmd
        simp [canSwap, Fo.one, this]
      rw [hcan]
      have hmd' : (md == kd) = false := by simpa using hmd
      rcases hq with rfl | rfl
      · go_enter Try.func27, Try.ntmps27
        go_upto_region 1 with fail
        generalize hW1 : World.alloc _ _ = W1
        have HE1 := Lib.hid (hsW W1 hW1.symm)
        obtain ⟨x0, x1, x2, x3, x4, x5, x6, x7, xl⟩ := eight_facts (HE1.out.block HB.out)
        obtain ⟨y0, y1, y2, y3, y4, y5, y6, y7, yl⟩ := eight_facts (HE1.out.block HMB.out)
        have k0 := HE1.out.cell hk0
        have kl := World.block_lt_of_cell? W1 _ k0
        clear hW1
        refine wp_region_seq (Ext W1) [(0, 0), (1, 0), (2, 0), (3, 0), (4, 1), (5, 0), (6, 0), (7, 0), (8, 0), (9, 0), (10, 0), (11, 1), (12, 0), (13, 0), (14, 0), (15, 0), (16, 0), (17, 0), (18, 1), (19, 0), (20, 1), (21, 0), (22, 0), (23, 0), (24, 1), (25, 0), (26, 0), (27, 0), (28, 0), (29, 1), (30, 0), (31, 0)] (by kernel_rfl) (by kernel_rfl) (Ext.refl W1).drew (fun hS => ?_)
        simp only [List.map, nthOp]
        refine seqL_yield rfl (fun w' => by go_simp; rfl) ?_
        try simp only [Act.put, List.setIfInBounds_toArray, List.set_cons_zero, List.set_cons_succ]
        refine seqL_yield rfl (fun w' => by go_simp; rfl) ?_
        try simp only [Act.put, List.setIfInBounds_toArray, List.set_cons_zero, List.set_cons_succ]
        refine seqL_yield rfl (fun w' => by go_simp; rfl) ?_
        try simp only [Act.put, List.setIfInBounds_toArray, List.set_cons_zero, List.set_cons_succ]
        refine seqL_yield rfl (fun w' => by go_simp; rfl) ?_
        try simp only [Act.put, List.setIfInBounds_toArray, List.set_cons_zero, List.set_cons_succ]
        refine seqL_read hS rfl (fun w' hE => by have q := hE.cell x0; clear hE; go_simp; rfl) ?_
        try simp only [Act.put, List.setIfInBounds_toArray, List.set_cons_zero, List.set_cons_succ]
        refine seqL_yield rfl (fun w' => by go_simp; rfl) ?_
        try simp only [Act.put, List.setIfInBounds_toArray, List.set_cons_zero, List.set_cons_succ]
        refine seqL_yield rfl (fun w' => by go_simp; rfl) ?_
        try simp only [Act.put, List.setIfInBounds_toArray, List.set_cons_zero, List.set_cons_succ]
        refine seqL_pass0 rfl ?_
        try simp only [Act.put, List.setIfInBounds_toArray, List.set_cons_zero, List.set_cons_succ]
        refine seqL_pass0 rfl ?_
        try simp only [Act.put, List.setIfInBounds_toArray, List.set_cons_zero, List.set_cons_succ]
        refine seqL_pass0 rfl ?_
        try simp only [Act.put, List.setIfInBounds_toArray, List.set_cons_zero, List.set_cons_succ]
        refine seqL_pass0 rfl ?_
        try simp only [Act.put, List.setIfInBounds_toArray, List.set_cons_zero, List.set_cons_succ]
        refine seqL_pass1 rfl ?_
        try simp only [Act.put, List.setIfInBounds_toArray, List.set_cons_zero, List.set_cons_succ]
        refine seqL_pass0 rfl ?_
        try simp only [Act.put, List.setIfInBounds_toArray, List.set_cons_zero, List.set_cons_succ]
        refine seqL_yield rfl (fun w' => by go_simp; rfl) ?_
        try simp only [Act.put, List.setIfInBounds_toArray, List.set_cons_zero, List.set_cons_succ]
        refine seqL_yield rfl (fun w' => by go_simp; rfl) ?_
        try simp only [Act.put, List.setIfInBounds_toArray, List.set_cons_zero, List.set_cons_succ]
        refine seqL_yield rfl (fun w' => by go_simp; rfl) ?_
        try simp only [Act.put, List.setIfInBounds_toArray, List.set_cons_zero, List.set_cons_succ]
        refine seqL_yield rfl (fun w' => by go_simp; rfl) ?_
        try simp only [Act.put, List.setIfInBounds_toArray, List.set_cons_zero, List.set_cons_succ]
        refine seqL_yield rfl (fun w' => by go_simp; rfl) ?_
        try simp only [Act.put, List.setIfInBounds_toArray, List.set_cons_zero, List.set_cons_succ]
        refine seqL_read hS rfl (fun w' hE => by have q := hE.cell x7; clear hE; go_simp; rfl) ?_
        try simp only [Act.put, List.setIfInBounds_toArray, List.set_cons_zero, List.set_cons_succ]
        refine seqL_yield rfl (fun w' => by go_simp; rfl) ?_
        try simp only [Act.put, List.setIfInBounds_toArray, List.set_cons_zero, List.set_cons_succ]
        refine seqL_read hS rfl (fun w' hE => by have q := hE.cell k0; clear hE; go_simp; rfl) ?_
        try simp only [Act.put, List.setIfInBounds_toArray, List.set_cons_zero, List.set_cons_succ]
        refine seqL_yield rfl (fun w' => by go_simp; rfl) ?_
        try simp only [Act.put, List.setIfInBounds_toArray, List.set_cons_zero, List.set_cons_succ]
        refine seqL_yield rfl (fun w' => by go_simp; rfl) ?_
        try simp only [Act.put, List.setIfInBounds_toArray, List.set_cons_zero, List.set_cons_succ]
        refine seqL_yield rfl (fun w' => by go_simp; rfl) ?_
        try simp only [Act.put, List.setIfInBounds_toArray, List.set_cons_zero, List.set_cons_succ]
        refine seqL_read hS rfl (fun w' hE => by have q := hE.cell y0; clear hE; go_simp; rfl) ?_
        try simp only [Act.put, List.setIfInBounds_toArray, List.set_cons_zero, List.set_cons_succ]
        refine seqL_yield rfl (fun w' => by go_simp; rfl) ?_
        try simp only [Act.put, List.setIfInBounds_toArray, List.set_cons_zero, List.set_cons_succ]
        refine seqL_yield rfl (fun w' => by go_simp; rfl) ?_
        try simp only [Act.put, List.setIfInBounds_toArray, List.set_cons_zero, List.set_cons_succ]
        refine seqL_yield rfl (fun w' => by go_simp; rfl) ?_
        try simp only [Act.put, List.setIfInBounds_toArray, List.set_cons_zero, List.set_cons_succ]
        refine seqL_yield rfl (fun w' => by go_simp; rfl) ?_
        try simp only [Act.put, List.setIfInBounds_toArray, List.set_cons_zero, List.set_cons_succ]
        refine seqL_read hS rfl (fun w' hE => by have q := hE.cell x0; clear hE; go_simp; rfl) ?_
        try simp only [Act.put, List.setIfInBounds_toArray, List.set_cons_zero, List.set_cons_succ]
        refine seqL_yield rfl (fun w' => by go_simp; rfl) ?_
        try simp only [Act.put, List.setIfInBounds_toArray, List.set_cons_zero, List.set_cons_succ]
        refine seqL_yield rfl (fun w' => by go_simp; rfl) ?_
        try simp only [Act.put, List.setIfInBounds_toArray, List.set_cons_zero, List.set_cons_succ]
        refine seqL_nil ?_
        clear hS
        go_wp2
        go_ret
        exact ⟨Ext1.of HE1.out.drew _, .inl ⟨rfl, rfl⟩⟩
      · go_enter Try.func27, Try.ntmps27
        go_upto_region 1 with fail
        generalize hW1 : World.alloc _ _ = W1
        have HE1 := Lib.hid (hsW W1 hW1.symm)
        obtain ⟨x0, x1, x2, x3, x4, x5, x6, x7, xl⟩ := eight_facts (HE1.out.block HB.out)
        obtain ⟨y0, y1, y2, y3, y4, y5, y6, y7, yl⟩ := eight_facts (HE1.out.block HMB.out)
        have k0 := HE1.out.cell hk0
        have kl := World.block_lt_of_cell? W1 _ k0
        clear hW1
        refine wp_region_seq (Ext W1) [(0, 0), (1, 0), (2, 0), (3, 0), (4, 1), (5, 0), (6, 0), (7, 0), (8, 0), (9, 0), (10, 0), (11, 1), (12, 0), (13, 0), (14, 0), (15, 0), (16, 0), (17, 0), (18, 1), (19, 0), (20, 1), (21, 0), (22, 0), (23, 0), (24, 1), (25, 0), (26, 0), (27, 0), (28, 0), (29, 1), (30, 0), (31, 0)] (by kernel_rfl) (by kernel_rfl) (Ext.refl W1).drew (fun hS => ?_)
        simp only [List.map, nthOp]
        refine seqL_yield rfl (fun w' => by go_simp; rfl) ?_
        try simp only [Act.put, List.setIfInBounds_toArray, List.set_cons_zero, List.set_cons_succ]
        refine seqL_yield rfl (fun w' => by go_simp; rfl) ?_
        try simp only [Act.put, List.setIfInBounds_toArray, List.set_cons_zero, List.set_cons_succ]
        refine seqL_yield rfl (fun w' => by go_simp; rfl) ?_
        try simp only [Act.put, List.setIfInBounds_toArray, List.set_cons_zero, List.set_cons_succ]
        refine seqL_yield rfl (fun w' => by go_simp; rfl) ?_
        try simp only [Act.put, List.setIfInBounds_toArray, List.set_cons_zero, List.set_cons_succ]
        refine seqL_read hS rfl (fun w' hE => by have q := hE.cell x0; clear hE; go_simp; rfl) ?_
        try simp only [Act.put, List.setIfInBounds_toArray, List.set_cons_zero, List.set_cons_succ]
        refine seqL_yield rfl (fun w' => by go_simp; rfl) ?_
        try simp only [Act.put, List.setIfInBounds_toArray, List.set_cons_zero, List.set_cons_succ]
        refine seqL_yield rfl (fun w' => by go_simp; rfl) ?_
        try simp only [Act.put, List.setIfInBounds_toArray, List.set_cons_zero, List.set_cons_succ]
        refine seqL_yield rfl (fun w' => by go_simp; rfl) ?_
        try simp only [Act.put, List.setIfInBounds_toArray, List.set_cons_zero, List.set_cons_succ]
        refine seqL_yield rfl (fun w' => by go_simp; rfl) ?_
        try simp only [Act.put, List.setIfInBounds_toArray, List.set_cons_zero, List.set_cons_succ]
        refine seqL_yield rfl (fun w' => by go_simp; rfl) ?_
        try simp only [Act.put, List.setIfInBounds_toArray, List.set_cons_zero, List.set_cons_succ]
        refine seqL_yield rfl (fun w' => by go_simp; rfl) ?_
        try simp only [Act.put, List.setIfInBounds_toArray, List.set_cons_zero, List.set_cons_succ]
        refine seqL_read hS rfl (fun w' hE => by have q := hE.cell x0; clear hE; go_simp; rfl) ?_
        try simp only [Act.put, List.setIfInBounds_toArray, List.set_cons_zero, List.set_cons_succ]
        refine seqL_yield rfl (fun w' => by go_simp; rfl) ?_
        try simp only [Act.put, List.setIfInBounds_toArray, List.set_cons_zero, List.set_cons_succ]
        refine seqL_yield rfl (fun w' => by go_simp; rfl) ?_
        try simp only [Act.put, List.setIfInBounds_toArray, List.set_cons_zero, List.set_cons_succ]
        refine seqL_yield rfl (fun w' => by go_simp; rfl) ?_
        try simp only [Act.put, List.setIfInBounds_toArray, List.set_cons_zero, List.set_cons_succ]
        refine seqL_yield rfl (fun w' => by go_simp; rfl) ?_
        try simp only [Act.put, List.setIfInBounds_toArray, List.set_cons_zero, List.set_cons_succ]
        refine seqL_yield rfl (fun w' => by go_simp; rfl) ?_
        try simp only [Act.put, List.setIfInBounds_toArray, List.set_cons_zero, List.set_cons_succ]
        refine seqL_yield rfl (fun w' => by go_simp; rfl) ?_
        try simp only [Act.put, List.setIfInBounds_toArray, List.set_cons_zero, List.set_cons_succ]
        refine seqL_read hS rfl (fun w' hE => by have q := hE.cell x7; clear hE; go_simp; rfl) ?_
        try simp only [Act.put, List.setIfInBounds_toArray, List.set_cons_zero, List.set_cons_succ]
        refine seqL_yield rfl (fun w' => by go_simp; rfl) ?_
        try simp only [Act.put, List.setIfInBounds_toArray, List.set_cons_zero, List.set_cons_succ]
        refine seqL_read hS rfl (fun w' hE => by have q := hE.cell k0; clear hE; go_simp; rfl) ?_
        try simp only [Act.put, List.setIfInBounds_toArray, List.set_cons_zero, List.set_cons_succ]
        refine seqL_yield rfl (fun w' => by go_simp; rfl) ?_
        try simp only [Act.put, List.setIfInBounds_toArray, List.set_cons_zero, List.set_cons_succ]
        refine seqL_yield rfl (fun w' => by go_simp; rfl) ?_
        try simp only [Act.put, List.setIfInBounds_toArray, List.set_cons_zero, List.set_cons_succ]
        refine seqL_yield rfl (fun w' => by go_simp; rfl) ?_
        try simp only [Act.put, List.setIfInBounds_toArray, List.set_cons_zero, List.set_cons_succ]
        refine seqL_read hS rfl (fun w' hE => by have q := hE.cell y0; clear hE; go_simp; rfl) ?_
        try simp only [Act.put, List.setIfInBounds_toArray, List.set_cons_zero, List.set_cons_succ]
        refine seqL_yield rfl (fun w' => by go_simp; rfl) ?_
        try simp only [Act.put, List.setIfInBounds_toArray, List.set_cons_zero, List.set_cons_succ]
        refine seqL_yield rfl (fun w' => by go_simp; rfl) ?_
        try simp only [Act.put, List.setIfInBounds_toArray, List.set_cons_zero, List.set_cons_succ]
        refine seqL_yield rfl (fun w' => by go_simp; rfl) ?_
        try simp only [Act.put, List.setIfInBounds_toArray, List.set_cons_zero, List.set_cons_succ]
        refine seqL_yield rfl (fun w' => by go_simp; rfl) ?_
        try simp only [Act.put, List.setIfInBounds_toArray, List.set_cons_zero, List.set_cons_succ]
        refine seqL_read hS rfl (fun w' hE => by have q := hE.cell x0; clear hE; go_simp; rfl) ?_
        try simp only [Act.put, List.setIfInBounds_toArray, List.set_cons_zero, List.set_cons_succ]
        refine seqL_yield rfl (fun w' => by go_simp; rfl) ?_
        try simp only [Act.put, List.setIfInBounds_toArray, List.set_cons_zero, List.set_cons_succ]
        refine seqL_yield rfl (fun w' => by go_simp; rfl) ?_
        try simp only [Act.put, List.setIfInBounds_toArray, List.set_cons_zero, List.set_cons_succ]
        refine seqL_nil ?_
        clear hS
        go_wp2
        go_ret
        exact ⟨Ext1.of HE1.out.drew _, .inl ⟨rfl, rfl⟩⟩
  · have h7 : (kd == 7) = false := by simpa using fun h => hq (.inl h)
    have h8 : (kd == 8) = false := by simpa using fun h => hq (.inr h)
    have hcan : canSwap G ⟨kd, pd, ar, lf, rg, tp⟩ k = false := by
      cases k with
      | nil => rfl
      | cons m q r =>
        have g8 : ¬ kd = 8 := fun h => hq (.inr h)
        have g7 : ¬ kd = 7 := fun h => hq (.inl h)
        simp [canSwap, g8, g7]
    rw [hcan]
    have HB := Lib.hid hb
    have hbl := heap_lt hb
    have g7 : ¬ kd = 7 := fun h => hq (.inl h)
    have g8 : ¬ kd = 8 := fun h => hq (.inr h)
    clear hF hnd hlo hltF hbx hfp hb haa hkk ho hs hal hc han hfk
    go_enter Try.func27, Try.ntmps27
    go_upto_region 1 with fail
    generalize hW1 : World.alloc _ _ = W1
    have HE1 := Lib.hid (hsW W1 hW1.symm)
    obtain ⟨x0, x1, x2, x3, x4, x5, x6, x7, xl⟩ := eight_facts (HE1.out.block HB.out)
    clear hW1
    refine wp_region_seq (Ext W1) [(0, 0), (1, 0), (2, 0), (3, 0), (4, 1), (5, 0), (6, 0), (7, 0), (8, 0), (9, 0), (10, 0), (11, 1), (12, 0), (13, 0), (14, 0), (15, 0), (16, 0), (17, 0), (18, 1), (19, 0), (20, 1), (21, 0), (22, 0), (23, 0), (24, 1), (25, 0), (26, 0), (27, 0), (28, 0), (29, 1), (30, 0), (31, 0)] (by kernel_rfl) (by kernel_rfl) (Ext.refl W1).drew (fun hS => ?_)
    simp only [List.map, nthOp]
    refine seqL_yield rfl (fun w' => by go_simp; rfl) ?_
    try simp only [Act.put, List.setIfInBounds_toArray, List.set_cons_zero, List.set_cons_succ]
    refine seqL_yield rfl (fun w' => by go_simp; rfl) ?_
    try simp only [Act.put, List.setIfInBounds_toArray, List.set_cons_zero, List.set_cons_succ]
    refine seqL_yield rfl (fun w' => by go_simp; rfl) ?_
    try simp only [Act.put, List.setIfInBounds_toArray, List.set_cons_zero, List.set_cons_succ]
    refine seqL_yield rfl (fun w' => by go_simp; rfl) ?_
    try simp only [Act.put, List.setIfInBounds_toArray, List.set_cons_zero, List.set_cons_succ]
    refine seqL_read hS rfl (fun w' hE => by have q := hE.cell x0; clear hE; go_simp; rfl) ?_
    try simp only [Act.put, List.setIfInBounds_toArray, List.set_cons_zero, List.set_cons_succ]
    refine seqL_yield (v := .bool true) rfl (fun w' => by go_simp; first | done | rfl | exact g7 | exact g8 | trace_state) ?_
    try simp only [Act.put, List.setIfInBounds_toArray, List.set_cons_zero, List.set_cons_succ]
    refine seqL_yield (v := .bool true) rfl (fun w' => by go_simp; first | done | rfl | exact g7 | exact g8 | trace_state) ?_
    try simp only [Act.put, List.setIfInBounds_toArray, List.set_cons_zero, List.set_cons_succ]
    refine seqL_yield rfl (fun w' => by go_simp; rfl) ?_
    try simp only [Act.put, List.setIfInBounds_toArray, List.set_cons_zero, List.set_cons_succ]
    refine seqL_yield rfl (fun w' => by go_simp; rfl) ?_
    try simp only [Act.put, List.setIfInBounds_toArray, List.set_cons_zero, List.set_cons_succ]
    refine seqL_yield rfl (fun w' => by go_simp; rfl) ?_
    try simp only [Act.put, List.setIfInBounds_toArray, List.set_cons_zero, List.set_cons_succ]
    refine seqL_yield rfl (fun w' => by go_simp; rfl) ?_
    try simp only [Act.put, List.setIfInBounds_toArray, List.set_cons_zero, List.set_cons_succ]
    refine seqL_read hS rfl (fun w' hE => by have q := hE.cell x0; clear hE; go_simp; rfl) ?_
    try simp only [Act.put, List.setIfInBounds_toArray, List.set_cons_zero, List.set_cons_succ]
    refine seqL_yield (v := .bool true) rfl (fun w' => by go_simp; first | done | rfl | exact g7 | exact g8 | trace_state) ?_
    try simp only [Act.put, List.setIfInBounds_toArray, List.set_cons_zero, List.set_cons_succ]
    refine seqL_yield (v := .bool true) rfl (fun w' => by go_simp; first | done | rfl | exact g7 | exact g8 | trace_state) ?_
    try simp only [Act.put, List.setIfInBounds_toArray, List.set_cons_zero, List.set_cons_succ]
    refine seqL_yield (v := .bool true) rfl (fun w' => by go_simp; first | done | rfl | exact g7 | exact g8 | trace_state) ?_
    try simp only [Act.put, List.setIfInBounds_toArray, List.set_cons_zero, List.set_cons_succ]
    refine seqL_pass0 rfl ?_
    try simp only [Act.put, List.setIfInBounds_toArray, List.set_cons_zero, List.set_cons_succ]
    refine seqL_pass0 rfl ?_
    try simp only [Act.put, List.setIfInBounds_toArray, List.set_cons_zero, List.set_cons_succ]
    refine seqL_pass0 rfl ?_
    try simp only [Act.put, List.setIfInBounds_toArray, List.set_cons_zero, List.set_cons_succ]
    refine seqL_pass1 rfl ?_
    try simp only [Act.put, List.setIfInBounds_toArray, List.set_cons_zero, List.set_cons_succ]
    refine seqL_pass0 rfl ?_
    try simp only [Act.put, List.setIfInBounds_toArray, List.set_cons_zero, List.set_cons_succ]
    refine seqL_pass1 rfl ?_
    try simp only [Act.put, List.setIfInBounds_toArray, List.set_cons_zero, List.set_cons_succ]
    refine seqL_pass0 rfl ?_
    try simp only [Act.put, List.setIfInBounds_toArray, List.set_cons_zero, List.set_cons_succ]
    refine seqL_pass0 rfl ?_
    try simp only [Act.put, List.setIfInBounds_toArray, List.set_cons_zero, List.set_cons_succ]
    refine seqL_pass0 rfl ?_
    try simp only [Act.put, List.setIfInBounds_toArray, List.set_cons_zero, List.set_cons_succ]
    refine seqL_pass1 rfl ?_
    try simp only [Act.put, List.setIfInBounds_toArray, List.set_cons_zero, List.set_cons_succ]
    refine seqL_pass0 rfl ?_
    try simp only [Act.put, List.setIfInBounds_toArray, List.set_cons_zero, List.set_cons_succ]
    refine seqL_pass0 rfl ?_
    try simp only [Act.put, List.setIfInBounds_toArray, List.set_cons_zero, List.set_cons_succ]
    refine seqL_pass0 rfl ?_
    try simp only [Act.put, List.setIfInBounds_toArray, List.set_cons_zero, List.set_cons_succ]
    refine seqL_pass0 rfl ?_
    try simp only [Act.put, List.setIfInBounds_toArray, List.set_cons_zero, List.set_cons_succ]
    refine seqL_pass1 rfl ?_
    try simp only [Act.put, List.setIfInBounds_toArray, List.set_cons_zero, List.set_cons_succ]
    refine seqL_pass0 rfl ?_
    try simp only [Act.put, List.setIfInBounds_toArray, List.set_cons_zero, List.set_cons_succ]
    refine seqL_yield (v := .bool true) rfl (fun w' => by go_simp; first | done | rfl | exact g7 | exact g8 | trace_state) ?_
    try simp only [Act.put, List.setIfInBounds_toArray, List.set_cons_zero, List.set_cons_succ]
    refine seqL_nil ?_
    clear hS
    go_wp2
    go_ret
    exact ⟨Ext1.of HE1.out.drew _, .inl ⟨rfl, rfl⟩⟩

end Go.Proofs.Ytodlkjjoenglgaa

/- wDeeper, walked. -/
namespace Go.Proofs.Ytodlkjjoenglgaa
open Go Go.RowKit

theorem enters53 : EntersF 53 := fun args W => enters_of Try.func53 (by kernel_rfl) rfl args W
theorem deepG_any (X : List Nat) (W : World) (s : Nat) (xb : Nat) (hx : W.heap[xb]? = some (.cells #[i64 s] 3)) (hn : xb ∉ X) : ArgBy X W inB (deepG s) 53 #[ptr xb] := by
  refine ⟨enters53, fun a ha W2 hW => ?_⟩
  have h := (hW.block xb (heap_lt hx) hn).trans hx
  have c0 : W2.cell? ⟨xb, 0, none⟩ = some (i64 s) := by rw [cell_of_heap h]; rfl
  have cl := heap_lt h
  unfold inB at ha
  clear h hx hn hW
  by_cases h1 : (s : Int) ≤ -1 - a
  · have e : deepG s a = a - 1 := by unfold deepG; rw [if_pos h1]
    rw [e]
    clear e
    go_enter Try.func53, Try.ntmps53
    go_wp2
    go_ret
    exact ⟨by go_num, Ext.refl _⟩
  · have e : deepG s a = a := by unfold deepG; rw [if_neg h1]
    rw [e]
    clear e
    go_enter Try.func53, Try.ntmps53
    go_wp2
    go_ret
    exact ⟨rfl, Ext.refl _⟩

theorem deeper_any {D : Dom} (hpre : DomPre D) {G : List Int} {n : Nd} {k : Fo} {b : Nat} {fp : List Nat} (s : Nat) (ho : OkF D G (Fo.one n k)) (hc : (Fo.one n k).count ≤ 100) (hG : G.length ≤ 200) (hl : (Fo.one n k).ArgsLe) (hnd : fp.Nodup) (W : World) (hF : isF W (Fo.one n k) [b] fp) :
    Calls Try.prog 26 #[ptr b, i64 s] W fun e W' => e = .returned (ptr b) ∧ Ext1 fp W W' ∧ isF W' (Fo.one (gN (deepG s) n) (gF (deepG s) k)) [b] fp := by
  have hargs := fun (W2 : World) (hE : Ext W W2) (hx : W2.heap[W.heap.size]? = some (.cells #[i64 s] 3)) =>
    args_root (deepG_any fp W2 s W.heap.size hx (fun h => by have := hF.lt _ h; omega)) (argA_of_ok hpre ho (by omega)) (by omega) hl hnd (hF.ext hE)
  have HARGS := Lib.hid hargs
  clear hargs ho hl hnd hF hpre
  go_enter Try.func26, Try.ntmps26
  go_wp2_with fail
  refine (HARGS.out _ ((Ext.refl W).alloc _) (heap_alloc_new _ _)).mono ?_
  rintro e w3 ⟨rfl, hX, hT⟩
  have HX := Lib.hid hX
  have HT := Lib.hid hT
  clear hX hT
  go_wp2
  go_ret
  exact ⟨rfl, (Ext1.of ((Ext.refl W).alloc _) fp).trans HX.out, HT.out⟩
end Go.Proofs.Ytodlkjjoenglgaa

/- TopQuantsIdle's closure, walked. -/
namespace Go.Proofs.Ytodlkjjoenglgaa
open Go Go.RowKit

theorem enters38 : EntersF 38 := fun args W => enters_of Try.func38 (by kernel_rfl) rfl args W
def canIdle (D : Dom) (t : Int) (_ : List Int) (_ : Nd) (_ : Fo) : Bool := decide (-1 ≤ t) && decide (t < (D.types.length : Int)) && !(ofL D.types D.objects t).isEmpty

set_option maxRecDepth 100000 in
set_option maxHeartbeats 8000000 in
theorem idle_any (w : World) (d : DomV) (D : Dom) (hd : DomAt w d D) (hv : domV D = (0, 0)) (atoms : List AtD) (db tb kb : Nat) (t kd : Int) (hk : kd = 7 ∨ kd = 8)
    (hdb : w.heap[db]? = some (.cells d.cells 29)) (htb : w.heap[tb]? = some (.cells #[i64 t] 3)) (hkb : w.heap[kb]? = some (.cells #[i64 kd] 3)) :
    ByOK w D atoms 38 #[ptr db, ptr tb, ptr kb] (canIdle D t) := by
  refine ⟨enters38, fun W hW G n k b fp ht ho hs hc hal hG => ?_⟩
  have hpre := domV_pre hv
  have hmem := fun W' (h : Ext w W') => members_any W' d.tv d.ov D.types D.objects t (Sl.ext hd.types h fun _ _ h => h) (Sl.ext hd.objects h fun _ _ h => h) (domV_ok hv).1 (domV_ok hv).2.1
  obtain ⟨t1, tn1, tcap1, e1⟩ := hd.types.slice
  obtain ⟨t2, tn2, tcap2, e2⟩ := hd.objects.slice
  have hdc : W.heap[db]? = some (.cells #[d.tv, d.ov, d.pv, d.sv, d.iv, d.gv] 29) := hW.block hdb
  obtain ⟨d0, d1, -, -, -, -, dl⟩ := six_facts hdc
  rw [e1] at d0 hmem
  rw [e2] at d1 hmem
  have k0 : w.cell? ⟨kb, 0, none⟩ = some (i64 kd) := by rw [cell_of_heap hkb]; rfl
  have a0 : w.cell? ⟨tb, 0, none⟩ = some (i64 t) := by rw [cell_of_heap htb]; rfl
  have al := heap_lt (hW.block htb)
  have kl := heap_lt (hW.block hkb)
  have A0 := hW.cell a0
  have hdeep := fun (W1 : World) (hF : isF W1 (Fo.one n k) [b] fp) => deeper_any hpre G.length ho (by omega) (by omega) hal ht.nd W1 hF
  obtain ⟨gn, hgn⟩ : ∃ n, G.length = n := ⟨_, rfl⟩
  have HGN := Lib.hid hgn
  rw [hgn] at hG ⊢
  simp only [hgn] at hdeep
  have HT := Lib.hid ht
  have HO := Lib.hid ho
  have HS := Lib.hid hs
  have HAL := Lib.hid hal
  have HCNT := Lib.hid hc
  have HW := Lib.hid hW
  have HMEM := Lib.hid hmem
  have HNEW := Lib.hid ht.new
  have HDEEP := Lib.hid hdeep
  clear ht ho hs hal hc hW hmem hdeep hd hdb htb hkb hdc hgn e1 e2 hpre hv
  go_enter Try.func38, Try.ntmps38
  go_wp2_with fail
  refine (HMEM.out _ HW.out).mono ?_
  rintro e w2 ⟨hE2, hr⟩
  have HE2 := Lib.hid hE2
  rcases hr with ⟨hin, v', rfl, hrd⟩ | ⟨hin, rfl⟩
  · obtain ⟨va, vcap, rfl, -, -, -⟩ := hrd
    rw [List.length_map]
    obtain ⟨ln, hln⟩ : ∃ n, (ofL D.types D.objects t).length = n := ⟨_, rfl⟩
    rw [hln]
    have HLN := Lib.hid hln
    have HIN := Lib.hid hin
    clear hln hin hE2
    by_cases h0 : ln = 0
    · subst h0
      go_wp2
      go_ret
      have hcan : canIdle D t G n k = false := by
        have := List.length_eq_zero_iff.1 HLN.out
        simp [canIdle, this]
      exact ⟨Ext1.of (HE2.out.alloc _) _, .inl ⟨hcan, rfl⟩⟩
    · have h0' : (ln == 0) = false := by simpa using h0
      go_upto_region 4 with fail
      generalize hW3 : World.alloc _ _ = W3
      have HE3 : Hid (Ext W W3) := by show Ext W W3; rw [← hW3]; exact HE2.out.alloc _
      clear hW3
      refine wp_region_seq (Ext w) [(0, 1), (1, 1), (2, 0), (3, 0), (4, 2), (5, 2), (6, 0)] (by kernel_rfl) (by kernel_rfl) (HW.out.trans HE3.out).drew (fun hS => ?_)
      simp only [List.map, nthOp]
      refine seqL_read hS rfl (fun w' hE => by have q := hE.cell k0; clear hE; go_simp; rfl) ?_
      try simp only [Act.put, List.setIfInBounds_toArray, List.set_cons_zero, List.set_cons_succ]
      refine seqL_read hS rfl (fun w' hE => by have q := hE.cell a0; clear hE; go_simp; rfl) ?_
      try simp only [Act.put, List.setIfInBounds_toArray, List.set_cons_zero, List.set_cons_succ]
      refine seqL_yield rfl (fun w' => by go_simp; rfl) ?_
      try simp only [Act.put, List.setIfInBounds_toArray, List.set_cons_zero, List.set_cons_succ]
      refine seqL_yield rfl (fun w' => by go_simp; rfl) ?_
      try simp only [Act.put, List.setIfInBounds_toArray, List.set_cons_zero, List.set_cons_succ]
      refine seqL_grow rfl (fun K hK => ?_)
      have HKK := Lib.hid hK
      clear hK
      go_simp
      refine (HDEEP.out _ (HT.out.tree.ext HE3.out.drew)).mono ?_
      rintro e w5 ⟨rfl, hX5, hT5⟩
      have hS5 : Ext w w5 := hX5.ext hS HNEW.out
      have HX5 := Lib.hid hX5
      have HT5 := Lib.hid hT5
      clear hX5 hT5
      refine HKK.out _ _ hS5 (fun _ => ?_)
      clear HKK K
      try simp only [Act.put, List.setIfInBounds_toArray, List.set_cons_zero, List.set_cons_succ]
      refine seqL_grow rfl (fun K hK => ?_)
      have HKK := Lib.hid hK
      clear hK
      go_simp
      refine (quant2_any _ _ _ _).mono ?_
      rintro e w6 ⟨rfl, hw6⟩
      have HW6 := Lib.hid hw6
      have hE6 : Ext w5 w6 := by rw [hw6]; exact ((Ext.refl w5).alloc _).alloc _
      clear hw6
      refine HKK.out _ _ (hS5.trans hE6) (fun _ => ?_)
      clear HKK K
      try simp only [Act.put, List.setIfInBounds_toArray, List.set_cons_zero, List.set_cons_succ]
      refine seqL_yield rfl (fun w' => by go_simp; rfl) ?_
      try simp only [Act.put, List.setIfInBounds_toArray, List.set_cons_zero, List.set_cons_succ]
      refine seqL_nil ?_
      have hne : ofL D.types D.objects t ≠ [] := fun h => h0 (by rw [← HLN.out, h]; rfl)
      have hcan : canIdle D t G n k = true := by
        have h := HIN.out
        unfold inRange at h
        simp [canIdle, h.1, h.2, hne]
      have hsame := idle_same D atoms G n k kd t hk HIN.out hne HO.out HS.out
      rw [HGN.out] at hsame
      obtain ⟨-, f, g1, g2⟩ := con_alloc (W := w5) (N := w5.heap.size) rfl HT5.out #[ptr b] rfl 1 rfl (by decide) 37 (qNd kd t) rfl
      have HF := Lib.hid (And.intro hcan (And.intro hsame (And.intro g1 g2)))
      clear hne hcan hsame g1 g2 h0
      go_wp2
      go_ret
      rw [HF.out.1]
      have hs1 := HE3.out.size
      have hs2 := HX5.out.size
      have hc := HCNT.out
      refine ⟨((Ext1.of HE3.out.drew fp).trans HX5.out).then hE6, .inr ⟨rfl, w5.heap.size + 1, qNd kd t, _, f, rfl, by rw [HW6.out]; exact HF.out.2.2.1, fun y hy => ?_, HF.out.2.1, ?_, ?_⟩⟩
      · rcases HF.out.2.2.2 y hy with h | h
        · exact .inl h
        · exact .inr (by have : W3.drew.heap.size = W3.heap.size := rfl; omega)
      · simp only [Fo.one, Fo.count, gF_count] at hc ⊢
        omega
      · exact ⟨by simp [qNd], gF_args _ (Fo.one n k) HAL.out, trivial⟩
  · clear hE2
    go_wp2
    go_ret
    exact ⟨Ext1.of (HE2.out.alloc _) _, .inl ⟨by unfold inRange at hin; unfold canIdle; rw [Bool.eq_false_iff]; intro h; simp only [Bool.and_eq_true, decide_eq_true_eq] at h; exact hin h.1, rfl⟩⟩
end Go.Proofs.Ytodlkjjoenglgaa

/- topQuantsIdle. -/
namespace Go.Proofs.Ytodlkjjoenglgaa
open Go Go.RowKit Go.ChangeShapes Go.WideShapes Go.ChangeAt

set_option maxRecDepth 100000 in
set_option maxHeartbeats 8000000 in
theorem f12_any (w : World) (d : DomV) (D : Dom) (hd : DomAt w d D) (tv nv : Value) (C : Cnd) (hc : CndAt w tv nv C) (lv : Value) (atoms : List AtD) (hl : Sl w 2 32 rAtom lv atoms) (av : Value) (args : List Int) (ha : IntsAt w av args) (which : Int) (ofv : Int) (sm : Bool) :
    Calls Try.prog 12 #[.agg d.cells, .agg #[tv, nv], lv, av, i64 which, i64 ofv, .bool sm] w fun e w' => e = .returned (.bool true) ∧ Ext w w' := by
  have hlaw := fun (tt kd : Int) (hk : kd = 7 ∨ kd = 8) (y0 y3 y2 : Nat) (W : World) (hW : Ext w W) (h0 : W.heap[y0]? = some (.cells d.cells 29)) (h3 : W.heap[y3]? = some (.cells #[i64 tt] 3)) (h2 : W.heap[y2]? = some (.cells #[i64 kd] 3)) (w2 : World) (h : Ext W w2) cb bb wb =>
    law_any w2 d D (hd.ext (hW.trans h)) tv nv C (hc.ext (hW.trans h)) lv atoms (Sl.ext hl (hW.trans h) (rAtom.ext (hW.trans h))) av args (ha.ext (hW.trans h)) 38 #[ptr y0, ptr y3, ptr y2] (canIdle D tt)
      (fun hv => idle_any w2 d D (hd.ext (hW.trans h)) (valV_inv hv).1 atoms y0 y3 y2 tt kd hk (h.block h0) (h.block h3) (h.block h2)) cb bb wb which
  obtain ⟨ta, tn, tcap, htv⟩ := Sl.slice hc.types
  obtain ⟨na, nn, ncap, hnv⟩ := Sl.slice hc.nodes
  obtain ⟨la, ln, lcap, hlv⟩ := Sl.slice hl
  obtain ⟨aa, an, acap, hav⟩ := Sl.slice ha
  obtain ⟨t1, tn1, tcap1, e1⟩ := hd.types.slice
  obtain ⟨t2, tn2, tcap2, e2⟩ := hd.objects.slice
  obtain ⟨t3, tn3, tcap3, e3⟩ := hd.preds.slice
  obtain ⟨t4, tn4, tcap4, e4⟩ := hd.schemas.slice
  obtain ⟨t5, tn5, tcap5, e5⟩ := hd.init.slice
  obtain ⟨t6, tn6, tcap6, e6⟩ := hd.goal.slice
  have htn : tn1 ≤ 1000000000000000 := by obtain ⟨a, cap, h, -, -, h2, -⟩ := hd.types.open; rw [e1] at h; injection h with _ h _; omega
  have hdc : d.cells = #[d.tv, d.ov, d.pv, d.sv, d.iv, d.gv] := rfl
  rw [hdc] at hlaw ⊢
  subst htv hnv hlv hav
  simp only [e1, e2, e3, e4, e5, e6] at hlaw ⊢
  clear hd hc hl ha hdc e1 e2 e3 e4 e5 e6
  have HPK := Lib.hid (fun W => pick_any W ofv (tn1 + 1) (by omega) (by omega))
  cases sm with
  | false =>
    go_enter Try.func12, Try.ntmps12
    go_wp2_with fail
    refine (HPK.out _).mono ?_
    rintro e w' ⟨rfl, p, hp, rfl⟩
    go_upto_region 5 with fail
    generalize hW1 : World.alloc _ _ = W1
    have HE1 : Hid (Ext w W1) := by show Ext w W1; rw [← hW1]; exact (Ext.alloc (Ext.alloc (Ext.alloc (Ext.alloc (Ext.refl w) _) _) _) _)
    have B0 : Hid (W1.heap[w.heap.size]? = some (.cells #[.slice t1 tn1 tcap1, .slice t2 tn2 tcap2, .slice t3 tn3 tcap3, .slice t4 tn4 tcap4, .slice t5 tn5 tcap5, .slice t6 tn6 tcap6] 29)) := by
      show W1.heap[_]? = _
      rw [← hW1]
      have h := heap_alloc_new w (.cells #[.slice t1 tn1 tcap1, .slice t2 tn2 tcap2, .slice t3 tn3 tcap3, .slice t4 tn4 tcap4, .slice t5 tn5 tcap5, .slice t6 tn6 tcap6] 29)
      exact Ext.block (Ext.alloc (Ext.alloc (Ext.alloc (Ext.refl _) _) _) _) h
    have B1 : Hid (W1.heap[w.heap.size + 1]? = some (.cells #[.slice ta tn tcap, .slice na nn ncap] 33)) := by
      show W1.heap[_]? = _
      rw [← hW1]
      have h := heap_alloc_new (w.alloc (.cells #[.slice t1 tn1 tcap1, .slice t2 tn2 tcap2, .slice t3 tn3 tcap3, .slice t4 tn4 tcap4, .slice t5 tn5 tcap5, .slice t6 tn6 tcap6] 29)) (.cells #[.slice ta tn tcap, .slice na nn ncap] 33)
      simp only [World.size_alloc] at h
      exact Ext.block (Ext.alloc (Ext.alloc (Ext.refl _) _) _) h
    have B2 : Hid (W1.heap[w.heap.size + 1 + 1]? = some (.cells #[i64 8] 3)) := by
      show W1.heap[_]? = _
      rw [← hW1]
      have h := heap_alloc_new ((w.alloc (.cells #[.slice t1 tn1 tcap1, .slice t2 tn2 tcap2, .slice t3 tn3 tcap3, .slice t4 tn4 tcap4, .slice t5 tn5 tcap5, .slice t6 tn6 tcap6] 29)).alloc (.cells #[.slice ta tn tcap, .slice na nn ncap] 33)) (.cells #[i64 8] 3)
      simp only [World.size_alloc] at h
      exact Ext.block (Ext.alloc (Ext.refl _) _) h
    have B3 : Hid (W1.heap[w.heap.size + 1 + 1 + 1]? = some (.cells #[i64 ((p : Int) - 1)] 3)) := by
      show W1.heap[_]? = _
      rw [← hW1]
      have h := heap_alloc_new (((w.alloc (.cells #[.slice t1 tn1 tcap1, .slice t2 tn2 tcap2, .slice t3 tn3 tcap3, .slice t4 tn4 tcap4, .slice t5 tn5 tcap5, .slice t6 tn6 tcap6] 29)).alloc (.cells #[.slice ta tn tcap, .slice na nn ncap] 33)).alloc (.cells #[i64 8] 3)) (.cells #[i64 ((p : Int) - 1)] 3)
      simp only [World.size_alloc] at h
      exact Ext.block (Ext.refl _) h
    have HLAW := Lib.hid (hlaw ((p : Int) - 1) 8 (.inr rfl) (w.heap.size) (w.heap.size + 1 + 1 + 1) (w.heap.size + 1 + 1) W1 HE1.out B0.out B3.out B2.out)
    clear hlaw hW1
    refine wp_region_seq (Ext W1) [(0, 1), (1, 1), (2, 0), (3, 0), (4, 1), (5, 0), (6, 0), (7, 2), (8, 2), (9, 0)] (by kernel_rfl) (by kernel_rfl) (Ext.refl W1).drew (fun hS => ?_)
    simp only [List.map, nthOp]
    refine seqL_read hS rfl (fun w' hE => by obtain ⟨q0, q1, q2, q3, q4, q5, -⟩ := six_facts (hE.block B0.out); clear hE; go_simp; rfl) ?_
    try simp only [Act.put, List.setIfInBounds_toArray, List.set_cons_zero, List.set_cons_succ]
    refine seqL_read hS rfl (fun w' hE => by obtain ⟨q0, q1, -⟩ := two_facts (hE.block B1.out); clear hE; go_simp; rfl) ?_
    try simp only [Act.put, List.setIfInBounds_toArray, List.set_cons_zero, List.set_cons_succ]
    refine seqL_yield rfl (fun w' => by go_simp; rfl) ?_
    try simp only [Act.put, List.setIfInBounds_toArray, List.set_cons_zero, List.set_cons_succ]
    refine seqL_yield rfl (fun w' => by go_simp; rfl) ?_
    try simp only [Act.put, List.setIfInBounds_toArray, List.set_cons_zero, List.set_cons_succ]
    refine seqL_read hS rfl (fun w' hE => by obtain ⟨q0, q1, -⟩ := two_facts (hE.block B1.out); clear hE; go_simp; rfl) ?_
    try simp only [Act.put, List.setIfInBounds_toArray, List.set_cons_zero, List.set_cons_succ]
    refine seqL_yield rfl (fun w' => by go_simp; rfl) ?_
    try simp only [Act.put, List.setIfInBounds_toArray, List.set_cons_zero, List.set_cons_succ]
    refine seqL_yield rfl (fun w' => by go_simp; rfl) ?_
    try simp only [Act.put, List.setIfInBounds_toArray, List.set_cons_zero, List.set_cons_succ]
    refine seqL_grow rfl (fun K hK => ?_)
    have HKK := Lib.hid hK
    clear hK
    go_simp
    refine (mkchange_ok _ ta na tn tcap nn ncap which 38 _).mono ?_
    rintro e w2 ⟨cb, bb, wb, rfl, hE2, hcb, hbb, hwb⟩
    refine HKK.out _ _ (hS.trans hE2) (fun _ => ?_)
    clear HKK K
    replace hS := hS.trans hE2
    try simp only [Act.put, List.setIfInBounds_toArray, List.set_cons_zero, List.set_cons_succ]
    refine seqL_grow rfl (fun K hK => ?_)
    have HKK := Lib.hid hK
    clear hK
    go_simp
    refine (HLAW.out w2 hS cb bb wb hcb hbb hwb).mono ?_
    rintro e w3 ⟨rfl, hE3⟩
    refine HKK.out _ _ (hS.trans hE3) (fun _ => ?_)
    clear HKK K
    replace hS := hS.trans hE3
    try simp only [Act.put, List.setIfInBounds_toArray, List.set_cons_zero, List.set_cons_succ]
    refine seqL_yield rfl (fun w' => by go_simp; rfl) ?_
    try simp only [Act.put, List.setIfInBounds_toArray, List.set_cons_zero, List.set_cons_succ]
    refine seqL_nil ?_
    have HS := Lib.hid (HE1.out.trans hS)
    go_wp2
    go_ret
    exact ⟨rfl, HS.out⟩
  | true =>
    go_enter Try.func12, Try.ntmps12
    go_wp2_with fail
    refine (HPK.out _).mono ?_
    rintro e w' ⟨rfl, p, hp, rfl⟩
    go_upto_region 5 with fail
    generalize hW1 : World.alloc _ _ = W1
    have HE1 : Hid (Ext w W1) := by show Ext w W1; rw [← hW1]; exact (Ext.alloc (Ext.alloc (Ext.alloc (Ext.alloc (Ext.refl w) _) _) _) _)
    have B0 : Hid (W1.heap[w.heap.size]? = some (.cells #[.slice t1 tn1 tcap1, .slice t2 tn2 tcap2, .slice t3 tn3 tcap3, .slice t4 tn4 tcap4, .slice t5 tn5 tcap5, .slice t6 tn6 tcap6] 29)) := by
      show W1.heap[_]? = _
      rw [← hW1]
      have h := heap_alloc_new w (.cells #[.slice t1 tn1 tcap1, .slice t2 tn2 tcap2, .slice t3 tn3 tcap3, .slice t4 tn4 tcap4, .slice t5 tn5 tcap5, .slice t6 tn6 tcap6] 29)
      exact Ext.block (Ext.alloc (Ext.alloc (Ext.alloc (Ext.refl _) _) _) _) h
    have B1 : Hid (W1.heap[w.heap.size + 1]? = some (.cells #[.slice ta tn tcap, .slice na nn ncap] 33)) := by
      show W1.heap[_]? = _
      rw [← hW1]
      have h := heap_alloc_new (w.alloc (.cells #[.slice t1 tn1 tcap1, .slice t2 tn2 tcap2, .slice t3 tn3 tcap3, .slice t4 tn4 tcap4, .slice t5 tn5 tcap5, .slice t6 tn6 tcap6] 29)) (.cells #[.slice ta tn tcap, .slice na nn ncap] 33)
      simp only [World.size_alloc] at h
      exact Ext.block (Ext.alloc (Ext.alloc (Ext.refl _) _) _) h
    have B2 : Hid (W1.heap[w.heap.size + 1 + 1]? = some (.cells #[i64 7] 3)) := by
      show W1.heap[_]? = _
      rw [← hW1]
      have h := heap_alloc_new ((w.alloc (.cells #[.slice t1 tn1 tcap1, .slice t2 tn2 tcap2, .slice t3 tn3 tcap3, .slice t4 tn4 tcap4, .slice t5 tn5 tcap5, .slice t6 tn6 tcap6] 29)).alloc (.cells #[.slice ta tn tcap, .slice na nn ncap] 33)) (.cells #[i64 7] 3)
      simp only [World.size_alloc] at h
      exact Ext.block (Ext.alloc (Ext.refl _) _) h
    have B3 : Hid (W1.heap[w.heap.size + 1 + 1 + 1]? = some (.cells #[i64 ((p : Int) - 1)] 3)) := by
      show W1.heap[_]? = _
      rw [← hW1]
      have h := heap_alloc_new (((w.alloc (.cells #[.slice t1 tn1 tcap1, .slice t2 tn2 tcap2, .slice t3 tn3 tcap3, .slice t4 tn4 tcap4, .slice t5 tn5 tcap5, .slice t6 tn6 tcap6] 29)).alloc (.cells #[.slice ta tn tcap, .slice na nn ncap] 33)).alloc (.cells #[i64 7] 3)) (.cells #[i64 ((p : Int) - 1)] 3)
      simp only [World.size_alloc] at h
      exact Ext.block (Ext.refl _) h
    have HLAW := Lib.hid (hlaw ((p : Int) - 1) 7 (.inl rfl) (w.heap.size) (w.heap.size + 1 + 1 + 1) (w.heap.size + 1 + 1) W1 HE1.out B0.out B3.out B2.out)
    clear hlaw hW1
    refine wp_region_seq (Ext W1) [(0, 1), (1, 1), (2, 0), (3, 0), (4, 1), (5, 0), (6, 0), (7, 2), (8, 2), (9, 0)] (by kernel_rfl) (by kernel_rfl) (Ext.refl W1).drew (fun hS => ?_)
    simp only [List.map, nthOp]
    refine seqL_read hS rfl (fun w' hE => by obtain ⟨q0, q1, q2, q3, q4, q5, -⟩ := six_facts (hE.block B0.out); clear hE; go_simp; rfl) ?_
    try simp only [Act.put, List.setIfInBounds_toArray, List.set_cons_zero, List.set_cons_succ]
    refine seqL_read hS rfl (fun w' hE => by obtain ⟨q0, q1, -⟩ := two_facts (hE.block B1.out); clear hE; go_simp; rfl) ?_
    try simp only [Act.put, List.setIfInBounds_toArray, List.set_cons_zero, List.set_cons_succ]
    refine seqL_yield rfl (fun w' => by go_simp; rfl) ?_
    try simp only [Act.put, List.setIfInBounds_toArray, List.set_cons_zero, List.set_cons_succ]
    refine seqL_yield rfl (fun w' => by go_simp; rfl) ?_
    try simp only [Act.put, List.setIfInBounds_toArray, List.set_cons_zero, List.set_cons_succ]
    refine seqL_read hS rfl (fun w' hE => by obtain ⟨q0, q1, -⟩ := two_facts (hE.block B1.out); clear hE; go_simp; rfl) ?_
    try simp only [Act.put, List.setIfInBounds_toArray, List.set_cons_zero, List.set_cons_succ]
    refine seqL_yield rfl (fun w' => by go_simp; rfl) ?_
    try simp only [Act.put, List.setIfInBounds_toArray, List.set_cons_zero, List.set_cons_succ]
    refine seqL_yield rfl (fun w' => by go_simp; rfl) ?_
    try simp only [Act.put, List.setIfInBounds_toArray, List.set_cons_zero, List.set_cons_succ]
    refine seqL_grow rfl (fun K hK => ?_)
    have HKK := Lib.hid hK
    clear hK
    go_simp
    refine (mkchange_ok _ ta na tn tcap nn ncap which 38 _).mono ?_
    rintro e w2 ⟨cb, bb, wb, rfl, hE2, hcb, hbb, hwb⟩
    refine HKK.out _ _ (hS.trans hE2) (fun _ => ?_)
    clear HKK K
    replace hS := hS.trans hE2
    try simp only [Act.put, List.setIfInBounds_toArray, List.set_cons_zero, List.set_cons_succ]
    refine seqL_grow rfl (fun K hK => ?_)
    have HKK := Lib.hid hK
    clear hK
    go_simp
    refine (HLAW.out w2 hS cb bb wb hcb hbb hwb).mono ?_
    rintro e w3 ⟨rfl, hE3⟩
    refine HKK.out _ _ (hS.trans hE3) (fun _ => ?_)
    clear HKK K
    replace hS := hS.trans hE3
    try simp only [Act.put, List.setIfInBounds_toArray, List.set_cons_zero, List.set_cons_succ]
    refine seqL_yield rfl (fun w' => by go_simp; rfl) ?_
    try simp only [Act.put, List.setIfInBounds_toArray, List.set_cons_zero, List.set_cons_succ]
    refine seqL_nil ?_
    have HS := Lib.hid (HE1.out.trans hS)
    go_wp2
    go_ret
    exact ⟨rfl, HS.out⟩

set_option maxRecDepth 100000 in
theorem f12_lifted (os : Os) (started : os.Started) (H : Type) (enc : TypeId × Value → H) :
    ReturnsInHanded {} Try.checked os 12 .any (Rows.topQuantsIdleSpec.pre6 enc Try.prog Try.f12 Rows.topQuantsIdleRow.domain false) (Rows.topQuantsIdleSpec.post enc Try.prog Try.f12 false true false false) := by
  refine returnsInHanded_of_change_sized (C := Try.checked) own started (by kernel_rfl) Try.func12
    (ChangeSpec.witness6 (enc := enc) (C := Try.checked) false ⟨#[], #[.agg #[.slice none 0 0, .slice none 0 0, .slice none 0 0, .slice none 0 0, .slice none 0 0, .slice none 0 0], .agg #[.slice none 0 0, .slice none 0 0], .slice none 0 0, .slice none 0 0, .int .i64 0, .int .i64 0, .bool false], []⟩ 8 (by kernel_rfl) (by kernel_rfl) (by kernel_rfl) (by kernel_rfl)) ?_
  intro W base args ds gs before hval0 hW _ hz _
  have hval : ∀ (j : Nat) t v, Try.f12.params[j]? = some t → args[j]? = some v → Value.okWide Try.prog W .any base t v := hval0
  have hW' := hW
  obtain ⟨p, q, hA0, hV, rfl, -, -⟩ := hW
  obtain ⟨rfl, rfl⟩ := trodVars_none hV
  have hA : DataW.TrodAll enc Try.prog W 0 (fun _ => true) true [29, 33, 26, 30, 3, 3, 4] args.toList ds p := hA0
  have hz' : (DataW.weightsEach Try.prog [29, 33, 26, 30, 3, 3, 4] ds).all (· ≤ reachBytes) = true := by
    have h : (DataW.weightsEach Try.prog ([29, 33, 26, 30, 3, 3, 4] ++ []) (ds ++ [])).all (· ≤ reachBytes) = true := hz
    rwa [List.append_nil, List.append_nil] at h
  obtain ⟨d, D, tv, nv, C, lv, atoms, av, argl, which, vs, dr, pr, hargs, hD, hC, hl, ha, hAr, hvr, d1, d2, d3, d4, d5, rfl⟩ := args_read (ts := [3, 4]) (base := base) hA (fun j t v ht hv => hval j t v (by rw [← Array.getElem?_toList]; exact ht) (by rw [← Array.getElem?_toList]; exact hv)) hz'
  obtain ⟨v0, vs0, e0, es0, p0, q0, rfl, rfl, rfl, -, hB0⟩ := trodAll_cons hAr
  obtain ⟨v1, vs1, e1, es1, p1, q1, rfl, rfl, rfl, -, hB1⟩ := trodAll_cons hB0
  obtain ⟨rfl, rfl, rfl⟩ := trodAll_nil hB1
  obtain ⟨ofv, rfl⟩ := okWide_int Try.underlying3 (hvr 0 3 v0 rfl rfl)
  obtain ⟨sm, rfl⟩ := okWide_bool Try.underlying4 (hvr 1 4 v1 rfl rfl)
  obtain rfl : args = #[.agg d.cells, .agg #[tv, nv], lv, av, i64 which, i64 ofv, .bool sm] := Array.toList_inj.1 hargs
  refine (f12_any W d D hD tv nv C hC lv atoms hl av argl ha which ofv sm).mono fun e W' ⟨he, hE⟩ => ?_
  subst he
  exact ⟨_, rfl, law_post hW' rfl (fun t ht => by
    have ht : t ∈ [29, 33, 26, 30, 3, 3, 4] := ht
    simp only [List.mem_cons, List.not_mem_nil, or_false] at ht
    exact param_ok (by rcases ht with h | h | h | h | h | h | h <;> simp [h])) rfl rfl rfl rfl hE⟩

theorem topQuantsIdle_holds : Rows.TopQuantsIdleSaid :=
  OpenClaim.holds_of_wide 12 Try.f12 rfl rfl rfl rfl rfl rfl rfl ⟨rfl, rfl, rfl, rfl, rfl⟩ rfl rfl rfl rfl rfl (by kernel_rfl) Try.func12 (by kernel_rfl)
    (of_decide_eq_true (by kernel_rfl)) (by unfold Func.isWrapper; rw [if_neg (by decide +kernel)]; exact ⟨rfl, rfl⟩)
    (fun os started H enc _ => f12_lifted os started H enc)
end Go.Proofs.Ytodlkjjoenglgaa
