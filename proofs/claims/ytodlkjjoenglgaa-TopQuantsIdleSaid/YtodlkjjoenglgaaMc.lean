/- Parts of a proof about conditions: Shp1 Shp2 Scp1. -/
import Derived.Test.YtodlkjjoenglgaaMb
import Derived.Test.YtodlkjjoenglgaaMa
import Derived.Deep.AppendLies
/- slices.Backward over ints and over nodes; condition.arity. -/
namespace Go.Proofs.Ytodlkjjoenglgaa
open Go Go.RowKit
attribute [local go_sem] Oper.semAt_some

def arityOf (k : Int) : Int := if k = 4 ∨ k = 7 ∨ k = 8 then 1 else if k = 5 ∨ k = 6 then -1 else 0
theorem arity_any (w : World) (k : Int) : Calls Try.prog 95 #[i64 k] w fun e w' => e = .returned (i64 (arityOf k)) ∧ w = w' := by
  obtain ⟨r, hr⟩ : ∃ r, arityOf k = r := ⟨_, rfl⟩
  rw [hr]
  have HR := Lib.hid hr
  clear hr
  by_cases h4 : k = 4
  · have HV : Hid (r = 1) := by show r = 1; rw [← HR.out]; unfold arityOf; rw [if_pos (by omega)]
    have hb : (k == 4) = true := by simpa using h4
    go_enter Try.func95, Try.ntmps95
    go_wp2
    go_ret
    exact ⟨by rw [HV.out] <;> rfl, rfl⟩
  · have hb4 : (k == 4) = false := by simpa using h4
    by_cases h7 : k = 7
    · have HV : Hid (r = 1) := by show r = 1; rw [← HR.out]; unfold arityOf; rw [if_pos (by omega)]
      have hb : (k == 7) = true := by simpa using h7
      go_enter Try.func95, Try.ntmps95
      go_wp2
      go_ret
      exact ⟨by rw [HV.out] <;> rfl, rfl⟩
    · have hb7 : (k == 7) = false := by simpa using h7
      by_cases h8 : k = 8
      · have HV : Hid (r = 1) := by show r = 1; rw [← HR.out]; unfold arityOf; rw [if_pos (by omega)]
        have hb : (k == 8) = true := by simpa using h8
        go_enter Try.func95, Try.ntmps95
        go_wp2
        go_ret
        exact ⟨by rw [HV.out] <;> rfl, rfl⟩
      · have hb8 : (k == 8) = false := by simpa using h8
        by_cases h5 : k = 5
        · have HV : Hid (r = -1) := by show r = -1; rw [← HR.out]; unfold arityOf; rw [if_neg (by omega), if_pos (by omega)]
          have hb : (k == 5) = true := by simpa using h5
          go_enter Try.func95, Try.ntmps95
          go_wp2
          go_ret
          exact ⟨by rw [HV.out] <;> rfl, rfl⟩
        · have hb5 : (k == 5) = false := by simpa using h5
          by_cases h6 : k = 6
          · have HV : Hid (r = -1) := by show r = -1; rw [← HR.out]; unfold arityOf; rw [if_neg (by omega), if_pos (by omega)]
            have hb : (k == 6) = true := by simpa using h6
            go_enter Try.func95, Try.ntmps95
            go_wp2
            go_ret
            exact ⟨by rw [HV.out] <;> rfl, rfl⟩
          · have hb6 : (k == 6) = false := by simpa using h6
            have HV : Hid (r = 0) := by show r = 0; rw [← HR.out]; unfold arityOf; rw [if_neg (by omega), if_neg (by omega)]
            go_enter Try.func95, Try.ntmps95
            go_wp2
            go_ret
            exact ⟨by rw [HV.out] <;> rfl, rfl⟩

/-- The closure that makes a fault of a code. -/
theorem cl94 (w : World) (c : Int) (b i : Nat) (hi : i ≤ 1000) (h : w.cell? ⟨b, 0, none⟩ = some (i64 i)) :
    Calls Try.prog 94 (#[i64 c] ++ #[.pointer (some ⟨b, 0, none⟩)]) w fun e w' => e = .returned (faultV (c, 100 + (i : Int))) ∧ Ext w w' := by
  have hlt := World.block_lt_of_cell? w _ h
  simp only at hlt
  go_enter Try.func94, Try.ntmps94
  go_wp2
  refine bodyPost_ret (results_fault rfl rfl ?_) rfl ⟨rfl, ?_⟩
  · exact heap_alloc_new _ _
  · exact (Ext.refl w).alloc _
theorem enters94 : EntersF 94 := fun args W => enters_of Try.func94 (by kernel_rfl) rfl args W
theorem enters114 : EntersF 114 := fun args W => enters_of Try.func114 (by kernel_rfl) rfl args W
theorem enters115 : EntersF 115 := fun args W => enters_of Try.func115 (by kernel_rfl) rfl args W

theorem back_ints (w : World) (a0 : Option Addr) (n cap : Nat) :
    Calls Try.prog 96 #[.slice a0 n cap] w fun e w' => e = .returned (.func (.func 114) #[] #[.pointer (some ⟨w.heap.size, 0, none⟩)]) ∧ w.alloc (.cells #[.slice a0 n cap] 30) = w' := by
  go_enter Try.func96, Try.ntmps96
  go_wp2
  go_ret
  exact ⟨rfl, rfl⟩
theorem back_nodes (w : World) (a0 : Option Addr) (n cap : Nat) :
    Calls Try.prog 97 #[.slice a0 n cap] w fun e w' => e = .returned (.func (.func 115) #[] #[.pointer (some ⟨w.heap.size, 0, none⟩)]) ∧ w.alloc (.cells #[.slice a0 n cap] 31) = w' := by
  go_enter Try.func97, Try.ntmps97
  go_wp2
  go_ret
  exact ⟨rfl, rfl⟩

set_option maxRecDepth 100000 in
set_option maxHeartbeats 1000000 in
theorem back_iter_ints (l : Nat) (m : Nat) (bs : Nat) (a0 : Option Addr) (n cap : Nat) (hn : n ≤ 140737488351232) (c : Nat → Int)
    (Inv : Nat → World → Prop) (Fin : World → Prop)
    (hcell : ∀ x W, Inv x W → W.cell? ⟨bs, 0, none⟩ = some (.slice a0 n cap))
    (hrow : ∀ x W, Inv x W → ∀ i : Nat, i < n → ∃ b off, a0 = some ⟨b, off, none⟩ ∧ W.cell? ⟨b, off + i, none⟩ = some (i64 (c i)))
    (hY : ∀ x W, x < n → Inv (x + 1) W → YieldAt Fence.wide (m - 1) Try.prog l #[i64 x, i64 (c x)] W fun e W' => (e = .returned (.bool true) ∧ Inv x W') ∨ (e = .returned (.bool false) ∧ Fin W'))
    (W0 : World) (h0 : Inv n W0) :
    CallsIn Fence.wide m Try.prog 114 #[.func (.yield l) #[] #[], .pointer (some ⟨bs, 0, none⟩)] W0 fun e W' => (∃ v, e = .returned v) ∧ (Fin W' ∨ Inv 0 W') := by
  refine callsIn_of_wp Try.func114 rfl trivial ?_ rfl
  simp only [Try.ntmps114, List.size_toArray, List.length_cons, List.length_nil, Nat.reduceAdd, Nat.reduceSub, Array.replicate_succ, Array.replicate_zero, List.push_toArray, List.append_toArray, List.nil_append, List.cons_append]
  have HC := Lib.hid hcell
  have HR := Lib.hid hrow
  have HY := Lib.hid hY
  have cs := hcell n W0 h0
  have HI0 := Lib.hid h0
  clear hcell hrow hY h0
  gi_wp2
  gi_loopw [3] (fun v wr => ∃ x : Nat, x ≤ n ∧ v = .int .i64 ((x : Int) - 1) ∧ Hid (Inv x wr)) (fun v _ => (intOf v + 1).toNat)
  case atStart => exact ⟨n, Nat.le_refl _, rfl, HI0⟩
  case round =>
    obtain ⟨x, hx, rfl, HI⟩ := hrel
    clear HI0 cs
    have cs := HC.out x wr HI.out
    by_cases hz : x = 0
    · subst hz
      gi_wp2
      go_end0
      exact ⟨⟨_, rfl⟩, .inr HI.out⟩
    · obtain ⟨k, rfl⟩ : ∃ k, x = k + 1 := ⟨x - 1, by omega⟩
      obtain ⟨fn, tmps, assign, body, hy, hR⟩ := HY.out k wr (by omega) HI.out
      have HRR := Lib.hid hR
      obtain ⟨b, off, rfl, hr⟩ := HR.out _ wr HI.out k (by omega)
      clear hR
      gi_wp2
      refine ⟨fun h => (by cases h), HRR.out.mono ?_⟩
      rintro e W' (⟨rfl, hI⟩ | ⟨rfl, hF⟩)
      · have HII := Lib.hid hI
        clear hI
        gi_wp2
        go_roundw
        case rel => exact ⟨k, by omega, by go_num, HII⟩
        case measure => simp [intOf]
      · have HFF := Lib.hid hF
        clear hF
        gi_wp2
        refine bodyPost_ret (results_none rfl _ _ _) rfl ?_
        exact ⟨⟨_, rfl⟩, .inl HFF.out⟩

set_option maxRecDepth 100000 in
set_option maxHeartbeats 1000000 in
theorem back_iter_nodes (l : Nat) (m : Nat) (bs : Nat) (a0 : Option Addr) (n cap : Nat) (hn : n ≤ 140737488351232) (c0 c1 c2 c3 c4 c5 c6 : Nat → Value)
    (Inv : Nat → World → Prop) (Fin : World → Prop)
    (hcell : ∀ x W, Inv x W → W.cell? ⟨bs, 0, none⟩ = some (.slice a0 n cap))
    (hrow : ∀ x W, Inv x W → ∀ i : Nat, i < n → RowAt W a0 7 i [c0 i, c1 i, c2 i, c3 i, c4 i, c5 i, c6 i])
    (hY : ∀ x W, x < n → Inv (x + 1) W → YieldAt Fence.wide (m - 1) Try.prog l #[i64 x, .agg #[c0 x, c1 x, c2 x, c3 x, c4 x, c5 x, c6 x]] W fun e W' => (e = .returned (.bool true) ∧ Inv x W') ∨ (e = .returned (.bool false) ∧ Fin W'))
    (W0 : World) (h0 : Inv n W0) :
    CallsIn Fence.wide m Try.prog 115 #[.func (.yield l) #[] #[], .pointer (some ⟨bs, 0, none⟩)] W0 fun e W' => (∃ v, e = .returned v) ∧ (Fin W' ∨ Inv 0 W') := by
  refine callsIn_of_wp Try.func115 rfl trivial ?_ rfl
  simp only [Try.ntmps115, List.size_toArray, List.length_cons, List.length_nil, Nat.reduceAdd, Nat.reduceSub, Array.replicate_succ, Array.replicate_zero, List.push_toArray, List.append_toArray, List.nil_append, List.cons_append]
  have HC := Lib.hid hcell
  have HR := Lib.hid hrow
  have HY := Lib.hid hY
  have cs := hcell n W0 h0
  have HI0 := Lib.hid h0
  clear hcell hrow hY h0
  gi_wp2
  gi_loopw [3] (fun v wr => ∃ x : Nat, x ≤ n ∧ v = .int .i64 ((x : Int) - 1) ∧ Hid (Inv x wr)) (fun v _ => (intOf v + 1).toNat)
  case atStart => exact ⟨n, Nat.le_refl _, rfl, HI0⟩
  case round =>
    obtain ⟨x, hx, rfl, HI⟩ := hrel
    clear HI0 cs
    have cs := HC.out x wr HI.out
    by_cases hz : x = 0
    · subst hz
      gi_wp2
      go_end0
      exact ⟨⟨_, rfl⟩, .inr HI.out⟩
    · obtain ⟨k, rfl⟩ : ∃ k, x = k + 1 := ⟨x - 1, by omega⟩
      obtain ⟨fn, tmps, assign, body, hy, hR⟩ := HY.out k wr (by omega) HI.out
      have HRR := Lib.hid hR
      obtain ⟨b, off, rfl, hr⟩ := HR.out _ wr HI.out k (by omega)
      have r0 : wr.cell? ⟨b, off + k * 7, none⟩ = _ := hr 0 _ rfl
      have r1 : wr.cell? ⟨b, off + k * 7 + 1, none⟩ = _ := hr 1 _ rfl
      have r2 : wr.cell? ⟨b, off + k * 7 + 2, none⟩ = _ := hr 2 _ rfl
      have r3 : wr.cell? ⟨b, off + k * 7 + 3, none⟩ = _ := hr 3 _ rfl
      have r4 : wr.cell? ⟨b, off + k * 7 + 4, none⟩ = _ := hr 4 _ rfl
      have r5 : wr.cell? ⟨b, off + k * 7 + 5, none⟩ = _ := hr 5 _ rfl
      have r6 : wr.cell? ⟨b, off + k * 7 + 6, none⟩ = _ := hr 6 _ rfl
      clear hr
      clear hR
      gi_wp2
      refine ⟨fun h => (by cases h), HRR.out.mono ?_⟩
      rintro e W' (⟨rfl, hI⟩ | ⟨rfl, hF⟩)
      · have HII := Lib.hid hI
        clear hI
        gi_wp2
        go_roundw
        case rel => exact ⟨k, by omega, by go_num, HII⟩
        case measure => simp [intOf]
      · have HFF := Lib.hid hF
        clear hF
        gi_wp2
        refine bodyPost_ret (results_none rfl _ _ _) rfl ?_
        exact ⟨⟨_, rfl⟩, .inl HFF.out⟩
end Go.Proofs.Ytodlkjjoenglgaa

/- condition.shape. -/
namespace Go.Proofs.Ytodlkjjoenglgaa
open Go Go.RowKit
attribute [local go_sem] Oper.semAt_some

theorem run_store_func {P : Program} {w : World} {a : Addr} {m : Mode} (f : Fn) (bs cp : Array Value) : (store a (.func f bs cp) m).run P w = stored P w a (.func f bs cp) m := run_store P w a _ m rfl
attribute [local go_sem] run_store_func
def walkBack (first : List Int) : Int → List Int → Option Int
  | a, [] => some a
  | a, c :: cs => if c < 0 ∨ c ≠ a - 1 then none else walkBack first (first.getD c.toNat 0) cs
def nodeStep (pre : List Int) (x : Nd × List Int) : Int ⊕ Int :=
  if x.1.kind < 1 ∨ 8 < x.1.kind then .inl 4
  else if 0 ≤ arityOf x.1.kind ∧ (x.2.length : Int) ≠ arityOf x.1.kind then .inl 9
  else match walkBack pre pre.length x.2.reverse with | none => .inl 5 | some a => .inr a
def shapeGo (pre : List Int) : List (Nd × List Int) → Int × Int
  | [] => if pre.getD (pre.length - 1) 0 ≠ 0 then (5, -10) else (0, 0)
  | x :: rest => match nodeStep pre x with | .inl c => (c, 100 + (pre.length : Int)) | .inr a => shapeGo (pre ++ [a]) rest
def shapeV (l : List (Nd × List Int)) : Int × Int := if l.length = 0 ∨ 30 < l.length then (2, -10) else shapeGo [] l

def dNd : Nd × List Int := (⟨0, 0, [], 0, 0, 0⟩, [])
theorem Sl.nodes {w : World} {v : Value} {l : List (Nd × List Int)} (h : Sl w 7 88 rNode v l) :
    ∃ a cap, ∃ cv av : Nat → Value, v = .slice a l.length cap ∧ l.length ≤ cap ∧ cap ≤ maxLen ∧ l.length * 88 ≤ 140737488351232 ∧ ∀ i, i < l.length →
      RowAt w a 7 i [i64 (l.getD i dNd).1.kind, cv i, i64 (l.getD i dNd).1.pred, av i, i64 (l.getD i dNd).1.left, i64 (l.getD i dNd).1.right, i64 (l.getD i dNd).1.typ] ∧
      IntsAt w (cv i) (l.getD i dNd).2 ∧ IntsAt w (av i) (l.getD i dNd).1.args := by
  obtain ⟨a, cap, C, h0, h1, h2, h3, h4⟩ := h.rows dNd
  refine ⟨a, cap, fun i => (C i).getD 1 undef, fun i => (C i).getD 3 undef, h0, h1, h2, h3, fun i hi => ?_⟩
  obtain ⟨-, ⟨cv, av, hc, h5, h6⟩, hr⟩ := h4 i hi
  dsimp only
  rw [hc] at hr ⊢
  exact ⟨hr, h5, h6⟩

/-- The marks that the loops over functions left. -/
def marksOf (Ds : List Nat) : List Deferred := Ds.map fun D => { target := .collected D, args := #[] }
def OpenMarks (Ds : List Nat) (W : World) : Prop := Ds.Nodup ∧ ∀ D ∈ Ds, W.heap[D]? = some (.deferred (some []))
theorem info3a : (Try.prog.info? 3).map (fun i => (i.zero, i.size, i.bytes)) = some (some (.int .i64 0), 1, 8) := by kernel_rfl
set_option maxRecDepth 10000 in
theorem make_ints (n : Nat) (hn : n ≤ 1000) (W : World) : (Instr.makeSlice 30 (.int .i64 (n : Int)) (.int .i64 (n : Int))).run Try.prog W = .ok (.slice (some ⟨W.heap.size, 0, none⟩) n n) (W.alloc (.cells ((List.replicate n (i64 0)).toArray) 3)) := by
  obtain ⟨i0, hi, hz0, hz1, hz2⟩ := info_parts info3a
  rw [run_makeSlice (P := Try.prog) W 30 3 i0 (.int .i64 0) Try.underlying30 hi hz0 .i64 .i64 n n (by omega) (by omega) (by rw [hz1]; omega) (by rw [hz2]; omega) (by omega)]
  rw [hz1]
  congr 3
  rw [Nat.mul_one, Int.toNat_natCast]
  apply Array.ext
  · simp [madeCells]
  · intro i h1 h2
    simp only [madeCells, Array.getElem_map, List.getElem_toArray, List.getElem_replicate]
    show (#[i64 0] : Array Value)[_ % 1]! = i64 0
    rw [Nat.mod_one]
    rfl
theorem leaves_marks {n : Nat} {fn : Func} {tmps : Array Value} {R : Ending → World → Prop} (B : Nat) (w : World) : ∀ (Ds : List Nat) (W : World), Below B w W → OpenMarks Ds W → (∀ D ∈ Ds, B ≤ D) →
    (∀ W', Below B w W' → (∀ k, k ∉ Ds → W'.heap[k]? = W.heap[k]?) → ∃ v, (results fn tmps).run Try.prog W' = .ok v W' ∧ R (.returned v) W') → LeavesInM Fence.wide n Try.prog fn tmps R (marksOf Ds) .returning W := by
  intro Ds
  induction Ds with
  | nil =>
    intro W hb _ _ h
    obtain ⟨v, h1, h2⟩ := h W hb (fun _ _ => rfl)
    exact ⟨v, h1, h2⟩
  | cons D Ds ih =>
    intro W hb hm hB h
    refine ⟨by simp, .inl ⟨D, _, rfl, run_takeDeferred (hm.2 D (List.mem_cons_self ..)), ?_⟩⟩
    refine ih _ (below_putObj hb (hB D (List.mem_cons_self ..))) ⟨(List.nodup_cons.1 hm.1).2, fun D' hD' => ?_⟩ (fun D' hD' => hB D' (List.mem_cons_of_mem _ hD')) (fun W' hW' hk => h W' hW' fun k hk' => ?_)
    · rw [World.putObj_heap_other (by rintro rfl; exact (List.nodup_cons.1 hm.1).1 hD')]
      exact hm.2 D' (List.mem_cons_of_mem _ hD')
    · rw [hk k (fun h => hk' (List.mem_cons_of_mem _ h)), World.putObj_heap_other (by rintro rfl; exact hk' (List.mem_cons_self ..))]

/-- A function whose result, a fault, lies in a cell, leaves with open marks. -/
theorem leave_fault {nn : Nat} {fn : Func} {p : Tmp} (hfn : fn.results = #[.cell p 70]) {tmps : Array Value} {r : Nat} (ht : tmps.getD p undef = .pointer (some ⟨r, 0, none⟩)) {w W : World} {Ds : List Nat} {x y : Int}
    (hE : Ext w W) (hm : OpenMarks Ds W) (hB : ∀ D ∈ Ds, w.heap.size ≤ D ∧ D ≠ r) (hres : W.heap[r]? = some (.cells #[i64 x, i64 y] 70)) :
    LeavesInM Fence.wide nn Try.prog fn tmps (fun e w' => e = .returned (faultV (x, y)) ∧ Ext w w') (marksOf Ds) .returning W := by
  refine leaves_marks w.heap.size w Ds W hE hm (fun D hD => (hB D hD).1) fun W' hW' hk => ?_
  refine ⟨faultV (x, y), results_fault hfn ht ?_, rfl, hW'⟩
  rw [hk r fun h => (hB r h).2 rfl]
  exact hres
/-- Between two rounds of condition.shape. -/
structure ShInv (w : World) (l : List (Nd × List Int)) (n : Nat) (sv : Int × Int) (k : Nat) (pre : List Int) (Ds : List Nat) (W : World) : Prop where
  ext : Ext w W
  res : W.heap[w.heap.size]? = some (.cells #[i64 0, i64 0] 70)
  arr : W.heap[w.heap.size + 1]? = some (.cells ((pre ++ List.replicate (n - k) 0).map i64).toArray 3)
  var : W.heap[w.heap.size + 1 + 1]? = some (.cells #[.slice (some ⟨w.heap.size + 1, 0, none⟩) n n] 30)
  marks : OpenMarks Ds W
  far : ∀ D ∈ Ds, w.heap.size + 3 ≤ D
  go : shapeGo pre (l.drop k) = sv
  small : ∀ j, j < k → 0 ≤ pre.getD j 0 ∧ pre.getD j 0 ≤ j

theorem ShInv.leave {w : World} {l : List (Nd × List Int)} {n : Nat} {sv : Int × Int} {k : Nat} {pre : List Int} {Ds : List Nat} {wr : World} (h : ShInv w l n sv k pre Ds wr) {W : World} (hE : Ext wr W) {x y : Int} (hv : sv = (x, y)) {tmps : Array Value} (ht : tmps.getD 2 undef = .pointer (some ⟨w.heap.size, 0, none⟩)) :
    LeavesInM Fence.wide 6 Try.prog Try.f68 tmps (fun e w' => e = .returned (faultV sv) ∧ Ext w w') (marksOf Ds) .returning ((W.setCell ⟨w.heap.size, 0, none⟩ (i64 x)).setCell ⟨w.heap.size, 1, none⟩ (i64 y)) := by
  subst hv
  refine leave_fault rfl ht ((h.ext.trans hE).two (Nat.le_refl _) _ _) ⟨h.marks.1, fun D hD => ?_⟩ (fun D hD => by have := h.far D hD; omega) (heap_two _ _ (hE.block h.res))
  have := h.far D hD
  rw [heap_setCell_ne _ (by simp; omega), heap_setCell_ne _ (by simp; omega)]
  exact hE.block (h.marks.2 D hD)

/-- Between two rounds of the range over the children, from behind. -/
structure RgInv (wr : World) (k : Nat) (ca : Option Addr) (cn ccap : Nat) (R : LoopState → Option Code → Loop) (a : Int) (W : World) : Prop where
  below : Ext wr W
  b0 : W.heap[wr.heap.size]? = some (.cells #[i64 k] 3)
  b2 : W.heap[wr.heap.size + 2]? = some (.cells #[.func (.func 94) #[] #[.pointer (some ⟨wr.heap.size, 0, none⟩)]] 132)
  b3 : W.heap[wr.heap.size + 3]? = some (.cells #[i64 a] 3)
  b4 : W.heap[wr.heap.size + 4]? = some (.cells #[.slice ca cn ccap] 30)
  b5 : W.heap[wr.heap.size + 5]? = some (.deferred (some []))
  b6 : W.heap[wr.heap.size + 6]? = some (.loop (R .ready none))
def RgSt (wr : World) (pre cs : List Int) (k : Nat) (ca : Option Addr) (cn ccap : Nat) (R : LoopState → Option Code → Loop) (j : Nat) (W : World) : Prop :=
  ∃ a, RgInv wr k ca cn ccap R a W ∧ 0 ≤ a ∧ a ≤ k ∧ walkBack pre a (cs.take j).reverse = walkBack pre k cs.reverse
structure RgFin (w wr : World) (pre cs : List Int) (k : Nat) (R : LoopState → Option Code → Loop) (W : World) : Prop where
  none : walkBack pre k cs.reverse = none
  ext : Ext w W
  old : ∀ i, i < wr.heap.size → i ≠ w.heap.size → W.heap[i]? = wr.heap[i]?
  res : W.heap[w.heap.size]? = some (.cells #[i64 5, i64 (100 + (k : Int))] 70)
  b5 : W.heap[wr.heap.size + 5]? = some (.deferred (some []))
  b6 : W.heap[wr.heap.size + 6]? = some (.loop (R .done (some .ret)))

set_option maxRecDepth 100000 in
set_option maxHeartbeats 2000000 in
theorem shape_any (w : World) (v : Value) (l : List (Nd × List Int)) (h : Sl w 7 88 rNode v l) :
    Calls Try.prog 68 #[v] w fun e w' => e = .returned (faultV (shapeV l)) ∧ Ext w w' := by
  obtain ⟨a0, cap, cv, av, rfl, h1, h2, h3, hrow⟩ := h.nodes
  obtain ⟨n, hn⟩ : ∃ n, l.length = n := ⟨_, rfl⟩
  obtain ⟨sv, hsv⟩ : ∃ s, shapeV l = s := ⟨_, rfl⟩
  have hv : sv = if n = 0 ∨ 30 < n then (2, -10) else shapeGo [] l := by rw [← hsv, ← hn]; rfl
  rw [hsv]
  rw [hn] at h1 h3 hrow ⊢
  have HROW := Lib.hid hrow
  have HN := Lib.hid hn
  have HV0 := Lib.hid hv
  unfold maxLen at h2
  clear hrow hn hv h hsv
  refine (callsIn_wide (n := 6)).1 ?_
  refine callsIn_of_wp_marks Try.func68 rfl trivial ?_ rfl
  simp only [Try.ntmps68, List.size_toArray, List.length_cons, List.length_nil, Nat.reduceAdd, Nat.reduceSub, Array.replicate_succ, Array.replicate_zero, List.push_toArray, List.append_toArray, List.nil_append, List.cons_append]
  by_cases hz : n = 0
  · have HV : Hid (sv = (2, -10)) := by show sv = _; rw [HV0.out, if_pos (.inl hz)]
    subst hz
    gi_wp2_with fail
    rw [HV.out]
    exact leave_fault (Ds := []) rfl rfl ((Ext.refl w).alloc _) ⟨List.nodup_nil, fun D hD => by simp at hD⟩ (fun D hD => by simp at hD) (heap_alloc_new _ _)
  · by_cases h30 : 30 < n
    · have HV : Hid (sv = (2, -10)) := by show sv = _; rw [HV0.out, if_pos (.inr h30)]
      have hzb : ((n : Int) == 0) = false := by simpa using hz
      gi_wp2_with fail
      rw [HV.out]
      exact leave_fault (Ds := []) rfl rfl ((Ext.refl w).alloc _) ⟨List.nodup_nil, fun D hD => by simp at hD⟩ (fun D hD => by simp at hD) (heap_alloc_new _ _)
    · have hmk := make_ints n (by omega)
      obtain ⟨Z, hZ⟩ : ∃ Z, (List.replicate n (i64 0)).toArray = Z := ⟨_, rfl⟩
      rw [hZ] at hmk
      have HZ := Lib.hid hZ
      clear hZ
      have HS : Hid (ShInv w l n sv 0 [] [] (((w.alloc (.cells #[i64 0, i64 0] 70)).alloc (.cells Z 3)).alloc (.cells #[.slice (some ⟨w.heap.size + 1, 0, none⟩) n n] 30))) := by
        refine ⟨(((Ext.refl w).alloc _).alloc _).alloc _, ?_, ?_, ?_, ⟨List.nodup_nil, fun D hD => by simp at hD⟩, fun D hD => by simp at hD, ?_, fun j hj => absurd hj (Nat.not_lt_zero j)⟩
        · exact (heap_alloc_lt (by simp; omega)).trans ((heap_alloc_lt (by simp)).trans (heap_alloc_new _ _))
        · refine (heap_alloc_lt (by simp)).trans ((heap_alloc_second _ _ _).trans ?_)
          rw [← HZ.out, Nat.sub_zero, List.nil_append, List.map_replicate]
        · have := heap_alloc_new ((w.alloc (.cells #[i64 0, i64 0] 70)).alloc (.cells Z 3)) (.cells #[.slice (some ⟨w.heap.size + 1, 0, none⟩) n n] 30)
          rwa [World.size_alloc, World.size_alloc] at this
        · rw [HV0.out, if_neg (by omega), List.drop_zero]
      have hzb : ((n : Int) == 0) = false := by simpa using hz
      gi_wp2_with fail
      refine wpIn_loop (fun a' w' => ∃ u4 u5 u6 u7 u8 u9 u10 u11 u12 u13 u14 u15 u16 u17 u18 u19 u20 u21 u22 u25 u26 u27 u28 u29 u30 u31 u32 u33 u34 u35 u36 u37 u38 u39 u40 u41 u42 u43 u44 u45 u46 u47 u48 u49 u50 u51 u52 u53 u54 u55 u56 u57 u58 u59 u60 u61 u62 u63 u64 u65 u66 u67 u68 u69 u70 u71 u72 u73 u74 u75 u76 u77 u78 u79 : Value, ∃ ds : List Deferred, (∃ k : Nat, k ≤ n ∧ u25 = .int .i64 k ∧ ∃ pre Ds, ds = marksOf Ds ∧ pre.length = k ∧ Hid (ShInv w l n sv k pre Ds w')) ∧ a' = Act.mk (List.toArray (Value.slice a0 n cap :: undef :: Value.pointer (some ⟨w.heap.size, 0, none⟩) :: Value.pointer (some ⟨w.heap.size + 1 + 1, 0, none⟩) :: u4 :: u5 :: u6 :: u7 :: u8 :: u9 :: u10 :: u11 :: u12 :: u13 :: u14 :: u15 :: u16 :: u17 :: u18 :: u19 :: u20 :: u21 :: u22 :: Value.slice a0 n cap :: Value.int .i64 (n : Int) :: u25 :: u26 :: u27 :: u28 :: u29 :: u30 :: u31 :: u32 :: u33 :: u34 :: u35 :: u36 :: u37 :: u38 :: u39 :: u40 :: u41 :: u42 :: u43 :: u44 :: u45 :: u46 :: u47 :: u48 :: u49 :: u50 :: u51 :: u52 :: u53 :: u54 :: u55 :: u56 :: u57 :: u58 :: u59 :: u60 :: u61 :: u62 :: u63 :: u64 :: u65 :: u66 :: u67 :: u68 :: u69 :: u70 :: u71 :: u72 :: u73 :: u74 :: u75 :: u76 :: u77 :: u78 :: u79 :: undef :: undef :: undef :: undef :: undef :: undef :: undef :: undef :: undef :: [])) ds) (fun a' _ => n - (intOf (a'.tmps.getD 25 undef)).toNat) ?_ ?_
      · (repeat apply Exists.intro)
        exact ⟨⟨0, Nat.zero_le _, rfl, [], [], rfl, rfl, HS⟩, rfl⟩
      rintro _ wr hinv
      obtain ⟨u4, hinv⟩ := hinv; obtain ⟨u5, hinv⟩ := hinv; obtain ⟨u6, hinv⟩ := hinv; obtain ⟨u7, hinv⟩ := hinv; obtain ⟨u8, hinv⟩ := hinv; obtain ⟨u9, hinv⟩ := hinv; obtain ⟨u10, hinv⟩ := hinv; obtain ⟨u11, hinv⟩ := hinv; obtain ⟨u12, hinv⟩ := hinv; obtain ⟨u13, hinv⟩ := hinv; obtain ⟨u14, hinv⟩ := hinv; obtain ⟨u15, hinv⟩ := hinv; obtain ⟨u16, hinv⟩ := hinv; obtain ⟨u17, hinv⟩ := hinv; obtain ⟨u18, hinv⟩ := hinv; obtain ⟨u19, hinv⟩ := hinv; obtain ⟨u20, hinv⟩ := hinv; obtain ⟨u21, hinv⟩ := hinv; obtain ⟨u22, hinv⟩ := hinv; obtain ⟨u25, hinv⟩ := hinv; obtain ⟨u26, hinv⟩ := hinv; obtain ⟨u27, hinv⟩ := hinv; obtain ⟨u28, hinv⟩ := hinv; obtain ⟨u29, hinv⟩ := hinv; obtain ⟨u30, hinv⟩ := hinv; obtain ⟨u31, hinv⟩ := hinv; obtain ⟨u32, hinv⟩ := hinv; obtain ⟨u33, hinv⟩ := hinv; obtain ⟨u34, hinv⟩ := hinv; obtain ⟨u35, hinv⟩ := hinv; obtain ⟨u36, hinv⟩ := hinv; obtain ⟨u37, hinv⟩ := hinv; obtain ⟨u38, hinv⟩ := hinv; obtain ⟨u39, hinv⟩ := hinv; obtain ⟨u40, hinv⟩ := hinv; obtain ⟨u41, hinv⟩ := hinv; obtain ⟨u42, hinv⟩ := hinv; obtain ⟨u43, hinv⟩ := hinv; obtain ⟨u44, hinv⟩ := hinv; obtain ⟨u45, hinv⟩ := hinv; obtain ⟨u46, hinv⟩ := hinv; obtain ⟨u47, hinv⟩ := hinv; obtain ⟨u48, hinv⟩ := hinv; obtain ⟨u49, hinv⟩ := hinv; obtain ⟨u50, hinv⟩ := hinv; obtain ⟨u51, hinv⟩ := hinv; obtain ⟨u52, hinv⟩ := hinv; obtain ⟨u53, hinv⟩ := hinv; obtain ⟨u54, hinv⟩ := hinv; obtain ⟨u55, hinv⟩ := hinv; obtain ⟨u56, hinv⟩ := hinv; obtain ⟨u57, hinv⟩ := hinv; obtain ⟨u58, hinv⟩ := hinv; obtain ⟨u59, hinv⟩ := hinv; obtain ⟨u60, hinv⟩ := hinv; obtain ⟨u61, hinv⟩ := hinv; obtain ⟨u62, hinv⟩ := hinv; obtain ⟨u63, hinv⟩ := hinv; obtain ⟨u64, hinv⟩ := hinv; obtain ⟨u65, hinv⟩ := hinv; obtain ⟨u66, hinv⟩ := hinv; obtain ⟨u67, hinv⟩ := hinv; obtain ⟨u68, hinv⟩ := hinv; obtain ⟨u69, hinv⟩ := hinv; obtain ⟨u70, hinv⟩ := hinv; obtain ⟨u71, hinv⟩ := hinv; obtain ⟨u72, hinv⟩ := hinv; obtain ⟨u73, hinv⟩ := hinv; obtain ⟨u74, hinv⟩ := hinv; obtain ⟨u75, hinv⟩ := hinv; obtain ⟨u76, hinv⟩ := hinv; obtain ⟨u77, hinv⟩ := hinv; obtain ⟨u78, hinv⟩ := hinv; obtain ⟨u79, hinv⟩ := hinv; 
      obtain ⟨ds, ⟨k, hk, rfl, pre, Ds, rfl, hpk, HI⟩, rfl⟩ := hinv
      clear hmk HS
      by_cases hlt : k < n
      · obtain ⟨hrk, hck, hak⟩ := HROW.out k hlt
        obtain ⟨x, hx⟩ : ∃ x, l.getD k dNd = x := ⟨_, rfl⟩
        rw [hx] at hrk hck hak
        have hgo : (match nodeStep pre x with | .inl c => (c, 100 + (k : Int)) | .inr a => shapeGo (pre ++ [a]) (l.drop (k + 1))) = sv := by
          have := HI.out.go
          rw [List.drop_eq_getElem_cons (by rw [HN.out]; exact hlt)] at this
          rw [← this, shapeGo, hpk, ← hx, List.getD_eq_getElem?_getD, List.getElem?_eq_getElem (by rw [HN.out]; exact hlt)]
          rfl
        have HGO := Lib.hid hgo
        obtain ⟨ca, ccap, hcv, -, hc2, hc3, hcrow⟩ := hck.open
        obtain ⟨cn, hcn⟩ : ∃ m, x.2.length = m := ⟨_, rfl⟩
        obtain ⟨aa, acap, hav⟩ := hak.slice
        obtain ⟨an, han⟩ : ∃ m, x.1.args.length = m := ⟨_, rfl⟩
        obtain ⟨kd, hkd⟩ : ∃ m, x.1.kind = m := ⟨_, rfl⟩
        obtain ⟨pd, hpd⟩ : ∃ m, x.1.pred = m := ⟨_, rfl⟩
        obtain ⟨lf, hlf⟩ : ∃ m, x.1.left = m := ⟨_, rfl⟩
        obtain ⟨rg, hrg⟩ : ∃ m, x.1.right = m := ⟨_, rfl⟩
        obtain ⟨tp, htp⟩ : ∃ m, x.1.typ = m := ⟨_, rfl⟩
        rw [hcn] at hcv hc3 hcrow
        rw [han] at hav
        rw [hcv, hav, hkd, hpd, hlf, hrg, htp] at hrk
        obtain ⟨b1, off1, rfl, hcell⟩ := hrk
        have e0 : wr.cell? ⟨b1, off1 + k * 7, none⟩ = some (i64 kd) := HI.out.ext.cell (hcell 0 _ rfl)
        have e1 : wr.cell? ⟨b1, off1 + k * 7 + 1, none⟩ = some (.slice ca cn ccap) := HI.out.ext.cell (hcell 1 _ rfl)
        have e2 : wr.cell? ⟨b1, off1 + k * 7 + 2, none⟩ = some (i64 pd) := HI.out.ext.cell (hcell 2 _ rfl)
        have e3 : wr.cell? ⟨b1, off1 + k * 7 + 3, none⟩ = some (.slice aa an acap) := HI.out.ext.cell (hcell 3 _ rfl)
        have e4 : wr.cell? ⟨b1, off1 + k * 7 + 4, none⟩ = some (i64 lf) := HI.out.ext.cell (hcell 4 _ rfl)
        have e5 : wr.cell? ⟨b1, off1 + k * 7 + 5, none⟩ = some (i64 rg) := HI.out.ext.cell (hcell 5 _ rfl)
        have e6 : wr.cell? ⟨b1, off1 + k * 7 + 6, none⟩ = some (i64 tp) := HI.out.ext.cell (hcell 6 _ rfl)
        have elt := World.block_lt_of_cell? wr _ e0
        obtain ⟨r0, r1, z0, z1, rl⟩ := two_facts HI.out.res
        have vl := heap_lt HI.out.var
        have v0 : wr.cell? ⟨w.heap.size + 1 + 1, 0, none⟩ = some (.slice (some ⟨w.heap.size + 1, 0, none⟩) n n) := by rw [cell_of_heap HI.out.var]; rfl
        have HCR := Lib.hid hcrow
        have HCN := Lib.hid hcn
        have HKD := Lib.hid hkd
        unfold maxLen at hc2
        clear hgo hcv hcn hav han hkd hpd hlf hrg htp hcell hcrow hck hak hx
        have ent94 : EntersF 94 := enters94
        unfold EntersF at ent94
        by_cases hk18 : kd < 1 ∨ 8 < kd
        · have HV : Hid (sv = (4, 100 + (k : Int))) := by
            show sv = _
            rw [← HGO.out]; unfold nodeStep; rw [if_pos (by rw [HKD.out]; exact hk18)]
          have hc4 : (((wr.alloc (.cells #[i64 k] 3)).alloc (.cells #[i64 kd, .slice ca cn ccap, i64 pd, .slice aa an acap, i64 lf, i64 rg, i64 tp] 48)).alloc (.cells #[.func (.func 94) #[] #[.pointer (some ⟨wr.heap.size, 0, none⟩)]] 132)).cell? ⟨wr.heap.size, 0, none⟩ = some (i64 k) := by
            rw [cell_of_heap ((heap_alloc_lt (by simp; omega)).trans ((heap_alloc_lt (by simp)).trans (heap_alloc_new _ _)))]; rfl
          by_cases hk1 : kd < 1
          · clear hk18
            gi_wp2_with fail
            refine ⟨trivial, callsIn_wide.2 ((cl94 _ 4 wr.heap.size k (by omega) hc4).mono ?_)⟩
            rintro e W ⟨rfl, hE⟩
            have hE2 := Ext.trans (((Ext.refl wr).alloc _).alloc _ |>.alloc _) hE
            have HE2 := Lib.hid hE2
            obtain ⟨r0', r1', z0', z1', rl'⟩ := two_facts (hE2.block HI.out.res)
            clear hE hE2 hc4 e0 e1 e2 e3 e4 e5 e6 r0 r1 z0 z1 rl v0 vl elt
            gi_wp2_with fail
            exact HI.out.leave HE2.out HV.out rfl
          · have hk8 : 8 < kd := hk18.resolve_left hk1
            clear hk18
            gi_wp2_with fail
            refine ⟨trivial, callsIn_wide.2 ((cl94 _ 4 wr.heap.size k (by omega) hc4).mono ?_)⟩
            rintro e W ⟨rfl, hE⟩
            have hE2 := Ext.trans (((Ext.refl wr).alloc _).alloc _ |>.alloc _) hE
            have HE2 := Lib.hid hE2
            obtain ⟨r0', r1', z0', z1', rl'⟩ := two_facts (hE2.block HI.out.res)
            clear hE hE2 hc4 e0 e1 e2 e3 e4 e5 e6 r0 r1 z0 z1 rl v0 vl elt
            gi_wp2_with fail
            exact HI.out.leave HE2.out HV.out rfl
        · have hk1 : ¬ kd < 1 := fun h => hk18 (.inl h)
          have hk8 : ¬ 8 < kd := fun h => hk18 (.inr h)
          obtain ⟨ar, har⟩ : ∃ a, arityOf kd = a := ⟨_, rfl⟩
          have HGO2 : Hid ((if 0 ≤ ar ∧ (cn : Int) ≠ ar then (9, 100 + (k : Int)) else match walkBack pre k x.2.reverse with | none => (5, 100 + (k : Int)) | some a => shapeGo (pre ++ [a]) (l.drop (k + 1))) = sv) := by
            show _ = sv
            rw [← HGO.out]; unfold nodeStep
            rw [HCN.out, HKD.out, har, hpk, if_neg hk18]
            by_cases hh : 0 ≤ ar ∧ (cn : Int) ≠ ar
            · rw [if_pos hh, if_pos hh]
            · rw [if_neg hh, if_neg hh]
              cases walkBack pre (k : Int) x.2.reverse <;> rfl
          have HAR := Lib.hid har
          clear hk18 HGO har
          gi_wp2_with fail
          refine ⟨trivial, callsIn_wide.2 ((arity_any _ kd).mono ?_)⟩
          rintro e W ⟨rfl, rfl⟩
          rw [HAR.out]
          have hc4 : (((wr.alloc (.cells #[i64 k] 3)).alloc (.cells #[i64 kd, .slice ca cn ccap, i64 pd, .slice aa an acap, i64 lf, i64 rg, i64 tp] 48)).alloc (.cells #[.func (.func 94) #[] #[.pointer (some ⟨wr.heap.size, 0, none⟩)]] 132)).cell? ⟨wr.heap.size, 0, none⟩ = some (i64 k) := by
            rw [cell_of_heap ((heap_alloc_lt (by simp; omega)).trans ((heap_alloc_lt (by simp)).trans (heap_alloc_new _ _)))]; rfl
          by_cases hbad : 0 ≤ ar ∧ (cn : Int) ≠ ar
          · have HV : Hid (sv = (9, 100 + (k : Int))) := by show sv = _; rw [← HGO2.out, if_pos hbad]
            obtain ⟨hb1, hb2⟩ := hbad
            have hb3 : ((cn : Int) == ar) = false := by simpa using hb2
            clear hb2
            gi_wp2_with fail
            refine ⟨trivial, callsIn_wide.2 ((cl94 _ 9 wr.heap.size k (by omega) hc4).mono ?_)⟩
            rintro e W ⟨rfl, hE⟩
            have hE2 := Ext.trans (((Ext.refl wr).alloc _).alloc _ |>.alloc _) hE
            have HE2 := Lib.hid hE2
            obtain ⟨r0', r1', z0', z1', rl'⟩ := two_facts (hE2.block HI.out.res)
            clear hE hE2 hc4 e0 e1 e2 e3 e4 e5 e6 r0 r1 z0 z1 rl v0 vl elt 
            gi_wp2_with fail
            exact HI.out.leave HE2.out HV.out rfl
          · have HGO3 : Hid ((match walkBack pre k x.2.reverse with | none => (5, 100 + (k : Int)) | some a => shapeGo (pre ++ [a]) (l.drop (k + 1))) = sv) := by
              show _ = sv
              rw [← HGO2.out, if_neg hbad]
            by_cases hb1 : 0 ≤ ar
            · have hb2 : ((cn : Int) == ar) = true := by
                cases h : ((cn : Int) == ar) with
                | true => rfl
                | false => exact absurd ⟨hb1, by simpa using h⟩ hbad
              clear hbad HGO2
              gi_wp2_with fail
              refine ⟨trivial, callsIn_wide.2 ((back_ints _ ca cn ccap).mono ?_)⟩
              rintro e W ⟨rfl, rfl⟩
              gi_wp2_with fail
              refine wpIn_range_wide rfl enters114 (fun fn => ?_)
              simp only [World.size_alloc, Nat.add_assoc, Nat.reduceAdd]
              generalize hR : recOf fn (_ : Array Value) (_ : Array Tmp) (_ : Code) (_ : Code) (_ : Nat) = R
              have HRR := Lib.hid hR
              clear hR
              generalize hW0 : World.alloc _ (Obj.loop (R .ready none)) = W0
              have hinv0 : RgInv wr k ca cn ccap R k W0 := by
                rw [← hW0]
                refine ⟨(((((((Ext.refl wr).alloc _).alloc _).alloc _).alloc _).alloc _).alloc _).alloc _, ?_, ?_, ?_, ?_, ?_, ?_⟩ <;> simp only [World.alloc, Array.getElem?_push, Array.size_push] <;> (repeat rw [if_neg (by omega)]) <;> (first | rfl | simp)
              have HI0 : Hid (RgSt wr pre x.2 k ca cn ccap R cn W0) := ⟨k, hinv0, by omega, by omega, by rw [← HCN.out, List.take_length]⟩
              clear hW0 hinv0 e0 e1 e2 e3 e4 e5 e6 r0 r1 z0 z1 rl v0 vl elt hc4
              refine (back_iter_ints (wr.heap.size + 6) _ (wr.heap.size + 4) ca cn ccap (by omega) (fun i => x.2.getD i 0) (RgSt wr pre x.2 k ca cn ccap R) (RgFin w wr pre x.2 k R) ?c1 ?c2 ?c3 _ HI0).mono ?_
              case c1 =>
                rintro j W ⟨a, h, -⟩
                rw [cell_of_heap h.b4]; rfl
              case c2 =>
                rintro j W ⟨a, h, -⟩ i hi
                obtain ⟨b, off, rfl, hc⟩ := HCR.out i hi
                exact ⟨b, off, rfl, (HI.out.ext.trans h.below).cell hc⟩
              case c3 =>
                rintro j W hj ⟨a, h, ha0, hak, hwb⟩
                obtain ⟨c, hc⟩ : ∃ c, x.2.getD j 0 = c := ⟨_, rfl⟩
                have hstep : (if c < 0 ∨ c ≠ a - 1 then none else walkBack pre (pre.getD c.toNat 0) (x.2.take j).reverse) = walkBack pre k x.2.reverse := by
                  rw [← hwb, List.take_add_one, List.getElem?_eq_getElem (by rw [HCN.out]; exact hj), List.reverse_append]
                  have : x.2[j]'(by rw [HCN.out]; exact hj) = c := by rw [← hc, List.getD_eq_getElem?_getD, List.getElem?_eq_getElem (by rw [HCN.out]; exact hj)]; rfl
                  simp only [Option.toList_some, List.reverse_cons, List.reverse_nil, List.nil_append, List.singleton_append, walkBack, this]
                simp only [hc]
                have HST := Lib.hid hstep
                clear hstep hwb hc
                obtain rfl := HRR.out
                clear HRR
                refine yield_wide h.b6 rfl ?_
                have hp : ∀ k o, k ≠ wr.heap.size + 6 → (W.putObj (wr.heap.size + 6) o).heap[k]? = W.heap[k]? := fun k o hk => World.putObj_heap_other hk
                have q0 : ∀ o, (W.putObj (wr.heap.size + 6) o).heap[wr.heap.size]? = _ := fun o => (hp _ o (by omega)).trans h.b0
                have q2 : ∀ o, (W.putObj (wr.heap.size + 6) o).heap[wr.heap.size + 2]? = _ := fun o => (hp _ o (by omega)).trans h.b2
                have q3 : ∀ o, (W.putObj (wr.heap.size + 6) o).heap[wr.heap.size + 3]? = _ := fun o => (hp _ o (by omega)).trans h.b3
                have q6 : ∀ o, (W.putObj (wr.heap.size + 6) o).heap[wr.heap.size + 6]? = some o := fun o => World.putObj_heap_same (heap_lt h.b6)
                have qe : ∀ o, Ext wr (W.putObj (wr.heap.size + 6) o) := fun o => below_putObj h.below (by omega)
                have HH := Lib.hid h
                have HQ0 := Lib.hid q0
                have HQ2 := Lib.hid q2
                have HQ3 := Lib.hid q3
                have HQ6 := Lib.hid q6
                have HQE := Lib.hid qe
                clear h hp q0 q2 q3 q6 qe HI0
                gi_wp2
                refine ⟨trivial, ?_⟩
                generalize hW2 : W.putObj (wr.heap.size + 6) _ = W2
                have d0 : W2.cell? ⟨wr.heap.size, 0, none⟩ = some (i64 k) := by rw [← hW2, cell_of_heap (HQ0.out _)]; rfl
                have d2 : W2.cell? ⟨wr.heap.size + 2, 0, none⟩ = some (.func (.func 94) #[] #[.pointer (some ⟨wr.heap.size, 0, none⟩)]) := by rw [← hW2, cell_of_heap (HQ2.out _)]; rfl
                have d3 : W2.cell? ⟨wr.heap.size + 3, 0, none⟩ = some (i64 a) := by rw [← hW2, cell_of_heap (HQ3.out _)]; rfl
                have z3 : W2.frozen? ⟨wr.heap.size + 3, 0, none⟩ = false := by rw [← hW2]; exact free_of_heap (HQ3.out _) 0
                have dE : Ext wr W2 := by rw [← hW2]; exact HQE.out _
                have dv : W2.cell? ⟨w.heap.size + 2, 0, none⟩ = some (.slice (some ⟨w.heap.size + 1, 0, none⟩) n n) := by rw [cell_of_heap (show W2.heap[w.heap.size + 2]? = _ from dE.block HI.out.var)]; rfl
                obtain ⟨r0, r1, z0, z1, rl⟩ := two_facts (dE.block HI.out.res)
                have HW := Lib.hid hW2
                have DE := Lib.hid dE
                clear hW2 dE
                by_cases hbad : c < 0 ∨ c ≠ a - 1
                · have HN1 : Hid (walkBack pre k x.2.reverse = none) := by show _ = none; rw [← HST.out, if_pos hbad]
                  by_cases hc0 : c < 0
                  · clear hbad
                    gi_wp2_with fail
                    refine ⟨trivial, callsIn_wide.2 ((cl94 _ 5 wr.heap.size k (by omega) d0).mono ?_)⟩
                    rintro e W3 ⟨rfl, hE3⟩
                    obtain ⟨r0', r1', z0', z1', rl'⟩ := two_facts (hE3.block (DE.out.block HI.out.res))
                    have HE3 := Lib.hid hE3
                    clear hE3 d0 d2 d3 z3 dv r0 r1 z0 z1 rl
                    gi_wp2_with fail
                    have hl2 : wr.heap.size + 6 < W2.heap.size := by rw [← HW.out]; exact heap_lt (HQ6.out _)
                    have hsz := HI.out.ext.size
                    have key : ∀ i, i ≠ w.heap.size → i < W2.heap.size → ((W3.setCell ⟨w.heap.size, 0, none⟩ (i64 5)).setCell ⟨w.heap.size, 1, none⟩ (i64 (100 + (k : Int)))).heap[i]? = W2.heap[i]? := fun i hi hl => by
                      rw [heap_setCell_ne _ (by simpa using hi), heap_setCell_ne _ (by simpa using hi)]
                      exact Below.block HE3.out i hl
                    have hwl := heap_lt HI.out.res
                    refine ⟨(key _ (by omega) hl2).trans (by rw [← HW.out]; exact HQ6.out _), .inr ⟨rfl, HN1.out, ?_, ?_, ?_, ?_, ?_⟩⟩
                    · exact below_putObj (((HI.out.ext.trans (DE.out.trans HE3.out))).two (Nat.le_refl _) _ _) (by omega)
                    · intro i hi hne
                      rw [World.putObj_heap_other (by omega), key i hne (by omega)]
                      exact Below.block DE.out i hi
                    · rw [World.putObj_heap_other (by omega)]
                      exact heap_two _ _ (HE3.out.block (DE.out.block HI.out.res))
                    · rw [World.putObj_heap_other (by omega), key _ (by omega) (by omega), ← HW.out, World.putObj_heap_other (by omega)]
                      exact HH.out.b5
                    · refine World.putObj_heap_same ?_
                      simp only [World.size_setCell]
                      exact Nat.lt_of_lt_of_le hl2 HE3.out.size
                  · have hb : (c == a - 1) = false := by simpa using hbad.resolve_left hc0
                    clear hbad
                    gi_wp2_with fail
                    refine ⟨trivial, callsIn_wide.2 ((cl94 _ 5 wr.heap.size k (by omega) d0).mono ?_)⟩
                    rintro e W3 ⟨rfl, hE3⟩
                    obtain ⟨r0', r1', z0', z1', rl'⟩ := two_facts (hE3.block (DE.out.block HI.out.res))
                    have HE3 := Lib.hid hE3
                    clear hE3 d0 d2 d3 z3 dv r0 r1 z0 z1 rl
                    gi_wp2_with fail
                    have hl2 : wr.heap.size + 6 < W2.heap.size := by rw [← HW.out]; exact heap_lt (HQ6.out _)
                    have hsz := HI.out.ext.size
                    have key : ∀ i, i ≠ w.heap.size → i < W2.heap.size → ((W3.setCell ⟨w.heap.size, 0, none⟩ (i64 5)).setCell ⟨w.heap.size, 1, none⟩ (i64 (100 + (k : Int)))).heap[i]? = W2.heap[i]? := fun i hi hl => by
                      rw [heap_setCell_ne _ (by simpa using hi), heap_setCell_ne _ (by simpa using hi)]
                      exact Below.block HE3.out i hl
                    have hwl := heap_lt HI.out.res
                    refine ⟨(key _ (by omega) hl2).trans (by rw [← HW.out]; exact HQ6.out _), .inr ⟨rfl, HN1.out, ?_, ?_, ?_, ?_, ?_⟩⟩
                    · exact below_putObj (((HI.out.ext.trans (DE.out.trans HE3.out))).two (Nat.le_refl _) _ _) (by omega)
                    · intro i hi hne
                      rw [World.putObj_heap_other (by omega), key i hne (by omega)]
                      exact Below.block DE.out i hi
                    · rw [World.putObj_heap_other (by omega)]
                      exact heap_two _ _ (HE3.out.block (DE.out.block HI.out.res))
                    · rw [World.putObj_heap_other (by omega), key _ (by omega) (by omega), ← HW.out, World.putObj_heap_other (by omega)]
                      exact HH.out.b5
                    · refine World.putObj_heap_same ?_
                      simp only [World.size_setCell]
                      exact Nat.lt_of_lt_of_le hl2 HE3.out.size
                · have hc0 : 0 ≤ c := by omega
                  have hca : c = a - 1 := by omega
                  obtain ⟨m, rfl⟩ : ∃ m : Nat, c = m := ⟨c.toNat, by omega⟩
                  obtain rfl : a = (m : Int) + 1 := by omega
                  have hmk : m < k := by omega
                  have hmn : m < n := by omega
                  have hsm := HI.out.small m hmk
                  obtain ⟨y, hy⟩ : ∃ y, pre.getD m 0 = y := ⟨_, rfl⟩
                  have hcm : W2.cell? ⟨w.heap.size + 1, m, none⟩ = some (i64 y) := by
                    rw [cell_of_heap (DE.out.block HI.out.arr), List.getElem?_toArray, List.getElem?_map, List.getElem?_append_left (by rw [hpk]; exact hmk), ← hy, List.getD_eq_getElem?_getD, List.getElem?_eq_getElem (by rw [hpk]; exact hmk)]
                    rfl
                  have HN2 : Hid (walkBack pre y (x.2.take j).reverse = walkBack pre k x.2.reverse) := by
                    show _ = _
                    rw [← HST.out, if_neg hbad, Int.toNat_natCast, hy]
                  rw [hy] at hsm
                  have hlm := World.block_lt_of_cell? W2 _ hcm
                  have hl3 := World.block_lt_of_cell? W2 _ d3
                  simp only at hlm hl3
                  clear hbad hy hca
                  gi_wp2_with fail
                  have hl2 : wr.heap.size + 6 < W2.heap.size := by rw [← HW.out]; exact heap_lt (HQ6.out _)
                  refine ⟨?_, .inl ⟨rfl, y, ⟨?_, ?_, ?_, ?_, ?_, ?_, ?_⟩, hsm.1, by omega, HN2.out⟩⟩
                  · rw [heap_setCell_ne _ (by simp), ← HW.out]; exact HQ6.out _
                  · exact below_putObj (DE.out.setCell (p := ⟨wr.heap.size + 3, 0, none⟩) (by simp) _) (by omega)
                  · rw [World.putObj_heap_other (by omega), heap_setCell_ne _ (by simp), ← HW.out]; exact HQ0.out _
                  · rw [World.putObj_heap_other (by omega), heap_setCell_ne _ (by simp), ← HW.out]; exact HQ2.out _
                  · rw [World.putObj_heap_other (by omega), ← HW.out]; exact heap_setCell_at _ (HQ3.out _)
                  · rw [World.putObj_heap_other (by omega), heap_setCell_ne _ (by simp), ← HW.out, World.putObj_heap_other (by omega)]; exact HH.out.b4
                  · rw [World.putObj_heap_other (by omega), heap_setCell_ne _ (by simp), ← HW.out, World.putObj_heap_other (by omega)]; exact HH.out.b5
                  · exact World.putObj_heap_same (by simp only [World.size_setCell]; exact hl2)
              · obtain rfl := HRR.out
                clear HRR HI0
                rintro e W' ⟨⟨v, rfl⟩, hF | ⟨a, hI, ha0, hak, hwb⟩⟩
                · refine ⟨v, .done, some .ret, rfl, hF.b6, by simp, ?_⟩
                  have HF := Lib.hid hF
                  have HV : Hid (sv = (5, 100 + (k : Int))) := by show sv = _; rw [← HGO3.out, hF.none]
                  clear hF
                  have hwl := heap_lt HI.out.res
                  gi_wp2
                  rw [HV.out]
                  refine leave_fault (Ds := (wr.heap.size + 5) :: Ds) rfl rfl (below_putObj HF.out.ext (by omega)) ⟨?_, ?_⟩ ?_ ?_
                  · refine List.nodup_cons.2 ⟨fun hm => ?_, HI.out.marks.1⟩
                    have := heap_lt (HI.out.marks.2 _ hm)
                    omega
                  · intro D hD
                    have hne : D ≠ wr.heap.size + 6 := by
                      rcases List.mem_cons.1 hD with rfl | hD
                      · omega
                      · have := heap_lt (HI.out.marks.2 _ hD); omega
                    rw [World.putObj_heap_other hne]
                    rcases List.mem_cons.1 hD with rfl | hD
                    · exact HF.out.b5
                    · have h1 := heap_lt (HI.out.marks.2 _ hD)
                      have h2 := HI.out.far D hD
                      rw [HF.out.old D h1 (by omega)]
                      exact HI.out.marks.2 D hD
                  · intro D hD
                    rcases List.mem_cons.1 hD with rfl | hD
                    · omega
                    · have h2 := HI.out.far D hD; omega
                  · rw [World.putObj_heap_other (by omega)]
                    exact HF.out.res
                · refine ⟨v, .ready, none, rfl, hI.b6, by simp, ?_⟩
                  have hwl := heap_lt HI.out.res
                  have hwl2 := heap_lt HI.out.var
                  have HGO4 : Hid (shapeGo (pre ++ [a]) (l.drop (k + 1)) = sv) := by
                    show _ = sv
                    rw [← HGO3.out, ← hwb]; rfl
                  have HI3 := Lib.hid hI
                  clear hI hwb
                  generalize hW2 : W'.putObj (wr.heap.size + 6) _ = W2
                  have dE : Ext wr W2 := by rw [← hW2]; exact below_putObj HI3.out.below (by omega)
                  have dv : W2.cell? ⟨w.heap.size + 2, 0, none⟩ = some (.slice (some ⟨w.heap.size + 1, 0, none⟩) n n) := by rw [cell_of_heap (show W2.heap[w.heap.size + 2]? = _ from dE.block HI.out.var)]; rfl
                  have d0 : W2.cell? ⟨wr.heap.size, 0, none⟩ = some (i64 k) := by rw [← hW2, cell_of_heap ((World.putObj_heap_other (by omega)).trans HI3.out.b0)]; rfl
                  have d3 : W2.cell? ⟨wr.heap.size + 3, 0, none⟩ = some (i64 a) := by rw [← hW2, cell_of_heap ((World.putObj_heap_other (by omega)).trans HI3.out.b3)]; rfl
                  have d5 : W2.heap[wr.heap.size + 5]? = some (.deferred (some [])) := by rw [← hW2]; exact (World.putObj_heap_other (by omega)).trans HI3.out.b5
                  have HARR := Lib.hid (dE.block HI.out.arr)
                  have hcell : W2.cell? ⟨w.heap.size + 1, k, none⟩ = some (i64 0) := by
                    rw [cell_of_heap HARR.out, List.getElem?_toArray, List.getElem?_map, List.getElem?_append_right (by omega), List.getElem?_replicate, if_pos (by omega)]; rfl
                  have hfree : W2.frozen? ⟨w.heap.size + 1, k, none⟩ = false := free_of_heap HARR.out k
                  have hla := heap_lt HARR.out
                  have HD5 := Lib.hid d5
                  have DE := Lib.hid dE
                  clear hW2 d5 dE
                  gi_wp2_with fail
                  refine ⟨?_, ?measure⟩
                  · (repeat apply Exists.intro)
                    refine ⟨?_, rfl⟩
                    refine ⟨k + 1, by omega, by go_num, pre ++ [a], (wr.heap.size + 5) :: Ds, rfl, by simp [hpk], ?_⟩
                    refine ⟨HI.out.ext.trans DE.out |>.setCell (p := ⟨w.heap.size + 1, k, none⟩) (by simp) _, ?_, ?_, ?_, ⟨?_, ?_⟩, ?_, HGO4.out, ?_⟩
                    · rw [heap_setCell_ne _ (by simp)]; exact DE.out.block HI.out.res
                    · rw [heap_setCell_at _ HARR.out]
                      congr 2
                      rw [List.setIfInBounds_toArray]
                      congr 1
                      obtain ⟨d, hd⟩ : ∃ d, n - k = d + 1 := ⟨n - k - 1, by omega⟩
                      rw [hd, show n - (k + 1) = d by omega, List.replicate_succ, List.map_append, List.map_append, List.map_append, List.map_cons, List.set_append_right _ _ (by simp [hpk]), List.length_map, hpk, Nat.sub_self, List.set_cons_zero, List.append_assoc]
                      rfl
                    · rw [heap_setCell_ne _ (by simp)]; exact DE.out.block HI.out.var
                    · refine List.nodup_cons.2 ⟨fun hm => ?_, HI.out.marks.1⟩
                      have := heap_lt (HI.out.marks.2 _ hm)
                      omega
                    · intro D hD
                      have hDge : D ≠ w.heap.size + 1 := by
                        rcases List.mem_cons.1 hD with rfl | hD
                        · omega
                        · have h2 := HI.out.far D hD; omega
                      rw [heap_setCell_ne _ (by simpa using hDge)]
                      rcases List.mem_cons.1 hD with rfl | hD
                      · exact HD5.out
                      · exact DE.out.block (HI.out.marks.2 D hD)
                    · intro D hD
                      rcases List.mem_cons.1 hD with rfl | hD
                      · omega
                      · exact HI.out.far D hD
                    · intro j hj
                      by_cases hjk : j < k
                      · have := HI.out.small j hjk
                        rwa [List.getD_eq_getElem?_getD, List.getElem?_append_left (by rw [hpk]; exact hjk), ← List.getD_eq_getElem?_getD]
                      · have : j = k := by omega
                        subst this
                        rw [List.getD_eq_getElem?_getD, List.getElem?_append_right (by rw [hpk]; exact Nat.le_refl _), hpk, Nat.sub_self]
                        exact ⟨ha0, hak⟩
                  case measure => simp [intOf]; omega
            · clear hbad HGO2
              gi_wp2_with fail
              refine ⟨trivial, callsIn_wide.2 ((back_ints _ ca cn ccap).mono ?_)⟩
              rintro e W ⟨rfl, rfl⟩
              gi_wp2_with fail
              refine wpIn_range_wide rfl enters114 (fun fn => ?_)
              simp only [World.size_alloc, Nat.add_assoc, Nat.reduceAdd]
              generalize hR : recOf fn (_ : Array Value) (_ : Array Tmp) (_ : Code) (_ : Code) (_ : Nat) = R
              have HRR := Lib.hid hR
              clear hR
              generalize hW0 : World.alloc _ (Obj.loop (R .ready none)) = W0
              have hinv0 : RgInv wr k ca cn ccap R k W0 := by
                rw [← hW0]
                refine ⟨(((((((Ext.refl wr).alloc _).alloc _).alloc _).alloc _).alloc _).alloc _).alloc _, ?_, ?_, ?_, ?_, ?_, ?_⟩ <;> simp only [World.alloc, Array.getElem?_push, Array.size_push] <;> (repeat rw [if_neg (by omega)]) <;> (first | rfl | simp)
              have HI0 : Hid (RgSt wr pre x.2 k ca cn ccap R cn W0) := ⟨k, hinv0, by omega, by omega, by rw [← HCN.out, List.take_length]⟩
              clear hW0 hinv0 e0 e1 e2 e3 e4 e5 e6 r0 r1 z0 z1 rl v0 vl elt hc4
              refine (back_iter_ints (wr.heap.size + 6) _ (wr.heap.size + 4) ca cn ccap (by omega) (fun i => x.2.getD i 0) (RgSt wr pre x.2 k ca cn ccap R) (RgFin w wr pre x.2 k R) ?c1 ?c2 ?c3 _ HI0).mono ?_
              case c1 =>
                rintro j W ⟨a, h, -⟩
                rw [cell_of_heap h.b4]; rfl
              case c2 =>
                rintro j W ⟨a, h, -⟩ i hi
                obtain ⟨b, off, rfl, hc⟩ := HCR.out i hi
                exact ⟨b, off, rfl, (HI.out.ext.trans h.below).cell hc⟩
              case c3 =>
                rintro j W hj ⟨a, h, ha0, hak, hwb⟩
                obtain ⟨c, hc⟩ : ∃ c, x.2.getD j 0 = c := ⟨_, rfl⟩
                have hstep : (if c < 0 ∨ c ≠ a - 1 then none else walkBack pre (pre.getD c.toNat 0) (x.2.take j).reverse) = walkBack pre k x.2.reverse := by
                  rw [← hwb, List.take_add_one, List.getElem?_eq_getElem (by rw [HCN.out]; exact hj), List.reverse_append]
                  have : x.2[j]'(by rw [HCN.out]; exact hj) = c := by rw [← hc, List.getD_eq_getElem?_getD, List.getElem?_eq_getElem (by rw [HCN.out]; exact hj)]; rfl
                  simp only [Option.toList_some, List.reverse_cons, List.reverse_nil, List.nil_append, List.singleton_append, walkBack, this]
                simp only [hc]
                have HST := Lib.hid hstep
                clear hstep hwb hc
                obtain rfl := HRR.out
                clear HRR
                refine yield_wide h.b6 rfl ?_
                have hp : ∀ k o, k ≠ wr.heap.size + 6 → (W.putObj (wr.heap.size + 6) o).heap[k]? = W.heap[k]? := fun k o hk => World.putObj_heap_other hk
                have q0 : ∀ o, (W.putObj (wr.heap.size + 6) o).heap[wr.heap.size]? = _ := fun o => (hp _ o (by omega)).trans h.b0
                have q2 : ∀ o, (W.putObj (wr.heap.size + 6) o).heap[wr.heap.size + 2]? = _ := fun o => (hp _ o (by omega)).trans h.b2
                have q3 : ∀ o, (W.putObj (wr.heap.size + 6) o).heap[wr.heap.size + 3]? = _ := fun o => (hp _ o (by omega)).trans h.b3
                have q6 : ∀ o, (W.putObj (wr.heap.size + 6) o).heap[wr.heap.size + 6]? = some o := fun o => World.putObj_heap_same (heap_lt h.b6)
                have qe : ∀ o, Ext wr (W.putObj (wr.heap.size + 6) o) := fun o => below_putObj h.below (by omega)
                have HH := Lib.hid h
                have HQ0 := Lib.hid q0
                have HQ2 := Lib.hid q2
                have HQ3 := Lib.hid q3
                have HQ6 := Lib.hid q6
                have HQE := Lib.hid qe
                clear h hp q0 q2 q3 q6 qe HI0
                gi_wp2
                refine ⟨trivial, ?_⟩
                generalize hW2 : W.putObj (wr.heap.size + 6) _ = W2
                have d0 : W2.cell? ⟨wr.heap.size, 0, none⟩ = some (i64 k) := by rw [← hW2, cell_of_heap (HQ0.out _)]; rfl
                have d2 : W2.cell? ⟨wr.heap.size + 2, 0, none⟩ = some (.func (.func 94) #[] #[.pointer (some ⟨wr.heap.size, 0, none⟩)]) := by rw [← hW2, cell_of_heap (HQ2.out _)]; rfl
                have d3 : W2.cell? ⟨wr.heap.size + 3, 0, none⟩ = some (i64 a) := by rw [← hW2, cell_of_heap (HQ3.out _)]; rfl
                have z3 : W2.frozen? ⟨wr.heap.size + 3, 0, none⟩ = false := by rw [← hW2]; exact free_of_heap (HQ3.out _) 0
                have dE : Ext wr W2 := by rw [← hW2]; exact HQE.out _
                have dv : W2.cell? ⟨w.heap.size + 2, 0, none⟩ = some (.slice (some ⟨w.heap.size + 1, 0, none⟩) n n) := by rw [cell_of_heap (show W2.heap[w.heap.size + 2]? = _ from dE.block HI.out.var)]; rfl
                obtain ⟨r0, r1, z0, z1, rl⟩ := two_facts (dE.block HI.out.res)
                have HW := Lib.hid hW2
                have DE := Lib.hid dE
                clear hW2 dE
                by_cases hbad : c < 0 ∨ c ≠ a - 1
                · have HN1 : Hid (walkBack pre k x.2.reverse = none) := by show _ = none; rw [← HST.out, if_pos hbad]
                  by_cases hc0 : c < 0
                  · clear hbad
                    gi_wp2_with fail
                    refine ⟨trivial, callsIn_wide.2 ((cl94 _ 5 wr.heap.size k (by omega) d0).mono ?_)⟩
                    rintro e W3 ⟨rfl, hE3⟩
                    obtain ⟨r0', r1', z0', z1', rl'⟩ := two_facts (hE3.block (DE.out.block HI.out.res))
                    have HE3 := Lib.hid hE3
                    clear hE3 d0 d2 d3 z3 dv r0 r1 z0 z1 rl
                    gi_wp2_with fail
                    have hl2 : wr.heap.size + 6 < W2.heap.size := by rw [← HW.out]; exact heap_lt (HQ6.out _)
                    have hsz := HI.out.ext.size
                    have key : ∀ i, i ≠ w.heap.size → i < W2.heap.size → ((W3.setCell ⟨w.heap.size, 0, none⟩ (i64 5)).setCell ⟨w.heap.size, 1, none⟩ (i64 (100 + (k : Int)))).heap[i]? = W2.heap[i]? := fun i hi hl => by
                      rw [heap_setCell_ne _ (by simpa using hi), heap_setCell_ne _ (by simpa using hi)]
                      exact Below.block HE3.out i hl
                    have hwl := heap_lt HI.out.res
                    refine ⟨(key _ (by omega) hl2).trans (by rw [← HW.out]; exact HQ6.out _), .inr ⟨rfl, HN1.out, ?_, ?_, ?_, ?_, ?_⟩⟩
                    · exact below_putObj (((HI.out.ext.trans (DE.out.trans HE3.out))).two (Nat.le_refl _) _ _) (by omega)
                    · intro i hi hne
                      rw [World.putObj_heap_other (by omega), key i hne (by omega)]
                      exact Below.block DE.out i hi
                    · rw [World.putObj_heap_other (by omega)]
                      exact heap_two _ _ (HE3.out.block (DE.out.block HI.out.res))
                    · rw [World.putObj_heap_other (by omega), key _ (by omega) (by omega), ← HW.out, World.putObj_heap_other (by omega)]
                      exact HH.out.b5
                    · refine World.putObj_heap_same ?_
                      simp only [World.size_setCell]
                      exact Nat.lt_of_lt_of_le hl2 HE3.out.size
                  · have hb : (c == a - 1) = false := by simpa using hbad.resolve_left hc0
                    clear hbad
                    gi_wp2_with fail
                    refine ⟨trivial, callsIn_wide.2 ((cl94 _ 5 wr.heap.size k (by omega) d0).mono ?_)⟩
                    rintro e W3 ⟨rfl, hE3⟩
                    obtain ⟨r0', r1', z0', z1', rl'⟩ := two_facts (hE3.block (DE.out.block HI.out.res))
                    have HE3 := Lib.hid hE3
                    clear hE3 d0 d2 d3 z3 dv r0 r1 z0 z1 rl
                    gi_wp2_with fail
                    have hl2 : wr.heap.size + 6 < W2.heap.size := by rw [← HW.out]; exact heap_lt (HQ6.out _)
                    have hsz := HI.out.ext.size
                    have key : ∀ i, i ≠ w.heap.size → i < W2.heap.size → ((W3.setCell ⟨w.heap.size, 0, none⟩ (i64 5)).setCell ⟨w.heap.size, 1, none⟩ (i64 (100 + (k : Int)))).heap[i]? = W2.heap[i]? := fun i hi hl => by
                      rw [heap_setCell_ne _ (by simpa using hi), heap_setCell_ne _ (by simpa using hi)]
                      exact Below.block HE3.out i hl
                    have hwl := heap_lt HI.out.res
                    refine ⟨(key _ (by omega) hl2).trans (by rw [← HW.out]; exact HQ6.out _), .inr ⟨rfl, HN1.out, ?_, ?_, ?_, ?_, ?_⟩⟩
                    · exact below_putObj (((HI.out.ext.trans (DE.out.trans HE3.out))).two (Nat.le_refl _) _ _) (by omega)
                    · intro i hi hne
                      rw [World.putObj_heap_other (by omega), key i hne (by omega)]
                      exact Below.block DE.out i hi
                    · rw [World.putObj_heap_other (by omega)]
                      exact heap_two _ _ (HE3.out.block (DE.out.block HI.out.res))
                    · rw [World.putObj_heap_other (by omega), key _ (by omega) (by omega), ← HW.out, World.putObj_heap_other (by omega)]
                      exact HH.out.b5
                    · refine World.putObj_heap_same ?_
                      simp only [World.size_setCell]
                      exact Nat.lt_of_lt_of_le hl2 HE3.out.size
                · have hc0 : 0 ≤ c := by omega
                  have hca : c = a - 1 := by omega
                  obtain ⟨m, rfl⟩ : ∃ m : Nat, c = m := ⟨c.toNat, by omega⟩
                  obtain rfl : a = (m : Int) + 1 := by omega
                  have hmk : m < k := by omega
                  have hmn : m < n := by omega
                  have hsm := HI.out.small m hmk
                  obtain ⟨y, hy⟩ : ∃ y, pre.getD m 0 = y := ⟨_, rfl⟩
                  have hcm : W2.cell? ⟨w.heap.size + 1, m, none⟩ = some (i64 y) := by
                    rw [cell_of_heap (DE.out.block HI.out.arr), List.getElem?_toArray, List.getElem?_map, List.getElem?_append_left (by rw [hpk]; exact hmk), ← hy, List.getD_eq_getElem?_getD, List.getElem?_eq_getElem (by rw [hpk]; exact hmk)]
                    rfl
                  have HN2 : Hid (walkBack pre y (x.2.take j).reverse = walkBack pre k x.2.reverse) := by
                    show _ = _
                    rw [← HST.out, if_neg hbad, Int.toNat_natCast, hy]
                  rw [hy] at hsm
                  have hlm := World.block_lt_of_cell? W2 _ hcm
                  have hl3 := World.block_lt_of_cell? W2 _ d3
                  simp only at hlm hl3
                  clear hbad hy hca
                  gi_wp2_with fail
                  have hl2 : wr.heap.size + 6 < W2.heap.size := by rw [← HW.out]; exact heap_lt (HQ6.out _)
                  refine ⟨?_, .inl ⟨rfl, y, ⟨?_, ?_, ?_, ?_, ?_, ?_, ?_⟩, hsm.1, by omega, HN2.out⟩⟩
                  · rw [heap_setCell_ne _ (by simp), ← HW.out]; exact HQ6.out _
                  · exact below_putObj (DE.out.setCell (p := ⟨wr.heap.size + 3, 0, none⟩) (by simp) _) (by omega)
                  · rw [World.putObj_heap_other (by omega), heap_setCell_ne _ (by simp), ← HW.out]; exact HQ0.out _
                  · rw [World.putObj_heap_other (by omega), heap_setCell_ne _ (by simp), ← HW.out]; exact HQ2.out _
                  · rw [World.putObj_heap_other (by omega), ← HW.out]; exact heap_setCell_at _ (HQ3.out _)
                  · rw [World.putObj_heap_other (by omega), heap_setCell_ne _ (by simp), ← HW.out, World.putObj_heap_other (by omega)]; exact HH.out.b4
                  · rw [World.putObj_heap_other (by omega), heap_setCell_ne _ (by simp), ← HW.out, World.putObj_heap_other (by omega)]; exact HH.out.b5
                  · exact World.putObj_heap_same (by simp only [World.size_setCell]; exact hl2)
              · obtain rfl := HRR.out
                clear HRR HI0
                rintro e W' ⟨⟨v, rfl⟩, hF | ⟨a, hI, ha0, hak, hwb⟩⟩
                · refine ⟨v, .done, some .ret, rfl, hF.b6, by simp, ?_⟩
                  have HF := Lib.hid hF
                  have HV : Hid (sv = (5, 100 + (k : Int))) := by show sv = _; rw [← HGO3.out, hF.none]
                  clear hF
                  have hwl := heap_lt HI.out.res
                  gi_wp2
                  rw [HV.out]
                  refine leave_fault (Ds := (wr.heap.size + 5) :: Ds) rfl rfl (below_putObj HF.out.ext (by omega)) ⟨?_, ?_⟩ ?_ ?_
                  · refine List.nodup_cons.2 ⟨fun hm => ?_, HI.out.marks.1⟩
                    have := heap_lt (HI.out.marks.2 _ hm)
                    omega
                  · intro D hD
                    have hne : D ≠ wr.heap.size + 6 := by
                      rcases List.mem_cons.1 hD with rfl | hD
                      · omega
                      · have := heap_lt (HI.out.marks.2 _ hD); omega
                    rw [World.putObj_heap_other hne]
                    rcases List.mem_cons.1 hD with rfl | hD
                    · exact HF.out.b5
                    · have h1 := heap_lt (HI.out.marks.2 _ hD)
                      have h2 := HI.out.far D hD
                      rw [HF.out.old D h1 (by omega)]
                      exact HI.out.marks.2 D hD
                  · intro D hD
                    rcases List.mem_cons.1 hD with rfl | hD
                    · omega
                    · have h2 := HI.out.far D hD; omega
                  · rw [World.putObj_heap_other (by omega)]
                    exact HF.out.res
                · refine ⟨v, .ready, none, rfl, hI.b6, by simp, ?_⟩
                  have hwl := heap_lt HI.out.res
                  have hwl2 := heap_lt HI.out.var
                  have HGO4 : Hid (shapeGo (pre ++ [a]) (l.drop (k + 1)) = sv) := by
                    show _ = sv
                    rw [← HGO3.out, ← hwb]; rfl
                  have HI3 := Lib.hid hI
                  clear hI hwb
                  generalize hW2 : W'.putObj (wr.heap.size + 6) _ = W2
                  have dE : Ext wr W2 := by rw [← hW2]; exact below_putObj HI3.out.below (by omega)
                  have dv : W2.cell? ⟨w.heap.size + 2, 0, none⟩ = some (.slice (some ⟨w.heap.size + 1, 0, none⟩) n n) := by rw [cell_of_heap (show W2.heap[w.heap.size + 2]? = _ from dE.block HI.out.var)]; rfl
                  have d0 : W2.cell? ⟨wr.heap.size, 0, none⟩ = some (i64 k) := by rw [← hW2, cell_of_heap ((World.putObj_heap_other (by omega)).trans HI3.out.b0)]; rfl
                  have d3 : W2.cell? ⟨wr.heap.size + 3, 0, none⟩ = some (i64 a) := by rw [← hW2, cell_of_heap ((World.putObj_heap_other (by omega)).trans HI3.out.b3)]; rfl
                  have d5 : W2.heap[wr.heap.size + 5]? = some (.deferred (some [])) := by rw [← hW2]; exact (World.putObj_heap_other (by omega)).trans HI3.out.b5
                  have HARR := Lib.hid (dE.block HI.out.arr)
                  have hcell : W2.cell? ⟨w.heap.size + 1, k, none⟩ = some (i64 0) := by
                    rw [cell_of_heap HARR.out, List.getElem?_toArray, List.getElem?_map, List.getElem?_append_right (by omega), List.getElem?_replicate, if_pos (by omega)]; rfl
                  have hfree : W2.frozen? ⟨w.heap.size + 1, k, none⟩ = false := free_of_heap HARR.out k
                  have hla := heap_lt HARR.out
                  have HD5 := Lib.hid d5
                  have DE := Lib.hid dE
                  clear hW2 d5 dE
                  gi_wp2_with fail
                  refine ⟨?_, ?measure⟩
                  · (repeat apply Exists.intro)
                    refine ⟨?_, rfl⟩
                    refine ⟨k + 1, by omega, by go_num, pre ++ [a], (wr.heap.size + 5) :: Ds, rfl, by simp [hpk], ?_⟩
                    refine ⟨HI.out.ext.trans DE.out |>.setCell (p := ⟨w.heap.size + 1, k, none⟩) (by simp) _, ?_, ?_, ?_, ⟨?_, ?_⟩, ?_, HGO4.out, ?_⟩
                    · rw [heap_setCell_ne _ (by simp)]; exact DE.out.block HI.out.res
                    · rw [heap_setCell_at _ HARR.out]
                      congr 2
                      rw [List.setIfInBounds_toArray]
                      congr 1
                      obtain ⟨d, hd⟩ : ∃ d, n - k = d + 1 := ⟨n - k - 1, by omega⟩
                      rw [hd, show n - (k + 1) = d by omega, List.replicate_succ, List.map_append, List.map_append, List.map_append, List.map_cons, List.set_append_right _ _ (by simp [hpk]), List.length_map, hpk, Nat.sub_self, List.set_cons_zero, List.append_assoc]
                      rfl
                    · rw [heap_setCell_ne _ (by simp)]; exact DE.out.block HI.out.var
                    · refine List.nodup_cons.2 ⟨fun hm => ?_, HI.out.marks.1⟩
                      have := heap_lt (HI.out.marks.2 _ hm)
                      omega
                    · intro D hD
                      have hDge : D ≠ w.heap.size + 1 := by
                        rcases List.mem_cons.1 hD with rfl | hD
                        · omega
                        · have h2 := HI.out.far D hD; omega
                      rw [heap_setCell_ne _ (by simpa using hDge)]
                      rcases List.mem_cons.1 hD with rfl | hD
                      · exact HD5.out
                      · exact DE.out.block (HI.out.marks.2 D hD)
                    · intro D hD
                      rcases List.mem_cons.1 hD with rfl | hD
                      · omega
                      · exact HI.out.far D hD
                    · intro j hj
                      by_cases hjk : j < k
                      · have := HI.out.small j hjk
                        rwa [List.getD_eq_getElem?_getD, List.getElem?_append_left (by rw [hpk]; exact hjk), ← List.getD_eq_getElem?_getD]
                      · have : j = k := by omega
                        subst this
                        rw [List.getD_eq_getElem?_getD, List.getElem?_append_right (by rw [hpk]; exact Nat.le_refl _), hpk, Nat.sub_self]
                        exact ⟨ha0, hak⟩
                  case measure => simp [intOf]; omega
      · have hkn : k = n := by omega
        obtain ⟨m, rfl⟩ : ∃ m, n = m + 1 := ⟨n - 1, by omega⟩
        have hv : (if pre.getD m 0 ≠ 0 then (5, -10) else (0, 0)) = sv := by
          have := HI.out.go
          rw [hkn, List.drop_eq_nil_of_le (by rw [HN.out]; exact Nat.le_refl _), shapeGo, hpk, hkn] at this
          exact this
        obtain ⟨y, hy⟩ : ∃ y, pre.getD m 0 = y := ⟨_, rfl⟩
        rw [hy] at hv
        have hcm : wr.cell? ⟨w.heap.size + 1, m, none⟩ = some (i64 y) := by
          rw [cell_of_heap HI.out.arr, List.getElem?_toArray, List.getElem?_map, List.getElem?_append_left (by omega), ← hy, List.getD_eq_getElem?_getD, List.getElem?_eq_getElem (by omega)]
          rfl
        have hlm := World.block_lt_of_cell? wr _ hcm
        simp only at hlm
        obtain ⟨r0, r1, z0, z1, rl⟩ := two_facts HI.out.res
        have v0 : wr.cell? ⟨w.heap.size + 1 + 1, 0, none⟩ = some (.slice (some ⟨w.heap.size + 1, 0, none⟩) (m + 1) (m + 1)) := by rw [cell_of_heap HI.out.var]; rfl
        have HVV := Lib.hid hv
        clear hy hv
        by_cases hyz : y = 0
        · have HV : Hid (sv = (0, 0)) := by show sv = _; rw [← HVV.out, if_neg (by simpa using hyz)]
          have hb : (y == 0) = true := by simpa using hyz
          clear hyz
          gi_wp2_with fail
          exact HI.out.leave (Ext.refl _) HV.out rfl
        · have HV : Hid (sv = (5, -10)) := by show sv = _; rw [← HVV.out, if_pos hyz]
          have hb : (y == 0) = false := by simpa using hyz
          clear hyz
          gi_wp2_with fail
          exact HI.out.leave (Ext.refl _) HV.out rfl
end Go.Proofs.Ytodlkjjoenglgaa

/- A region that draws its order within a round of a range over a function; what scopes wants besides. -/
namespace Go.Proofs.Ytodlkjjoenglgaa
open Go Go.RowKit

section
variable {P : Program} {ops : Array Oper} {Q : Exit → Act → World → Prop} {l n : Nat}
def noDefer (o : Oper) : Bool := match o.op with | .defer _ => false | _ => true
theorem rowsIn_wide {n : Nat} {row : String} {args : Array Value} {w : World} {R : Value → World → Prop} (h : Rows P row args w R) : RowsIn (Fence.wide.inRound l) n P row args w R :=
  fun c cs _ => let ⟨v, w', r, s⟩ := h c cs; ⟨v, w', r, stepsIn_wide.2 s⟩
theorem uponIn_of {o : Oper} {a : Act} {K K' : Act → World → Prop} (hK : ∀ a w, K a w → K' a w) (r : Result Next) (h : o.upon P a K Q r) : o.uponIn (Fence.wide.inRound l) n P a K' Q r := by
  cases r with
  | ok x w' =>
    cases x with
    | value v => exact hK _ _ h
    | skip => exact hK _ _ h
    | defer d => exact hK _ _ h
    | enter f args =>
      refine ⟨fun h => (by cases h), callsIn_wide.2 (Calls.mono h ?_)⟩
      intro e w'' he
      cases e with
      | returned v => exact hK _ _ he
      | panicked c => exact he
      | outgrown => exact he
    | row row args => exact ⟨fun h => (by cases h), rowsIn_wide (Rows.mono h fun v w'' he => hK _ _ he)⟩
    | _ => exact False.elim h
  | halt x w' =>
    cases x with
    | panic v => exact h
    | _ => exact False.elim h
theorem wpAnyIn_of (hnd : ops.all noDefer = true) (hno : ¬ LetsOut Q) : ∀ (fuel : Nat) (listed : Array Bool) (a : Act) (w : World), wpAny P .any ops Q fuel listed a w → wpAnyIn (Fence.wide.inRound l) n P .any ops Q fuel listed a w := by
  intro fuel
  induction fuel with
  | zero => intro listed a w h; exact h
  | succ fuel ih =>
    intro listed a w h
    refine ⟨h.1, fun i hi => ?_⟩
    have h2 := h.2 i hi
    unfold wpOp at h2
    unfold wpOpIn
    cases ho : ops[i]? with
    | none => rw [ho] at h2; exact ih _ _ _ h2
    | some o =>
      rw [ho] at h2
      dsimp only at h2 ⊢
      split
      · rename_i hw
        rw [if_pos hw] at h2
        refine ⟨fun _ _ => trivial, ?_⟩
        have hd : ∀ c, o.op ≠ .defer c := fun c hc => by
          have hlt := (Array.getElem?_eq_some_iff.1 ho)
          have := (Array.all_eq_true.1 hnd) i hlt.1
          rw [hlt.2] at this
          unfold noDefer at this
          rw [hc] at this
          cases this
        rw [Oper.semAt_eq _ _ _ hd]
        rcases h2 with h2 | h2
        · exact uponIn_of (fun a w => ih _ a w) _ h2
        · exact absurd h2.2 hno
      · rename_i hw
        rw [if_neg hw] at h2
        exact ⟨fun _ _ => trivial, ih _ _ _ h2⟩
theorem wpIn_region_round {id : Nat} {a : Act} {w : World} (hm : P.follows .mixedOrders = true) (hnd : ops.all noDefer = true) (hno : ¬ LetsOut Q)
    (h : wpAny P .any ops Q ops.size (Array.replicate ops.size false) a w.drew) : (Code.region id ops true).wpIn (Fence.wide.inRound l) n P Q a w :=
  wpIn_region_any hm (wpAnyIn_of hnd hno _ _ _ _ h)
end

/-- 'yield_wide' where the assignment of the loop's variables makes memory. -/
theorem yield_wide' {P : Program} {n l D : Nat} {fn : FuncId} {tmps : Array Value} {ps : Array Tmp} {assign body : Code} {args : Array Value} {W : World} {K : Ending → World → Prop}
    (hl : W.heap[l]? = some (.loop (recOf fn tmps ps assign body D .ready none))) (hs : args.size = ps.size)
    (h : assign.wpIn (Fence.wide.inRound l) n P
      (Exit.then (fun a₁ w₁ => w₁.heap[l]? = some (.loop (recOf fn tmps ps assign body D .ready none)) ∧ body.wpIn (Fence.wide.inRound l) n P (roundEnd l (recOf fn tmps ps assign body D) K) a₁ (w₁.putObj l (.loop (recOf fn tmps ps assign body D .busy none)))) (fun _ _ _ => False))
      { tmps := (ps.zip args).foldl (fun t (p, v) => t.setIfInBounds p v) tmps, defers := [] } W) :
    YieldAt Fence.wide n P l args W K := by
  refine ⟨fn, _, assign, body, run_yield hl hs, roundIn_of_wpIn trivial (wpIn_mono h ?_)⟩
  intro e a1 w1 hq
  cases e with
  | normal =>
    obtain ⟨hl1, hb⟩ := hq
    refine ⟨_, run_beginRound hl1 rfl, wpIn_mono hb ?_⟩
    intro e a3 W3 hq
    cases e with
    | normal => exact ⟨_, _, run_endRound none hq.1, hq.2⟩
    | ret => exact ⟨_, _, run_endRound (some .ret) hq.1, hq.2⟩
    | exit id => exact hq.elim
    | goto t => exact hq.elim
    | panic c => exact hq.elim
    | outgrown => exact hq.elim
  | exit id => exact hq.elim
  | goto l => exact hq.elim
  | ret => exact hq.elim
  | panic c => exact hq.elim
  | outgrown => exact hq.elim

/-- slices.Clone of ints: what comes back is the caller's own. -/
theorem clone_owns (w : World) (v : Value) (xs : List Int) (h : Rd w v (xs.map i64)) (hn : xs.length * 8 ≤ 140737488351232) :
    Calls Try.prog 52 #[v] w fun e w' => ∃ v', e = .returned v' ∧ Ext w w' ∧ w'.ownsRow w.heap.size 3 1 v' xs.length (xs.map i64) := by
  obtain ⟨a, cap, rfl, h1, h2, h3⟩ := h
  cases a with
  | none =>
    have hx : xs = [] := by
      cases xs with
      | nil => rfl
      | cons x xs => obtain ⟨b, off, e, _⟩ := h3 0 (i64 x) rfl; cases e
    subst hx
    refine (clone_nil w _ cap).mono ?_
    rintro e w' ⟨rfl, rfl⟩
    exact ⟨_, rfl, Ext.refl w, World.ownsRow_nil ..⟩
  | some a =>
    obtain ⟨g, off, s⟩ := a
    refine (clone_some w g off s (xs.map i64) cap (fun i x hx => ?_) (fun x hx => ?_) (by simpa using hn)).mono ?_
    · obtain ⟨b, off', e, hc⟩ := h3 i x hx
      cases e
      have : (⟨g, off, none⟩ : Addr).add i = ⟨g, off + i, none⟩ := by unfold Addr.add; split <;> simp_all
      rw [this]; exact hc
    · obtain ⟨y, _, rfl⟩ := List.mem_map.1 hx; rfl
    · rintro e w' ⟨v', rfl, hE, hown⟩
      rw [List.length_map] at hown
      exact ⟨v', rfl, hE, hown⟩

theorem IntsAt.of_owns {w : World} {base : Nat} {e : TypeId} {v : Value} {n : Nat} {l : List Int} (h : w.ownsRow base e 1 v n (l.map i64)) (hn : l.length = n) (hb : n * 8 ≤ 140737488351232) : IntsAt w v l := by
  subst hn
  obtain ⟨a, cap, rfl, h1, h2, hr⟩ := owns_row h
  refine ⟨a, cap, rfl, h1, h2, hb, fun i x hx => ⟨[i64 x], rfl, rfl, hr i (List.getElem?_eq_some_iff.1 hx).1 _ (Nat.le_refl _) fun j y hj => ?_⟩⟩
  match j with
  | 0 => cases hj; rw [Nat.mul_one, Nat.add_zero, List.getElem?_map, hx]; rfl
  | j + 1 => simp at hj

theorem cell_congr {w w' : World} {p : Addr} (h : w'.heap[p.block]? = w.heap[p.block]?) : w'.cell? p = w.cell? p := by
  obtain ⟨b, off, r⟩ := p
  simp only at h
  simp [World.cell?, h]
/-- Ints in memory abide while a block of slices alone is written. -/
theorem IntsAt.keep {w w' : World} {v : Value} {l : List Int} {g : Nat} {cs : Array Value} {T : TypeId} (h : IntsAt w v l) (hg : w.heap[g]? = some (.cells cs T)) (hs : ∀ (i : Nat) x, cs[i]? = some x → sliceV x)
    (hk : ∀ k, k ≠ g → k < w.heap.size → w'.heap[k]? = w.heap[k]?) : IntsAt w' v l := by
  obtain ⟨a, cap, rfl, h1, h2, h3, h4⟩ := h
  refine ⟨a, cap, rfl, h1, h2, h3, fun i x hx => ?_⟩
  obtain ⟨c, hc, hr, b, off, rfl, hcell⟩ := h4 i x hx
  refine ⟨c, hc, hr, b, off, rfl, fun j y hj => ?_⟩
  have h5 := hcell j y hj
  have hb : b ≠ g := by
    rintro rfl
    rw [cell_of_heap hg] at h5
    obtain ⟨p, q, r, rfl⟩ := hs _ _ h5
    rw [show c = [i64 x] from hr] at hj
    match j with
    | 0 => cases hj
    | j + 1 => simp at hj
  rw [cell_congr (hk b hb (World.block_lt_of_cell? w _ h5))]
  exact h5
end Go.Proofs.Ytodlkjjoenglgaa
