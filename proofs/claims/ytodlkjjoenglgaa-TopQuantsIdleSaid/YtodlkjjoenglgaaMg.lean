/- Parts of a proof about conditions: Canon2 Canon3 Ev3 Ev4 Ev5 Ev6. -/
import Derived.Test.YtodlkjjoenglgaaMa
import Derived.Test.YtodlkjjoenglgaaMe
import Derived.Test.YtodlkjjoenglgaaMf
/- A region that draws its order of evaluation, of whose loud operations two stand in no forced order: walked twice, once in each order of the two. -/
namespace Go.Proofs.Ytodlkjjoenglgaa
open Go Go.RowKit

section two
variable {P : Program} {ops : Array Oper} {Q : Exit → Act → World → Prop} {G : World → World → Prop}

/-- The edges of operation j, one on operation i more. -/
def Oper.onToo (o : Oper) (i : Nat) : Oper := { o with after := o.after.push ⟨i, .data⟩ }
/-- Operation j stands behind operation i. -/
def behind (ops : Array Oper) (i j : Nat) : Array Oper := ops.modify j fun o => Oper.onToo o i

theorem behind_size (i j : Nat) : (behind ops i j).size = ops.size := by simp [behind]
theorem behind_get (i j k : Nat) : (behind ops i j)[k]? = if j = k then (ops[k]?).map (fun o => Oper.onToo o i) else ops[k]? := by
  unfold behind
  rw [Array.getElem?_modify]
theorem behind_yielded (i j : Nat) (tmps : Array Value) : yielded (behind ops i j) tmps = yielded ops tmps := by
  funext g
  unfold yielded
  have : ((behind ops i j)[g]?).bind (·.dst) = (ops[g]?).bind (·.dst) := by
    rw [behind_get]
    split
    · cases ops[g]? <;> rfl
    · rfl
  rw [this]

theorem mem_behind {listed : Array Bool} {i j x : Nat} : x ∈ Region.ready .any (behind ops i j) listed ↔ x ∈ Region.ready .any ops listed ∧ (x = j → listed.getD i false = true) := by
  rw [mem_ready, mem_ready, behind_get]
  by_cases hx : j = x
  · subst hx
    rw [if_pos rfl]
    cases h : ops[j]? with
    | none => simp
    | some o =>
      simp only [Option.map_some, Option.some.injEq, exists_eq_left', forall_const]
      unfold Oper.onToo
      simp only [Array.mem_push]
      constructor
      · rintro ⟨h1, h2⟩
        exact ⟨⟨h1, fun e he hb => h2 e (.inl he) hb⟩, h2 ⟨i, .data⟩ (.inr rfl) rfl⟩
      · rintro ⟨⟨h1, h2⟩, h3⟩
        refine ⟨h1, fun e he hb => ?_⟩
        rcases he with he | rfl
        · exact h2 e he hb
        · exact h3
  · rw [if_neg hx]
    simp [Ne.symm hx]

theorem ready_behind {listed : Array Bool} {i j : Nat} (h : listed.getD i false = true) : Region.ready .any (behind ops i j) listed = Region.ready .any ops listed := by
  have hs := behind_size (ops := ops) i j
  unfold Region.ready
  rw [hs]
  apply List.filter_congr
  intro x hx
  have h1 := mem_behind (ops := ops) (listed := listed) (i := i) (j := j) (x := x)
  unfold Region.ready at h1
  rw [hs, List.mem_filter, List.mem_filter] at h1
  rw [Bool.eq_iff_iff]
  constructor
  · intro h2; exact (h1.1 ⟨hx, h2⟩).1.2
  · intro h2; exact (h1.2 ⟨⟨hx, h2⟩, fun _ => h⟩).2

theorem go_zero (t : Nat) (listed : Array Bool) : Region.linearise.go .any ops 0 t listed [] = [] := by simp [Region.linearise.go]
theorem go_nil {fuel t : Nat} {listed : Array Bool} (h : Region.ready .any ops listed = []) : Region.linearise.go .any ops (fuel + 1) t listed [] = [] := by
  simp only [Region.linearise.go]
  change (match (Region.ready .any ops listed)[t % (Region.ready .any ops listed).length]? with
      | some i => Region.linearise.go .any ops fuel (t / (Region.ready .any ops listed).length) (listed.setIfInBounds i true) [i]
      | none => [].reverse) = []
  rw [h]; rfl
theorem go_some {fuel t : Nat} {listed : Array Bool} {x : Nat} (h : (Region.ready .any ops listed)[t % (Region.ready .any ops listed).length]? = some x) :
    Region.linearise.go .any ops (fuel + 1) t listed [] = x :: Region.linearise.go .any ops fuel (t / (Region.ready .any ops listed).length) (listed.setIfInBounds x true) [] := by
  simp only [Region.linearise.go]
  change (match (Region.ready .any ops listed)[t % (Region.ready .any ops listed).length]? with
      | some i => Region.linearise.go .any ops fuel (t / (Region.ready .any ops listed).length) (listed.setIfInBounds i true) [i]
      | none => [].reverse) = _
  rw [h]
  simp only []
  rw [linearise_go_acc, List.reverse_singleton, List.singleton_append]
theorem go_pick {fuel t : Nat} {listed : Array Bool} {x : Nat} (h : x ∈ Region.ready .any ops listed) :
    ∃ t', Region.linearise.go .any ops (fuel + 1) t' listed [] = x :: Region.linearise.go .any ops fuel t (listed.setIfInBounds x true) [] := by
  obtain ⟨k, hk, hx⟩ := List.getElem_of_mem h
  refine ⟨k + (Region.ready .any ops listed).length * t, ?_⟩
  have hpos : 0 < (Region.ready .any ops listed).length := by omega
  have h1 : (k + (Region.ready .any ops listed).length * t) % (Region.ready .any ops listed).length = k := by rw [Nat.add_mul_mod_self_left, Nat.mod_eq_of_lt hk]
  have h2 : (k + (Region.ready .any ops listed).length * t) / (Region.ready .any ops listed).length = t := by rw [Nat.add_mul_div_left _ _ hpos, Nat.div_eq_of_lt hk, Nat.zero_add]
  rw [go_some (x := x) (by rw [h1, List.getElem?_eq_getElem hk, hx]), h2]

theorem go_behind {i j : Nat} : ∀ (fuel t : Nat) (listed : Array Bool), listed.getD i false = true → listed.size = ops.size →
    Region.linearise.go .any (behind ops i j) fuel t listed [] = Region.linearise.go .any ops fuel t listed [] := by
  intro fuel
  induction fuel with
  | zero => intro t listed _ _; rw [go_zero, go_zero]
  | succ fuel ih =>
    intro t listed h hs
    have hr := ready_behind (ops := ops) (j := j) h
    cases hx : (Region.ready .any ops listed)[t % (Region.ready .any ops listed).length]? with
    | none =>
      have hnil : Region.ready .any ops listed = [] := by
        cases hrr : Region.ready .any ops listed with
        | nil => rfl
        | cons x xs =>
          rw [hrr] at hx
          have hlt : t % (x :: xs).length < (x :: xs).length := Nat.mod_lt _ (by simp)
          rw [List.getElem?_eq_getElem hlt] at hx
          cases hx
      rw [go_nil hnil, go_nil (by rw [hr]; exact hnil)]
    | some x =>
      rw [go_some hx, go_some (x := x) (by rw [hr]; exact hx), hr]
      congr 1
      refine ih _ _ ?_ (by simpa using hs)
      by_cases hxi : i = x
      · subst hxi
        have hm := List.mem_of_getElem? hx
        rw [mem_ready] at hm
        obtain ⟨-, o, ho, -⟩ := hm
        have hlt := (Array.getElem?_eq_some_iff.1 ho).1
        rw [getD_set (by omega), if_pos rfl]
      · rw [getD_set_ne _ (Ne.symm hxi)]; exact h

theorem go_two {i j : Nat} (hne : i ≠ j) : ∀ (fuel t : Nat) (listed : Array Bool), listed.size = ops.size →
    (∃ t', Region.linearise.go .any (behind ops i j) fuel t' listed [] = Region.linearise.go .any ops fuel t listed []) ∨
    (∃ t', Region.linearise.go .any (behind ops j i) fuel t' listed [] = Region.linearise.go .any ops fuel t listed []) := by
  intro fuel
  induction fuel with
  | zero => intro t listed _; exact .inl ⟨0, by rw [go_zero, go_zero]⟩
  | succ fuel ih =>
    intro t listed hs
    cases hx : (Region.ready .any ops listed)[t % (Region.ready .any ops listed).length]? with
    | none =>
      have hnil : Region.ready .any ops listed = [] := by
        cases hrr : Region.ready .any ops listed with
        | nil => rfl
        | cons x xs =>
          rw [hrr] at hx
          have hlt : t % (x :: xs).length < (x :: xs).length := Nat.mod_lt _ (by simp)
          rw [List.getElem?_eq_getElem hlt] at hx
          cases hx
      refine .inl ⟨0, ?_⟩
      rw [go_nil hnil, go_nil]
      rw [List.eq_nil_iff_forall_not_mem]
      intro x hm
      have := (mem_behind.1 hm).1
      rw [hnil] at this
      cases this
    | some x =>
      have hm := List.mem_of_getElem? hx
      have hlt : x < ops.size := by
        rw [mem_ready] at hm
        obtain ⟨-, o, ho, -⟩ := hm
        exact (Array.getElem?_eq_some_iff.1 ho).1
      rw [go_some hx]
      have hs' : (listed.setIfInBounds x true).size = ops.size := by simpa using hs
      by_cases hxi : x = i
      · subst hxi
        left
        obtain ⟨t', h⟩ := go_pick (ops := behind ops x j) (fuel := fuel) (t := t / (Region.ready .any ops listed).length) (mem_behind.2 ⟨hm, fun e => absurd e hne⟩)
        exact ⟨t', by rw [h, go_behind _ _ _ (by rw [getD_set (by omega), if_pos rfl]) hs']⟩
      · by_cases hxj : x = j
        · subst hxj
          right
          obtain ⟨t', h⟩ := go_pick (ops := behind ops x i) (fuel := fuel) (t := t / (Region.ready .any ops listed).length) (mem_behind.2 ⟨hm, fun e => absurd e.symm hne⟩)
          exact ⟨t', by rw [h, go_behind _ _ _ (by rw [getD_set (by omega), if_pos rfl]) hs']⟩
        · rcases ih (t / (Region.ready .any ops listed).length) (listed.setIfInBounds x true) hs' with ⟨t1, h1⟩ | ⟨t1, h1⟩
          · left
            obtain ⟨t', h⟩ := go_pick (ops := behind ops i j) (fuel := fuel) (t := t1) (mem_behind.2 ⟨hm, fun e => absurd e hxj⟩)
            exact ⟨t', by rw [h, h1]⟩
          · right
            obtain ⟨t', h⟩ := go_pick (ops := behind ops j i) (fuel := fuel) (t := t1) (mem_behind.2 ⟨hm, fun e => absurd e hxi⟩)
            exact ⟨t', by rw [h, h1]⟩

theorem wp_onToo (o : Oper) (i : Nat) (a : Act) (w : World) (K : Act → World → Prop) : (Oper.onToo o i).wp P a w K Q = o.wp P a w K Q := rfl
theorem asks_onToo (o : Oper) (i : Nat) (a : Act) (w : World) : (Oper.onToo o i).asks P a w = o.asks P a w := rfl
theorem wpOp_behind (i j k : Nat) (K : Act → World → Prop) (a : Act) (w : World) : wpOp P (behind ops i j) Q k K a w = wpOp P ops Q k K a w := by
  unfold wpOp
  rw [behind_get, behind_yielded]
  split
  · rename_i h
    split at h
    · cases ho : ops[k]? with
      | none => rfl
      | some o => rw [ho] at h; cases h
    · rw [h]
  · rename_i o h
    split at h
    · cases ho : ops[k]? with
      | none => rw [ho] at h; cases h
      | some o' =>
        rw [ho] at h
        cases h
        rfl
    · rw [h]
theorem wpOps_behind (i j : Nat) : ∀ (l : List Nat) (a : Act) (w : World), wpOps P (behind ops i j) Q l a w ↔ wpOps P ops Q l a w := by
  intro l
  induction l with
  | nil => intro a w; simp [wpOps]
  | cons k l ih =>
    intro a w
    rw [wpOps_cons, wpOps_cons, wpOp_behind]
    exact ⟨wpOp_mono fun a w h => (ih a w).1 h, wpOp_mono fun a w h => (ih a w).2 h⟩

theorem seqW_behind (i j : Nat) : ∀ (ord : List (Nat × Nat)) (a : Act) (w : World), seqW G P ops Q ord a w → seqW G P (behind ops i j) Q ord a w := by
  intro ord
  induction ord with
  | nil => intro a w h; exact h
  | cons x ord ih =>
    obtain ⟨k, kd⟩ := x
    rintro a w ⟨o, ho, h⟩
    have key : ∀ o' : Oper, o'.dst = o.dst → Region.wanted o' (yielded ops a.tmps) = Region.wanted o (yielded ops a.tmps) → (∀ v, Stays G P o kd a w v → Stays G P o' kd a w v) → (∀ K K', (∀ a w, K a w → K' a w) → o.wp P a w K (NP Q) → o'.wp P a w K' (NP Q)) →
        (if kd ≤ 1 then
        (Region.wanted o' (yielded (behind ops i j) a.tmps) = true ∧ ∃ v, Stays G P o' kd a w v ∧ seqW G P (behind ops i j) Q ord (a.put o'.dst v) w) ∨
        (Region.wanted o' (yielded (behind ops i j) a.tmps) = false ∧ seqW G P (behind ops i j) Q ord (a.put o'.dst undef) w)
      else if Region.wanted o' (yielded (behind ops i j) a.tmps) then o'.wp P a w (fun a' w' => (kd = 2 → G w w') ∧ seqW G P (behind ops i j) Q ord a' w') (NP Q)
      else seqW G P (behind ops i j) Q ord (a.put o'.dst undef) w) := by
      intro o' hd hw hst hwp
      rw [behind_yielded, hw, hd]
      split at h
      · rename_i hk
        rw [if_pos hk]
        rcases h with ⟨h1, v, h2, h3⟩ | ⟨h1, h3⟩
        · exact .inl ⟨h1, v, hst v h2, ih _ _ h3⟩
        · exact .inr ⟨h1, ih _ _ h3⟩
      · rename_i hk
        rw [if_neg hk]
        split at h
        · rename_i h1
          rw [if_pos h1]
          exact hwp _ _ (fun a w h => ⟨h.1, ih _ _ h.2⟩) h
        · rename_i h1
          rw [if_neg h1]
          exact ih _ _ h
    by_cases hjk : j = k
    · refine ⟨Oper.onToo o i, by rw [behind_get, if_pos hjk, ho]; rfl, key _ rfl rfl (fun v h => h) fun K K' hK h => ?_⟩
      rw [wp_onToo]
      exact Oper.wp_mono hK h
    · exact ⟨o, by rw [behind_get, if_neg hjk, ho], key _ rfl rfl (fun v h => h) fun K K' hK h => Oper.wp_mono hK h⟩

theorem wpAny_canon (hr : ∀ w : World, G w w) (ht : ∀ {a b c : World}, G a b → G b c → G a c) {a : Act} {w : World} (ord : List (Nat × Nat)) (hok : canonB ops ord = true)
    (h : seqW G P ops Q ord a w) : wpAny P .any ops Q ops.size (Array.replicate ops.size false) a w := by
  have hc := canon_of_B hok
  refine canon_any hr ht hc ops.size [] ord (Array.replicate ops.size false) a a w (by simp) ?_ (by simpa using hc.pair) (by simpa using hc.lt) ?_ ?_ (by simp) ⟨rfl, rfl, fun _ _ => rfl⟩ (by simp) h
  · simpa using hc.len
  · intro i hi
    simp only [List.nil_append]
    constructor
    · intro _; exact hc.all i hi
    · intro _; simp [Array.getD_eq_getD_getElem?, hi]
  · intro i hi hl
    simp [Array.getD_eq_getD_getElem?, hi] at hl

/-- **A REGION THAT DRAWS, WALKED TWICE**: i ahead of j, and j ahead of i. -/
theorem wp_region_two (S : World → Prop) {id : Nat} {l : List Oper} {a : Act} {w : World} (i j : Nat) (ord1 ord2 : List (Nat × Nat)) (hne : i ≠ j) (hm : P.follows .mixedOrders = true)
    (ok1 : canonB (behind l.toArray i j) ord1 = true) (ok2 : canonB (behind l.toArray j i) ord2 = true) (hS : S w.drew)
    (h1 : S w.drew → seqL (Goes S) P l.toArray Q (ord1.map fun x => (nthOp l x.1, x.2)) a w.drew)
    (h2 : S w.drew → seqL (Goes S) P l.toArray Q (ord2.map fun x => (nthOp l x.1, x.2)) a w.drew) : (Code.region id l.toArray true).wp P Q a w := by
  have g1 := wpAny_canon (fun _ h => h) (fun h k x => k (h x)) ord1 ok1 (seqW_behind i j ord1 a w.drew (seqW_of_seqL l ord1 a w.drew (h1 hS)))
  have g2 := wpAny_canon (fun _ h => h) (fun h k x => k (h x)) ord2 ok2 (seqW_behind j i ord2 a w.drew (seqW_of_seqL l ord2 a w.drew (h2 hS)))
  refine wp_region_draw fun t => ?_
  simp only [Region.schedule, hm, Bool.true_or, if_true]
  unfold Region.linearise
  rcases go_two (ops := l.toArray) hne l.toArray.size t (Array.replicate l.toArray.size false) (by simp) with ⟨t', h⟩ | ⟨t', h⟩
  · rw [← h, ← wpOps_behind i j]
    have := wpAny_sound (behind l.toArray i j).size t' _ a w.drew g1
    rwa [behind_size] at this
  · rw [← h, ← wpOps_behind j i]
    have := wpAny_sound (behind l.toArray j i).size t' _ a w.drew g2
    rwa [behind_size] at this
end two
end Go.Proofs.Ytodlkjjoenglgaa

/- A region that draws its order of evaluation, all of whose operations only make the world grow, in whatever order: of each yield a fact is kept that growth keeps. -/
namespace Go.Proofs.Ytodlkjjoenglgaa
open Go Go.RowKit

section mono
variable {P : Program} {ops : Array Oper} {Q : Exit → Act → World → Prop} {G : World → World → Prop} {Pr : Nat → Value → World → Prop} {a0 : Act} {w0 : World}

/-- What an operation waits for. -/
def depsOf (o : Oper) : List Nat := (o.after.toList.filter fun e => Region.binds .any e).map (·.on)
/-- The frame in which the operations of a list have yielded. -/
def frD (ops : Array Oper) (env : Nat → Value) : List Nat → Act → Act
  | [], a => a
  | j :: l, a => frD ops env l (a.put (dstOf ops j) (env j))

def monoB (ops : Array Oper) : Bool :=
  let r := List.range ops.size
  r.all (fun i => (depsOf (ops.getD i default)).all fun j => decide (j < i)) &&
  r.all (fun i => ((ops.getD i default).looksAt ops).all fun t => r.all fun j => !(dstOf ops j == some t) || (depsOf (ops.getD i default)).contains j) &&
  r.all (fun i => r.all fun j => decide (i = j) || decide (dstOf ops i = none) || !(dstOf ops i == dstOf ops j)) &&
  r.all (fun i => (ops.getD i default).guard.isNone) &&
  r.all (fun i => match (ops.getD i default).op with | .select .. => false | _ => true)

structure Mono (ops : Array Oper) : Prop where
  deps : ∀ i, i < ops.size → ∀ j ∈ depsOf (ops.getD i default), j < i
  looks : ∀ i, i < ops.size → ∀ t ∈ (ops.getD i default).looksAt ops, ∀ j, j < ops.size → dstOf ops j = some t → j ∈ depsOf (ops.getD i default)
  dst : ∀ i, i < ops.size → ∀ j, j < ops.size → ∀ t, dstOf ops i = some t → dstOf ops j = some t → i = j
  guard : ∀ i, i < ops.size → (ops.getD i default).guard = none
  plain : ∀ i, i < ops.size → (match (ops.getD i default).op with | .select .. => false | _ => true) = true

theorem mono_of_B (h : monoB ops = true) : Mono ops := by
  unfold monoB at h
  simp only [Bool.and_eq_true, decide_eq_true_eq, List.all_eq_true, List.mem_range, List.contains_eq_mem, Bool.or_eq_true, Bool.not_eq_true', Option.isNone_iff_eq_none] at h
  obtain ⟨⟨⟨⟨h1, h2⟩, h3⟩, h4⟩, h5⟩ := h
  refine ⟨h1, fun i hi t ht j hj hd => ?_, fun i hi j hj t h6 h7 => ?_, h4, h5⟩
  · rcases h2 i hi t ht j hj with h | h
    · rw [hd] at h; simp at h
    · exact h
  · rcases h3 i hi j hj with (h | h) | h
    · exact h
    · rw [h6] at h; cases h
    · rw [h6, h7] at h; simp at h

theorem frD_defers (env : Nat → Value) : ∀ (l : List Nat) (a : Act), (frD ops env l a).defers = a.defers := by
  intro l
  induction l with
  | nil => intro a; rfl
  | cons j l ih => intro a; rw [frD, ih, put_defers]
theorem frD_size (env : Nat → Value) : ∀ (l : List Nat) (a : Act), (frD ops env l a).tmps.size = a.tmps.size := by
  intro l
  induction l with
  | nil => intro a; rfl
  | cons j l ih => intro a; rw [frD, ih, put_size]
theorem frD_other (env : Nat → Value) {t : Nat} : ∀ (l : List Nat) (a : Act), (∀ j ∈ l, dstOf ops j ≠ some t) → (frD ops env l a).tmps[t]? = a.tmps[t]? := by
  intro l
  induction l with
  | nil => intro a _; rfl
  | cons j l ih => intro a h; rw [frD, ih _ fun x hx => h x (List.mem_cons_of_mem _ hx), put_get (h j (List.mem_cons_self ..))]
theorem frD_at (env : Nat → Value) {t j : Nat} (hd : dstOf ops j = some t) : ∀ (l : List Nat) (a : Act), (∀ x ∈ l, dstOf ops x = some t → x = j) → j ∈ l → (frD ops env l a).tmps[t]? = if t < a.tmps.size then some (env j) else none := by
  intro l
  induction l with
  | nil => intro a _ h; cases h
  | cons x l ih =>
    intro a hu hm
    rw [frD]
    by_cases hjl : j ∈ l
    · rw [ih _ (fun y hy => hu y (List.mem_cons_of_mem _ hy)) hjl, put_size]
    · have hx : x = j := by
        rcases List.mem_cons.1 hm with h | h
        · exact h.symm
        · exact absurd h hjl
      subst hx
      rw [frD_other env l _ fun y hy hyd => hjl (hu y (List.mem_cons_of_mem _ hy) hyd ▸ hy), hd]
      by_cases ht : t < a.tmps.size
      · rw [if_pos ht, put_same ht]
      · rw [if_neg ht, Array.getElem?_eq_none (by rw [put_size]; omega)]

/-- Where the run stands: the operations that are listed have yielded env. -/
structure MonoAt (ops : Array Oper) (G : World → World → Prop) (Pr : Nat → Value → World → Prop) (a0 : Act) (w0 : World) (listed : Array Bool) (env : Nat → Value) (a : Act) (w : World) : Prop where
  size : listed.size = ops.size
  defers : a.defers = a0.defers
  tsize : a.tmps.size = a0.tmps.size
  other : ∀ t, (∀ j, j < ops.size → listed.getD j false = true → dstOf ops j ≠ some t) → a.tmps[t]? = a0.tmps[t]?
  mine : ∀ j, j < ops.size → listed.getD j false = true → ∀ t, dstOf ops j = some t → a.tmps[t]? = if t < a0.tmps.size then some (env j) else none
  facts : ∀ j, j < ops.size → listed.getD j false = true → Pr j (env j) w
  grown : G w0 w

/-- What an operation owes. -/
def MonoStep (G : World → World → Prop) (P : Program) (ops : Array Oper) (Q : Exit → Act → World → Prop) (Pr : Nat → Value → World → Prop) (a0 : Act) (w0 : World) (i : Nat) (o : Oper) : Prop :=
  ∀ env w, G w0 w → (∀ j ∈ depsOf o, Pr j (env j) w) → ∀ K : Act → World → Prop, (∀ a' w' v, a' = (frD ops env (depsOf o) a0).put o.dst v → G w w' → Pr i v w' → K a' w') → o.wp P (frD ops env (depsOf o) a0) w K (NP Q)

theorem mono_any (hm : Mono ops) (ht : ∀ {a b c : World}, G a b → G b c → G a c) (hP : ∀ i v w w', G w w' → Pr i v w → Pr i v w')
    (hstep : ∀ i o, ops[i]? = some o → MonoStep G P ops Q Pr a0 w0 i o)
    (hfin : ∀ env w, G w0 w → (∀ j, j < ops.size → Pr j (env j) w) → Q .normal (frD ops env (List.range ops.size) a0) w) :
    ∀ (fuel : Nat) (pend : List Nat) (listed : Array Bool) (env : Nat → Value) (a : Act) (w : World), pend.Nodup → pend.length ≤ fuel → (∀ i, i < ops.size → (listed.getD i false = false ↔ i ∈ pend)) → MonoAt ops G Pr a0 w0 listed env a w → wpAny P .any ops Q fuel listed a w := by
  have hend : ∀ (pend : List Nat) (listed : Array Bool) (env : Nat → Value) (a : Act) (w : World), (∀ i, i < ops.size → (listed.getD i false = false ↔ i ∈ pend)) → MonoAt ops G Pr a0 w0 listed env a w → Region.ready .any ops listed = [] → Q .normal a w := by
    intro pend listed env a w hp hA hr
    have hall : ∀ m, ∀ i, i < m → i < ops.size → listed.getD i false = true := by
      intro m
      induction m with
      | zero => intro i hi; omega
      | succ m ih =>
        intro i hi hlt
        by_cases hl : listed.getD i false = true
        · exact hl
        · exfalso
          have hl : listed.getD i false = false := by simpa using hl
          have hin : i ∈ Region.ready .any ops listed := by
            rw [mem_ready]
            have hgo : ops[i]? = some ops[i] := Array.getElem?_eq_getElem hlt
            refine ⟨?_, ops[i], hgo, fun e he hb => ?_⟩
            · rw [Array.getD_eq_getD_getElem?] at hl ⊢
              rw [Array.getElem?_eq_getElem (by have := hA.size; omega)] at hl ⊢
              exact hl
            · have hd : ops.getD i default = ops[i] := by rw [Array.getD_eq_getD_getElem?, hgo]; rfl
              have hj := hm.deps i hlt e.on (by
                rw [hd]
                exact List.mem_map.2 ⟨e, List.mem_filter.2 ⟨Array.mem_toList_iff.2 he, hb⟩, rfl⟩)
              exact ih e.on (by omega) (by omega)
          rw [hr] at hin
          cases hin
    have ha : a = frD ops env (List.range ops.size) a0 := by
      have h1 := frD_defers (ops := ops) env (List.range ops.size) a0
      have h2 : a.tmps = (frD ops env (List.range ops.size) a0).tmps := by
        apply Array.ext_getElem?
        intro t
        by_cases hex : ∃ j, j < ops.size ∧ dstOf ops j = some t
        · obtain ⟨j, hj, hd⟩ := hex
          rw [hA.mine j hj (hall _ j (Nat.lt_succ_self j) hj) t hd, frD_at env hd _ _ (fun x hx hxd => hm.dst x (List.mem_range.1 hx) j hj t hxd hd) (List.mem_range.2 hj)]
        · have hne : ∀ j, j < ops.size → dstOf ops j ≠ some t := fun j hj hd => hex ⟨j, hj, hd⟩
          rw [hA.other t fun j hj _ => hne j hj, frD_other env _ _ fun j hj => hne j (List.mem_range.1 hj)]
      have h3 := hA.defers
      generalize frD ops env (List.range ops.size) a0 = b at h1 h2
      obtain ⟨x1, x2⟩ := a
      obtain ⟨y1, y2⟩ := b
      simp only at h1 h2 h3
      rw [h2, h3, h1]
    rw [ha]
    exact hfin env w hA.grown fun j hj => hA.facts j hj (hall _ j (Nat.lt_succ_self j) hj)
  intro fuel
  induction fuel with
  | zero =>
    intro pend listed env a w hnd hlen hp hA
    have h0 : pend = [] := List.eq_nil_of_length_eq_zero (by omega)
    subst h0
    have hr : Region.ready .any ops listed = [] := by
      rw [List.eq_nil_iff_forall_not_mem]
      intro i hi
      rw [mem_ready] at hi
      obtain ⟨h1, o, ho, _⟩ := hi
      have hlt : i < ops.size := (Array.getElem?_eq_some_iff.1 ho).1
      have : listed.getD i false = false := by
        rw [Array.getD_eq_getD_getElem?] at h1 ⊢
        rw [Array.getElem?_eq_getElem (by have := hA.size; omega)] at h1 ⊢
        exact h1
      exact absurd ((hp i hlt).1 this) (by simp)
    exact ⟨hr, hend [] listed env a w hp hA hr⟩
  | succ fuel ih =>
    intro pend listed env a w hnd hlen hp hA
    refine ⟨fun hr => hend pend listed env a w hp hA hr, fun i hi => ?_⟩
    obtain ⟨h1, o, ho, hedges⟩ := mem_ready.1 hi
    have hlt : i < ops.size := (Array.getElem?_eq_some_iff.1 ho).1
    have hgo : ops.getD i default = o := by rw [Array.getD_eq_getD_getElem?, ho]; rfl
    have hsz := hA.size
    have hul : listed.getD i false = false := by
      rw [Array.getD_eq_getD_getElem?] at h1 ⊢
      rw [Array.getElem?_eq_getElem (by omega)] at h1 ⊢
      exact h1
    have hip := (hp i hlt).1 hul
    have hdl : ∀ j ∈ depsOf o, j < ops.size ∧ listed.getD j false = true := by
      intro j hj
      have hji := hm.deps i hlt j (by rw [hgo]; exact hj)
      obtain ⟨e, he, rfl⟩ := List.mem_map.1 hj
      obtain ⟨he1, he2⟩ := List.mem_filter.1 he
      exact ⟨by omega, hedges e (Array.mem_toList_iff.1 he1) he2⟩
    have hg : o.guard = none := by have := hm.guard i hlt; rwa [hgo] at this
    have hsame : ∀ t ∈ o.looksAt ops, (frD ops env (depsOf o) a0).tmps[t]? = a.tmps[t]? := by
      intro t ht'
      by_cases hex : ∃ j, j < ops.size ∧ dstOf ops j = some t
      · obtain ⟨j, hj, hd⟩ := hex
        have hjd := hm.looks i hlt t (by rw [hgo]; exact ht') j hj hd
        rw [hgo] at hjd
        rw [hA.mine j hj (hdl j hjd).2 t hd, frD_at env hd _ _ (fun x hx hxd => hm.dst x (hdl x hx).1 j hj t hxd hd) hjd]
      · have hne : ∀ j, j < ops.size → dstOf ops j ≠ some t := fun j hj hd => hex ⟨j, hj, hd⟩
        rw [hA.other t fun j hj _ => hne j hj, frD_other env _ _ fun j hj => hne j (hdl j hj).1]
    have hexec : execOp a.eval o = execOp (frD ops env (depsOf o) a0).eval o := by
      have hpl := hm.plain i hlt
      rw [hgo] at hpl
      exact (execOp_congr o (fun cs b e => by rw [e] at hpl; cases hpl) (fun x hx => eval_same hsame x hx)).symm
    have hs := hstep i o ho env w hA.grown (fun j hj => hA.facts j (hdl j hj).1 (hdl j hj).2)
      (fun a' w' => ∃ v, a' = (frD ops env (depsOf o) a0).put o.dst v ∧ G w w' ∧ Pr i v w') (fun a' w' v h1 h2 h3 => ⟨v, h1, h2, h3⟩)
    have hnext : ∀ (u : Value) (w' : World) (ds : List Deferred), (∃ v, ({ frD ops env (depsOf o) a0 with defers := ds } : Act).put o.dst u = (frD ops env (depsOf o) a0).put o.dst v ∧ G w w' ∧ Pr i v w') →
        wpAny P .any ops Q fuel (listed.setIfInBounds i true) (({ a with defers := ds } : Act).put o.dst u) w' := by
      rintro u w' ds ⟨v, hv, hG, hPv⟩
      have hds : ds = a0.defers := by
        have := congrArg Act.defers hv
        rw [put_defers, put_defers, frD_defers] at this
        exact this
      refine ih (pend.erase i) _ (fun j => if j = i then v else env j) _ w' (hnd.erase i) (by rw [List.length_erase_of_mem hip]; omega) (fun j hj => ?_) ⟨by simpa using hsz, ?_, ?_, fun t htn => ?_, fun j hj hl t hd => ?_, fun j hj hl => ?_, ht hA.grown hG⟩
      · rw [getD_set (by omega), hnd.mem_erase_iff]
        by_cases hji : j = i
        · rw [if_pos hji]; simp [hji]
        · rw [if_neg hji, hp j hj]; simp [hji]
      · rw [put_defers]; exact hds
      · rw [put_size]; exact hA.tsize
      · have hne : o.dst ≠ some t := by
          have := htn i hlt (by rw [getD_set (by omega), if_pos rfl])
          rwa [dstOf_eq ho] at this
        rw [put_get hne]
        refine hA.other t fun j hj hl => htn j hj ?_
        rw [getD_set (by omega)]
        split
        · rfl
        · exact hl
      · by_cases hji : j = i
        · subst hji
          rw [dstOf_eq ho] at hd
          rw [if_pos rfl]
          by_cases hts : t < a0.tmps.size
          · have h5 := congrArg (fun x => x.tmps[t]?) hv
            simp only [hd] at h5
            rw [put_same (by rw [frD_size]; exact hts), put_same (by rw [frD_size]; exact hts)] at h5
            rw [if_pos hts, hd, put_same (by show t < a.tmps.size; rw [hA.tsize]; exact hts)]
            exact h5
          · rw [if_neg hts, Array.getElem?_eq_none (by rw [put_size]; show a.tmps.size ≤ t; rw [hA.tsize]; exact Nat.le_of_not_lt hts)]
        · rw [if_neg hji, put_get (fun e => hji (hm.dst j hj i hlt t hd (by rw [dstOf_eq ho]; exact e)))]
          rw [getD_set (by omega), if_neg hji] at hl
          exact hA.mine j hj hl t hd
      · by_cases hji : j = i
        · rw [if_pos hji, hji]; exact hPv
        · rw [if_neg hji]
          rw [getD_set (by omega), if_neg hji] at hl
          exact hP j _ w w' hG (hA.facts j hj hl)
    have hdef : (frD ops env (depsOf o) a0).defers = a.defers := by rw [frD_defers, hA.defers]
    unfold wpOp
    rw [ho]
    simp only
    rw [if_pos (show Region.wanted o (yielded ops a.tmps) = true by unfold Region.wanted; rw [hg])]
    refine .inl ?_
    unfold Oper.wp at hs ⊢
    rw [hexec]
    generalize (execOp (frD ops env (depsOf o) a0).eval o).run P w = r at hs ⊢
    cases r with
    | ok n w' =>
      cases n <;> simp only [Oper.upon] at hs ⊢
      case value u =>
        have := hnext u w' a.defers (by rw [← hdef]; exact hs)
        exact this
      case skip =>
        have := hnext undef w' a.defers (by rw [← hdef]; exact hs)
        exact this
      case defer d =>
        have := hnext undef w' (d :: a.defers) (by rw [← hdef]; exact hs)
        exact this
      case enter f args =>
        refine Calls.mono hs fun e w'' he => ?_
        cases e with
        | returned u =>
          have := hnext u w'' a.defers (by rw [← hdef]; exact he)
          exact this
        | panicked c => exact he.elim
        | outgrown => exact he
      case row row args =>
        refine Rows.mono hs fun u w'' he => ?_
        have := hnext u w'' a.defers (by rw [← hdef]; exact he)
        exact this
    | halt x w' =>
      cases x <;> simp only [Oper.upon] at hs ⊢
      case panic u => exact hs.elim

def monoL (G : World → World → Prop) (P : Program) (ops : Array Oper) (Q : Exit → Act → World → Prop) (Pr : Nat → Value → World → Prop) (a0 : Act) (w0 : World) : Nat → List Oper → Prop
  | _, [] => True
  | i, o :: r => MonoStep G P ops Q Pr a0 w0 i o ∧ monoL G P ops Q Pr a0 w0 (i + 1) r
theorem monoL_get : ∀ (l : List Oper) (b i : Nat) (o : Oper), monoL G P ops Q Pr a0 w0 b l → l[i]? = some o → MonoStep G P ops Q Pr a0 w0 (b + i) o := by
  intro l
  induction l with
  | nil => intro b i o _ h; simp at h
  | cons x l ih =>
    intro b i o hl hi
    cases i with
    | zero => simp only [List.getElem?_cons_zero, Option.some.injEq] at hi; subst hi; exact hl.1
    | succ i =>
      have := ih (b + 1) i o hl.2 (by simpa using hi)
      rwa [show b + 1 + i = b + (i + 1) by omega] at this

/-- **A REGION ALL OF WHOSE OPERATIONS ONLY MAKE THE WORLD GROW**, walked once, in no order at all. -/
theorem wp_region_mono (G : World → World → Prop) (Pr : Nat → Value → World → Prop) {id : Nat} {l : List Oper} {a : Act} {w : World} (hf : P.follows .mixedOrders = true) (hok : monoB l.toArray = true) (hr : ∀ w : World, G w w) (ht : ∀ {a b c : World}, G a b → G b c → G a c)
    (hP : ∀ i v w w', G w w' → Pr i v w → Pr i v w')
    (hsteps : monoL G P l.toArray Q Pr a w.drew 0 l)
    (hfin : ∀ env w', G w.drew w' → (∀ j, j < l.length → Pr j (env j) w') → Q .normal (frD l.toArray env (List.range l.length) a) w') : (Code.region id l.toArray true).wp P Q a w := by
  refine wp_region_any hf (mono_any (G := G) (Pr := Pr) (mono_of_B hok) ht hP (a0 := a) (w0 := w.drew) (fun i o ho => ?_) (fun env w' h1 h2 => ?_) l.toArray.size (List.range l.toArray.size) _ (fun _ => undef) a w.drew List.nodup_range (by simp) (fun i hi => ?_) ⟨by simp, rfl, rfl, fun _ _ => rfl, fun j hj hl => ?_, fun j hj hl => ?_, hr _⟩)
  · have := monoL_get l 0 i o hsteps (by simpa using ho)
    rwa [Nat.zero_add] at this
  · have := hfin env w' h1 (by simpa using h2)
    simpa using this
  · simp [Array.getD_eq_getD_getElem?, List.mem_range] at hi ⊢
    simp [hi]
  · have h0 : (Array.replicate l.toArray.size false).getD j false = false := by rw [Array.getD_eq_getD_getElem?, Array.getElem?_replicate]; split <;> rfl
    rw [h0] at hl; cases hl
  · have h0 : (Array.replicate l.toArray.size false).getD j false = false := by rw [Array.getD_eq_getD_getElem?, Array.getElem?_replicate]; split <;> rfl
    rw [h0] at hl; cases hl
end mono
end Go.Proofs.Ytodlkjjoenglgaa

/- condition.each. -/
namespace Go.Proofs.Ytodlkjjoenglgaa
open Go Go.RowKit

/-- The evaluator in its block. -/
def EvAt (w : World) (vb : Nat) (d : DomV) (tv nv hv : Value) : Prop := w.heap[vb]? = some (.cells #[d.tv, d.ov, d.pv, d.sv, d.iv, d.gv, tv, nv, hv] 98)
theorem EvAt.ext {w w' : World} {vb : Nat} {d : DomV} {tv nv hv : Value} (h : EvAt w vb d tv nv hv) (e : Ext w w') : EvAt w' vb d tv nv hv := e.block h

theorem all_of_miss {X : Type} {l : List X} {q : X → Bool} {k : Nat} {x : X} (hx : l[k]? = some x) (h : q x = false) : l.all q = false := by
  rw [List.all_eq_false]
  exact ⟨x, List.mem_of_getElem? hx, by rw [h]; decide⟩
theorem all_of_all {X : Type} {l : List X} {q : X → Bool} (h : ∀ j x, j < l.length → l[j]? = some x → q x = true) : l.all q = true := by
  rw [List.all_eq_true]
  intro x hx
  obtain ⟨j, hj, rfl⟩ := List.getElem_of_mem hx
  exact h j _ hj (List.getElem?_eq_getElem hj)

set_option maxRecDepth 20000 in
set_option maxHeartbeats 4000000 in
theorem each_any (w : World) (vb : Nat) (d : DomV) (D : Dom) (hd : DomAt w d D) (hpre : DomPre D) (tv nv hv : Value) (hev : EvAt w vb d tv nv hv) (x : Nd) (cv av : Value) (c : Int) (hcv : IntsAt w cv [c]) (pv : Value) (ps : List Int) (hp : IntsAt w pv ps) (hps : ps.length ≤ 1000)
    (want : Bool) (p : Int → Bool) (hcall : ∀ W, Ext w W → ∀ o pv', IntsAt W pv' (ps ++ [o]) → o ∈ ofL D.types D.objects x.typ → Calls Try.prog 65 #[ptr vb, i64 c, pv'] W fun e W' => e = .returned (.bool (p o)) ∧ Ext W W') :
    Calls Try.prog 88 #[ptr vb, nodeAgg x cv av, pv, .bool want] w fun e w' => e = .returned (.bool ((ofL D.types D.objects x.typ).all fun o => !(p o != want))) ∧ Ext w w' := by
  obtain ⟨i0, hi, hz0, hz1, hz2⟩ := info_parts info3
  have hof := fun W (hW : Ext w W) => of_any W d.tv d.ov D.types D.objects x.typ (Sl.ext hd.types hW fun _ _ h => h) (Sl.ext hd.objects hW fun _ _ h => h) hpre.hier hpre.objs hpre.nobj
  have hclone := fun W (hW : Ext w W) => clone_owns W pv ps (hp.ext hW).rd (by omega)
  have hol : (ofL D.types D.objects x.typ).length ≤ 8 := by
    unfold ofL
    rw [List.length_map]
    refine Nat.le_trans (List.length_filter_le _ _) ?_
    rw [List.length_range]; exact hpre.nobj
  obtain ⟨ol, hole⟩ : ∃ ol, ofL D.types D.objects x.typ = ol := ⟨_, rfl⟩
  rw [hole] at hol hof hcall ⊢
  obtain ⟨ca, ccap, rfl, -, c2, c3, hcc⟩ := hcv.open
  obtain ⟨cb, coff, rfl, hcell⟩ := hcc 0 (by simp)
  have hcell : w.cell? ⟨cb, coff, none⟩ = some (i64 c) := by simpa using hcell
  obtain ⟨pn, hpn⟩ : ∃ n, ps.length = n := ⟨_, rfl⟩
  obtain ⟨pa, pcap, rfl⟩ := hp.slice
  rw [hpn] at hps hclone ⊢
  obtain ⟨r, hr⟩ : ∃ r, (ol.all fun o => !(p o != want)) = r := ⟨_, rfl⟩
  rw [hr]
  obtain ⟨t1, tn1, tcap1, e1⟩ := hd.types.slice
  obtain ⟨t2, tn2, tcap2, e2⟩ := hd.objects.slice
  rw [e1, e2] at hof
  unfold EvAt at hev
  rw [e1, e2] at hev
  obtain ⟨kd, pd, ar, lf, rg, tp⟩ := x
  have HOF := Lib.hid hof
  have HCL := Lib.hid hclone
  have HCALL := Lib.hid hcall
  have HEV := Lib.hid hev
  have HR := Lib.hid hr
  have HPN := Lib.hid hpn
  clear hd hpre hcv hcc hp hof hclone hcall hev hole hr hpn e1 e2
  go_enter Try.func88, Try.ntmps88
  go_wp2_with fail
  obtain ⟨b0, b1⟩ : (w.alloc (.cells #[i64 kd, .slice (some ⟨cb, coff, none⟩) 1 ccap, i64 pd, av, i64 lf, i64 rg, i64 tp] 48)).cell? ⟨vb, 0, none⟩ = some (.slice t1 tn1 tcap1) ∧ (w.alloc (.cells #[i64 kd, .slice (some ⟨cb, coff, none⟩) 1 ccap, i64 pd, av, i64 lf, i64 rg, i64 tp] 48)).cell? ⟨vb, 1, none⟩ = some (.slice t2 tn2 tcap2) := by
    have h := (((Ext.refl w).alloc (.cells #[i64 kd, .slice (some ⟨cb, coff, none⟩) 1 ccap, i64 pd, av, i64 lf, i64 rg, i64 tp] 48))).block HEV.out
    exact ⟨by rw [cell_of_heap h]; rfl, by rw [cell_of_heap h]; rfl⟩
  have g6 : (w.alloc (.cells #[i64 kd, .slice (some ⟨cb, coff, none⟩) 1 ccap, i64 pd, av, i64 lf, i64 rg, i64 tp] 48)).cell? ⟨w.heap.size, 6, none⟩ = some (i64 tp) := by rw [World.cell?_alloc_new]; rfl
  refine wp_region_seq (Ext (w.alloc (.cells #[i64 kd, .slice (some ⟨cb, coff, none⟩) 1 ccap, i64 pd, av, i64 lf, i64 rg, i64 tp] 48))) [(0, 0), (1, 0), (2, 0), (3, 0), (4, 1), (5, 0), (6, 0), (7, 0), (8, 0), (9, 1), (10, 0), (11, 1), (14, 0), (12, 2), (13, 0)] (by kernel_rfl) (by kernel_rfl) (Ext.refl _).drew (fun hS => ?_)
  simp only [List.map, nthOp]
  refine seqL_yield rfl (fun w' => by go_simp; rfl) ?_
  try simp only [Act.put, List.setIfInBounds_toArray, List.set_cons_zero, List.set_cons_succ]
  refine seqL_yield rfl (fun w' => by go_simp; rfl) ?_
  try simp only [Act.put, List.setIfInBounds_toArray, List.set_cons_zero, List.set_cons_succ]
  refine seqL_yield rfl (fun w' => by go_simp; rfl) ?_
  try simp only [Act.put, List.setIfInBounds_toArray, List.set_cons_zero, List.set_cons_succ]
  refine seqL_yield rfl (fun w' => by go_simp; rfl) ?_
  try simp only [Act.put, List.setIfInBounds_toArray, List.set_cons_zero, List.set_cons_succ]
  refine seqL_read hS rfl (fun w' hE => by have q := hE.cell b0; clear hE; go_simp; rfl) ?_
  try simp only [Act.put, List.setIfInBounds_toArray, List.set_cons_zero, List.set_cons_succ]
  refine seqL_yield rfl (fun w' => by go_simp; rfl) ?_
  try simp only [Act.put, List.setIfInBounds_toArray, List.set_cons_zero, List.set_cons_succ]
  refine seqL_yield rfl (fun w' => by go_simp; rfl) ?_
  try simp only [Act.put, List.setIfInBounds_toArray, List.set_cons_zero, List.set_cons_succ]
  refine seqL_yield rfl (fun w' => by go_simp; rfl) ?_
  try simp only [Act.put, List.setIfInBounds_toArray, List.set_cons_zero, List.set_cons_succ]
  refine seqL_yield rfl (fun w' => by go_simp; rfl) ?_
  try simp only [Act.put, List.setIfInBounds_toArray, List.set_cons_zero, List.set_cons_succ]
  refine seqL_read hS rfl (fun w' hE => by have q := hE.cell b1; clear hE; go_simp; rfl) ?_
  try simp only [Act.put, List.setIfInBounds_toArray, List.set_cons_zero, List.set_cons_succ]
  refine seqL_yield rfl (fun w' => by go_simp; rfl) ?_
  try simp only [Act.put, List.setIfInBounds_toArray, List.set_cons_zero, List.set_cons_succ]
  refine seqL_read hS rfl (fun w' hE => by have q := hE.cell g6; clear hE; go_simp; rfl) ?_
  try simp only [Act.put, List.setIfInBounds_toArray, List.set_cons_zero, List.set_cons_succ]
  refine seqL_yield rfl (fun w' => by go_simp; rfl) ?_
  try simp only [Act.put, List.setIfInBounds_toArray, List.set_cons_zero, List.set_cons_succ]
  refine seqL_grow rfl (fun K hK => ?_)
  have HKK := Lib.hid hK
  clear hK
  go_simp
  refine (HOF.out _ (((Ext.refl w).alloc _).trans hS)).mono ?_
  rintro e w2 ⟨v', rfl, hE2, hown⟩
  have HOWN := Lib.hid hown
  have HS2 := Lib.hid (hS.trans hE2)
  obtain ⟨oa, ocap, rfl, o1, o2, orow⟩ := owns_row hown
  have OROW := Lib.hid orow
  clear orow hown
  refine HKK.out _ _ (hS.trans hE2) (fun hS => ?_)
  clear HKK K hE2
  try simp only [Act.put, List.setIfInBounds_toArray, List.set_cons_zero, List.set_cons_succ]
  refine seqL_yield rfl (fun w' => by go_simp; rfl) ?_
  try simp only [Act.put, List.setIfInBounds_toArray, List.set_cons_zero, List.set_cons_succ]
  refine seqL_nil ?_
  clear b0 b1 g6
  have H0 : Hid (∀ j o, j < 0 → ol[j]? = some o → (p o != want) = false) := fun j o hj => absurd hj (Nat.not_lt_zero j)
  have HBX : Hid (w2.heap[w.heap.size]? = some (.cells #[i64 kd, .slice (some ⟨cb, coff, none⟩) 1 ccap, i64 pd, av, i64 lf, i64 rg, i64 tp] 48)) := HS2.out.block (heap_alloc_new _ _)
  have HW2 : Hid (Ext w w2) := HS2.out.of_new
  obtain ⟨n, hn⟩ : ∃ n, ol.length = n := ⟨_, rfl⟩
  rw [hn] at hol o1 OROW ⊢
  have HN := Lib.hid hn
  have HCC0 := Lib.hid hcell
  unfold maxLen at o2
  clear hn HOWN HS2 hS hcell
  go_wp2_with fail
  go_loopw [25] (fun i wr => ∃ k : Nat, k ≤ n ∧ i = .int .i64 k ∧ Hid (∀ j o, j < k → ol[j]? = some o → (p o != want) = false) ∧ Ext w2 wr) (fun i _ => n - (intOf i).toNat)
  case atStart => exact ⟨0, Nat.zero_le _, rfl, H0, Ext.refl _⟩
  case round =>
    obtain ⟨k, hk, rfl, H, hE⟩ := hrel
    clear H0
    have HE := Lib.hid (HW2.out.trans hE)
    have HSS := Lib.hid hE
    clear hE
    by_cases hlt : k < n
    · obtain ⟨o, ho⟩ : ∃ o, ol[k]? = some o := ⟨ol[k]'(by have := HN.out; omega), List.getElem?_eq_getElem _⟩
      have HO := Lib.hid ho
      have HMEM := Lib.hid (List.mem_of_getElem? ho)
      obtain ⟨ob, ooff, rfl, orow⟩ := OROW.out k hlt [i64 o] (Nat.le_refl _) (fun j y hj => by
        match j with
        | 0 => cases hj; rw [Nat.mul_one, Nat.add_zero, List.getElem?_map, ho]; rfl
        | j + 1 => simp at hj)
      have e0 : wr.cell? ⟨ob, ooff + k, none⟩ = some (i64 o) := by have := HSS.out.cell (orow 0 _ rfl); simpa using this
      have hb := HSS.out.block HBX.out
      have h1 : wr.cell? ⟨w.heap.size, 1, none⟩ = some (.slice (some ⟨cb, coff, none⟩) 1 ccap) := by rw [cell_of_heap hb]; rfl
      have hcc0 : wr.cell? ⟨cb, coff, none⟩ = some (i64 c) := HE.out.cell HCC0.out
      clear ho orow hb
      go_wp2_with fail
      refine wp_region_two (Ext wr) 6 8 [(0, 0), (1, 0), (2, 1), (3, 0), (4, 1), (5, 0), (7, 0), (11, 0), (6, 2), (8, 2), (9, 2), (10, 2), (12, 0)] [(0, 0), (1, 0), (2, 1), (3, 0), (4, 1), (5, 0), (7, 0), (11, 0), (8, 2), (6, 2), (9, 2), (10, 2), (12, 0)] (by decide) (by kernel_rfl) (by kernel_rfl) (by kernel_rfl) (Ext.refl wr).drew (fun hS => ?_) (fun hS => ?_)
      · simp only [List.map, nthOp]
        refine seqL_yield rfl (fun w' => by go_simp; rfl) ?_
        try simp only [Act.put, List.setIfInBounds_toArray, List.set_cons_zero, List.set_cons_succ]
        refine seqL_yield rfl (fun w' => by go_simp; rfl) ?_
        try simp only [Act.put, List.setIfInBounds_toArray, List.set_cons_zero, List.set_cons_succ]
        refine seqL_read hS rfl (fun w' hE => by have q := hE.cell h1; clear hE; go_simp; rfl) ?_
        try simp only [Act.put, List.setIfInBounds_toArray, List.set_cons_zero, List.set_cons_succ]
        refine seqL_yield rfl (fun w' => by go_simp; rfl) ?_
        try simp only [Act.put, List.setIfInBounds_toArray, List.set_cons_zero, List.set_cons_succ]
        refine seqL_read hS rfl (fun w' hE => by have q := hE.cell hcc0; clear hE; go_simp; rfl) ?_
        try simp only [Act.put, List.setIfInBounds_toArray, List.set_cons_zero, List.set_cons_succ]
        refine seqL_yield rfl (fun w' => by go_simp; rfl) ?_
        try simp only [Act.put, List.setIfInBounds_toArray, List.set_cons_zero, List.set_cons_succ]
        refine seqL_yield rfl (fun w' => by go_simp; rfl) ?_
        try simp only [Act.put, List.setIfInBounds_toArray, List.set_cons_zero, List.set_cons_succ]
        refine seqL_yield rfl (fun w' => by go_simp; rfl) ?_
        try simp only [Act.put, List.setIfInBounds_toArray, List.set_cons_zero, List.set_cons_succ]
        refine seqL_grow rfl (fun K hK => ?_)
        have HKK := Lib.hid hK
        clear hK
        go_simp
        refine (HCL.out _ (HE.out.trans hS)).mono ?_
        rintro e w2 ⟨v', rfl, hE2, hown⟩
        have hbase := hS.size
        have hsz2 := hE2.size
        have hS2 := hS.trans hE2
        refine HKK.out _ _ hS2 (fun hS2' => ?_)
        clear HKK K hS2'
        try simp only [Act.put, List.setIfInBounds_toArray, List.set_cons_zero, List.set_cons_succ]
        refine seqL_grow rfl (fun K hK => ?_)
        have HKK := Lib.hid hK
        clear hK
        go_simp
        refine HKK.out _ _ (hS2.alloc _) (fun hS3 => ?_)
        clear HKK K
        try simp only [Act.put, List.setIfInBounds_toArray, List.set_cons_zero, List.set_cons_succ]
        have hown1 := hown.alloc (.cells #[i64 o] 3)
        have hnews := World.news_of_block (heap_alloc_new w2 (.cells #[i64 o] 3))
        have hbs : wr.drew.heap.size ≤ (w2.alloc (.cells #[i64 o] 3)).heap.size := by rw [World.size_alloc]; omega
        refine seqL_grow rfl (fun K hK => ?_)
        have HKK := Lib.hid hK
        clear hK
        refine wp_append_lies _ _ _ 30 rfl wr.drew.heap.size 3 i0 (.int .i64 0) 1 8 Try.underlying30 hi hz0 hz1 hz2 rfl (by decide) v' pn (ps.map i64) rfl hown1 ⟨w2.heap.size, 0, none⟩ 1 1 [i64 o] rfl rfl hnews (by simp [Value.oneCell']) (by decide) (by unfold maxLen; omega) (by omega) (by omega) _ rfl ?_
        intro g' cap' w4 hown4 hgrow hat hlt'
        have hS4 : Ext wr w4 := hS3.of_grown hgrow (fun j hj => by have := (hown1.lt j hj).1; omega)
        have hints : IntsAt w4 (.slice (some ⟨g', 0, none⟩) (pn + 1) cap') (ps ++ [o]) := IntsAt.of_owns (n := pn + 1) (by rw [List.map_append]; exact hown4) (by rw [List.length_append, HPN.out]; rfl) (by omega)
        have HINTS := Lib.hid hints
        clear hints hown4 hgrow hat hlt' hown1 hnews
        refine HKK.out _ _ hS4 (fun _ => ?_)
        clear HKK K
        try simp only [Act.put, List.setIfInBounds_toArray, List.set_cons_zero, List.set_cons_succ]
        refine seqL_grow rfl (fun K hK => ?_)
        have HKK := Lib.hid hK
        clear hK
        go_simp
        refine (HCALL.out _ (HE.out.trans hS4) o _ HINTS.out HMEM.out).mono ?_
        rintro e w5 ⟨rfl, hE5⟩
        have hS5 := hS4.trans hE5
        refine HKK.out _ _ hS5 (fun _ => ?_)
        clear HKK K
        try simp only [Act.put, List.setIfInBounds_toArray, List.set_cons_zero, List.set_cons_succ]
        refine seqL_yield rfl (fun w' => by go_simp; rfl) ?_
        try simp only [Act.put, List.setIfInBounds_toArray, List.set_cons_zero, List.set_cons_succ]
        refine seqL_nil ?_
        have HS5 := Lib.hid (HSS.out.trans hS5)
        have HE5 := Lib.hid (HE.out.trans hS5)
        clear hS5 hS4 hS3 hE5 HINTS hE2 hS hS2
        cases hz : (p o == want) with
        | false =>
          have hq : (p o != want) = true := by unfold bne; rw [hz]; rfl
          clear hz
          have hres := all_of_miss (q := fun o => !(p o != want)) HO.out (by rw [hq]; rfl)
          have HV : Hid (r = false) := by show r = false; rw [← HR.out, hres]
          clear hres hq
          go_wp2
          rw [HV.out]
          go_ret
          exact ⟨rfl, HE5.out⟩
        | true =>
          have hq : (p o != want) = false := by unfold bne; rw [hz]; rfl
          have H1 : Hid (∀ j o, j < k + 1 → ol[j]? = some o → (p o != want) = false) := fun j o' hj h => by
            rcases Nat.lt_succ_iff_lt_or_eq.1 hj with h' | rfl
            · exact H.out j o' h' h
            · rw [HO.out] at h; cases h; exact hq
          clear hq hz
          go_wp2_with fail
          go_roundw
          case rel => exact ⟨k + 1, by omega, by go_num, H1, HS5.out⟩
          case measure => simp [intOf]; omega
      · simp only [List.map, nthOp]
        refine seqL_yield rfl (fun w' => by go_simp; rfl) ?_
        try simp only [Act.put, List.setIfInBounds_toArray, List.set_cons_zero, List.set_cons_succ]
        refine seqL_yield rfl (fun w' => by go_simp; rfl) ?_
        try simp only [Act.put, List.setIfInBounds_toArray, List.set_cons_zero, List.set_cons_succ]
        refine seqL_read hS rfl (fun w' hE => by have q := hE.cell h1; clear hE; go_simp; rfl) ?_
        try simp only [Act.put, List.setIfInBounds_toArray, List.set_cons_zero, List.set_cons_succ]
        refine seqL_yield rfl (fun w' => by go_simp; rfl) ?_
        try simp only [Act.put, List.setIfInBounds_toArray, List.set_cons_zero, List.set_cons_succ]
        refine seqL_read hS rfl (fun w' hE => by have q := hE.cell hcc0; clear hE; go_simp; rfl) ?_
        try simp only [Act.put, List.setIfInBounds_toArray, List.set_cons_zero, List.set_cons_succ]
        refine seqL_yield rfl (fun w' => by go_simp; rfl) ?_
        try simp only [Act.put, List.setIfInBounds_toArray, List.set_cons_zero, List.set_cons_succ]
        refine seqL_yield rfl (fun w' => by go_simp; rfl) ?_
        try simp only [Act.put, List.setIfInBounds_toArray, List.set_cons_zero, List.set_cons_succ]
        refine seqL_yield rfl (fun w' => by go_simp; rfl) ?_
        try simp only [Act.put, List.setIfInBounds_toArray, List.set_cons_zero, List.set_cons_succ]
        refine seqL_grow rfl (fun K hK => ?_)
        have HKK := Lib.hid hK
        clear hK
        go_simp
        refine HKK.out _ _ (hS.alloc _) (fun hS1 => ?_)
        clear HKK K
        try simp only [Act.put, List.setIfInBounds_toArray, List.set_cons_zero, List.set_cons_succ]
        refine seqL_grow rfl (fun K hK => ?_)
        have HKK := Lib.hid hK
        clear hK
        go_simp
        refine (HCL.out _ (HE.out.trans hS1)).mono ?_
        rintro e w2 ⟨v', rfl, hE2, hown1⟩
        have hS3 := hS1.trans hE2
        have hbase := hS1.size
        have hsz2 := hE2.size
        refine HKK.out _ _ hS3 (fun hS3' => ?_)
        clear HKK K hS3'
        try simp only [Act.put, List.setIfInBounds_toArray, List.set_cons_zero, List.set_cons_succ]
        have hnews := World.news_of_block (hE2.block (show (wr.alloc (.cells #[i64 o] 3)).drew.heap[wr.heap.size]? = some _ from heap_alloc_new wr _))
        refine seqL_grow rfl (fun K hK => ?_)
        have HKK := Lib.hid hK
        clear hK
        refine wp_append_lies _ _ _ 30 rfl (wr.alloc (.cells #[i64 o] 3)).drew.heap.size 3 i0 (.int .i64 0) 1 8 Try.underlying30 hi hz0 hz1 hz2 rfl (by decide) v' pn (ps.map i64) rfl hown1 ⟨wr.heap.size, 0, none⟩ 1 1 [i64 o] rfl rfl hnews (by simp [Value.oneCell']) (by decide) (by unfold maxLen; omega) (by omega) (by omega) _ rfl ?_
        intro g' cap' w4 hown4 hgrow hat hlt'
        have hS4 : Ext wr w4 := hS3.of_grown hgrow (fun j hj => by have := (hown1.lt j hj).1; omega)
        have hints : IntsAt w4 (.slice (some ⟨g', 0, none⟩) (pn + 1) cap') (ps ++ [o]) := IntsAt.of_owns (n := pn + 1) (by rw [List.map_append]; exact hown4) (by rw [List.length_append, HPN.out]; rfl) (by omega)
        have HINTS := Lib.hid hints
        clear hints hown4 hgrow hat hlt' hown1 hnews
        refine HKK.out _ _ hS4 (fun _ => ?_)
        clear HKK K
        try simp only [Act.put, List.setIfInBounds_toArray, List.set_cons_zero, List.set_cons_succ]
        refine seqL_grow rfl (fun K hK => ?_)
        have HKK := Lib.hid hK
        clear hK
        go_simp
        refine (HCALL.out _ (HE.out.trans hS4) o _ HINTS.out HMEM.out).mono ?_
        rintro e w5 ⟨rfl, hE5⟩
        have hS5 := hS4.trans hE5
        refine HKK.out _ _ hS5 (fun _ => ?_)
        clear HKK K
        try simp only [Act.put, List.setIfInBounds_toArray, List.set_cons_zero, List.set_cons_succ]
        refine seqL_yield rfl (fun w' => by go_simp; rfl) ?_
        try simp only [Act.put, List.setIfInBounds_toArray, List.set_cons_zero, List.set_cons_succ]
        refine seqL_nil ?_
        have HS5 := Lib.hid (HSS.out.trans hS5)
        have HE5 := Lib.hid (HE.out.trans hS5)
        clear hS5 hS4 hS3 hE5 HINTS hE2 hS hS1
        cases hz : (p o == want) with
        | false =>
          have hq : (p o != want) = true := by unfold bne; rw [hz]; rfl
          clear hz
          have hres := all_of_miss (q := fun o => !(p o != want)) HO.out (by rw [hq]; rfl)
          have HV : Hid (r = false) := by show r = false; rw [← HR.out, hres]
          clear hres hq
          go_wp2
          rw [HV.out]
          go_ret
          exact ⟨rfl, HE5.out⟩
        | true =>
          have hq : (p o != want) = false := by unfold bne; rw [hz]; rfl
          have H1 : Hid (∀ j o, j < k + 1 → ol[j]? = some o → (p o != want) = false) := fun j o' hj h => by
            rcases Nat.lt_succ_iff_lt_or_eq.1 hj with h' | rfl
            · exact H.out j o' h' h
            · rw [HO.out] at h; cases h; exact hq
          clear hq hz
          go_wp2_with fail
          go_roundw
          case rel => exact ⟨k + 1, by omega, by go_num, H1, HS5.out⟩
          case measure => simp [intOf]; omega
    · have hkn : k = n := by omega
      subst hkn
      have HV : Hid (r = true) := by
        show r = true
        rw [← HR.out]
        exact all_of_all (q := fun o => !(p o != want)) fun j o hj h => by simp only [H.out j o (by have := HN.out; omega) h]; rfl
      go_wp2
      rw [HV.out]
      go_ret
      exact ⟨rfl, HE.out⟩
end Go.Proofs.Ytodlkjjoenglgaa

/- condition.eval: one node of each kind. -/
namespace Go.Proofs.Ytodlkjjoenglgaa
open Go Go.RowKit

theorem node_at {w : World} {nv : Value} {l : List (Nd × List Int)} (h : Sl w 7 88 rNode nv l) {i : Nat} {x : Nd} {cs : List Int} (hi : l[i]? = some (x, cs)) :
    ∃ b off n cap cv av, nv = .slice (some ⟨b, off, none⟩) n cap ∧ i < n ∧ n ≤ cap ∧ cap ≤ maxLen ∧ n * 88 ≤ 140737488351232 ∧ IntsAt w cv cs ∧ IntsAt w av x.args ∧
      w.cell? ⟨b, off + i * 7, none⟩ = some (i64 x.kind) ∧ w.cell? ⟨b, off + i * 7 + 1, none⟩ = some cv ∧ w.cell? ⟨b, off + i * 7 + 2, none⟩ = some (i64 x.pred) ∧ w.cell? ⟨b, off + i * 7 + 3, none⟩ = some av ∧
      w.cell? ⟨b, off + i * 7 + 4, none⟩ = some (i64 x.left) ∧ w.cell? ⟨b, off + i * 7 + 5, none⟩ = some (i64 x.right) ∧ w.cell? ⟨b, off + i * 7 + 6, none⟩ = some (i64 x.typ) := by
  obtain ⟨a, cap, cv, av, hv, n1, n2, n3, hrow⟩ := h.nodes
  have hlt := (List.getElem?_eq_some_iff.1 hi).1
  have hg : l.getD i dNd = (x, cs) := by rw [List.getD_eq_getElem?_getD, hi]; rfl
  obtain ⟨⟨b, off, rfl, hc⟩, h1, h2⟩ := hrow i hlt
  rw [hg] at hc h1 h2
  exact ⟨b, off, _, cap, cv i, av i, hv, hlt, n1, n2, n3, h1, h2, hc 0 _ rfl, hc 1 _ rfl, hc 2 _ rfl, hc 3 _ rfl, hc 4 _ rfl, hc 5 _ rfl, hc 6 _ rfl⟩

/-- What the calls of eval on the children must do. -/
def KidsEv (D : Dom) (atoms : List AtD) (w : World) (vb : Nat) (k : Fo) (b m : Nat) : Prop :=
  ∀ W, Ext w W → ∀ j, j < k.len → ∀ ps pv, IntsAt W pv ps → ps.length = m → Calls Try.prog 65 #[ptr vb, i64 ((k.roots b).getD j 0), pv] W fun e W' => e = .returned (.bool ((evF D atoms k ps).getD j false)) ∧ Ext W W'

set_option maxRecDepth 20000 in
set_option maxHeartbeats 4000000 in
theorem eval_true (w : World) (vb : Nat) (d : DomV) (tv nv hv : Value) (hev : EvAt w vb d tv nv hv) (C : Cnd) (hc : CndAt w tv nv C) (i : Nat) (x : Nd) (cs : List Int) (hi : C.nodes[i]? = some (x, cs)) (hk : x.kind = 1) (pv : Value) (ps : List Int) (hp : IntsAt w pv ps) :
    Calls Try.prog 65 #[ptr vb, i64 i, pv] w fun e w' => e = .returned (.bool true) ∧ Ext w w' := by
  obtain ⟨nb, noff, nn, ncap, cv, av, rfl, hin, n1, n2, n3, hcv, hav, f0, f1, f2, f3, f4, f5, f6⟩ := node_at hc.nodes hi
  obtain ⟨kd, pd, ar, lf, rg, tp⟩ := x
  simp only at hk f0 f1 f2 f3 f4 f5 f6 hcv hav
  subst hk
  obtain ⟨ca, ccap, rfl⟩ := hcv.slice
  obtain ⟨aa, acap, rfl⟩ := hav.slice
  obtain ⟨pa, pcap, rfl⟩ := hp.slice
  obtain ⟨cn, hcn⟩ : ∃ n, cs.length = n := ⟨_, rfl⟩
  obtain ⟨an, han⟩ : ∃ n, ar.length = n := ⟨_, rfl⟩
  obtain ⟨pn, hpn⟩ : ∃ n, ps.length = n := ⟨_, rfl⟩
  rw [hcn] at f1
  rw [han] at f3
  rw [hpn]
  have v7 : w.cell? ⟨vb, 7, none⟩ = some (.slice (some ⟨nb, noff, none⟩) nn ncap) := by rw [cell_of_heap hev]; rfl
  have v8 : w.cell? ⟨vb, 8, none⟩ = some hv := by rw [cell_of_heap hev]; rfl
  have hlv := heap_lt hev
  unfold maxLen at n2
  have hln := World.block_lt_of_cell? w _ f0
  clear hp hcv hav hi hc hev hcn han hpn
  go_enter Try.func65, Try.ntmps65
  go_wp2
  go_ret
  exact ⟨rfl, (((Ext.refl w).alloc _).alloc _).alloc _⟩

set_option maxRecDepth 20000 in
set_option maxHeartbeats 4000000 in
theorem eval_atom (w : World) (vb : Nat) (d : DomV) (tv nv hv : Value) (hev : EvAt w vb d tv nv hv) (C : Cnd) (hc : CndAt w tv nv C) (i : Nat) (x : Nd) (cs : List Int) (hi : C.nodes[i]? = some (x, cs)) (hk : x.kind = 2) (pv : Value) (ps : List Int) (hp : IntsAt w pv ps) (hx : ∀ a ∈ x.args, -(ps.length : Int) ≤ a) (fh : FuncId) (cpt : Array Value) (hfv : hv = .func (.func fh) #[] cpt) (heh : EntersF fh) (atoms : List AtD)
    (hholds : ∀ W, Ext w W → ∀ pd args av, IntsAt W av args → Calls Try.prog fh (#[.agg #[i64 pd, av]] ++ cpt) W fun e W' => e = .returned (.bool (holdsD atoms ⟨pd, args⟩)) ∧ Ext W W') :
    Calls Try.prog 65 #[ptr vb, i64 i, pv] w fun e w' => e = .returned (.bool (holdsD atoms (bindA ps ⟨x.pred, x.args⟩))) ∧ Ext w w' := by
  obtain ⟨nb, noff, nn, ncap, cv, av, rfl, hin, n1, n2, n3, hcv, hav, f0, f1, f2, f3, f4, f5, f6⟩ := node_at hc.nodes hi
  have hbind := fun W (hW : Ext w W) => bind_any W ⟨x.pred, x.args⟩ av pv ps (hav.ext hW) (hp.ext hW) hx
  subst hfv
  obtain ⟨kd, pd, ar, lf, rg, tp⟩ := x
  simp only at hk f0 f1 f2 f3 f4 f5 f6 hcv hav
  subst hk
  obtain ⟨ca, ccap, rfl⟩ := hcv.slice
  obtain ⟨aa, acap, rfl⟩ := hav.slice
  obtain ⟨pa, pcap, rfl⟩ := hp.slice
  obtain ⟨cn, hcn⟩ : ∃ n, cs.length = n := ⟨_, rfl⟩
  obtain ⟨an, han⟩ : ∃ n, ar.length = n := ⟨_, rfl⟩
  obtain ⟨pn, hpn⟩ : ∃ n, ps.length = n := ⟨_, rfl⟩
  rw [hcn] at f1
  rw [han] at f3
  rw [hpn]
  have v7 : w.cell? ⟨vb, 7, none⟩ = some (.slice (some ⟨nb, noff, none⟩) nn ncap) := by rw [cell_of_heap hev]; rfl
  have v8 : w.cell? ⟨vb, 8, none⟩ = some (.func (.func fh) #[] cpt) := by rw [cell_of_heap hev]; rfl
  have hlv := heap_lt hev
  unfold maxLen at n2
  have hln := World.block_lt_of_cell? w _ f0
  rw [han] at hbind
  rw [hpn] at hbind
  obtain ⟨r, hr⟩ : ∃ r, holdsD atoms (bindA ps ⟨pd, ar⟩) = r := ⟨_, rfl⟩
  have hh := fun W (hW : Ext w W) av (h : IntsAt W av (bindA ps ⟨pd, ar⟩).args) => hholds W hW pd (bindA ps ⟨pd, ar⟩).args av h
  have hb : (⟨pd, (bindA ps ⟨pd, ar⟩).args⟩ : AtD) = bindA ps ⟨pd, ar⟩ := rfl
  rw [hb, hr] at hh
  have heh' := heh
  unfold EntersF at heh'
  rw [hr]
  have HB := Lib.hid hbind
  have HH := Lib.hid hh
  clear hp hcv hav hi hc hev hcn han hpn hbind hh hb hr hholds hx heh
  go_enter Try.func65, Try.ntmps65
  go_wp2_with fail
  generalize hW0 : ((w.alloc (.cells #[ptr vb] 93)).alloc (.cells #[.slice pa pn pcap] 30)).alloc (.cells #[i64 2, .slice ca cn ccap, i64 pd, .slice aa an acap, i64 lf, i64 rg, i64 tp] 48) = W0
  have B0 : W0.cell? ⟨w.heap.size, 0, none⟩ = some (ptr vb) := by rw [← hW0]; exact Ext.cell (((Ext.refl _).alloc _).alloc _) (by rw [World.cell?_alloc_new]; rfl)
  have B1 : W0.cell? ⟨w.heap.size + 1, 0, none⟩ = some (.slice pa pn pcap) := by
    rw [← hW0]
    have h := (Ext.refl ((w.alloc (.cells #[ptr vb] 93)).alloc (.cells #[.slice pa pn pcap] 30))).alloc (.cells #[i64 2, .slice ca cn ccap, i64 pd, .slice aa an acap, i64 lf, i64 rg, i64 tp] 48)
    exact h.cell (by have := World.cell?_alloc_new (w.alloc (.cells #[ptr vb] 93)) #[.slice pa pn pcap] 30 0; rw [World.size_alloc] at this; rw [this]; rfl)
  have B2 : W0.heap[w.heap.size + 1 + 1]? = some (.cells #[i64 2, .slice ca cn ccap, i64 pd, .slice aa an acap, i64 lf, i64 rg, i64 tp] 48) := by
    rw [← hW0]
    have h := heap_alloc_new ((w.alloc (.cells #[ptr vb] 93)).alloc (.cells #[.slice pa pn pcap] 30)) (.cells #[i64 2, .slice ca cn ccap, i64 pd, .slice aa an acap, i64 lf, i64 rg, i64 tp] 48)
    rwa [World.size_alloc, World.size_alloc] at h
  have HE0 : Hid (Ext w W0) := by show Ext w W0; rw [← hW0]; exact (((Ext.refl w).alloc _).alloc _).alloc _
  obtain ⟨g0, g1, g2, g3, g4, g5, g6, gl⟩ := seven_facts B2
  have V8 := HE0.out.cell v8
  clear hW0
  refine wp_region_seq (Ext W0) [(0, 1), (1, 0), (2, 0), (3, 1), (4, 0), (5, 1), (6, 1), (7, 2), (8, 2), (9, 0)] (by kernel_rfl) (by kernel_rfl) (Ext.refl W0).drew (fun hS => ?_)
  simp only [List.map, nthOp]
  refine seqL_read hS rfl (fun w' hE => by have q := hE.cell B0; clear hE; go_simp; rfl) ?_
  try simp only [Act.put, List.setIfInBounds_toArray, List.set_cons_zero, List.set_cons_succ]
  refine seqL_yield rfl (fun w' => by go_simp; rfl) ?_
  try simp only [Act.put, List.setIfInBounds_toArray, List.set_cons_zero, List.set_cons_succ]
  refine seqL_yield rfl (fun w' => by go_simp; rfl) ?_
  try simp only [Act.put, List.setIfInBounds_toArray, List.set_cons_zero, List.set_cons_succ]
  refine seqL_read hS rfl (fun w' hE => by have q := hE.cell V8; clear hE; go_simp; rfl) ?_
  try simp only [Act.put, List.setIfInBounds_toArray, List.set_cons_zero, List.set_cons_succ]
  refine seqL_yield rfl (fun w' => by go_simp; rfl) ?_
  try simp only [Act.put, List.setIfInBounds_toArray, List.set_cons_zero, List.set_cons_succ]
  refine seqL_read hS rfl (fun w' hE => by have q := And.intro (hE.cell g2) (hE.cell g3); clear hE; go_simp; rfl) ?_
  try simp only [Act.put, List.setIfInBounds_toArray, List.set_cons_zero, List.set_cons_succ]
  refine seqL_read hS rfl (fun w' hE => by have q := hE.cell B1; clear hE; go_simp; rfl) ?_
  try simp only [Act.put, List.setIfInBounds_toArray, List.set_cons_zero, List.set_cons_succ]
  refine seqL_grow rfl (fun K hK => ?_)
  have HKK := Lib.hid hK
  clear hK
  go_simp
  refine (HB.out _ (HE0.out.trans hS)).mono ?_
  rintro e w2 ⟨hE2, v', rfl, hints⟩
  have HI := Lib.hid hints
  clear hints
  refine HKK.out _ _ (hS.trans hE2) (fun hS => ?_)
  clear HKK K hE2
  try simp only [Act.put, List.setIfInBounds_toArray, List.set_cons_zero, List.set_cons_succ]
  refine seqL_grow rfl (fun K hK => ?_)
  have HKK := Lib.hid hK
  clear hK
  go_simp
  refine (HH.out _ (HE0.out.trans hS) _ HI.out).mono ?_
  rintro e w3 ⟨rfl, hE3⟩
  refine HKK.out _ _ (hS.trans hE3) (fun hS => ?_)
  clear HKK K hE3
  try simp only [Act.put, List.setIfInBounds_toArray, List.set_cons_zero, List.set_cons_succ]
  refine seqL_yield rfl (fun w' => by go_simp; rfl) ?_
  try simp only [Act.put, List.setIfInBounds_toArray, List.set_cons_zero, List.set_cons_succ]
  refine seqL_nil ?_
  have HS := Lib.hid (HE0.out.trans hS)
  clear hS
  go_wp2
  go_ret
  exact ⟨rfl, HS.out⟩

set_option maxRecDepth 20000 in
set_option maxHeartbeats 4000000 in
theorem eval_equal (w : World) (vb : Nat) (d : DomV) (tv nv hv : Value) (hev : EvAt w vb d tv nv hv) (C : Cnd) (hc : CndAt w tv nv C) (i : Nat) (x : Nd) (cs : List Int) (hi : C.nodes[i]? = some (x, cs)) (hk : x.kind = 3) (pv : Value) (ps : List Int) (hp : IntsAt w pv ps) (h1 : -(ps.length : Int) ≤ x.left) (h2 : -(ps.length : Int) ≤ x.right) :
    Calls Try.prog 65 #[ptr vb, i64 i, pv] w fun e w' => e = .returned (.bool (decide (valueOf ps x.left = valueOf ps x.right))) ∧ Ext w w' := by
  obtain ⟨nb, noff, nn, ncap, cv, av, rfl, hin, n1, n2, n3, hcv, hav, f0, f1, f2, f3, f4, f5, f6⟩ := node_at hc.nodes hi
  have hv1 := fun W (hW : Ext w W) => value_any W pv ps (hp.ext hW) x.left h1
  have hv2 := fun W (hW : Ext w W) => value_any W pv ps (hp.ext hW) x.right h2
  obtain ⟨kd, pd, ar, lf, rg, tp⟩ := x
  simp only at hk f0 f1 f2 f3 f4 f5 f6 hcv hav
  subst hk
  obtain ⟨ca, ccap, rfl⟩ := hcv.slice
  obtain ⟨aa, acap, rfl⟩ := hav.slice
  obtain ⟨pa, pcap, rfl⟩ := hp.slice
  obtain ⟨cn, hcn⟩ : ∃ n, cs.length = n := ⟨_, rfl⟩
  obtain ⟨an, han⟩ : ∃ n, ar.length = n := ⟨_, rfl⟩
  obtain ⟨pn, hpn⟩ : ∃ n, ps.length = n := ⟨_, rfl⟩
  rw [hcn] at f1
  rw [han] at f3
  rw [hpn]
  have v7 : w.cell? ⟨vb, 7, none⟩ = some (.slice (some ⟨nb, noff, none⟩) nn ncap) := by rw [cell_of_heap hev]; rfl
  have v8 : w.cell? ⟨vb, 8, none⟩ = some hv := by rw [cell_of_heap hev]; rfl
  have hlv := heap_lt hev
  unfold maxLen at n2
  have hln := World.block_lt_of_cell? w _ f0
  rw [hpn] at hv1 hv2
  simp only at hv1 hv2 ⊢
  obtain ⟨r1, hr1⟩ : ∃ r, valueOf ps lf = r := ⟨_, rfl⟩
  obtain ⟨r2, hr2⟩ : ∃ r, valueOf ps rg = r := ⟨_, rfl⟩
  rw [hr1] at hv1
  rw [hr2] at hv2
  rw [hr1, hr2]
  have H1 := Lib.hid hv1
  have H2 := Lib.hid hv2
  clear hp hcv hav hi hc hev hcn han hpn hv1 hv2 hr1 hr2 h1 h2
  go_enter Try.func65, Try.ntmps65
  go_wp2_with fail
  generalize hW0 : ((w.alloc (.cells #[ptr vb] 93)).alloc (.cells #[.slice pa pn pcap] 30)).alloc (.cells #[i64 3, .slice ca cn ccap, i64 pd, .slice aa an acap, i64 lf, i64 rg, i64 tp] 48) = W0
  have B0 : W0.cell? ⟨w.heap.size, 0, none⟩ = some (ptr vb) := by rw [← hW0]; exact Ext.cell (((Ext.refl _).alloc _).alloc _) (by rw [World.cell?_alloc_new]; rfl)
  have B1 : W0.cell? ⟨w.heap.size + 1, 0, none⟩ = some (.slice pa pn pcap) := by
    rw [← hW0]
    have h := (Ext.refl ((w.alloc (.cells #[ptr vb] 93)).alloc (.cells #[.slice pa pn pcap] 30))).alloc (.cells #[i64 3, .slice ca cn ccap, i64 pd, .slice aa an acap, i64 lf, i64 rg, i64 tp] 48)
    exact h.cell (by have := World.cell?_alloc_new (w.alloc (.cells #[ptr vb] 93)) #[.slice pa pn pcap] 30 0; rw [World.size_alloc] at this; rw [this]; rfl)
  have B2 : W0.heap[w.heap.size + 1 + 1]? = some (.cells #[i64 3, .slice ca cn ccap, i64 pd, .slice aa an acap, i64 lf, i64 rg, i64 tp] 48) := by
    rw [← hW0]
    have h := heap_alloc_new ((w.alloc (.cells #[ptr vb] 93)).alloc (.cells #[.slice pa pn pcap] 30)) (.cells #[i64 3, .slice ca cn ccap, i64 pd, .slice aa an acap, i64 lf, i64 rg, i64 tp] 48)
    rwa [World.size_alloc, World.size_alloc] at h
  have HE0 : Hid (Ext w W0) := by show Ext w W0; rw [← hW0]; exact (((Ext.refl w).alloc _).alloc _).alloc _
  obtain ⟨g0, g1, g2, g3, g4, g5, g6, gl⟩ := seven_facts B2
  have V8 := HE0.out.cell v8
  clear hW0
  refine wp_region_seq (Ext W0) [(0, 0), (1, 1), (2, 1), (4, 0), (5, 1), (6, 1), (3, 2), (7, 2), (8, 0), (9, 0)] (by kernel_rfl) (by kernel_rfl) (Ext.refl W0).drew (fun hS => ?_)
  simp only [List.map, nthOp]
  refine seqL_yield rfl (fun w' => by go_simp; rfl) ?_
  try simp only [Act.put, List.setIfInBounds_toArray, List.set_cons_zero, List.set_cons_succ]
  refine seqL_read hS rfl (fun w' hE => by have q := hE.cell g4; clear hE; go_simp; rfl) ?_
  try simp only [Act.put, List.setIfInBounds_toArray, List.set_cons_zero, List.set_cons_succ]
  refine seqL_read hS rfl (fun w' hE => by have q := hE.cell B1; clear hE; go_simp; rfl) ?_
  try simp only [Act.put, List.setIfInBounds_toArray, List.set_cons_zero, List.set_cons_succ]
  refine seqL_yield rfl (fun w' => by go_simp; rfl) ?_
  try simp only [Act.put, List.setIfInBounds_toArray, List.set_cons_zero, List.set_cons_succ]
  refine seqL_read hS rfl (fun w' hE => by have q := hE.cell g5; clear hE; go_simp; rfl) ?_
  try simp only [Act.put, List.setIfInBounds_toArray, List.set_cons_zero, List.set_cons_succ]
  refine seqL_read hS rfl (fun w' hE => by have q := hE.cell B1; clear hE; go_simp; rfl) ?_
  try simp only [Act.put, List.setIfInBounds_toArray, List.set_cons_zero, List.set_cons_succ]
  refine seqL_grow rfl (fun K hK => ?_)
  have HKK := Lib.hid hK
  clear hK
  go_simp
  refine (H1.out _ (HE0.out.trans hS)).mono ?_
  rintro e w2 ⟨rfl, rfl⟩
  refine HKK.out _ _ (hS) (fun hS => ?_)
  clear HKK K 
  try simp only [Act.put, List.setIfInBounds_toArray, List.set_cons_zero, List.set_cons_succ]
  refine seqL_grow rfl (fun K hK => ?_)
  have HKK := Lib.hid hK
  clear hK
  go_simp
  refine (H2.out _ (HE0.out.trans hS)).mono ?_
  rintro e w3 ⟨rfl, rfl⟩
  refine HKK.out _ _ (hS) (fun hS => ?_)
  clear HKK K 
  try simp only [Act.put, List.setIfInBounds_toArray, List.set_cons_zero, List.set_cons_succ]
  refine seqL_yield rfl (fun w' => by go_simp; rfl) ?_
  try simp only [Act.put, List.setIfInBounds_toArray, List.set_cons_zero, List.set_cons_succ]
  refine seqL_yield rfl (fun w' => by go_simp; rfl) ?_
  try simp only [Act.put, List.setIfInBounds_toArray, List.set_cons_zero, List.set_cons_succ]
  refine seqL_nil ?_
  have HS := Lib.hid (HE0.out.trans hS)
  clear hS
  go_wp2
  go_ret
  exact ⟨ret_bool rfl, HS.out⟩

set_option maxRecDepth 20000 in
set_option maxHeartbeats 4000000 in
theorem eval_not (w : World) (vb : Nat) (d : DomV) (tv nv hv : Value) (hev : EvAt w vb d tv nv hv) (C : Cnd) (hc : CndAt w tv nv C) (i : Nat) (x : Nd) (cs : List Int) (hi : C.nodes[i]? = some (x, cs)) (hk : x.kind = 4) (pv : Value) (ps : List Int) (hp : IntsAt w pv ps) (c : Int) (hcs : cs = [c]) (r : Bool) (hcall : ∀ W, Ext w W → Calls Try.prog 65 #[ptr vb, i64 c, pv] W fun e W' => e = .returned (.bool r) ∧ Ext W W') :
    Calls Try.prog 65 #[ptr vb, i64 i, pv] w fun e w' => e = .returned (.bool (!r)) ∧ Ext w w' := by
  subst hcs
  obtain ⟨nb, noff, nn, ncap, cv, av, rfl, hin, n1, n2, n3, hcv, hav, f0, f1, f2, f3, f4, f5, f6⟩ := node_at hc.nodes hi
  obtain ⟨kd, pd, ar, lf, rg, tp⟩ := x
  simp only at hk f0 f1 f2 f3 f4 f5 f6 hcv hav
  subst hk
  obtain ⟨ca, ccap, rfl⟩ := hcv.slice
  obtain ⟨aa, acap, rfl⟩ := hav.slice
  obtain ⟨pa, pcap, rfl⟩ := hp.slice
  obtain ⟨cn, hcn⟩ : ∃ n, [c].length = n := ⟨_, rfl⟩
  obtain ⟨an, han⟩ : ∃ n, ar.length = n := ⟨_, rfl⟩
  obtain ⟨pn, hpn⟩ : ∃ n, ps.length = n := ⟨_, rfl⟩
  rw [hcn] at f1
  rw [han] at f3
  rw [hpn]
  have v7 : w.cell? ⟨vb, 7, none⟩ = some (.slice (some ⟨nb, noff, none⟩) nn ncap) := by rw [cell_of_heap hev]; rfl
  have v8 : w.cell? ⟨vb, 8, none⟩ = some hv := by rw [cell_of_heap hev]; rfl
  have hlv := heap_lt hev
  unfold maxLen at n2
  have hln := World.block_lt_of_cell? w _ f0
  rw [hpn] at hcall
  obtain ⟨ca', ccap', e, -, c2, c3, hcc⟩ := hcv.open
  cases e
  obtain ⟨cb, coff, rfl, hcell⟩ := hcc 0 (by simp)
  have hcell : w.cell? ⟨cb, coff, none⟩ = some (i64 c) := by simpa using hcell
  have hcn1 : 0 < cn := by rw [← hcn]; simp
  have HCALL := Lib.hid hcall
  clear hp hcv hav hi hc hev han hpn hcall hcc hcn
  go_enter Try.func65, Try.ntmps65
  go_wp2_with fail
  generalize hW0 : ((w.alloc (.cells #[ptr vb] 93)).alloc (.cells #[.slice pa pn pcap] 30)).alloc (.cells #[i64 4, .slice (some ⟨cb, coff, none⟩) cn ccap, i64 pd, .slice aa an acap, i64 lf, i64 rg, i64 tp] 48) = W0
  have B0 : W0.cell? ⟨w.heap.size, 0, none⟩ = some (ptr vb) := by rw [← hW0]; exact Ext.cell (((Ext.refl _).alloc _).alloc _) (by rw [World.cell?_alloc_new]; rfl)
  have B1 : W0.cell? ⟨w.heap.size + 1, 0, none⟩ = some (.slice pa pn pcap) := by
    rw [← hW0]
    have h := (Ext.refl ((w.alloc (.cells #[ptr vb] 93)).alloc (.cells #[.slice pa pn pcap] 30))).alloc (.cells #[i64 4, .slice (some ⟨cb, coff, none⟩) cn ccap, i64 pd, .slice aa an acap, i64 lf, i64 rg, i64 tp] 48)
    exact h.cell (by have := World.cell?_alloc_new (w.alloc (.cells #[ptr vb] 93)) #[.slice pa pn pcap] 30 0; rw [World.size_alloc] at this; rw [this]; rfl)
  have B2 : W0.heap[w.heap.size + 1 + 1]? = some (.cells #[i64 4, .slice (some ⟨cb, coff, none⟩) cn ccap, i64 pd, .slice aa an acap, i64 lf, i64 rg, i64 tp] 48) := by
    rw [← hW0]
    have h := heap_alloc_new ((w.alloc (.cells #[ptr vb] 93)).alloc (.cells #[.slice pa pn pcap] 30)) (.cells #[i64 4, .slice (some ⟨cb, coff, none⟩) cn ccap, i64 pd, .slice aa an acap, i64 lf, i64 rg, i64 tp] 48)
    rwa [World.size_alloc, World.size_alloc] at h
  have HE0 : Hid (Ext w W0) := by show Ext w W0; rw [← hW0]; exact (((Ext.refl w).alloc _).alloc _).alloc _
  obtain ⟨g0, g1, g2, g3, g4, g5, g6, gl⟩ := seven_facts B2
  have V8 := HE0.out.cell v8
  have VC := HE0.out.cell hcell
  clear hW0
  refine wp_region_seq (Ext W0) [(0, 1), (1, 0), (2, 1), (3, 0), (4, 1), (5, 1), (6, 2), (7, 0), (8, 0)] (by kernel_rfl) (by kernel_rfl) (Ext.refl W0).drew (fun hS => ?_)
  simp only [List.map, nthOp]
  refine seqL_read hS rfl (fun w' hE => by have q := hE.cell B0; clear hE; go_simp; rfl) ?_
  try simp only [Act.put, List.setIfInBounds_toArray, List.set_cons_zero, List.set_cons_succ]
  refine seqL_yield rfl (fun w' => by go_simp; rfl) ?_
  try simp only [Act.put, List.setIfInBounds_toArray, List.set_cons_zero, List.set_cons_succ]
  refine seqL_read hS rfl (fun w' hE => by have q := hE.cell g1; clear hE; go_simp; rfl) ?_
  try simp only [Act.put, List.setIfInBounds_toArray, List.set_cons_zero, List.set_cons_succ]
  refine seqL_yield rfl (fun w' => by go_simp; rfl) ?_
  try simp only [Act.put, List.setIfInBounds_toArray, List.set_cons_zero, List.set_cons_succ]
  refine seqL_read hS rfl (fun w' hE => by have q := hE.cell VC; clear hE; go_simp; rfl) ?_
  try simp only [Act.put, List.setIfInBounds_toArray, List.set_cons_zero, List.set_cons_succ]
  refine seqL_read hS rfl (fun w' hE => by have q := hE.cell B1; clear hE; go_simp; rfl) ?_
  try simp only [Act.put, List.setIfInBounds_toArray, List.set_cons_zero, List.set_cons_succ]
  refine seqL_grow rfl (fun K hK => ?_)
  have HKK := Lib.hid hK
  clear hK
  go_simp
  refine (HCALL.out _ (HE0.out.trans hS)).mono ?_
  rintro e w2 ⟨rfl, hE2⟩
  refine HKK.out _ _ (hS.trans hE2) (fun hS => ?_)
  clear HKK K hE2
  try simp only [Act.put, List.setIfInBounds_toArray, List.set_cons_zero, List.set_cons_succ]
  refine seqL_yield rfl (fun w' => by go_simp; rfl) ?_
  try simp only [Act.put, List.setIfInBounds_toArray, List.set_cons_zero, List.set_cons_succ]
  refine seqL_yield rfl (fun w' => by go_simp; rfl) ?_
  try simp only [Act.put, List.setIfInBounds_toArray, List.set_cons_zero, List.set_cons_succ]
  refine seqL_nil ?_
  have HS := Lib.hid (HE0.out.trans hS)
  clear hS
  go_wp2
  go_ret
  exact ⟨rfl, HS.out⟩

theorem enters83 : EntersF 83 := fun args W => enters_of Try.func83 (by kernel_rfl) rfl args W
theorem enters84 : EntersF 84 := fun args W => enters_of Try.func84 (by kernel_rfl) rfl args W
theorem enters83' (args : Array Value) (W : World) : (callFunc 83 args).run Try.prog W = .ok (.enter 83 args) W := enters83 args W
theorem child_any (w : World) (b : Bool) (p0 p1 : Value) : Calls Try.prog 83 #[.bool b, p0, p1] w fun e w' => e = .returned (.func (.func 84) #[] #[p0, p1, ptr w.heap.size]) ∧ w' = w.alloc (.cells #[.bool b] 4) := by
  go_enter Try.func83, Try.ntmps83
  go_wp2
  go_ret
  exact ⟨rfl, rfl⟩
set_option maxHeartbeats 1000000 in
theorem child_ev (w : World) (vb b0 b1 b2 : Nat) (pv : Value) (want r : Bool) (c : Int) (h0 : w.cell? ⟨b0, 0, none⟩ = some (ptr vb)) (h1 : w.cell? ⟨b1, 0, none⟩ = some pv) (hpv : sliceV pv) (h2 : w.cell? ⟨b2, 0, none⟩ = some (.bool want))
    (hcall : ∀ W, Ext w W → Calls Try.prog 65 #[ptr vb, i64 c, pv] W fun e W' => e = .returned (.bool r) ∧ Ext W W') :
    Calls Try.prog 84 #[i64 c, ptr b0, ptr b1, ptr b2] w fun e w' => e = .returned (.bool (r == want)) ∧ Ext w w' := by
  have HCALL := Lib.hid hcall
  obtain ⟨pa, pn, pcap, rfl⟩ := hpv
  clear hcall
  go_enter Try.func84, Try.ntmps84
  go_wp2_with fail
  refine wp_region_seq (Ext w) [(0, 1), (1, 0), (2, 1), (4, 1), (3, 2), (5, 0), (6, 0)] (by kernel_rfl) (by kernel_rfl) (Ext.refl w).drew (fun hS => ?_)
  simp only [List.map, nthOp]
  refine seqL_read hS rfl (fun w' hE => by have q := hE.cell h0; clear hE; go_simp; rfl) ?_
  try simp only [Act.put, List.setIfInBounds_toArray, List.set_cons_zero, List.set_cons_succ]
  refine seqL_yield rfl (fun w' => by go_simp; rfl) ?_
  try simp only [Act.put, List.setIfInBounds_toArray, List.set_cons_zero, List.set_cons_succ]
  refine seqL_read hS rfl (fun w' hE => by have q := hE.cell h1; clear hE; go_simp; rfl) ?_
  try simp only [Act.put, List.setIfInBounds_toArray, List.set_cons_zero, List.set_cons_succ]
  refine seqL_read hS rfl (fun w' hE => by have q := hE.cell h2; clear hE; go_simp; rfl) ?_
  try simp only [Act.put, List.setIfInBounds_toArray, List.set_cons_zero, List.set_cons_succ]
  refine seqL_grow rfl (fun K hK => ?_)
  have HKK := Lib.hid hK
  clear hK
  go_simp
  refine (HCALL.out _ hS).mono ?_
  rintro e w2 ⟨rfl, hE2⟩
  refine HKK.out _ _ (hS.trans hE2) (fun hS => ?_)
  clear HKK K hE2
  try simp only [Act.put, List.setIfInBounds_toArray, List.set_cons_zero, List.set_cons_succ]
  refine seqL_yield rfl (fun w' => by go_simp; rfl) ?_
  try simp only [Act.put, List.setIfInBounds_toArray, List.set_cons_zero, List.set_cons_succ]
  refine seqL_yield rfl (fun w' => by go_simp; rfl) ?_
  try simp only [Act.put, List.setIfInBounds_toArray, List.set_cons_zero, List.set_cons_succ]
  refine seqL_nil ?_
  have HS := Lib.hid hS
  clear hS
  go_wp2
  go_ret
  exact ⟨rfl, HS.out⟩
set_option maxRecDepth 20000 in
set_option maxHeartbeats 4000000 in
theorem eval_and (w : World) (vb : Nat) (d : DomV) (tv nv hv : Value) (hev : EvAt w vb d tv nv hv) (C : Cnd) (hc : CndAt w tv nv C) (i : Nat) (x : Nd) (cs : List Int) (hi : C.nodes[i]? = some (x, cs)) (hk : x.kind = 5) (pv : Value) (ps : List Int) (hp : IntsAt w pv ps) (p : Nat → Bool) (hcall : ∀ W, Ext w W → ∀ j, j < cs.length → Calls Try.prog 65 #[ptr vb, i64 (cs.getD j 0), pv] W fun e W' => e = .returned (.bool (p j)) ∧ Ext W W') :
    Calls Try.prog 65 #[ptr vb, i64 i, pv] w fun e w' => e = .returned (.bool (!((List.range cs.length).any fun j => p j == false))) ∧ Ext w w' := by
  obtain ⟨nb, noff, nn, ncap, cv, av, rfl, hin, n1, n2, n3, hcv, hav, f0, f1, f2, f3, f4, f5, f6⟩ := node_at hc.nodes hi
  obtain ⟨kd, pd, ar, lf, rg, tp⟩ := x
  simp only at hk f0 f1 f2 f3 f4 f5 f6 hcv hav
  subst hk
  obtain ⟨ca, ccap, rfl⟩ := hcv.slice
  obtain ⟨aa, acap, rfl⟩ := hav.slice
  obtain ⟨pa, pcap, rfl⟩ := hp.slice
  obtain ⟨cn, hcn⟩ : ∃ n, cs.length = n := ⟨_, rfl⟩
  obtain ⟨an, han⟩ : ∃ n, ar.length = n := ⟨_, rfl⟩
  obtain ⟨pn, hpn⟩ : ∃ n, ps.length = n := ⟨_, rfl⟩
  rw [hcn] at f1
  rw [han] at f3
  rw [hpn]
  have v7 : w.cell? ⟨vb, 7, none⟩ = some (.slice (some ⟨nb, noff, none⟩) nn ncap) := by rw [cell_of_heap hev]; rfl
  have v8 : w.cell? ⟨vb, 8, none⟩ = some hv := by rw [cell_of_heap hev]; rfl
  have hlv := heap_lt hev
  unfold maxLen at n2
  have hln := World.block_lt_of_cell? w _ f0
  obtain ⟨ca', ccap', e, -, c2, c3, hcrow⟩ := hcv.rowAt
  cases e
  rw [hcn] at hcall hcrow c3 ⊢
  rw [hpn] at hcall
  have HCALL := Lib.hid hcall
  have HROW := Lib.hid hcrow
  obtain ⟨q, hq⟩ : ∃ q, (List.range cn).any (fun j => p j == false) = q := ⟨_, rfl⟩
  rw [hq]
  have HQ := Lib.hid hq
  have he := enters83'
  clear hp hcv hav hi hc hev han hpn hcall hcrow hcn hq
  go_enter Try.func65, Try.ntmps65
  go_wp2_with fail
  generalize hW0 : ((w.alloc (.cells #[ptr vb] 93)).alloc (.cells #[.slice pa pn pcap] 30)).alloc (.cells #[i64 5, .slice ca cn ccap, i64 pd, .slice aa an acap, i64 lf, i64 rg, i64 tp] 48) = W0
  have B0 : W0.cell? ⟨w.heap.size, 0, none⟩ = some (ptr vb) := by rw [← hW0]; exact Ext.cell (((Ext.refl _).alloc _).alloc _) (by rw [World.cell?_alloc_new]; rfl)
  have B1 : W0.cell? ⟨w.heap.size + 1, 0, none⟩ = some (.slice pa pn pcap) := by
    rw [← hW0]
    have h := (Ext.refl ((w.alloc (.cells #[ptr vb] 93)).alloc (.cells #[.slice pa pn pcap] 30))).alloc (.cells #[i64 5, .slice ca cn ccap, i64 pd, .slice aa an acap, i64 lf, i64 rg, i64 tp] 48)
    exact h.cell (by have := World.cell?_alloc_new (w.alloc (.cells #[ptr vb] 93)) #[.slice pa pn pcap] 30 0; rw [World.size_alloc] at this; rw [this]; rfl)
  have B2 : W0.heap[w.heap.size + 1 + 1]? = some (.cells #[i64 5, .slice ca cn ccap, i64 pd, .slice aa an acap, i64 lf, i64 rg, i64 tp] 48) := by
    rw [← hW0]
    have h := heap_alloc_new ((w.alloc (.cells #[ptr vb] 93)).alloc (.cells #[.slice pa pn pcap] 30)) (.cells #[i64 5, .slice ca cn ccap, i64 pd, .slice aa an acap, i64 lf, i64 rg, i64 tp] 48)
    rwa [World.size_alloc, World.size_alloc] at h
  have HE0 : Hid (Ext w W0) := by show Ext w W0; rw [← hW0]; exact (((Ext.refl w).alloc _).alloc _).alloc _
  obtain ⟨g0, g1, g2, g3, g4, g5, g6, gl⟩ := seven_facts B2
  have V8 := HE0.out.cell v8
  clear hW0
  refine wp_region_seq (Ext W0) [(0, 0), (1, 1), (2, 0), (3, 2), (4, 2), (5, 0), (6, 0)] (by kernel_rfl) (by kernel_rfl) (Ext.refl W0).drew (fun hS => ?_)
  simp only [List.map, nthOp]
  refine seqL_yield rfl (fun w' => by go_simp; rfl) ?_
  try simp only [Act.put, List.setIfInBounds_toArray, List.set_cons_zero, List.set_cons_succ]
  refine seqL_read hS rfl (fun w' hE => by have q := hE.cell g1; clear hE; go_simp; rfl) ?_
  try simp only [Act.put, List.setIfInBounds_toArray, List.set_cons_zero, List.set_cons_succ]
  refine seqL_yield rfl (fun w' => by go_simp; rfl) ?_
  try simp only [Act.put, List.setIfInBounds_toArray, List.set_cons_zero, List.set_cons_succ]
  refine seqL_grow rfl (fun K hK => ?_)
  have HKK := Lib.hid hK
  clear hK
  go_simp
  refine (child_any _ false (ptr w.heap.size) (ptr (w.heap.size + 1))).mono ?_
  rintro e w2 ⟨rfl, rfl⟩
  refine HKK.out _ _ (hS.alloc _) (fun hS2 => ?_)
  clear HKK K 
  try simp only [Act.put, List.setIfInBounds_toArray, List.set_cons_zero, List.set_cons_succ]
  refine seqL_grow rfl (fun K hK => ?_)
  have HKK := Lib.hid hK
  clear hK
  go_simp
  have hcl : ∀ j, j < cn → ∀ W, Ext _ W → Calls Try.prog 84 (#[i64 (cs.getD j 0)] ++ #[ptr w.heap.size, ptr (w.heap.size + 1), _]) W fun e W' => e = .returned (.bool (p j == false)) ∧ Ext W W' := fun j hj W hW =>
    child_ev W vb _ _ _ _ false (p j) (cs.getD j 0) (hW.cell (hS2.cell B0)) (hW.cell (hS2.cell B1)) ⟨_, _, _, rfl⟩ (hW.cell (by rw [World.cell?_alloc_new]; rfl)) (fun W' hW' => HCALL.out W' ((HE0.out.trans hS2).trans (hW.trans hW')) j hj)
  refine (hasInt _ ca cn ccap (by omega) 84 enters84 _ (fun j => i64 (cs.getD j 0)) (fun j hj => (HROW.out j hj).ext (HE0.out.trans hS2)) (fun j => p j == false) hcl).mono ?_
  rintro e w3 ⟨rfl, hE3⟩
  rw [HQ.out]
  refine HKK.out _ _ (hS2.trans hE3) (fun hS => ?_)
  clear HKK K hE3 hS2 hcl
  try simp only [Act.put, List.setIfInBounds_toArray, List.set_cons_zero, List.set_cons_succ]
  refine seqL_yield rfl (fun w' => by go_simp; rfl) ?_
  try simp only [Act.put, List.setIfInBounds_toArray, List.set_cons_zero, List.set_cons_succ]
  refine seqL_yield rfl (fun w' => by go_simp; rfl) ?_
  try simp only [Act.put, List.setIfInBounds_toArray, List.set_cons_zero, List.set_cons_succ]
  refine seqL_nil ?_
  have HS := Lib.hid (HE0.out.trans hS)
  clear hS
  go_wp2
  go_ret
  exact ⟨rfl, HS.out⟩

set_option maxRecDepth 20000 in
set_option maxHeartbeats 4000000 in
theorem eval_or (w : World) (vb : Nat) (d : DomV) (tv nv hv : Value) (hev : EvAt w vb d tv nv hv) (C : Cnd) (hc : CndAt w tv nv C) (i : Nat) (x : Nd) (cs : List Int) (hi : C.nodes[i]? = some (x, cs)) (hk : x.kind = 6) (pv : Value) (ps : List Int) (hp : IntsAt w pv ps) (p : Nat → Bool) (hcall : ∀ W, Ext w W → ∀ j, j < cs.length → Calls Try.prog 65 #[ptr vb, i64 (cs.getD j 0), pv] W fun e W' => e = .returned (.bool (p j)) ∧ Ext W W') :
    Calls Try.prog 65 #[ptr vb, i64 i, pv] w fun e w' => e = .returned (.bool ((List.range cs.length).any fun j => p j == true)) ∧ Ext w w' := by
  obtain ⟨nb, noff, nn, ncap, cv, av, rfl, hin, n1, n2, n3, hcv, hav, f0, f1, f2, f3, f4, f5, f6⟩ := node_at hc.nodes hi
  obtain ⟨kd, pd, ar, lf, rg, tp⟩ := x
  simp only at hk f0 f1 f2 f3 f4 f5 f6 hcv hav
  subst hk
  obtain ⟨ca, ccap, rfl⟩ := hcv.slice
  obtain ⟨aa, acap, rfl⟩ := hav.slice
  obtain ⟨pa, pcap, rfl⟩ := hp.slice
  obtain ⟨cn, hcn⟩ : ∃ n, cs.length = n := ⟨_, rfl⟩
  obtain ⟨an, han⟩ : ∃ n, ar.length = n := ⟨_, rfl⟩
  obtain ⟨pn, hpn⟩ : ∃ n, ps.length = n := ⟨_, rfl⟩
  rw [hcn] at f1
  rw [han] at f3
  rw [hpn]
  have v7 : w.cell? ⟨vb, 7, none⟩ = some (.slice (some ⟨nb, noff, none⟩) nn ncap) := by rw [cell_of_heap hev]; rfl
  have v8 : w.cell? ⟨vb, 8, none⟩ = some hv := by rw [cell_of_heap hev]; rfl
  have hlv := heap_lt hev
  unfold maxLen at n2
  have hln := World.block_lt_of_cell? w _ f0
  obtain ⟨ca', ccap', e, -, c2, c3, hcrow⟩ := hcv.rowAt
  cases e
  rw [hcn] at hcall hcrow c3 ⊢
  rw [hpn] at hcall
  have HCALL := Lib.hid hcall
  have HROW := Lib.hid hcrow
  obtain ⟨q, hq⟩ : ∃ q, (List.range cn).any (fun j => p j == true) = q := ⟨_, rfl⟩
  rw [hq]
  have HQ := Lib.hid hq
  have he := enters83'
  clear hp hcv hav hi hc hev han hpn hcall hcrow hcn hq
  go_enter Try.func65, Try.ntmps65
  go_wp2_with fail
  generalize hW0 : ((w.alloc (.cells #[ptr vb] 93)).alloc (.cells #[.slice pa pn pcap] 30)).alloc (.cells #[i64 6, .slice ca cn ccap, i64 pd, .slice aa an acap, i64 lf, i64 rg, i64 tp] 48) = W0
  have B0 : W0.cell? ⟨w.heap.size, 0, none⟩ = some (ptr vb) := by rw [← hW0]; exact Ext.cell (((Ext.refl _).alloc _).alloc _) (by rw [World.cell?_alloc_new]; rfl)
  have B1 : W0.cell? ⟨w.heap.size + 1, 0, none⟩ = some (.slice pa pn pcap) := by
    rw [← hW0]
    have h := (Ext.refl ((w.alloc (.cells #[ptr vb] 93)).alloc (.cells #[.slice pa pn pcap] 30))).alloc (.cells #[i64 6, .slice ca cn ccap, i64 pd, .slice aa an acap, i64 lf, i64 rg, i64 tp] 48)
    exact h.cell (by have := World.cell?_alloc_new (w.alloc (.cells #[ptr vb] 93)) #[.slice pa pn pcap] 30 0; rw [World.size_alloc] at this; rw [this]; rfl)
  have B2 : W0.heap[w.heap.size + 1 + 1]? = some (.cells #[i64 6, .slice ca cn ccap, i64 pd, .slice aa an acap, i64 lf, i64 rg, i64 tp] 48) := by
    rw [← hW0]
    have h := heap_alloc_new ((w.alloc (.cells #[ptr vb] 93)).alloc (.cells #[.slice pa pn pcap] 30)) (.cells #[i64 6, .slice ca cn ccap, i64 pd, .slice aa an acap, i64 lf, i64 rg, i64 tp] 48)
    rwa [World.size_alloc, World.size_alloc] at h
  have HE0 : Hid (Ext w W0) := by show Ext w W0; rw [← hW0]; exact (((Ext.refl w).alloc _).alloc _).alloc _
  obtain ⟨g0, g1, g2, g3, g4, g5, g6, gl⟩ := seven_facts B2
  have V8 := HE0.out.cell v8
  clear hW0
  refine wp_region_seq (Ext W0) [(0, 0), (1, 1), (2, 0), (3, 2), (4, 2), (5, 0)] (by kernel_rfl) (by kernel_rfl) (Ext.refl W0).drew (fun hS => ?_)
  simp only [List.map, nthOp]
  refine seqL_yield rfl (fun w' => by go_simp; rfl) ?_
  try simp only [Act.put, List.setIfInBounds_toArray, List.set_cons_zero, List.set_cons_succ]
  refine seqL_read hS rfl (fun w' hE => by have q := hE.cell g1; clear hE; go_simp; rfl) ?_
  try simp only [Act.put, List.setIfInBounds_toArray, List.set_cons_zero, List.set_cons_succ]
  refine seqL_yield rfl (fun w' => by go_simp; rfl) ?_
  try simp only [Act.put, List.setIfInBounds_toArray, List.set_cons_zero, List.set_cons_succ]
  refine seqL_grow rfl (fun K hK => ?_)
  have HKK := Lib.hid hK
  clear hK
  go_simp
  refine (child_any _ true (ptr w.heap.size) (ptr (w.heap.size + 1))).mono ?_
  rintro e w2 ⟨rfl, rfl⟩
  refine HKK.out _ _ (hS.alloc _) (fun hS2 => ?_)
  clear HKK K 
  try simp only [Act.put, List.setIfInBounds_toArray, List.set_cons_zero, List.set_cons_succ]
  refine seqL_grow rfl (fun K hK => ?_)
  have HKK := Lib.hid hK
  clear hK
  go_simp
  have hcl : ∀ j, j < cn → ∀ W, Ext _ W → Calls Try.prog 84 (#[i64 (cs.getD j 0)] ++ #[ptr w.heap.size, ptr (w.heap.size + 1), _]) W fun e W' => e = .returned (.bool (p j == true)) ∧ Ext W W' := fun j hj W hW =>
    child_ev W vb _ _ _ _ true (p j) (cs.getD j 0) (hW.cell (hS2.cell B0)) (hW.cell (hS2.cell B1)) ⟨_, _, _, rfl⟩ (hW.cell (by rw [World.cell?_alloc_new]; rfl)) (fun W' hW' => HCALL.out W' ((HE0.out.trans hS2).trans (hW.trans hW')) j hj)
  refine (hasInt _ ca cn ccap (by omega) 84 enters84 _ (fun j => i64 (cs.getD j 0)) (fun j hj => (HROW.out j hj).ext (HE0.out.trans hS2)) (fun j => p j == true) hcl).mono ?_
  rintro e w3 ⟨rfl, hE3⟩
  rw [HQ.out]
  refine HKK.out _ _ (hS2.trans hE3) (fun hS => ?_)
  clear HKK K hE3 hS2 hcl
  try simp only [Act.put, List.setIfInBounds_toArray, List.set_cons_zero, List.set_cons_succ]
  refine seqL_yield rfl (fun w' => by go_simp; rfl) ?_
  try simp only [Act.put, List.setIfInBounds_toArray, List.set_cons_zero, List.set_cons_succ]
  refine seqL_nil ?_
  have HS := Lib.hid (HE0.out.trans hS)
  clear hS
  go_wp2
  go_ret
  exact ⟨rfl, HS.out⟩

set_option maxRecDepth 20000 in
set_option maxHeartbeats 4000000 in
theorem eval_exists (D : Dom) (w : World) (vb : Nat) (d : DomV) (tv nv hv : Value) (hev : EvAt w vb d tv nv hv) (C : Cnd) (hc : CndAt w tv nv C) (i : Nat) (x : Nd) (cs : List Int) (hi : C.nodes[i]? = some (x, cs)) (hk : x.kind = 7) (pv : Value) (ps : List Int) (hp : IntsAt w pv ps) (hd : DomAt w d D) (hpre : DomPre D) (c : Int) (hcs : cs = [c]) (hps : ps.length ≤ 1000) (p : Int → Bool) (hcall : ∀ W, Ext w W → ∀ o pv', IntsAt W pv' (ps ++ [o]) → o ∈ ofL D.types D.objects x.typ → Calls Try.prog 65 #[ptr vb, i64 c, pv'] W fun e W' => e = .returned (.bool (p o)) ∧ Ext W W') :
    Calls Try.prog 65 #[ptr vb, i64 i, pv] w fun e w' => e = .returned (.bool (!((ofL D.types D.objects x.typ).all fun o => !(p o != false)))) ∧ Ext w w' := by
  subst hcs
  obtain ⟨nb, noff, nn, ncap, cv, av, rfl, hin, n1, n2, n3, hcv, hav, f0, f1, f2, f3, f4, f5, f6⟩ := node_at hc.nodes hi
  have heach := fun W (hW : Ext w W) => each_any W vb d D (hd.ext hW) hpre tv (.slice (some ⟨nb, noff, none⟩) nn ncap) hv (hev.ext hW) x cv av c (hcv.ext hW) pv ps (hp.ext hW) hps false p (fun W' hW' => hcall W' (hW.trans hW'))
  obtain ⟨kd, pd, ar, lf, rg, tp⟩ := x
  simp only at hk f0 f1 f2 f3 f4 f5 f6 hcv hav
  subst hk
  obtain ⟨ca, ccap, rfl⟩ := hcv.slice
  obtain ⟨aa, acap, rfl⟩ := hav.slice
  obtain ⟨pa, pcap, rfl⟩ := hp.slice
  obtain ⟨cn, hcn⟩ : ∃ n, [c].length = n := ⟨_, rfl⟩
  obtain ⟨an, han⟩ : ∃ n, ar.length = n := ⟨_, rfl⟩
  obtain ⟨pn, hpn⟩ : ∃ n, ps.length = n := ⟨_, rfl⟩
  rw [hcn] at f1
  rw [han] at f3
  rw [hpn]
  have v7 : w.cell? ⟨vb, 7, none⟩ = some (.slice (some ⟨nb, noff, none⟩) nn ncap) := by rw [cell_of_heap hev]; rfl
  have v8 : w.cell? ⟨vb, 8, none⟩ = some hv := by rw [cell_of_heap hev]; rfl
  have hlv := heap_lt hev
  unfold maxLen at n2
  have hln := World.block_lt_of_cell? w _ f0
  rw [hpn] at heach
  unfold nodeAgg at heach
  simp only [hcn, han] at heach
  obtain ⟨q, hq⟩ : ∃ q, ((ofL D.types D.objects tp).all fun o => !(p o != false)) = q := ⟨_, rfl⟩
  rw [hq] at heach
  rw [hq]
  have HEACH := Lib.hid heach
  clear hp hcv hav hi hc hev han hpn hcall hcn hq heach hd hpre hps
  go_enter Try.func65, Try.ntmps65
  go_wp2_with fail
  refine (HEACH.out _ ((((Ext.refl w).alloc _).alloc _).alloc _)).mono ?_
  rintro e w2 ⟨rfl, hE2⟩
  have HS := Lib.hid (((((Ext.refl w).alloc _).alloc _).alloc _).trans hE2)
  clear hE2
  go_wp2
  go_ret
  exact ⟨rfl, HS.out⟩

set_option maxRecDepth 20000 in
set_option maxHeartbeats 4000000 in
theorem eval_forall (D : Dom) (w : World) (vb : Nat) (d : DomV) (tv nv hv : Value) (hev : EvAt w vb d tv nv hv) (C : Cnd) (hc : CndAt w tv nv C) (i : Nat) (x : Nd) (cs : List Int) (hi : C.nodes[i]? = some (x, cs)) (hk : x.kind = 8) (pv : Value) (ps : List Int) (hp : IntsAt w pv ps) (hd : DomAt w d D) (hpre : DomPre D) (c : Int) (hcs : cs = [c]) (hps : ps.length ≤ 1000) (p : Int → Bool) (hcall : ∀ W, Ext w W → ∀ o pv', IntsAt W pv' (ps ++ [o]) → o ∈ ofL D.types D.objects x.typ → Calls Try.prog 65 #[ptr vb, i64 c, pv'] W fun e W' => e = .returned (.bool (p o)) ∧ Ext W W') :
    Calls Try.prog 65 #[ptr vb, i64 i, pv] w fun e w' => e = .returned (.bool ((ofL D.types D.objects x.typ).all fun o => !(p o != true))) ∧ Ext w w' := by
  subst hcs
  obtain ⟨nb, noff, nn, ncap, cv, av, rfl, hin, n1, n2, n3, hcv, hav, f0, f1, f2, f3, f4, f5, f6⟩ := node_at hc.nodes hi
  have heach := fun W (hW : Ext w W) => each_any W vb d D (hd.ext hW) hpre tv (.slice (some ⟨nb, noff, none⟩) nn ncap) hv (hev.ext hW) x cv av c (hcv.ext hW) pv ps (hp.ext hW) hps true p (fun W' hW' => hcall W' (hW.trans hW'))
  obtain ⟨kd, pd, ar, lf, rg, tp⟩ := x
  simp only at hk f0 f1 f2 f3 f4 f5 f6 hcv hav
  subst hk
  obtain ⟨ca, ccap, rfl⟩ := hcv.slice
  obtain ⟨aa, acap, rfl⟩ := hav.slice
  obtain ⟨pa, pcap, rfl⟩ := hp.slice
  obtain ⟨cn, hcn⟩ : ∃ n, [c].length = n := ⟨_, rfl⟩
  obtain ⟨an, han⟩ : ∃ n, ar.length = n := ⟨_, rfl⟩
  obtain ⟨pn, hpn⟩ : ∃ n, ps.length = n := ⟨_, rfl⟩
  rw [hcn] at f1
  rw [han] at f3
  rw [hpn]
  have v7 : w.cell? ⟨vb, 7, none⟩ = some (.slice (some ⟨nb, noff, none⟩) nn ncap) := by rw [cell_of_heap hev]; rfl
  have v8 : w.cell? ⟨vb, 8, none⟩ = some hv := by rw [cell_of_heap hev]; rfl
  have hlv := heap_lt hev
  unfold maxLen at n2
  have hln := World.block_lt_of_cell? w _ f0
  rw [hpn] at heach
  unfold nodeAgg at heach
  simp only [hcn, han] at heach
  obtain ⟨q, hq⟩ : ∃ q, ((ofL D.types D.objects tp).all fun o => !(p o != true)) = q := ⟨_, rfl⟩
  rw [hq] at heach
  rw [hq]
  have HEACH := Lib.hid heach
  clear hp hcv hav hi hc hev han hpn hcall hcn hq heach hd hpre hps
  go_enter Try.func65, Try.ntmps65
  go_wp2_with fail
  refine (HEACH.out _ ((((Ext.refl w).alloc _).alloc _).alloc _)).mono ?_
  rintro e w2 ⟨rfl, hE2⟩
  have HS := Lib.hid (((((Ext.refl w).alloc _).alloc _).alloc _).trans hE2)
  clear hE2
  go_wp2
  go_ret
  exact ⟨rfl, HS.out⟩

end Go.Proofs.Ytodlkjjoenglgaa

/- condition.eval: all trees of a forest. -/
namespace Go.Proofs.Ytodlkjjoenglgaa
open Go Go.RowKit

theorem range_any (l : List Bool) (b : Bool) : (List.range l.length).any (fun j => l.getD j false == b) = l.any (· == b) := by
  rw [Bool.eq_iff_iff, List.any_eq_true, List.any_eq_true]
  constructor
  · rintro ⟨j, hj, h⟩
    have hj := List.mem_range.1 hj
    refine ⟨l[j], List.getElem_mem hj, ?_⟩
    rw [List.getD_eq_getElem?_getD, List.getElem?_eq_getElem hj] at h
    exact h
  · rintro ⟨x, hx, h⟩
    obtain ⟨j, hj, rfl⟩ := List.getElem_of_mem hx
    refine ⟨j, List.mem_range.2 hj, ?_⟩
    rw [List.getD_eq_getElem?_getD, List.getElem?_eq_getElem hj]
    exact h
theorem any_false (l : List Bool) : (!(l.any (· == false))) = l.all id := by
  induction l with
  | nil => rfl
  | cons x l ih => rw [List.any_cons, List.all_cons, ← ih]; cases x <;> rfl
theorem any_true (l : List Bool) : (l.any (· == true)) = l.any id := by
  induction l with
  | nil => rfl
  | cons x l ih => rw [List.any_cons, List.any_cons, ← ih]; cases x <;> rfl
theorem getD_head {l : List Bool} (h : l.length = 1) (a b : Bool) : l.getD 0 a = l.headD b := by
  match l, h with
  | [x], _ => rfl

/-- What one call of eval's evaluator is given. -/
structure EvCtx (w : World) (vb : Nat) (d : DomV) (D : Dom) (tv nv : Value) (C : Cnd) (fh : FuncId) (cpt : Array Value) (atoms : List AtD) : Prop where
  dom : DomAt w d D
  pre : DomPre D
  cnd : CndAt w tv nv C
  ev : EvAt w vb d tv nv (.func (.func fh) #[] cpt)
  ent : EntersF fh
  holds : ∀ W, Ext w W → ∀ pd args av, IntsAt W av args → Calls Try.prog fh (#[.agg #[i64 pd, av]] ++ cpt) W fun e W' => e = .returned (.bool (holdsD atoms ⟨pd, args⟩)) ∧ Ext W W'
theorem EvCtx.ext {w w' : World} {vb : Nat} {d : DomV} {D : Dom} {tv nv : Value} {C : Cnd} {fh : FuncId} {cpt : Array Value} {atoms : List AtD} (h : EvCtx w vb d D tv nv C fh cpt atoms) (e : Ext w w') : EvCtx w' vb d D tv nv C fh cpt atoms :=
  ⟨h.dom.ext e, h.pre, h.cnd.ext e, h.ev.ext e, h.ent, fun W hW => h.holds W (e.trans hW)⟩

theorem kids_one {k : Fo} {b : Nat} (h : k.len = 1) : ∃ c, k.roots b = [c] := by
  match k, h with
  | .cons n q .nil, _ => exact ⟨_, rfl⟩

theorem eval_node {w : World} {vb : Nat} {d : DomV} {D : Dom} {tv nv : Value} {C : Cnd} {fh : FuncId} {cpt : Array Value} {atoms : List AtD} (hx : EvCtx w vb d D tv nv C fh cpt atoms)
    (i : Nat) (n : Nd) (k : Fo) (b : Nat) (hi : C.nodes[i]? = some (n, k.roots b)) (G : List Int) (hG : G.length ≤ 1000) (hn : leafCode D n G = 0) (hk : 1 ≤ n.kind ∧ n.kind ≤ 8) (ha : arityOf n.kind < 0 ∨ (k.len : Int) = arityOf n.kind)
    (ih : KidsEv D atoms w vb k b (innerN n G).length) (pv : Value) (ps : List Int) (hp : IntsAt w pv ps) (hl : ps.length = G.length) :
    Calls Try.prog 65 #[ptr vb, i64 i, pv] w fun e w' => e = .returned (.bool (evN D atoms n (evF D atoms k) ps)) ∧ Ext w w' := by
  have hg : ∀ {a : Int}, ¬ argBad D G.length a → -(ps.length : Int) ≤ a := fun {a} h => by unfold argBad at h; omega
  have hone : (n.kind = 4 ∨ n.kind = 7 ∨ n.kind = 8) → k.len = 1 := fun h => by
    unfold arityOf at ha
    rw [if_pos h] at ha
    omega
  have hkc : n.kind = 1 ∨ n.kind = 2 ∨ n.kind = 3 ∨ n.kind = 4 ∨ n.kind = 5 ∨ n.kind = 6 ∨ n.kind = 7 ∨ n.kind = 8 := by omega
  rcases hkc with h | h | h | h | h | h | h | h
  · refine (eval_true w vb d tv nv _ hx.ev C hx.cnd i n _ hi h pv ps hp).mono ?_
    rintro e w' ⟨rfl, hE⟩
    refine ⟨?_, hE⟩
    unfold evN
    simp [h]
  · refine (eval_atom w vb d tv nv _ hx.ev C hx.cnd i n _ hi h pv ps hp (fun a ha => hg ((ok_args hn).1 h a ha)) fh cpt rfl hx.ent atoms hx.holds).mono ?_
    rintro e w' ⟨rfl, hE⟩
    refine ⟨?_, hE⟩
    unfold evN
    rw [if_pos h]
  · have hb := (ok_args hn).2 h
    refine (eval_equal w vb d tv nv _ hx.ev C hx.cnd i n _ hi h pv ps hp (hg hb.1) (hg hb.2)).mono ?_
    rintro e w' ⟨rfl, hE⟩
    refine ⟨?_, hE⟩
    unfold evN
    rw [if_neg (by omega), if_pos h]
  · have h1 := hone (.inl h)
    obtain ⟨c, hc⟩ := kids_one (b := b) h1
    rw [hc] at hi
    have hin : innerN n G = G := innerN_not (by rw [h]; rfl) G
    rw [hin] at ih
    refine (eval_not w vb d tv nv _ hx.ev C hx.cnd i n _ hi h pv ps hp c rfl ((evF D atoms k ps).getD 0 false) fun W hW => ?_).mono ?_
    · have := ih W hW 0 (by omega) ps pv (hp.ext hW) hl
      rw [hc] at this
      exact this
    · rintro e w' ⟨rfl, hE⟩
      refine ⟨?_, hE⟩
      unfold evN
      rw [if_neg (by omega), if_neg (by omega), if_pos h, getD_head (by rw [evF_len]; exact h1) false true]
  · have hin : innerN n G = G := innerN_not (by rw [h]; rfl) G
    rw [hin] at ih
    refine (eval_and w vb d tv nv _ hx.ev C hx.cnd i n _ hi h pv ps hp (fun j => (evF D atoms k ps).getD j false) fun W hW j hj => ih W hW j (by rwa [Fo.roots_len] at hj) ps pv (hp.ext hW) hl).mono ?_
    rintro e w' ⟨rfl, hE⟩
    refine ⟨?_, hE⟩
    unfold evN
    rw [if_neg (by omega), if_neg (by omega), if_neg (by omega), if_pos h, Fo.roots_len, ← evF_len D atoms k ps, range_any, any_false]
  · have hin : innerN n G = G := innerN_not (by rw [h]; rfl) G
    rw [hin] at ih
    refine (eval_or w vb d tv nv _ hx.ev C hx.cnd i n _ hi h pv ps hp (fun j => (evF D atoms k ps).getD j false) fun W hW j hj => ih W hW j (by rwa [Fo.roots_len] at hj) ps pv (hp.ext hW) hl).mono ?_
    rintro e w' ⟨rfl, hE⟩
    refine ⟨?_, hE⟩
    unfold evN
    rw [if_neg (by omega), if_neg (by omega), if_neg (by omega), if_neg (by omega), if_pos h, Fo.roots_len, ← evF_len D atoms k ps, range_any, any_true]
  · have h1 := hone (.inr (.inl h))
    obtain ⟨c, hc⟩ := kids_one (b := b) h1
    rw [hc] at hi
    have hin : (innerN n G).length = G.length + 1 := by unfold innerN; rw [if_pos (by rw [h]; rfl)]; simp
    rw [hin] at ih
    refine (eval_exists D w vb d tv nv _ hx.ev C hx.cnd i n _ hi h pv ps hp hx.dom hx.pre c rfl (by omega) (fun o => (evF D atoms k (ps ++ [o])).getD 0 false) fun W hW o pv' hp' _ => ?_).mono ?_
    · have := ih W hW 0 (by omega) (ps ++ [o]) pv' hp' (by simp [hl])
      rw [hc] at this
      exact this
    · rintro e w' ⟨rfl, hE⟩
      refine ⟨?_, hE⟩
      unfold evN
      rw [if_neg (by omega), if_neg (by omega), if_neg (by omega), if_neg (by omega), if_neg (by omega), if_pos h]
      refine ret_bool ?_
      have hh : ∀ o, (evF D atoms k (ps ++ [o])).getD 0 false = (evF D atoms k (ps ++ [o])).headD true := fun o => getD_head (by rw [evF_len]; exact h1) false true
      simp only [hh]
      rw [all_neg, Bool.not_not]
      congr 1
      funext o
      cases (evF D atoms k (ps ++ [o])).headD true <;> rfl
  · have h1 := hone (.inr (.inr h))
    obtain ⟨c, hc⟩ := kids_one (b := b) h1
    rw [hc] at hi
    have hin : (innerN n G).length = G.length + 1 := by unfold innerN; rw [if_pos (by rw [h]; rfl)]; simp
    rw [hin] at ih
    refine (eval_forall D w vb d tv nv _ hx.ev C hx.cnd i n _ hi h pv ps hp hx.dom hx.pre c rfl (by omega) (fun o => (evF D atoms k (ps ++ [o])).getD 0 false) fun W hW o pv' hp' _ => ?_).mono ?_
    · have := ih W hW 0 (by omega) (ps ++ [o]) pv' hp' (by simp [hl])
      rw [hc] at this
      exact this
    · rintro e w' ⟨rfl, hE⟩
      refine ⟨?_, hE⟩
      unfold evN
      rw [if_neg (by omega), if_neg (by omega), if_neg (by omega), if_neg (by omega), if_neg (by omega), if_neg (by omega), if_pos h]
      refine ret_bool ?_
      have hh : ∀ o, (evF D atoms k (ps ++ [o])).getD 0 false = (evF D atoms k (ps ++ [o])).headD true := fun o => getD_head (by rw [evF_len]; exact h1) false true
      simp only [hh]
      congr 1
      funext o
      cases (evF D atoms k (ps ++ [o])).headD true <;> rfl

theorem eval_all {vb : Nat} {d : DomV} {D : Dom} {tv nv : Value} {C : Cnd} {fh : FuncId} {cpt : Array Value} {atoms : List AtD} (f : Fo) : ∀ (w : World) (_ : EvCtx w vb d D tv nv C fh cpt atoms) (b : Nat) (_ : ∀ i, i < f.count → C.nodes[b + i]? = (f.flat b)[i]?) (G : List Int) (_ : G.length + f.count ≤ 1000) (_ : f.Shaped) (_ : OkF D G f),
    KidsEv D atoms w vb f b G.length := by
  induction f with
  | nil => intro w hx b hf G hG hs ho W hW j hj; simp [Fo.len] at hj
  | cons n k r ihk ihr =>
    intro w hx b hf G hG hs ho W hW j hj ps pv hp hl
    obtain ⟨s1, s2, s3, s4⟩ := hs
    obtain ⟨o1, o2, o3⟩ := ho
    simp only [Fo.count] at hf hG
    have hx := hx.ext hW
    cases j with
    | zero =>
      refine eval_node hx (b + k.count) n k b ?_ G (by omega) o1.1 s1 s2 ?_ pv ps hp hl
      · rw [hf k.count (by omega), Fo.flat, List.getElem?_append_right (by rw [Fo.flat_len]; exact Nat.le_refl _), Fo.flat_len, Nat.sub_self]
        rfl
      · have hin : (innerN n G).length ≤ G.length + 1 := by unfold innerN; split <;> simp
        exact ihk W hx b (fun i hi => by rw [hf i (by omega), Fo.flat, List.getElem?_append_left (by rw [Fo.flat_len]; exact hi)]) (innerN n G) (by omega) s3 o2
    | succ j =>
      have := ihr W hx (b + k.count + 1) (fun i hi => by
        rw [show b + k.count + 1 + i = b + (k.count + 1 + i) by omega, hf _ (by omega), Fo.flat, List.getElem?_append_right (by rw [Fo.flat_len]; omega), Fo.flat_len, show k.count + 1 + i - k.count = i + 1 by omega, List.getElem?_cons_succ]) G (by omega) s4 o3 W (Ext.refl W) j (by simp only [Fo.len] at hj; omega) ps pv hp hl
      exact this

/-- eval on the root of a right condition. -/
theorem eval_root {w : World} {vb : Nat} {d : DomV} {D : Dom} {tv nv : Value} {ts : List Int} {n : Nd} {k : Fo} {fh : FuncId} {cpt : Array Value} {atoms : List AtD} (hx : EvCtx w vb d D tv nv ⟨ts, (Fo.one n k).flat 0⟩ fh cpt atoms)
    (hs : (Fo.one n k).Shaped) (hc : (Fo.one n k).count ≤ 30) (ho : OkF D ts (Fo.one n k)) (hts : ts.length ≤ 100) (pv : Value) (ps : List Int) (hp : IntsAt w pv ps) (hl : ps.length = ts.length) :
    Calls Try.prog 65 #[ptr vb, i64 (k.count : Int), pv] w fun e w' => e = .returned (.bool (evN D atoms n (evF D atoms k) ps)) ∧ Ext w w' := by
  have h := eval_all (Fo.one n k) w hx 0 (fun i _ => by rw [Nat.zero_add]) ts (by omega) hs ho w (Ext.refl w) 0 (by simp [Fo.one, Fo.len]) ps pv hp hl
  rw [Fo.roots_one] at h
  simpa [evF_one] using h
end Go.Proofs.Ytodlkjjoenglgaa

/- condition.Eval. -/
namespace Go.Proofs.Ytodlkjjoenglgaa
open Go Go.RowKit

theorem enters61 : EntersF 61 := fun args W => enters_of Try.func61 (by kernel_rfl) rfl args W
theorem enters63 : EntersF 63 := fun args W => enters_of Try.func63 (by kernel_rfl) rfl args W

set_option maxHeartbeats 1000000 in
theorem same_atom (w : World) (a b : AtD) (A : Nat) (av bv : Value) (hA0 : w.cell? ⟨A, 0, none⟩ = some (i64 a.pred)) (hA1 : w.cell? ⟨A, 1, none⟩ = some av) (ha : IntsAt w av a.args) (hb : IntsAt w bv b.args) :
    Calls Try.prog 63 #[.agg #[i64 b.pred, bv], ptr A] w fun e w' => e = .returned (.bool (decide (cmpA a b = 0))) ∧ Ext w w' := by
  have hcmp := fun W (hW : Ext w W) => cmpA_any W a b av bv (ha.ext hW) (hb.ext hW)
  obtain ⟨a1, a2, rfl⟩ := ha.slice
  obtain ⟨b1, b2, rfl⟩ := hb.slice
  obtain ⟨c, hc⟩ : ∃ c, cmpA a b = c := ⟨_, rfl⟩
  obtain ⟨ap, al⟩ := a
  obtain ⟨bp, bl⟩ := b
  simp only [hc] at hcmp hA0 hA1 ⊢
  obtain ⟨an, han⟩ : ∃ n, al.length = n := ⟨_, rfl⟩
  obtain ⟨bn, hbn⟩ : ∃ n, bl.length = n := ⟨_, rfl⟩
  simp only [han, hbn] at hcmp hA1 ⊢
  have HC := Lib.hid hcmp
  have hl := World.block_lt_of_cell? w _ hA0
  clear hcmp hc ha hb han hbn
  go_enter Try.func63, Try.ntmps63
  go_wp2_with fail
  refine (HC.out _ ((Ext.refl w).alloc _)).mono ?_
  rintro e w2 ⟨rfl, hE⟩
  have HE := Lib.hid hE.of_new
  clear hE
  go_wp2
  go_ret
  exact ⟨ret_bool rfl, HE.out⟩

set_option maxHeartbeats 1000000 in
theorem holds_any (w : World) (A : Nat) (lv : Value) (atoms : List AtD) (hA : w.cell? ⟨A, 0, none⟩ = some lv) (hl : Sl w 2 32 rAtom lv atoms) (pd : Int) (args : List Int) (av : Value) (ha : IntsAt w av args) :
    Calls Try.prog 61 #[.agg #[i64 pd, av], ptr A] w fun e w' => e = .returned (.bool (holdsD atoms ⟨pd, args⟩)) ∧ Ext w w' := by
  obtain ⟨la, lcap, bv, rfl, l1, l2, l3, hrow⟩ := hl.atoms
  have hlt := World.block_lt_of_cell? w _ hA
  obtain ⟨aa, acap, rfl⟩ := ha.slice
  obtain ⟨an, han⟩ : ∃ n, args.length = n := ⟨_, rfl⟩
  rw [han] at ha ⊢
  have hhas := fun W (hW : Ext w W) (B : Nat) (h0 : W.cell? ⟨B, 0, none⟩ = some (i64 pd)) (h1 : W.cell? ⟨B, 1, none⟩ = some (.slice aa an acap)) =>
    hasAtom W la atoms.length lcap (by omega) 63 enters63 #[ptr B] (fun i => i64 (atoms.getD i dAt).pred) bv (fun i hi => (hrow i hi).1.ext hW) (fun i => decide (cmpA ⟨pd, args⟩ (atoms.getD i dAt) = 0))
      (fun i hi W' hW' => same_atom W' ⟨pd, args⟩ (atoms.getD i dAt) B _ _ (hW'.cell h0) (hW'.cell h1) (ha.ext (hW.trans hW')) ((hrow i hi).2.ext (hW.trans hW')))
  have hv : holdsD atoms ⟨pd, args⟩ = (List.range atoms.length).any fun i => decide (cmpA ⟨pd, args⟩ (atoms.getD i dAt) = 0) := by
    unfold holdsD
    rw [Bool.eq_iff_iff, List.any_eq_true, List.any_eq_true]
    constructor
    · rintro ⟨x, hx, h⟩
      obtain ⟨j, hj, rfl⟩ := List.getElem_of_mem hx
      exact ⟨j, List.mem_range.2 hj, by rw [List.getD_eq_getElem?_getD, List.getElem?_eq_getElem hj]; exact h⟩
    · rintro ⟨j, hj, h⟩
      have hj := List.mem_range.1 hj
      rw [List.getD_eq_getElem?_getD, List.getElem?_eq_getElem hj] at h
      exact ⟨atoms[j], List.getElem_mem hj, h⟩
  obtain ⟨r, hr⟩ : ∃ r, holdsD atoms ⟨pd, args⟩ = r := ⟨_, rfl⟩
  rw [← hv, hr] at hhas
  rw [hr]
  obtain ⟨ln, hln⟩ : ∃ n, atoms.length = n := ⟨_, rfl⟩
  rw [hln] at hhas hA
  have HH := Lib.hid hhas
  clear hhas hv hr hrow hl ha han hln l1 l3
  go_enter Try.func61, Try.ntmps61
  go_wp2_with fail
  refine (HH.out _ ((Ext.refl w).alloc _) _ (by rw [World.cell?_alloc_new]; rfl) (by rw [World.cell?_alloc_new]; rfl)).mono ?_
  rintro e w2 ⟨rfl, hE⟩
  have HE := Lib.hid hE.of_new
  clear hE
  go_wp2
  go_ret
  exact ⟨rfl, HE.out⟩

/-- Eval's fault. -/
def evalV (D : Dom) (C : Cnd) (atoms : List AtD) (args : List Int) : Int × Int :=
  if valV D C ≠ (0, 0) then valV D C else if 400 < atoms.length then (2, -11)
  else if scan (fun i => atomCode D [] (atoms.getD i dAt)) atoms.length ≠ 0 then (scan (fun i => atomCode D [] (atoms.getD i dAt)) atoms.length, -11)
  else valuesV D C args
def TopV (v : Int × Int) (b r : Bool) : Prop := (v ≠ (0, 0) → b = false) ∧ (v = (0, 0) → b = r)
def EvalPost (w : World) (v : Int × Int) (r : Bool) (e : Ending) (w' : World) : Prop := Ext w w' ∧ ∃ b, e = .returned (.tuple #[.bool b, faultV v]) ∧ TopV v b r

theorem valuesV_len {D : Dom} {C : Cnd} {args : List Int} (h : valuesV D C args = (0, 0)) : args.length = C.types.length := by
  unfold valuesV at h
  split at h
  · cases h
  · rename_i h1; simpa using h1

set_option maxRecDepth 20000 in
set_option maxHeartbeats 4000000 in
theorem evalTop (w : World) (d : DomV) (D : Dom) (hd : DomAt w d D) (tv nv : Value) (C : Cnd) (hc : CndAt w tv nv C) (lv : Value) (atoms : List AtD) (hl : Sl w 2 32 rAtom lv atoms) (av : Value) (args : List Int) (ha : IntsAt w av args)
    (n : Nd) (k : Fo) (hT : valV D C = (0, 0) → C.nodes = (Fo.one n k).flat 0 ∧ (Fo.one n k).Shaped ∧ (Fo.one n k).count ≤ 30 ∧ OkF D C.types (Fo.one n k)) :
    Calls Try.prog 46 #[.agg d.cells, .agg #[tv, nv], lv, av] w (EvalPost w (evalV D C atoms args) (evN D atoms n (evF D atoms k) args)) := by
  obtain ⟨v, hv⟩ : ∃ v, evalV D C atoms args = v := ⟨_, rfl⟩
  obtain ⟨r, hr⟩ : ∃ r, evN D atoms n (evF D atoms k) args = r := ⟨_, rfl⟩
  rw [hv, hr]
  obtain ⟨la, lcap, bv, hlv, l1, l2, l3, hrow⟩ := hl.atoms
  have hval := fun W (hW : Ext w W) => valV_any W d D (hd.ext hW) tv nv C (hc.ext hW)
  have hpre := fun (h : valV D C = (0, 0)) => domV_pre (valV_inv h).1
  have hatom := fun W (hW : Ext w W) (hp : DomPre D) i (hi : i < atoms.length) => atom_any W d D (hd.ext hW) hp (.slice none 0 0) [] (IntsAt.nil W) (TypesIn.nil D) (atoms.getD i dAt) (bv i) ((hrow i hi).2.ext hW)
  have hvals := fun W (hW : Ext w W) (hp : DomPre D) => values_any W d D (hd.ext hW) hp tv nv C (hc.ext hW) av args (ha.ext hW)
  have heval : valV D C = (0, 0) → valuesV D C args = (0, 0) → ∀ W (_ : Ext w W) B (_ : W.cell? ⟨B, 0, none⟩ = some lv) vb (_ : EvAt W vb d tv nv (.func (.func 61) #[] #[ptr B])) (z : Int) (_ : z = (C.nodes.length : Int) - 1),
      Calls Try.prog 65 #[ptr vb, i64 z, av] W fun e W' => e = .returned (.bool r) ∧ Ext W W' := fun h1 h2 W hW B hB vb hev z hz => by
    obtain ⟨t1, t2, t3, t4⟩ := hT h1
    have hcl : C.nodes.length = k.count + 1 := by rw [t1, Fo.flat_len, Fo.count_one]
    rw [← hr, show z = (k.count : Int) by omega]
    have hts : C.types.length ≤ 3 := (paramsCode_zero (valV_inv h1).2.1).1
    have hcc : C = ⟨C.types, (Fo.one n k).flat 0⟩ := by rw [← t1]
    refine eval_root (ts := C.types) (d := d) (D := D) (tv := tv) (nv := nv) (fh := 61) (cpt := #[ptr B]) ⟨hd.ext hW, hpre h1, ?_, hev, enters61, ?_⟩ t2 t3 t4 (by omega) av args (ha.ext hW) (valuesV_len h2)
    · rw [← hcc]; exact hc.ext hW
    · intro W' hW' pd ar av' har
      exact holds_any W' B lv atoms (hW'.cell hB) (Sl.ext hl (hW.trans hW') (rAtom.ext (hW.trans hW'))) pd ar av' har
  obtain ⟨vv, hvv⟩ : ∃ x, valV D C = x := ⟨_, rfl⟩
  obtain ⟨sv, hsv⟩ : ∃ x, valuesV D C args = x := ⟨_, rfl⟩
  obtain ⟨f, hf⟩ : ∃ f, (fun i => atomCode D [] (atoms.getD i dAt)) = f := ⟨_, rfl⟩
  have hff : ∀ i, atomCode D [] (atoms.getD i dAt) = f i := fun i => by rw [← hf]
  simp only [hff] at hatom
  obtain ⟨ln, hln⟩ : ∃ n, atoms.length = n := ⟨_, rfl⟩
  obtain ⟨nn, hnn⟩ : ∃ n, C.nodes.length = n := ⟨_, rfl⟩
  have h1 : v = if vv ≠ (0, 0) then vv else if 400 < ln then (2, -11) else if scan f ln ≠ 0 then (scan f ln, -11) else sv := by rw [← hv, ← hvv, ← hsv, ← hf, ← hln]; rfl
  have hnpos : vv = (0, 0) → 1 ≤ nn := fun h => by obtain ⟨t1, -⟩ := hT (hvv.trans h); rw [← hnn, t1, Fo.flat_len, Fo.count_one]; omega
  have hrow' := fun i (hi : i < atoms.length) => And.intro (hrow i hi).1 (show ∃ ua un ucap, bv i = .slice ua un ucap from let ⟨ua, ucap, h, _⟩ := (hrow i hi).2; ⟨ua, _, ucap, h⟩)
  obtain ⟨ta, tn, tcap, htv⟩ := Sl.slice hc.types
  obtain ⟨na, ncap, ncv, nav, hnv, -, -, n3, -⟩ := hc.nodes.nodes
  obtain ⟨aa, an, acap, hav⟩ := Sl.slice ha
  obtain ⟨t1, tn1, tcap1, e1⟩ := hd.types.slice
  obtain ⟨t2, tn2, tcap2, e2⟩ := hd.objects.slice
  obtain ⟨t3, tn3, tcap3, e3⟩ := hd.preds.slice
  obtain ⟨t4, tn4, tcap4, e4⟩ := hd.schemas.slice
  obtain ⟨t5, tn5, tcap5, e5⟩ := hd.init.slice
  obtain ⟨t6, tn6, tcap6, e6⟩ := hd.goal.slice
  unfold EvAt at heval
  have hdc : d.cells = #[d.tv, d.ov, d.pv, d.sv, d.iv, d.gv] := rfl
  rw [hdc] at hval hatom hvals ⊢
  subst htv hav
  rw [hnn] at hnv n3
  subst hnv hlv
  simp only [hvv, hsv, hln, hnn, e1, e2, e3, e4, e5, e6] at hval hpre hatom hvals heval hrow' l1 l3 ⊢
  have HVAL := Lib.hid hval
  have HPRE := Lib.hid hpre
  have HATOM := Lib.hid hatom
  have HVALS := Lib.hid hvals
  have HEVAL := Lib.hid heval
  have HROW := Lib.hid hrow'
  have HNP := Lib.hid hnpos
  have H1 := Lib.hid h1
  unfold maxLen at l2
  clear hval hpre hatom hvals heval hrow hrow' hnpos h1 hvv hsv hf hff hln hnn hv hr hd hc hl ha hT hdc e1 e2 e3 e4 e5 e6
  obtain ⟨v0, v1⟩ := vv
  obtain ⟨s0, s1⟩ := sv
  go_enter Try.func46, Try.ntmps46
  go_wp2_with fail
  refine (HVAL.out _ (((((Ext.refl w).alloc _).alloc _).alloc _).alloc _)).mono ?_
  rintro e w1 ⟨rfl, hE⟩
  have B0 := Lib.hid (hE.of_new.of_new.of_new.block (heap_alloc_new w _))
  have B1 := Lib.hid (hE.of_new.of_new.block (heap_alloc_second w _ _))
  have B2 := Lib.hid (show w1.heap[w.heap.size + 1 + 1]? = some (.cells #[.slice la ln lcap] 26) from by
    have h := hE.of_new.block (heap_alloc_new _ (.cells #[.slice la ln lcap] 26))
    rwa [World.size_alloc, World.size_alloc] at h)
  have B3 := Lib.hid (show w1.heap[w.heap.size + 1 + 1 + 1]? = some (.cells #[i64 0, i64 0] 70) from by
    have h := hE.block (heap_alloc_new _ (.cells #[i64 0, i64 0] 70))
    rwa [World.size_alloc, World.size_alloc, World.size_alloc] at h)
  have HE1 := Lib.hid hE.of_new.of_new.of_new.of_new
  clear hE
  obtain ⟨b0, b1, b2, b3, b4, b5, bl⟩ := six_facts B0.out
  obtain ⟨c0, c1, cz0, cz1, cl⟩ := two_facts B1.out
  have p0 : w1.cell? ⟨w.heap.size + 1 + 1, 0, none⟩ = some (.slice la ln lcap) := by rw [cell_of_heap B2.out]; rfl
  have pl := heap_lt B2.out
  obtain ⟨r0, r1, z0, z1, rl⟩ := two_facts B3.out
  have hbad : ¬(v0 = 0 ∧ v1 = 0) → v = (v0, v1) := fun h => by rw [H1.out, if_pos (by simpa using h)]
  by_cases hd : v0 = 0 ∧ v1 = 0
  · obtain ⟨rfl, rfl⟩ := hd
    have HP := Lib.hid (HPRE.out rfl)
    have HN := HNP.out rfl
    have H1a := Lib.hid (show v = _ by rw [H1.out, if_neg (by simp)])
    have HEV1 := Lib.hid (fun h W hW B hB vb he z hz => HEVAL.out rfl h W hW B hB vb he z hz)
    clear H1 HPRE hbad HNP HEVAL
    by_cases h4 : 400 < ln
    · have HV := Lib.hid (show v = (2, -11) by rw [H1a.out, if_pos h4])
      have HB : Hid (TopV (2, -11) false r) := ⟨fun _ => rfl, fun h => by cases h⟩
      clear H1a
      go_wp2
      rw [HV.out]
      exact bodyPost_ret (results_val_fault (x := 2) (y := -11) rfl rfl rfl (heap_two_alloc _ _ _ B3.out)) rfl ⟨HE1.out.two_alloc (b := w.heap.size + 1 + 1 + 1) (by omega) _ _ _, false, rfl, HB.out⟩
    · have H1b := Lib.hid (show v = _ by rw [H1a.out, if_neg h4])
      clear H1a
      go_wp2_with fail
      generalize hW0 : w1.alloc (.cells #[i64 0, i64 0] 70) = W0
      have hE0 : Ext w1 W0 := by rw [← hW0]; exact (Ext.refl w1).alloc _
      replace B0 := Lib.hid (hE0.block B0.out)
      replace B1 := Lib.hid (hE0.block B1.out)
      replace B2 := Lib.hid (hE0.block B2.out)
      replace B3 := Lib.hid (hE0.block B3.out)
      have HE2 := Lib.hid (HE1.out.trans hE0)
      have H0 : Hid (∀ j, j < 0 → f j = 0) := fun j hj => absurd hj (Nat.not_lt_zero j)
      clear hW0 hE0 b0 b1 b2 b3 b4 b5 bl c0 c1 cz0 cz1 cl r0 r1 z0 z1 rl p0 pl HE1
      go_loopw [29] (fun i wr => ∃ k : Nat, k ≤ ln ∧ i = .int .i64 k ∧ Hid (∀ j, j < k → f j = 0) ∧ Ext W0 wr) (fun i _ => ln - (intOf i).toNat)
      case atStart => exact ⟨0, Nat.zero_le _, rfl, H0, Ext.refl _⟩
      case round =>
        obtain ⟨q, hq, rfl, H, hE⟩ := hrel
        clear H0
        replace B0 := Lib.hid (hE.block B0.out)
        replace B1 := Lib.hid (hE.block B1.out)
        replace B2 := Lib.hid (hE.block B2.out)
        replace B3 := Lib.hid (hE.block B3.out)
        have HE := Lib.hid hE
        have HEE := Lib.hid (HE2.out.trans hE)
        clear hE
        obtain ⟨b0, b1, b2, b3, b4, b5, bl⟩ := six_facts B0.out
        obtain ⟨c0, c1, cz0, cz1, cl⟩ := two_facts B1.out
        have p0 : wr.cell? ⟨w.heap.size + 1 + 1, 0, none⟩ = some (.slice la ln lcap) := by rw [cell_of_heap B2.out]; rfl
        have pl := heap_lt B2.out
        obtain ⟨r0, r1, z0, z1, rl⟩ := two_facts B3.out
        by_cases hlt' : q < ln
        · obtain ⟨⟨b6, off1, rfl, hc1⟩, ua, un, ucap, hu⟩ := HROW.out q hlt'
          have g0 : wr.cell? ⟨b6, off1 + q * 2, none⟩ = _ := HEE.out.cell (hc1 0 _ rfl)
          have g1 := HEE.out.cell (hc1 1 _ rfl)
          have hlt2 := World.block_lt_of_cell? wr _ g1
          obtain ⟨pq, hpq⟩ : ∃ p, (atoms.getD q dAt).pred = p := ⟨_, rfl⟩
          have hcall := fun W (hW : Ext w W) => HATOM.out W hW HP.out q hlt'
          simp only [hpq, hu] at hcall g0 g1
          have HCALL := Lib.hid hcall
          clear hcall hc1 hpq hu
          go_wp2_with fail
          refine (HCALL.out _ (HEE.out.alloc _)).mono ?_
          rintro e w2 ⟨hE2, rfl⟩
          replace B0 := Lib.hid (hE2.of_new.block B0.out)
          replace B1 := Lib.hid (hE2.of_new.block B1.out)
          replace B2 := Lib.hid (hE2.of_new.block B2.out)
          replace B3 := Lib.hid (hE2.of_new.block B3.out)
          have HE3 := Lib.hid (HE.out.trans hE2.of_new)
          have HEE3 := Lib.hid (HE2.out.trans HE3.out)
          obtain ⟨c, hc⟩ : ∃ c, f q = c := ⟨_, rfl⟩
          have HFK := Lib.hid hc
          rw [hc]
          clear hE2 hc g0 g1 b0 b1 b2 b3 b4 b5 bl c0 c1 cz0 cz1 cl r0 r1 z0 z1 rl p0 pl hlt2
          obtain ⟨b0, b1, b2, b3, b4, b5, bl⟩ := six_facts B0.out
          obtain ⟨c0, c1, cz0, cz1, cl⟩ := two_facts B1.out
          have p0 : w2.cell? ⟨w.heap.size + 1 + 1, 0, none⟩ = some (.slice (some ⟨b6, off1, none⟩) ln lcap) := by rw [cell_of_heap B2.out]; rfl
          have pl := heap_lt B2.out
          obtain ⟨r0, r1, z0, z1, rl⟩ := two_facts B3.out
          by_cases hz : c = 0
          · subst hz
            have hok : Hid (∀ j, j < q + 1 → f j = 0) := fun j hj => by
              rcases Nat.lt_succ_iff_lt_or_eq.1 hj with h' | rfl
              · exact H.out j h'
              · exact HFK.out
            go_wp2_with fail
            go_roundw
            case rel => exact ⟨q + 1, by omega, by go_num, hok, HE3.out⟩
            case measure => simp [intOf]; omega
          · have HV : Hid (v = (c, -11)) := by
              have hs : scan f ln = c := by rw [scan_hit hlt' H.out (by rw [HFK.out]; exact hz), HFK.out]
              show v = (c, -11)
              rw [H1b.out, hs, if_pos hz]
            have HB : Hid (TopV (c, -11) false r) := ⟨fun _ => rfl, fun h => by cases h⟩
            go_wp2
            rw [HV.out]
            exact bodyPost_ret (results_val_fault (x := c) (y := -11) rfl rfl rfl (heap_two _ _ B3.out)) rfl ⟨HEE3.out.two (b := w.heap.size + 1 + 1 + 1) (by omega) _ _, false, rfl, HB.out⟩
        · have hqn : q = ln := by omega
          subst hqn
          have H1c : Hid (v = (s0, s1)) := by show v = (s0, s1); rw [H1b.out, scan_none H.out, if_neg (by simp)]
          clear H1b
          go_wp2_with fail
          refine (HVALS.out _ HEE.out HP.out).mono ?_
          rintro e w2 ⟨rfl, hE2⟩
          replace B0 := Lib.hid (hE2.block B0.out)
          replace B1 := Lib.hid (hE2.block B1.out)
          replace B2 := Lib.hid (hE2.block B2.out)
          replace B3 := Lib.hid (hE2.block B3.out)
          have HE3 := Lib.hid (HEE.out.trans hE2)
          clear hE2 b0 b1 b2 b3 b4 b5 bl c0 c1 cz0 cz1 cl r0 r1 z0 z1 rl p0 pl
          obtain ⟨b0, b1, b2, b3, b4, b5, bl⟩ := six_facts B0.out
          obtain ⟨c0, c1, cz0, cz1, cl⟩ := two_facts B1.out
          have p0 : w2.cell? ⟨w.heap.size + 1 + 1, 0, none⟩ = some (.slice la q lcap) := by rw [cell_of_heap B2.out]; rfl
          have pl := heap_lt B2.out
          obtain ⟨r0, r1, z0, z1, rl⟩ := two_facts B3.out
          by_cases hd : s0 = 0 ∧ s1 = 0
          · obtain ⟨rfl, rfl⟩ := hd
            have HB : Hid (TopV (0, 0) r r) := ⟨fun h => absurd rfl h, fun _ => rfl⟩
            have HEV2 := Lib.hid (fun W hW B hB vb he z hz => HEV1.out rfl W hW B hB vb he z hz)
            clear HEV1
            go_wp2_with fail
            refine (HEV2.out _ ((HE3.out.alloc _).alloc _) (w.heap.size + 1 + 1) ?c1 (w2.heap.size + 1) ?c2 _ ?c3).mono ?_
            case c1 => exact (((Ext.refl w2).alloc _).alloc _).cell p0
            case c2 =>
              have h := heap_alloc_new (w2.alloc (.cells #[i64 0, i64 0] 70)) (.cells #[.slice t1 tn1 tcap1, .slice t2 tn2 tcap2, .slice t3 tn3 tcap3, .slice t4 tn4 tcap4, .slice t5 tn5 tcap5, .slice t6 tn6 tcap6, .slice ta tn tcap, .slice na nn ncap, .func (.func 61) #[] #[ptr (w.heap.size + 1 + 1)]] 98)
              rwa [World.size_alloc] at h
            case c3 => omega
            rintro e w3 ⟨rfl, hE4⟩
            have hE5 := hE4.of_new.of_new
            replace B3 := Lib.hid (hE5.block B3.out)
            have HE5 := Lib.hid (HE3.out.trans hE5)
            have HV := H1c
            clear hE4 hE5 b0 b1 b2 b3 b4 b5 bl c0 c1 cz0 cz1 cl r0 r1 z0 z1 rl p0 pl
            obtain ⟨r0, r1, z0, z1, rl⟩ := two_facts B3.out
            go_wp2
            rw [HV.out]
            exact bodyPost_ret (results_val_fault (x := 0) (y := 0) rfl rfl rfl (heap_two _ _ B3.out)) rfl ⟨HE5.out.two (b := w.heap.size + 1 + 1 + 1) (by omega) _ _, _, rfl, HB.out⟩
          · have HV := H1c
            have HB : Hid (TopV (s0, s1) false r) := ⟨fun _ => rfl, fun h => absurd (by simpa using h) hd⟩
            clear H1c
            by_cases hd0 : s0 = 0
            · have hd1 : ¬ s1 = 0 := fun h => hd ⟨hd0, h⟩
              subst hd0
              clear hd
              go_wp2_with fail
              refine wp_region_seq (Ext (w2.alloc (.cells #[i64 0, i64 s1] 70))) [(0, 1), (1, 0), (2, 3)] (by kernel_rfl) (by kernel_rfl) (Ext.refl _).drew (fun hS => ?_)
              simp only [List.map, nthOp]
              refine seqL_read (v := faultV (0, s1)) hS rfl (fun w' hE => ?_) ?_
              · have hx := two_facts (hE.block (heap_alloc_new w2 (.cells #[i64 0, i64 s1] 70)))
                obtain ⟨x0, x1, -⟩ := hx
                clear hE
                go_simp
              try simp only [Act.put, List.setIfInBounds_toArray, List.set_cons_zero, List.set_cons_succ]
              refine seqL_yield rfl (fun w' => by go_simp; rfl) ?_
              try simp only [Act.put, List.setIfInBounds_toArray, List.set_cons_zero, List.set_cons_succ]
              refine seqL_loud rfl (fun K hK => ?_)
              have HKK := Lib.hid hK
              clear hK
              go_simp
              refine HKK.out _ _ (seqL_nil ?_)
              clear HKK K
              try simp only [Act.put, List.setIfInBounds_toArray, List.set_cons_zero, List.set_cons_succ]
              go_wp2
              rw [HV.out]
              refine bodyPost_ret (results_val_fault (x := 0) (y := s1) rfl rfl rfl (heap_two_alloc _ _ _ B3.out)) rfl ⟨?_, false, rfl, HB.out⟩
              exact (HE3.out.two_alloc (b := w.heap.size + 1 + 1 + 1) (by omega) _ _ _).drew
            · clear hd
              go_wp2_with fail
              refine wp_region_seq (Ext (w2.alloc (.cells #[i64 s0, i64 s1] 70))) [(0, 1), (1, 0), (2, 3)] (by kernel_rfl) (by kernel_rfl) (Ext.refl _).drew (fun hS => ?_)
              simp only [List.map, nthOp]
              refine seqL_read (v := faultV (s0, s1)) hS rfl (fun w' hE => ?_) ?_
              · have hx := two_facts (hE.block (heap_alloc_new w2 (.cells #[i64 s0, i64 s1] 70)))
                obtain ⟨x0, x1, -⟩ := hx
                clear hE
                go_simp
              try simp only [Act.put, List.setIfInBounds_toArray, List.set_cons_zero, List.set_cons_succ]
              refine seqL_yield rfl (fun w' => by go_simp; rfl) ?_
              try simp only [Act.put, List.setIfInBounds_toArray, List.set_cons_zero, List.set_cons_succ]
              refine seqL_loud rfl (fun K hK => ?_)
              have HKK := Lib.hid hK
              clear hK
              go_simp
              refine HKK.out _ _ (seqL_nil ?_)
              clear HKK K
              try simp only [Act.put, List.setIfInBounds_toArray, List.set_cons_zero, List.set_cons_succ]
              go_wp2
              rw [HV.out]
              refine bodyPost_ret (results_val_fault (x := s0) (y := s1) rfl rfl rfl (heap_two_alloc _ _ _ B3.out)) rfl ⟨?_, false, rfl, HB.out⟩
              exact (HE3.out.two_alloc (b := w.heap.size + 1 + 1 + 1) (by omega) _ _ _).drew
  · have HV := Lib.hid (hbad hd)
    have HB : Hid (TopV (v0, v1) false r) := ⟨fun _ => rfl, fun h => absurd (by simpa using h) hd⟩
    clear H1 HPRE hbad
    by_cases hd0 : v0 = 0
    · have hd1 : ¬ v1 = 0 := fun h => hd ⟨hd0, h⟩
      subst hd0
      clear hd
      go_wp2_with fail
      refine wp_region_seq (Ext (w1.alloc (.cells #[i64 0, i64 v1] 70))) [(0, 1), (1, 0), (2, 3)] (by kernel_rfl) (by kernel_rfl) (Ext.refl _).drew (fun hS => ?_)
      simp only [List.map, nthOp]
      refine seqL_read (v := faultV (0, v1)) hS rfl (fun w' hE => ?_) ?_
      · have hx := two_facts (hE.block (heap_alloc_new w1 (.cells #[i64 0, i64 v1] 70)))
        obtain ⟨x0, x1, -⟩ := hx
        clear hE
        go_simp
      try simp only [Act.put, List.setIfInBounds_toArray, List.set_cons_zero, List.set_cons_succ]
      refine seqL_yield rfl (fun w' => by go_simp; rfl) ?_
      try simp only [Act.put, List.setIfInBounds_toArray, List.set_cons_zero, List.set_cons_succ]
      refine seqL_loud rfl (fun K hK => ?_)
      have HKK := Lib.hid hK
      clear hK
      go_simp
      refine HKK.out _ _ (seqL_nil ?_)
      clear HKK K
      try simp only [Act.put, List.setIfInBounds_toArray, List.set_cons_zero, List.set_cons_succ]
      go_wp2
      rw [HV.out]
      refine bodyPost_ret (results_val_fault (x := 0) (y := v1) rfl rfl rfl (heap_two_alloc _ _ _ B3.out)) rfl ⟨?_, false, rfl, HB.out⟩
      exact (HE1.out.two_alloc (b := w.heap.size + 1 + 1 + 1) (by omega) _ _ _).drew
    · clear hd
      go_wp2_with fail
      refine wp_region_seq (Ext (w1.alloc (.cells #[i64 v0, i64 v1] 70))) [(0, 1), (1, 0), (2, 3)] (by kernel_rfl) (by kernel_rfl) (Ext.refl _).drew (fun hS => ?_)
      simp only [List.map, nthOp]
      refine seqL_read (v := faultV (v0, v1)) hS rfl (fun w' hE => ?_) ?_
      · have hx := two_facts (hE.block (heap_alloc_new w1 (.cells #[i64 v0, i64 v1] 70)))
        obtain ⟨x0, x1, -⟩ := hx
        clear hE
        go_simp
      try simp only [Act.put, List.setIfInBounds_toArray, List.set_cons_zero, List.set_cons_succ]
      refine seqL_yield rfl (fun w' => by go_simp; rfl) ?_
      try simp only [Act.put, List.setIfInBounds_toArray, List.set_cons_zero, List.set_cons_succ]
      refine seqL_loud rfl (fun K hK => ?_)
      have HKK := Lib.hid hK
      clear hK
      go_simp
      refine HKK.out _ _ (seqL_nil ?_)
      clear HKK K
      try simp only [Act.put, List.setIfInBounds_toArray, List.set_cons_zero, List.set_cons_succ]
      go_wp2
      rw [HV.out]
      refine bodyPost_ret (results_val_fault (x := v0) (y := v1) rfl rfl rfl (heap_two_alloc _ _ _ B3.out)) rfl ⟨?_, false, rfl, HB.out⟩
      exact (HE1.out.two_alloc (b := w.heap.size + 1 + 1 + 1) (by omega) _ _ _).drew
end Go.Proofs.Ytodlkjjoenglgaa
