/- Parts of a proof about conditions: Dom1 Dom2 Dom3 Dom4 Cmp Dom5 Dom6 Dom7. -/
import Derived.Test.YtodlkjjoenglgaaMa
/- domain.typeOf, Params. -/
namespace Go.Proofs.Ytodlkjjoenglgaa
open Go Go.RowKit

theorem IntsAt.open {w : World} {v : Value} {l : List Int} (h : IntsAt w v l) :
    ∃ a cap, v = .slice a l.length cap ∧ l.length ≤ cap ∧ cap ≤ maxLen ∧ l.length * 8 ≤ 140737488351232 ∧ ∀ i, i < l.length → ∃ b off, a = some ⟨b, off, none⟩ ∧ w.cell? ⟨b, off + i, none⟩ = some (i64 (l.getD i 0)) := by
  obtain ⟨a, cap, rfl, h1, h2, h3, h4⟩ := h
  refine ⟨a, cap, rfl, h1, h2, h3, fun i hi => ?_⟩
  obtain ⟨c, hc, hr, b, off, rfl, hcell⟩ := h4 i l[i] (List.getElem?_eq_getElem hi)
  cases hr
  have := hcell 0 _ rfl
  simp only [Nat.mul_one, Nat.add_zero] at this
  exact ⟨b, off, rfl, by rw [this, List.getD_eq_getElem?_getD, List.getElem?_eq_getElem hi]; rfl⟩

theorem results_two {fn : Func} {r p : Tmp} {tmps : Array Value} {w : World} {u v : Value} (h : fn.results = #[.tmp r, .tmp p]) (hr : tmps.getD r undef = u) (hp : tmps.getD p undef = v) :
    (results fn tmps).run Try.prog w = .ok (.tuple #[u, v]) w := by
  rw [Array.getD_eq_getD_getElem?] at hp hr
  simp only [results, h]
  simp [go_sem, hp, hr]

/-- The type of an argument, parameters having the given types. -/
def argType (D : Dom) (ps : List Int) (x : Int) : Option Int :=
  if 0 ≤ x ∧ x < D.objects.length then some (D.objects.getD x.toNat dNI).2
  else if x < 0 ∧ -(ps.length : Int) ≤ x then some (ps.getD (-1 - x).toNat 0) else none

set_option maxHeartbeats 1000000 in
theorem typeOf_any (w : World) (d : DomV) (D : Dom) (hd : DomAt w d D) (pv : Value) (ps : List Int) (hp : IntsAt w pv ps) (x : Int) :
    Calls Try.prog 78 #[.agg d.cells, pv, i64 x] w fun e w' => Ext w w' ∧ e = .returned (.tuple #[i64 ((argType D ps x).getD 0), .bool (argType D ps x).isSome]) := by
  obtain ⟨tv, ov, qv, sv, iv, gv⟩ := d
  obtain ⟨oa, ocap, ho0, -, ho2, ho3, hrow, -⟩ := hd.objects.rows2
  simp only at ho0
  subst ho0
  obtain ⟨pa, pcap, rfl, -, hp2, hp3, hcell⟩ := hp.open
  obtain ⟨no, hno⟩ : ∃ n, D.objects.length = n := ⟨_, rfl⟩
  obtain ⟨np, hnp⟩ : ∃ n, ps.length = n := ⟨_, rfl⟩
  have HNO := Lib.hid hno
  have HNP := Lib.hid hnp
  rw [hno] at hrow ho3
  rw [hnp] at hcell hp3
  simp only [DomV.cells, hno, hnp]
  have HROW := Lib.hid hrow
  have HCELL := Lib.hid hcell
  unfold maxLen at ho2 hp2
  clear hno hnp hrow hcell hd hp
  by_cases h1 : 0 ≤ x
  · obtain ⟨k, rfl⟩ : ∃ k : Nat, x = k := ⟨x.toNat, by omega⟩
    by_cases h2 : k < no
    · have hv : argType D ps k = some (D.objects.getD k dNI).2 := by unfold argType; rw [if_pos (by rw [HNO.out]; omega)]; rfl
      obtain ⟨b, off, rfl, hc⟩ := HROW.out k h2
      have hc1 := hc 1 _ rfl
      obtain ⟨t, ht⟩ : ∃ t, (D.objects.getD k dNI).2 = t := ⟨_, rfl⟩
      rw [ht] at hv hc1
      have hlt := World.block_lt_of_cell? w _ hc1
      have HV := Lib.hid hv
      clear hv hc ht
      go_enter Try.func78, Try.ntmps78
      go_wp2
      rw [HV.out]
      exact bodyPost_ret (results_two rfl rfl rfl) rfl ⟨(Ext.refl w).alloc _, rfl⟩
    · have hv : argType D ps k = none := by unfold argType; rw [if_neg (by rw [HNO.out]; omega), if_neg (by omega)]
      have HV := Lib.hid hv
      clear hv
      go_enter Try.func78, Try.ntmps78
      go_wp2
      rw [HV.out]
      exact bodyPost_ret (results_two rfl rfl rfl) rfl ⟨(Ext.refl w).alloc _, rfl⟩
  · by_cases h2 : -(np : Int) ≤ x
    · have hv : argType D ps x = some (ps.getD (-1 - x).toNat 0) := by
        unfold argType; rw [if_neg (by omega), if_pos (by rw [HNP.out]; omega)]
      obtain ⟨b, off, rfl, hc⟩ := HCELL.out (-1 - x).toNat (by omega)
      obtain ⟨t, ht⟩ : ∃ t, ps.getD (-1 - x).toNat 0 = t := ⟨_, rfl⟩
      rw [ht] at hv hc
      have hlt := World.block_lt_of_cell? w _ hc
      have h3 : x < 0 := by omega
      have h4 : 0 ≤ -1 - x := by omega
      have h5 : (-1 - x) < np := by omega
      have HV := Lib.hid hv
      clear hv ht
      go_enter Try.func78, Try.ntmps78
      go_wp2
      rw [HV.out]
      exact bodyPost_ret (results_two rfl rfl rfl) rfl ⟨(Ext.refl w).alloc _, rfl⟩
    · have hv : argType D ps x = none := by unfold argType; rw [if_neg (by omega), if_neg (by rw [HNP.out]; omega)]
      have HV := Lib.hid hv
      clear hv
      go_enter Try.func78, Try.ntmps78
      go_wp2
      rw [HV.out]
      exact bodyPost_ret (results_two rfl rfl rfl) rfl ⟨(Ext.refl w).alloc _, rfl⟩
end Go.Proofs.Ytodlkjjoenglgaa

/- domain.Atom. -/
namespace Go.Proofs.Ytodlkjjoenglgaa
open Go Go.RowKit

structure DomPre (D : Dom) : Prop where
  hier : HierOK D.types
  nobj : D.objects.length ≤ 8
  objs : ∀ i, i < D.objects.length → inRange D.types (D.objects.getD i dNI).2
def TypesIn (D : Dom) (ps : List Int) : Prop := ∀ t ∈ ps, inRange D.types t

theorem argType_in {D : Dom} (h : DomPre D) {ps : List Int} (hp : TypesIn D ps) {x t : Int} (ht : argType D ps x = some t) : inRange D.types t := by
  unfold argType at ht
  split at ht
  · cases ht
    exact h.objs _ (by omega)
  · split at ht
    · cases ht
      have hl : (-1 - x).toNat < ps.length := by omega
      rw [List.getD_eq_getElem?_getD, List.getElem?_eq_getElem hl]
      exact hp _ (List.getElem_mem hl)
    · cases ht

def dPr : ByteArray × List Int := (ByteArray.empty, [])
def argCode (D : Dom) (ps want args : List Int) (i : Nat) : Int :=
  match argType D ps (args.getD i 0) with | none => 3 | some t => if isA D.types t (want.getD i 0) then 0 else 8
def scan (f : Nat → Int) (n : Nat) : Int := match firstBad f n with | some i => f i | none => 0
theorem scan_hit {f : Nat → Int} {n k : Nat} (hk : k < n) (h : ∀ j, j < k → f j = 0) (hp : f k ≠ 0) : scan f n = f k := by unfold scan; rw [firstBad_hit hk h hp]
theorem scan_none {f : Nat → Int} {n : Nat} (h : ∀ j, j < n → f j = 0) : scan f n = 0 := by unfold scan; rw [firstBad_none h]
theorem scan_zero {f : Nat → Int} {n : Nat} (h : scan f n = 0) : ∀ j, j < n → f j = 0 := by
  unfold scan at h
  cases hf : firstBad f n with
  | none => exact firstBad_of_none hf
  | some i => rw [hf] at h; exact absurd h (firstBad_of_some hf).2
def atomCode (D : Dom) (ps : List Int) (a : AtD) : Int :=
  if a.pred < 0 ∨ (D.preds.length : Int) ≤ a.pred then 6
  else if a.args.length ≠ (D.preds.getD a.pred.toNat dPr).2.length then 9
  else scan (argCode D ps (D.preds.getD a.pred.toNat dPr).2 a.args) a.args.length

theorem six_facts {w : World} {b : Nat} {c0 c1 c2 c3 c4 c5 : Value} {T : TypeId} (h : w.heap[b]? = some (.cells #[c0, c1, c2, c3, c4, c5] T)) :
    w.cell? ⟨b, 0, none⟩ = some c0 ∧ w.cell? ⟨b, 1, none⟩ = some c1 ∧ w.cell? ⟨b, 2, none⟩ = some c2 ∧ w.cell? ⟨b, 3, none⟩ = some c3 ∧ w.cell? ⟨b, 4, none⟩ = some c4 ∧ w.cell? ⟨b, 5, none⟩ = some c5 ∧ b < w.heap.size :=
  ⟨by rw [cell_of_heap h]; rfl, by rw [cell_of_heap h]; rfl, by rw [cell_of_heap h]; rfl, by rw [cell_of_heap h]; rfl, by rw [cell_of_heap h]; rfl, by rw [cell_of_heap h]; rfl, heap_lt h⟩

set_option maxHeartbeats 2000000 in
theorem atom_any (w : World) (d : DomV) (D : Dom) (hd : DomAt w d D) (hpre : DomPre D) (pv : Value) (ps : List Int) (hp : IntsAt w pv ps) (hpt : TypesIn D ps) (a : AtD) (av : Value) (ha : IntsAt w av a.args) :
    Calls Try.prog 59 #[.agg d.cells, pv, .agg #[i64 a.pred, av]] w fun e w' => Ext w w' ∧ e = .returned (i64 (atomCode D ps a)) := by
  obtain ⟨code, hcode⟩ : ∃ c, atomCode D ps a = c := ⟨_, rfl⟩
  rw [hcode]
  have htype := fun W (hW : Ext w W) x => typeOf_any W d D (hd.ext hW) pv ps (hp.ext hW) x
  have his := fun W (hW : Ext w W) (t y : Int) (h1 : -1 ≤ t) (h2 : t < D.types.length) => is_any W d.tv D.types (Sl.ext hd.types hW fun _ _ h => h) hpre.hier t y h1 h2
  have hin := fun x t (h : argType D ps x = some t) => argType_in hpre hpt h
  obtain ⟨tv, ov, qv, sv, iv, gv⟩ := d
  obtain ⟨qa, qcap, hq0, hq1, hq2, hq3, hrow⟩ := hd.preds.open
  obtain ⟨aa, acap, rfl, ha1, ha2, ha3, hargs⟩ := ha.open
  simp only at hq0
  subst hq0
  obtain ⟨np, hnp⟩ : ∃ n, D.preds.length = n := ⟨_, rfl⟩
  obtain ⟨na, hna⟩ : ∃ n, a.args.length = n := ⟨_, rfl⟩
  obtain ⟨pr, hpr⟩ : ∃ n, a.pred = n := ⟨_, rfl⟩
  simp only [DomV.cells] at htype his ⊢
  rw [hnp] at hq1 hq3 htype ⊢
  rw [hna] at ha1 ha3 hargs ⊢
  rw [hpr]
  have HCODE := Lib.hid hcode
  have HTYPE := Lib.hid htype
  have HIS := Lib.hid his
  have HIN := Lib.hid hin
  have HROW := Lib.hid hrow
  have HARGS := Lib.hid hargs
  have HNP := Lib.hid hnp
  have HNA := Lib.hid hna
  have HPR := Lib.hid hpr
  unfold maxLen at hq2 ha2
  clear hcode htype his hin hrow hargs hnp hna hpr hd hp ha
  by_cases h1 : pr < 0 ∨ (np : Int) ≤ pr
  · have HV : Hid (code = 6) := by show code = 6; rw [← HCODE.out]; unfold atomCode; rw [if_pos (by rw [HPR.out, HNP.out]; exact h1)]
    by_cases h2 : pr < 0
    · clear h1
      go_enter Try.func59, Try.ntmps59
      go_wp2
      go_ret
      exact ⟨((Ext.refl w).alloc _).alloc _, by rw [HV.out]; rfl⟩
    · have h3 := h1.resolve_left h2
      clear h1
      go_enter Try.func59, Try.ntmps59
      go_wp2
      go_ret
      exact ⟨((Ext.refl w).alloc _).alloc _, by rw [HV.out]; rfl⟩
  · obtain ⟨p, rfl⟩ : ∃ p : Nat, pr = p := ⟨pr.toNat, by omega⟩
    have hpn : p < np := by omega
    have hx : D.preds[p]? = some (D.preds.getD p dPr) := by rw [List.getD_eq_getElem?_getD, List.getElem?_eq_getElem (by rw [HNP.out]; exact hpn)]; rfl
    obtain ⟨c, -, ⟨wv, rfl, hwv, -⟩, b, off, rfl, hcell⟩ := HROW.out p _ hx
    obtain ⟨wa, wcap, rfl, hw1, hw2, hw3, hwant⟩ := hwv.open
    obtain ⟨want, hwl⟩ : ∃ l, (D.preds.getD p dPr).2 = l := ⟨_, rfl⟩
    rw [hwl] at hw1 hw3 hwant hcell
    obtain ⟨nw, hnw⟩ : ∃ n, want.length = n := ⟨_, rfl⟩
    rw [hnw] at hw1 hw3 hwant hcell
    have q0 := hcell 0 _ rfl
    have q1 := hcell 1 _ rfl
    have hlt := World.block_lt_of_cell? w _ q1
    have h2 : ¬((p : Int) < 0) := by omega
    have h3 : ¬((np : Int) ≤ p) := by omega
    have HWL := Lib.hid hwl
    have HNW := Lib.hid hnw
    have HWANT := Lib.hid hwant
    unfold maxLen at hw2
    have hc0 : code = if na ≠ nw then 9 else scan (argCode D ps want a.args) na := by
      rw [← HCODE.out]; unfold atomCode; rw [if_neg (by rw [HPR.out, HNP.out]; exact h1), HPR.out, Int.toNat_natCast, HWL.out, HNA.out, HNW.out]
    have HC0 := Lib.hid hc0
    clear hc0 hwl hnw hwant hwv hx hcell h1
    by_cases h4 : na = nw
    · subst h4
      have HC : Hid (code = scan (argCode D ps want a.args) na) := by show code = _; rw [HC0.out, if_neg (by simp)]
      go_enter Try.func59, Try.ntmps59
      go_wp2_with fail
      have H0 : Hid (∀ j, j < 0 → argCode D ps want a.args j = 0) := fun j hj => absurd hj (Nat.not_lt_zero j)
      go_loopw [39] (fun i wr => ∃ k : Nat, k ≤ na ∧ i = .int .i64 k ∧ Hid (∀ j, j < k → argCode D ps want a.args j = 0) ∧ Ext ((w.alloc (.cells #[tv, ov, .slice (some ⟨b, off, none⟩) np qcap, sv, iv, gv] 29)).alloc (.cells #[i64 p, .slice aa na acap] 46)) wr) (fun i _ => na - (intOf i).toNat)
      case atStart => exact ⟨0, Nat.zero_le _, rfl, H0, Ext.refl _⟩
      case round =>
        obtain ⟨k, hk, rfl, H, hE⟩ := hrel
        clear H0 q0 q1
        have hbox := (six_facts (new_block hE.of_new'))
        obtain ⟨f0, f1, f2, f3, f4, f5, hbl⟩ := hbox
        have HE := Lib.hid hE
        have HEE := Lib.hid hE.of_new'.of_new
        clear hE
        by_cases hlt' : k < na
        · obtain ⟨b1, off1, rfl, hc1⟩ := HARGS.out k hlt'
          obtain ⟨b2, off2, rfl, hc2⟩ := HWANT.out k hlt'
          have g1 := HEE.out.cell hc1
          have g2 := HEE.out.cell hc2
          obtain ⟨x, hx⟩ : ∃ x, a.args.getD k 0 = x := ⟨_, rfl⟩
          obtain ⟨y, hy⟩ : ∃ y, want.getD k 0 = y := ⟨_, rfl⟩
          rw [hx] at g1
          rw [hy] at g2
          have hcode : argCode D ps want a.args k = match argType D ps x with | none => 3 | some t => if isA D.types t y then 0 else 8 := by unfold argCode; rw [hx, hy]
          have HCC := Lib.hid hcode
          clear hc1 hc2 hx hy hcode
          go_wp2_with fail
          refine (HTYPE.out _ HEE.out x).mono ?_
          rintro e w2 ⟨hE, rfl⟩
          obtain ⟨o, ho⟩ : ∃ o, argType D ps x = o := ⟨_, rfl⟩
          have HO := Lib.hid ho
          rw [ho]
          clear ho g1
          cases o with
          | none =>
            have HV : Hid (code = 3) := by
              show code = 3
              have : argCode D ps want a.args k = 3 := by rw [HCC.out, HO.out]
              rw [HC.out, scan_hit hlt' H.out (by rw [this]; decide), this]
            have HE2 := Lib.hid (HEE.out.trans hE)
            clear hE g2
            simp only [Option.getD_none, Option.isSome_none]
            go_wp2
            go_ret
            exact ⟨HE2.out, by rw [HV.out]; rfl⟩
          | some t =>
            have ht := HIN.out x t HO.out
            have g3 := hE.cell g2
            have f3' := hE.cell f0
            have hcalls := fun W hW => HIS.out W hW t y ht.1 ht.2
            have HCA := Lib.hid hcalls
            have HE2 := Lib.hid (HEE.out.trans hE)
            have HE3 := Lib.hid (HE.out.trans hE)
            clear hE g2 ht hcalls f0 f1 f2 f3 f4 f5 hbl
            simp only [Option.getD_some, Option.isSome_some]
            go_wp2_with fail
            refine wp_region_seq (Ext w2) [(0, 0), (1, 1), (2, 0), (3, 0), (4, 0), (5, 0), (6, 1), (7, 2), (8, 0)] (by kernel_rfl) (by kernel_rfl) (Ext.refl w2).drew (fun hS => ?_)
            simp only [List.map, nthOp]
            refine seqL_yield rfl (fun w' => by go_simp; rfl) ?_
            try simp only [Act.put, List.setIfInBounds_toArray, List.set_cons_zero, List.set_cons_succ]
            refine seqL_read hS rfl (fun w' hE => by have := hE.cell f3'; clear hE; go_simp; rfl) ?_
            try simp only [Act.put, List.setIfInBounds_toArray, List.set_cons_zero, List.set_cons_succ]
            iterate 4
              refine seqL_yield rfl (fun w' => by go_simp; rfl) ?_
              try simp only [Act.put, List.setIfInBounds_toArray, List.set_cons_zero, List.set_cons_succ]
            refine seqL_read hS rfl (fun w' hE => by have := hE.cell g3; clear hE; go_simp; rfl) ?_
            try simp only [Act.put, List.setIfInBounds_toArray, List.set_cons_zero, List.set_cons_succ]
            refine seqL_grow rfl (fun K hK => ?_)
            have HKK := Lib.hid hK
            clear hK
            go_simp
            refine (HCA.out _ (HE2.out.trans hS)).mono ?_
            rintro e w3 ⟨rfl, hE3⟩
            refine HKK.out _ _ (hS.trans hE3) (fun hS => ?_)
            clear HKK K hE3
            try simp only [Act.put, List.setIfInBounds_toArray, List.set_cons_zero, List.set_cons_succ]
            refine seqL_yield rfl (fun w' => by go_simp; rfl) ?_
            try simp only [Act.put, List.setIfInBounds_toArray, List.set_cons_zero, List.set_cons_succ]
            refine seqL_nil ?_
            obtain ⟨r, hr⟩ : ∃ r, isA D.types t y = r := ⟨_, rfl⟩
            have HR := Lib.hid hr
            rw [hr]
            have HS := Lib.hid hS
            clear hr hS
            cases r with
            | true =>
              have hok : Hid (∀ j, j < k + 1 → argCode D ps want a.args j = 0) := fun j hj => by
                rcases Nat.lt_succ_iff_lt_or_eq.1 hj with h' | rfl
                · exact H.out j h'
                · rw [HCC.out, HO.out]; simp [HR.out]
              go_wp2_with fail
              go_roundw
              case rel => exact ⟨k + 1, by omega, by go_num, hok, HE3.out.trans HS.out⟩
              case measure => simp [intOf]; omega
            | false =>
              have HV : Hid (code = 8) := by
                show code = 8
                have : argCode D ps want a.args k = 8 := by rw [HCC.out, HO.out]; simp [HR.out]
                rw [HC.out, scan_hit hlt' H.out (by rw [this]; decide), this]
              go_wp2
              go_ret
              exact ⟨HE2.out.trans HS.out, by rw [HV.out]; rfl⟩
        · have HV : Hid (code = 0) := by
            show code = 0
            have : k = na := by omega
            subst this
            rw [HC.out, scan_none H.out]
          go_wp2
          go_ret
          exact ⟨HEE.out, by rw [HV.out]; rfl⟩
    · have HV : Hid (code = 9) := by show code = 9; rw [HC0.out, if_pos h4]
      go_enter Try.func59, Try.ntmps59
      go_wp2
      go_ret
      exact ⟨((Ext.refl w).alloc _).alloc _, by rw [HV.out]; rfl⟩
end Go.Proofs.Ytodlkjjoenglgaa

/- domain.atoms, Params, literals. -/
namespace Go.Proofs.Ytodlkjjoenglgaa
open Go Go.RowKit

theorem Sl.rows {X : Type} {w : World} {sz bytes : Nat} {R : World → List Value → X → Prop} {v : Value} {l : List X} (dx : X) (h : Sl w sz bytes R v l) :
    ∃ a cap, ∃ C : Nat → List Value, v = .slice a l.length cap ∧ l.length ≤ cap ∧ cap ≤ maxLen ∧ l.length * bytes ≤ 140737488351232 ∧ ∀ i, i < l.length → (C i).length = sz ∧ R w (C i) (l.getD i dx) ∧ RowAt w a sz i (C i) := by
  obtain ⟨a, cap, rfl, h1, h2, h3, h4⟩ := h
  have h5 : ∀ i, ∃ c : List Value, i < l.length → c.length = sz ∧ R w c (l.getD i dx) ∧ RowAt w a sz i c := fun i => by
    by_cases hi : i < l.length
    · obtain ⟨c, hc⟩ := h4 i (l.getD i dx) (by rw [List.getD_eq_getElem?_getD, List.getElem?_eq_getElem hi]; rfl)
      exact ⟨c, fun _ => hc⟩
    · exact ⟨[], fun h => absurd h hi⟩
  exact ⟨a, cap, fun i => (h5 i).choose, rfl, h1, h2, h3, fun i hi => (h5 i).choose_spec hi⟩

def dAt : AtD := ⟨0, []⟩
theorem Sl.atoms {w : World} {v : Value} {l : List AtD} (h : Sl w 2 32 rAtom v l) :
    ∃ a cap, ∃ av : Nat → Value, v = .slice a l.length cap ∧ l.length ≤ cap ∧ cap ≤ maxLen ∧ l.length * 32 ≤ 140737488351232 ∧ ∀ i, i < l.length → RowAt w a 2 i [i64 (l.getD i dAt).pred, av i] ∧ IntsAt w (av i) (l.getD i dAt).args := by
  obtain ⟨a, cap, C, h0, h1, h2, h3, h4⟩ := h.rows dAt
  refine ⟨a, cap, fun i => (C i).getD 1 undef, h0, h1, h2, h3, fun i hi => ?_⟩
  obtain ⟨-, ⟨av, hc, ha⟩, hr⟩ := h4 i hi
  dsimp only
  rw [hc] at hr ⊢
  exact ⟨hr, ha⟩
theorem Sl.preds {w : World} {v : Value} {l : List (ByteArray × List Int)} (h : Sl w 2 40 rPred v l) :
    ∃ a cap, ∃ av : Nat → Value, v = .slice a l.length cap ∧ l.length ≤ cap ∧ cap ≤ maxLen ∧ l.length * 40 ≤ 140737488351232 ∧ ∀ i, i < l.length → RowAt w a 2 i [.string (l.getD i dPr).1, av i] ∧ IntsAt w (av i) (l.getD i dPr).2 ∧ (l.getD i dPr).1.size ≤ maxLen := by
  obtain ⟨a, cap, C, h0, h1, h2, h3, h4⟩ := h.rows dPr
  refine ⟨a, cap, fun i => (C i).getD 1 undef, h0, h1, h2, h3, fun i hi => ?_⟩
  obtain ⟨-, ⟨av, hc, ha, hs⟩, hr⟩ := h4 i hi
  dsimp only
  rw [hc] at hr ⊢
  exact ⟨hr, ha, hs⟩

def atomsCode (D : Dom) (ps : List Int) (l : List AtD) (most : Int) : Int :=
  if most < l.length then 2 else scan (fun i => atomCode D ps (l.getD i dAt)) l.length

set_option maxHeartbeats 2000000 in
theorem atoms_any (w : World) (d : DomV) (D : Dom) (hd : DomAt w d D) (hpre : DomPre D) (pv : Value) (ps : List Int) (hp : IntsAt w pv ps) (hpt : TypesIn D ps) (l : List AtD) (lv : Value) (hl : Sl w 2 32 rAtom lv l) (most : Int) :
    Calls Try.prog 112 #[.agg d.cells, pv, lv, i64 most] w fun e w' => Ext w w' ∧ e = .returned (i64 (atomsCode D ps l most)) := by
  obtain ⟨code, hcode⟩ : ∃ c, atomsCode D ps l most = c := ⟨_, rfl⟩
  rw [hcode]
  obtain ⟨f, hf⟩ : ∃ f, (fun i => atomCode D ps (l.getD i dAt)) = f := ⟨_, rfl⟩
  obtain ⟨la, lcap, av, rfl, l1, l2, l3, hrow⟩ := hl.atoms
  have hatom := fun W (hW : Ext w W) i (hi : i < l.length) => atom_any W d D (hd.ext hW) hpre pv ps (hp.ext hW) hpt (l.getD i dAt) (av i) ((hrow i hi).2.ext hW)
  have hff : ∀ i, atomCode D ps (l.getD i dAt) = f i := fun i => by rw [← hf]
  simp only [hff] at hatom
  obtain ⟨n, hn⟩ : ∃ n, l.length = n := ⟨_, rfl⟩
  have hc : code = if most < n then 2 else scan f n := by rw [← hcode, ← hf, ← hn]; rfl
  obtain ⟨tv, ov, qv, sv, iv, gv⟩ := d
  simp only [DomV.cells] at hatom ⊢
  have hrow' := fun i (hi : i < l.length) => And.intro (hrow i hi).1 (show ∃ ua un ucap, av i = .slice ua un ucap from let ⟨ua, ucap, h, _⟩ := (hrow i hi).2; ⟨ua, _, ucap, h⟩)
  rw [hn] at hatom hrow' l1 l3 ⊢
  have HATOM := Lib.hid hatom
  have HROW := Lib.hid hrow'
  have HC := Lib.hid hc
  unfold maxLen at l2
  clear hatom hrow hrow' hcode hf hff hc hn hd hp hl hpre hpt
  by_cases h1 : most < n
  · have HV : Hid (code = 2) := by show code = 2; rw [HC.out, if_pos h1]
    go_enter Try.func112, Try.ntmps112
    go_wp2
    go_ret
    exact ⟨(Ext.refl w).alloc _, by rw [HV.out] <;> rfl⟩
  · have HC1 : Hid (code = scan f n) := by show code = _; rw [HC.out, if_neg h1]
    have H0 : Hid (∀ j, j < 0 → f j = 0) := fun j hj => absurd hj (Nat.not_lt_zero j)
    go_enter Try.func112, Try.ntmps112
    go_wp2_with fail
    go_loopw [18] (fun i wr => ∃ k : Nat, k ≤ n ∧ i = .int .i64 k ∧ Hid (∀ j, j < k → f j = 0) ∧ Ext (w.alloc (.cells #[tv, ov, qv, sv, iv, gv] 29)) wr) (fun i _ => n - (intOf i).toNat)
    case atStart => exact ⟨0, Nat.zero_le _, rfl, H0, Ext.refl _⟩
    case round =>
      obtain ⟨k, hk, rfl, H, hE⟩ := hrel
      clear H0
      obtain ⟨f0, f1, f2, f3, f4, f5, hbl⟩ := six_facts (new_block hE)
      have HE := Lib.hid hE
      have HEE := Lib.hid hE.of_new
      clear hE
      by_cases hlt' : k < n
      · obtain ⟨⟨b1, off1, rfl, hc1⟩, ua, un, ucap, hu⟩ := HROW.out k hlt'
        have g0 : wr.cell? ⟨b1, off1 + k * 2, none⟩ = _ := HEE.out.cell (hc1 0 _ rfl)
        have g1 := HEE.out.cell (hc1 1 _ rfl)
        have hlt2 := World.block_lt_of_cell? wr _ g1
        obtain ⟨p, hp⟩ : ∃ p, (l.getD k dAt).pred = p := ⟨_, rfl⟩
        have hcall := fun W (hW : Ext w W) => HATOM.out W hW k hlt'
        simp only [hp, hu] at hcall g0 g1
        have HCALL := Lib.hid hcall
        clear hcall hc1 hp hu
        go_wp2_with fail
        refine (HCALL.out _ (HEE.out.alloc _)).mono ?_
        rintro e w2 ⟨hE2, rfl⟩
        have HE2 := Lib.hid (HE.out.trans hE2.of_new)
        obtain ⟨c, hc⟩ : ∃ c, f k = c := ⟨_, rfl⟩
        have HFK := Lib.hid hc
        rw [hc]
        clear hE2 hc g0 g1 f0 f1 f2 f3 f4 f5 hbl hlt2
        by_cases hz : c = 0
        · subst hz
          have hok : Hid (∀ j, j < k + 1 → f j = 0) := fun j hj => by
            rcases Nat.lt_succ_iff_lt_or_eq.1 hj with h' | rfl
            · exact H.out j h'
            · exact HFK.out
          go_wp2_with fail
          go_roundw
          case rel => exact ⟨k + 1, by omega, by go_num, hok, HE2.out⟩
          case measure => simp [intOf]; omega
        · have HV : Hid (code = c) := by
            show code = c
            rw [HC1.out, scan_hit hlt' H.out (by rw [HFK.out]; exact hz), HFK.out]
          go_wp2
          go_ret
          exact ⟨HE2.out.of_new, by rw [HV.out] <;> rfl⟩
      · have HV : Hid (code = 0) := by
          show code = 0
          have : k = n := by omega
          subst this
          rw [HC1.out, scan_none H.out]
        go_wp2
        go_ret
        exact ⟨HEE.out, by rw [HV.out] <;> rfl⟩

def paramsCode (D : Dom) (l : List Int) : Int :=
  if 3 < l.length then 2 else if (l.any fun t => decide (t < -1 ∨ (D.types.length : Int) ≤ t)) = true then 3 else 0

theorem par93 (w : World) (t : Int) (b n cap : Nat) (a : Option Addr) (h : w.cell? ⟨b, 0, none⟩ = some (.slice a n cap)) :
    Calls Try.prog 93 (#[i64 t] ++ #[.pointer (some ⟨b, 0, none⟩)]) w fun e w' => e = .returned (.bool (decide (t < -1 ∨ (n : Int) ≤ t))) ∧ Ext w w' := by
  by_cases h1 : t < -1
  · have hv : decide (t < -1 ∨ (n : Int) ≤ t) = true := by simp [h1]
    rw [hv]
    clear hv
    go_enter Try.func93, Try.ntmps93
    go_wp2
    go_ret
    exact ⟨rfl, Ext.refl w⟩
  · by_cases h2 : (n : Int) ≤ t
    · have hv : decide (t < -1 ∨ (n : Int) ≤ t) = true := by simp [h2]
      rw [hv]
      clear hv
      go_enter Try.func93, Try.ntmps93
      go_wp2
      go_ret
      exact ⟨rfl, Ext.refl w⟩
    · have hv : decide (t < -1 ∨ (n : Int) ≤ t) = false := by simp [h1, h2]
      rw [hv]
      clear hv
      go_enter Try.func93, Try.ntmps93
      go_wp2
      go_ret
      exact ⟨rfl, Ext.refl w⟩
theorem enters93 : EntersF 93 := fun args W => enters_of Try.func93 (by kernel_rfl) rfl args W
theorem par110 (w : World) (x y : Int) (b n : Nat) (h : w.cell? ⟨b, 0, none⟩ = some (i64 n)) :
    Calls Try.prog 110 (#[.agg #[i64 x, i64 y]] ++ #[.pointer (some ⟨b, 0, none⟩)]) w fun e w' => e = .returned (.bool (decide (x < 0 ∨ y ≤ x ∨ (n : Int) ≤ y))) ∧ Ext w w' := by
  have hlt := World.block_lt_of_cell? w _ h
  simp only at hlt
  by_cases h1 : x < 0
  · have hv : decide (x < 0 ∨ y ≤ x ∨ (n : Int) ≤ y) = true := by simp [h1]
    rw [hv]
    clear hv
    go_enter Try.func110, Try.ntmps110
    go_wp2
    go_ret
    exact ⟨rfl, (Ext.refl w).alloc _⟩
  · by_cases h2 : y ≤ x
    · have hv : decide (x < 0 ∨ y ≤ x ∨ (n : Int) ≤ y) = true := by simp [h2]
      rw [hv]
      clear hv
      go_enter Try.func110, Try.ntmps110
      go_wp2
      go_ret
      exact ⟨rfl, (Ext.refl w).alloc _⟩
    · by_cases h3 : (n : Int) ≤ y
      · have hv : decide (x < 0 ∨ y ≤ x ∨ (n : Int) ≤ y) = true := by simp [h3]
        rw [hv]
        clear hv
        go_enter Try.func110, Try.ntmps110
        go_wp2
        go_ret
        exact ⟨rfl, (Ext.refl w).alloc _⟩
      · have hv : decide (x < 0 ∨ y ≤ x ∨ (n : Int) ≤ y) = false := by simp [h1, h2, h3]
        rw [hv]
        clear hv
        go_enter Try.func110, Try.ntmps110
        go_wp2
        go_ret
        exact ⟨rfl, (Ext.refl w).alloc _⟩
theorem enters110 : EntersF 110 := fun args W => enters_of Try.func110 (by kernel_rfl) rfl args W
end Go.Proofs.Ytodlkjjoenglgaa

/- domain.Params, literals. -/
namespace Go.Proofs.Ytodlkjjoenglgaa
open Go Go.RowKit

theorem IntsAt.rowAt {w : World} {v : Value} {l : List Int} (h : IntsAt w v l) :
    ∃ a cap, v = .slice a l.length cap ∧ l.length ≤ cap ∧ cap ≤ maxLen ∧ l.length * 8 ≤ 140737488351232 ∧ ∀ i, i < l.length → RowAt w a 1 i [i64 (l.getD i 0)] := by
  obtain ⟨a, cap, C, h0, h1, h2, h3, h4⟩ := Sl.rows 0 h
  refine ⟨a, cap, h0, h1, h2, h3, fun i hi => ?_⟩
  obtain ⟨-, hc, hr⟩ := h4 i hi
  rw [show C i = [i64 (l.getD i 0)] from hc] at hr
  exact hr

theorem any_range_getD {X : Type} (l : List X) (d : X) (p : X → Bool) : ((List.range l.length).any fun i => p (l.getD i d)) = l.any p := by
  rw [Bool.eq_iff_iff, List.any_eq_true, List.any_eq_true]
  constructor
  · rintro ⟨i, hi, h⟩
    have hi : i < l.length := by simpa using hi
    rw [List.getD_eq_getElem?_getD, List.getElem?_eq_getElem hi] at h
    exact ⟨_, List.getElem_mem hi, h⟩
  · rintro ⟨x, hx, h⟩
    obtain ⟨i, hi, rfl⟩ := List.getElem_of_mem hx
    exact ⟨i, by simpa using hi, by rw [List.getD_eq_getElem?_getD, List.getElem?_eq_getElem hi]; exact h⟩

set_option maxHeartbeats 1000000 in
theorem params_any (w : World) (d : DomV) (D : Dom) (hd : DomAt w d D) (lv : Value) (l : List Int) (hl : IntsAt w lv l) :
    Calls Try.prog 67 #[.agg d.cells, lv] w fun e w' => Ext w w' ∧ e = .returned (i64 (paramsCode D l)) := by
  obtain ⟨tv, ov, qv, sv, iv, gv⟩ := d
  obtain ⟨ta, tcap, ht0, -, ht2, ht3, -, -⟩ := hd.types.rows2
  obtain ⟨la, lcap, rfl, l1, l2, l3, hrow⟩ := hl.rowAt
  simp only at ht0
  subst ht0
  have hany := any_range_getD l 0 fun t => decide (t < -1 ∨ (D.types.length : Int) ≤ t)
  obtain ⟨n, hn⟩ : ∃ n, l.length = n := ⟨_, rfl⟩
  have hv : paramsCode D l = if 3 < n then 2 else if (l.any fun t => decide (t < -1 ∨ (D.types.length : Int) ≤ t)) = true then 3 else 0 := by rw [← hn]; rfl
  obtain ⟨r, hr⟩ : ∃ r, (l.any fun t => decide (t < -1 ∨ (D.types.length : Int) ≤ t)) = r := ⟨_, rfl⟩
  rw [hr] at hany hv
  rw [hn] at hany hrow l1 l3 ⊢
  have HV := Lib.hid hv
  have HANY := Lib.hid hany
  have HROW := Lib.hid hrow
  unfold maxLen at l2 ht2
  simp only [DomV.cells]
  clear hv hany hrow hr hn hl hd
  by_cases h3 : 3 < n
  · go_enter Try.func67, Try.ntmps67
    go_wp2
    go_ret
    exact ⟨(Ext.refl w).alloc _, by rw [HV.out, if_pos h3] <;> rfl⟩
  · go_enter Try.func67, Try.ntmps67
    go_wp2_with fail
    have hcall := hasInt (w.alloc (.cells #[.slice ta D.types.length tcap, ov, qv, sv, iv, gv] 29)) la n lcap (by omega) 93 enters93 #[.pointer (some ⟨w.heap.size, 0, none⟩)]
      (fun i => i64 (l.getD i 0)) (fun i hi => (HROW.out i hi).ext ((Ext.refl w).alloc _)) (fun i => decide (l.getD i 0 < -1 ∨ (D.types.length : Int) ≤ l.getD i 0))
      (fun i _ W hW => par93 W _ _ _ _ _ (new_cell hW rfl))
    rw [HANY.out] at hcall
    refine hcall.mono ?_
    rintro e w2 ⟨rfl, hE⟩
    have HE := Lib.hid hE.of_new
    clear hE hcall
    cases r with
    | true =>
      go_wp2
      go_ret
      exact ⟨HE.out, by rw [HV.out, if_neg h3] <;> rfl⟩
    | false =>
      go_wp2
      go_ret
      exact ⟨HE.out, by rw [HV.out, if_neg h3, if_neg (by decide)] <;> rfl⟩

theorem paramsCode_zero {D : Dom} {l : List Int} (h : paramsCode D l = 0) : l.length ≤ 3 ∧ TypesIn D l := by
  unfold paramsCode at h
  split at h
  · cases h
  · split at h
    · cases h
    · rename_i h1 h2
      refine ⟨by omega, fun t ht => ?_⟩
      have h2 : (l.any fun t => decide (t < -1 ∨ (D.types.length : Int) ≤ t)) = false := by simpa using h2
      rw [List.any_eq_false] at h2
      have := h2 t ht
      simp at this
      unfold inRange
      omega

/-- Rows of two cells. -/
def cells2 (f g : Nat → Value) (k : Nat) : List Value := (List.range k).flatMap fun i => [f i, g i]
theorem cells2_succ (f g : Nat → Value) (k : Nat) : cells2 f g (k + 1) = cells2 f g k ++ [f k, g k] := by
  unfold cells2
  rw [List.range_succ, List.flatMap_append]
  rfl
theorem cells2_length (f g : Nat → Value) (k : Nat) : (cells2 f g k).length = k * 2 := by
  induction k with
  | zero => rfl
  | succ k ih => rw [cells2_succ, List.length_append, ih]; simp; omega
theorem cells2_get (f g : Nat → Value) (k i : Nat) (hi : i < k) : (cells2 f g k)[i * 2]? = some (f i) ∧ (cells2 f g k)[i * 2 + 1]? = some (g i) := by
  induction k with
  | zero => omega
  | succ k ih =>
    rw [cells2_succ]
    by_cases h : i = k
    · subst h
      constructor
      · rw [List.getElem?_append_right (by rw [cells2_length]; omega), cells2_length, show i * 2 - i * 2 = 0 by omega]; rfl
      · rw [List.getElem?_append_right (by rw [cells2_length]; omega), cells2_length, show i * 2 + 1 - i * 2 = 1 by omega]; rfl
    · have := ih (by omega)
      constructor
      · rw [List.getElem?_append_left (by rw [cells2_length]; omega)]; exact this.1
      · rw [List.getElem?_append_left (by rw [cells2_length]; omega)]; exact this.2

theorem owns_row {w : World} {base : Nat} {e : TypeId} {sz : Nat} {v : Value} {n : Nat} {xs : List Value} (h : w.ownsRow base e sz v n xs) :
    ∃ a cap, v = .slice a n cap ∧ n ≤ cap ∧ cap ≤ maxLen ∧ ∀ i, i < n → ∀ c : List Value, c.length ≤ sz → (∀ j y, c[j]? = some y → xs[i * sz + j]? = some y) → RowAt w a sz i c := by
  obtain ⟨hl, h⟩ := h
  rcases h with ⟨rfl, rfl⟩ | ⟨g, cap, cur, rfl, hb, hg, hn, hm, hs, ht⟩
  · exact ⟨none, 0, rfl, Nat.le_refl _, Nat.zero_le _, fun i hi => absurd hi (Nat.not_lt_zero i)⟩
  · refine ⟨some ⟨g, 0, none⟩, cap, rfl, hn, hm, fun i hi c hc hx => ⟨g, 0, rfl, fun j y hj => ?_⟩⟩
    have hy := hx j y hj
    rw [← ht, List.getElem?_take] at hy
    split at hy
    · rw [cell_of_heap hg, Nat.zero_add]; simpa using hy
    · cases hy

def dLi : LitD := ⟨false, dAt⟩
def litsCode (D : Dom) (ps : List Int) (l : List LitD) : Int := atomsCode D ps (l.map LitD.atom) 8
theorem Sl.lits {w : World} {v : Value} {l : List LitD} (h : Sl w 3 40 rLit v l) :
    ∃ a cap, ∃ av : Nat → Value, v = .slice a l.length cap ∧ l.length ≤ cap ∧ cap ≤ maxLen ∧ l.length * 40 ≤ 140737488351232 ∧ ∀ i, i < l.length → RowAt w a 3 i [.bool (l.getD i dLi).neg, i64 (l.getD i dLi).atom.pred, av i] ∧ IntsAt w (av i) (l.getD i dLi).atom.args := by
  obtain ⟨a, cap, C, h0, h1, h2, h3, h4⟩ := h.rows dLi
  refine ⟨a, cap, fun i => (C i).getD 2 undef, h0, h1, h2, h3, fun i hi => ?_⟩
  obtain ⟨-, ⟨av, hc, ha⟩, hr⟩ := h4 i hi
  dsimp only
  rw [hc] at hr ⊢
  exact ⟨hr, ha⟩
theorem news_two {W : World} {b : Nat} (u v : Value) (T : TypeId) (hb : b = W.heap.size) : ∀ (j : Nat) y, [u, v][j]? = some y → (W.alloc (.cells #[u, v] T)).cell? ((⟨b, 0, none⟩ : Addr).add j) = some y := by
  subst hb
  intro j y hj
  have : (⟨W.heap.size, 0, none⟩ : Addr).add j = ⟨W.heap.size, j, none⟩ := by simp [Addr.add]; intro h; exact h.symm
  rw [this, cell_of_heap (heap_alloc_new W _)]
  match j with
  | 0 => cases hj; rfl
  | 1 => cases hj; rfl
  | j + 2 => simp at hj
theorem info46 : (Try.prog.info? 46).map (fun i => (i.zero, i.size, i.bytes)) = some (some (.agg #[.int .i64 0, .slice none 0 0]), 2, 32) := by kernel_rfl

set_option maxRecDepth 10000 in
set_option maxHeartbeats 2000000 in
theorem lits_any (w : World) (d : DomV) (D : Dom) (hd : DomAt w d D) (hpre : DomPre D) (pv : Value) (ps : List Int) (hp : IntsAt w pv ps) (hpt : TypesIn D ps) (l : List LitD) (lv : Value) (hl : Sl w 3 40 rLit lv l) :
    Calls Try.prog 92 #[.agg d.cells, pv, lv] w fun e w' => Ext w w' ∧ e = .returned (i64 (litsCode D ps l)) := by
  obtain ⟨i0, hi, hz0, hz1, hz2⟩ := info_parts info46
  obtain ⟨la, lcap, av, rfl, l1, l2, l3, hrow⟩ := hl.lits
  have hfin : ∀ W v, Ext w W → W.ownsRow (w.heap.size + 1) 46 2 v l.length (cells2 (fun i => i64 (l.getD i dLi).atom.pred) av l.length) →
      Calls Try.prog 112 #[.agg d.cells, pv, v, i64 8] W fun e w' => Ext W w' ∧ e = .returned (i64 (litsCode D ps l)) := fun W v hW hown => by
    refine atoms_any W d D (hd.ext hW) hpre pv ps (hp.ext hW) hpt (l.map LitD.atom) v ?_ 8
    obtain ⟨a, cap, rfl, c1, c2, hr⟩ := owns_row hown
    refine ⟨a, cap, by rw [List.length_map], by rw [List.length_map]; exact c1, c2, by rw [List.length_map]; omega, fun i x hx => ?_⟩
    rw [List.getElem?_map] at hx
    obtain ⟨y, hy, rfl⟩ := Option.map_eq_some_iff.1 hx
    have hil : i < l.length := (List.getElem?_eq_some_iff.1 hy).1
    have hgd : l.getD i dLi = y := by rw [List.getD_eq_getElem?_getD, hy]; rfl
    have hia := (hrow i hil).2
    rw [hgd] at hia
    refine ⟨[i64 y.atom.pred, av i], rfl, ⟨av i, rfl, hia.ext hW⟩, hr i hil _ (Nat.le_refl _) fun j z hj => ?_⟩
    have hg := cells2_get (fun i => i64 (l.getD i dLi).atom.pred) av l.length i hil
    simp only [hgd] at hg
    match j with
    | 0 => cases hj; exact hg.1
    | 1 => cases hj; exact hg.2
    | j + 2 => simp at hj
  have hsl : ∀ i, i < l.length → ∃ ua un ucap, av i = .slice ua un ucap := fun i hi => let ⟨ua, ucap, h, _⟩ := (hrow i hi).2; ⟨ua, _, ucap, h⟩
  have hrow' := fun i (hi : i < l.length) => (hrow i hi).1
  obtain ⟨f, hf⟩ : ∃ f, (fun i => i64 (l.getD i dLi).atom.pred) = f := ⟨_, rfl⟩
  have hff : ∀ i, f i = i64 (l.getD i dLi).atom.pred := fun i => by rw [← hf]
  rw [hf] at hfin
  obtain ⟨n, hn⟩ : ∃ n, l.length = n := ⟨_, rfl⟩
  obtain ⟨tv, ov, qv, sv, iv, gv⟩ := d
  simp only [DomV.cells] at hfin ⊢
  rw [hn] at hfin hrow' hsl l1 l3 ⊢
  have HFIN := Lib.hid hfin
  have HROW := Lib.hid hrow'
  have HSL := Lib.hid hsl
  have HFF := Lib.hid hff
  unfold maxLen at l2
  clear hfin hrow' hrow hsl hf hff hn hl hd hp hpre hpt
  go_enter Try.func92, Try.ntmps92
  go_wp2_with fail
  have H1 : Hid ((w.alloc (.cells #[tv, ov, qv, sv, iv, gv] 29)).ownsRow (w.heap.size + 1) 46 2 (.slice none 0 0) 0 (cells2 f av 0)) := World.ownsRow_nil ..
  go_loopw [7, 12] (fun o i wr => ∃ k : Nat, k ≤ n ∧ i = .int .i64 k ∧ Ext (w.alloc (.cells #[tv, ov, qv, sv, iv, gv] 29)) wr ∧ Hid (wr.ownsRow (w.heap.size + 1) 46 2 o k (cells2 f av k))) (fun _ i _ => n - (intOf i).toNat)
  case atStart => exact ⟨0, Nat.zero_le _, rfl, Ext.refl _, H1⟩
  case round =>
    obtain ⟨k, hk, rfl, hE, HR⟩ := hrel
    clear H1
    have HE := Lib.hid hE
    obtain ⟨f0, f1, f2, f3, f4, f5, hbl⟩ := six_facts (new_block hE)
    clear hE
    by_cases hlt : k < n
    · obtain ⟨b, off, rfl, hcell⟩ := HROW.out k hlt
      obtain ⟨ua, un, ucap, hu⟩ := HSL.out k hlt
      obtain ⟨p, hp⟩ : ∃ p, (l.getD k dLi).atom.pred = p := ⟨_, rfl⟩
      obtain ⟨ng, hng⟩ : ∃ p, (l.getD k dLi).neg = p := ⟨_, rfl⟩
      rw [hp, hng, hu] at hcell
      have h0 : wr.cell? ⟨b, off + k * 3, none⟩ = some (.bool ng) := HE.out.of_new.cell (hcell 0 _ rfl)
      have h1 : wr.cell? ⟨b, off + k * 3 + 1, none⟩ = some (i64 p) := HE.out.of_new.cell (hcell 1 _ rfl)
      have h2 : wr.cell? ⟨b, off + k * 3 + 2, none⟩ = some (.slice ua un ucap) := HE.out.of_new.cell (hcell 2 _ rfl)
      have hlt' := World.block_lt_of_cell? wr _ h0
      have HFK : Hid (f k = i64 p) := by show f k = _; rw [HFF.out, hp]
      have HU := Lib.hid hu
      clear hcell hp hng hu
      go_wp2_with (at_builtin; go_loud (refine wpList_append_own _ rfl _ _ 26 rfl (w.heap.size + 1) 46 i0 (.agg #[.int .i64 0, .slice none 0 0]) 2 32 Try.underlying26 hi hz0 hz1 hz2 rfl (by decide) _ _ _ rfl ((HR.out.alloc _).alloc _) ⟨wr.heap.size + 1, 0, none⟩ 1 1 [i64 p, .slice ua un ucap] rfl rfl (news_two _ _ _ (by simp)) (by simp [Value.oneCell']) (by unfold maxLen; omega) (by omega) (by have := HE.out.size; simp at this ⊢; omega) ?_; intro v' w3 hown hgrow _))
      have HO := Lib.hid hown
      have HG := Lib.hid hgrow
      clear hown hgrow
      go_wp2_with fail
      go_roundw
      case rel =>
        refine ⟨k + 1, by omega, by go_num, ((HE.out.alloc _).alloc _).of_grown HG.out (fun k hk => by have := (HR.out.lt k hk).1; simpa using this), ?_⟩
        rw [cells2_succ, HFK.out, HU.out]
        exact HO.out
      case measure => simp [intOf]; omega
    · obtain rfl : k = n := by omega
      go_wp2_with fail
      refine (HFIN.out _ _ HE.out.of_new HR.out).mono ?_
      rintro e w2 ⟨hE2, rfl⟩
      have HE2 := Lib.hid (HE.out.of_new.trans hE2)
      clear hE2
      go_wp2
      go_ret
      exact ⟨HE2.out, rfl⟩
end Go.Proofs.Ytodlkjjoenglgaa

/- cmp.Compare, cmp.Or, slices.Compare, domain.Compare. -/
namespace Go.Proofs.Ytodlkjjoenglgaa
open Go Go.RowKit

def cmpI (x y : Int) : Int := if x < y then -1 else if y < x then 1 else 0
def cmpL : List Int → List Int → Int
  | [], [] => 0
  | [], _ :: _ => -1
  | _ :: _, [] => 1
  | x :: xs, y :: ys => if cmpI x y ≠ 0 then cmpI x y else cmpL xs ys
def cmpA (a b : AtD) : Int := if cmpI a.pred b.pred ≠ 0 then cmpI a.pred b.pred else cmpL a.args b.args

theorem cmpI_zero {x y : Int} : cmpI x y = 0 ↔ x = y := by
  unfold cmpI
  split
  · constructor <;> intro h <;> omega
  · split
    · constructor <;> intro h <;> omega
    · constructor <;> intro h <;> omega
theorem cmpL_zero (xs ys : List Int) : cmpL xs ys = 0 ↔ xs = ys := by
  induction xs generalizing ys with
  | nil => cases ys <;> simp [cmpL]
  | cons x xs ih =>
    cases ys with
    | nil => simp [cmpL]
    | cons y ys =>
      simp only [cmpL, List.cons.injEq]
      by_cases h : cmpI x y = 0
      · rw [if_neg (by simpa using h), ih, cmpI_zero.1 h]; simp
      · rw [if_pos h]
        constructor
        · intro h'; exact absurd h' h
        · rintro ⟨h', _⟩; exact absurd (cmpI_zero.2 h') h
theorem cmpA_zero (a b : AtD) : cmpA a b = 0 ↔ a = b := by
  obtain ⟨p, l⟩ := a
  obtain ⟨q, m⟩ := b
  simp only [cmpA, AtD.mk.injEq]
  by_cases h : cmpI p q = 0
  · rw [if_neg (by simpa using h), cmpL_zero, cmpI_zero.1 h]; simp
  · rw [if_pos h]
    constructor
    · intro h'; exact absurd h' h
    · rintro ⟨h', _⟩; exact absurd (cmpI_zero.2 h') h

theorem nan_any (w : World) (x : Int) : Calls Try.prog 104 #[i64 x] w fun e w' => e = .returned (.bool false) ∧ w = w' := by
  go_enter Try.func104, Try.ntmps104
  go_wp2
  go_ret
  exact ⟨by simp, rfl⟩

theorem cmpI_any (w : World) (x y : Int) : Calls Try.prog 81 #[i64 x, i64 y] w fun e w' => e = .returned (i64 (cmpI x y)) ∧ w = w' := by
  by_cases h : x < y
  · have hv : cmpI x y = -1 := by unfold cmpI; rw [if_pos h]
    rw [hv]
    clear hv
    go_enter Try.func81, Try.ntmps81
    go_wp2_with fail
    refine (nan_any _ x).mono ?_
    rintro e w2 ⟨rfl, rfl⟩
    go_wp2_with fail
    refine (nan_any _ y).mono ?_
    rintro e w2 ⟨rfl, rfl⟩
    go_wp2
    go_ret
    exact ⟨rfl, rfl⟩
  · by_cases h2 : y < x
    · have hv : cmpI x y = 1 := by unfold cmpI; rw [if_neg h, if_pos h2]
      rw [hv]
      clear hv
      go_enter Try.func81, Try.ntmps81
      go_wp2_with fail
      refine (nan_any _ x).mono ?_
      rintro e w2 ⟨rfl, rfl⟩
      go_wp2_with fail
      refine (nan_any _ y).mono ?_
      rintro e w2 ⟨rfl, rfl⟩
      go_wp2
      go_ret
      exact ⟨rfl, rfl⟩
    · have hv : cmpI x y = 0 := by unfold cmpI; rw [if_neg h, if_neg h2]
      rw [hv]
      clear hv
      go_enter Try.func81, Try.ntmps81
      go_wp2_with fail
      refine (nan_any _ x).mono ?_
      rintro e w2 ⟨rfl, rfl⟩
      go_wp2_with fail
      refine (nan_any _ y).mono ?_
      rintro e w2 ⟨rfl, rfl⟩
      go_wp2
      go_ret
      exact ⟨rfl, rfl⟩

def orI (x y : Int) : Int := if x ≠ 0 then x else y
theorem drew_alloc_cell (W : World) (c : Array Value) (T : TypeId) (i : Nat) : ((W.alloc (.cells c T)).drew).cell? ⟨W.heap.size, i, none⟩ = c[i]? := by
  show (W.alloc (.cells c T)).cell? _ = _
  rw [cell_of_heap (heap_alloc_new _ _)]
/-- cmp.Or of two. -/
theorem or_any (w : World) (x y : Int) (b : Nat) (h0 : w.cell? ⟨b, 0, none⟩ = some (i64 x)) (h1 : w.cell? ⟨b, 1, none⟩ = some (i64 y)) :
    Calls Try.prog 80 #[.slice (some ⟨b, 0, none⟩) 2 2] w fun e w' => e = .returned (i64 (orI x y)) ∧ w = w' := by
  have hlt := World.block_lt_of_cell? w _ h0
  simp only at hlt
  obtain ⟨r, hr⟩ : ∃ r, orI x y = r := ⟨_, rfl⟩
  rw [hr]
  unfold orI at hr
  have HR := Lib.hid hr
  clear hr
  go_enter Try.func80, Try.ntmps80
  go_wp2_with fail
  go_loop [8] (fun i => ∃ k : Nat, k ≤ 2 ∧ i = .int .i64 k ∧ Hid ((0 < k → x = 0) ∧ (1 < k → y = 0))) (fun i => 2 - (intOf i).toNat)
  case atStart => exact ⟨0, Nat.zero_le _, rfl, fun h => absurd h (by omega), fun h => absurd h (by omega)⟩
  case round =>
    obtain ⟨k, hk, rfl, H⟩ := hrel
    have : k = 0 ∨ k = 1 ∨ k = 2 := by omega
    rcases this with rfl | rfl | rfl
    · by_cases hx : x = 0
      · have HX := Lib.hid hx
        have hb : (x == 0) = true := by simpa using hx
        clear hx
        go_wp2_with fail
        go_round
        case rel => exact ⟨1, by omega, by go_num, fun _ => HX.out, fun h => absurd h (by omega)⟩
        case measure => simp [intOf]
      · have hb : (x == 0) = false := by simpa using hx
        have HV : Hid (r = x) := by show r = x; rw [← HR.out, if_pos hx]
        go_wp2
        go_ret
        exact ⟨by rw [HV.out] <;> rfl, rfl⟩
    · have hx := H.out.1 (by omega)
      by_cases hy : y = 0
      · have HX := Lib.hid (And.intro hx hy)
        have hb : (y == 0) = true := by simpa using hy
        clear hx hy
        go_wp2_with fail
        go_round
        case rel => exact ⟨2, by omega, by go_num, fun _ => HX.out.1, fun _ => HX.out.2⟩
        case measure => simp [intOf]
      · have hb : (y == 0) = false := by simpa using hy
        have HV : Hid (r = y) := by show r = y; rw [← HR.out, if_neg (by simpa using hx)]
        clear hx
        go_wp2
        go_ret
        exact ⟨by rw [HV.out] <;> rfl, rfl⟩
    · have HV : Hid (r = 0) := by show r = 0; rw [← HR.out, if_neg (by simpa using H.out.1 (by omega)), H.out.2 (by omega)]
      go_wp2
      go_ret
      exact ⟨by rw [HV.out] <;> rfl, rfl⟩

theorem cmpL_drop (xs ys : List Int) (k : Nat) (hx : k < xs.length) (hy : k < ys.length) : cmpL (xs.drop k) (ys.drop k) = if cmpI (xs.getD k 0) (ys.getD k 0) ≠ 0 then cmpI (xs.getD k 0) (ys.getD k 0) else cmpL (xs.drop (k + 1)) (ys.drop (k + 1)) := by
  rw [List.drop_eq_getElem_cons hx, List.drop_eq_getElem_cons hy, cmpL, List.getD_eq_getElem?_getD, List.getD_eq_getElem?_getD, List.getElem?_eq_getElem hx, List.getElem?_eq_getElem hy]
  rfl

set_option maxHeartbeats 1000000 in
theorem cmpL_any (w : World) (xv yv : Value) (xs ys : List Int) (hx : IntsAt w xv xs) (hy : IntsAt w yv ys) : Calls Try.prog 82 #[xv, yv] w fun e w' => e = .returned (i64 (cmpL xs ys)) ∧ w = w' := by
  obtain ⟨xa, xcap, rfl, -, x2, x3, hxc⟩ := hx.open
  obtain ⟨ya, ycap, rfl, -, y2, y3, hyc⟩ := hy.open
  obtain ⟨r, hr⟩ : ∃ r, cmpL xs ys = r := ⟨_, rfl⟩
  rw [hr]
  have hdrop := cmpL_drop xs ys
  have hend : ys.length = xs.length → cmpL (xs.drop xs.length) (ys.drop xs.length) = 0 := fun h => by rw [List.drop_length, ← h, List.drop_length]; rfl
  have hshort : xs.length < ys.length → cmpL (xs.drop xs.length) (ys.drop xs.length) = -1 := fun h => by
    rw [List.drop_length, List.drop_eq_getElem_cons h]; rfl
  have hlong : ∀ k, k < xs.length → ys.length ≤ k → cmpL (xs.drop k) (ys.drop k) = 1 := fun k h h' => by
    rw [List.drop_eq_getElem_cons h, List.drop_eq_nil_of_le h']; rfl
  obtain ⟨n, hn⟩ : ∃ n, xs.length = n := ⟨_, rfl⟩
  obtain ⟨m, hm⟩ : ∃ n, ys.length = n := ⟨_, rfl⟩
  simp only [hn, hm] at hdrop hxc hyc x3 y3 hend hshort hlong ⊢
  have HD := Lib.hid hdrop
  have HX := Lib.hid hxc
  have HY := Lib.hid hyc
  have HEND := Lib.hid hend
  have HSH := Lib.hid hshort
  have HLO := Lib.hid hlong
  unfold maxLen at x2 y2
  have H0 : Hid (cmpL (xs.drop 0) (ys.drop 0) = r) := hr
  clear hr hdrop hxc hyc hend hshort hlong hn hm hx hy
  go_enter Try.func82, Try.ntmps82
  go_wp2_with fail
  go_loop [11] (fun i => ∃ k : Nat, k ≤ n ∧ i = .int .i64 k ∧ k ≤ m ∧ Hid (cmpL (xs.drop k) (ys.drop k) = r)) (fun i => n - (intOf i).toNat)
  case atStart => exact ⟨0, Nat.zero_le _, rfl, Nat.zero_le _, H0⟩
  case round =>
    obtain ⟨k, hk, rfl, hkm, H⟩ := hrel
    clear H0
    by_cases hlt : k < n
    · obtain ⟨b1, off1, rfl, g1⟩ := HX.out k hlt
      have hb1 := World.block_lt_of_cell? w _ g1
      by_cases hlm : k < m
      · obtain ⟨b2, off2, rfl, g2⟩ := HY.out k hlm
        have hb2 := World.block_lt_of_cell? w _ g2
        have hs := HD.out k hlt hlm
        obtain ⟨x, hx⟩ : ∃ x, xs.getD k 0 = x := ⟨_, rfl⟩
        obtain ⟨y, hy⟩ : ∃ x, ys.getD k 0 = x := ⟨_, rfl⟩
        rw [hx, hy] at hs
        rw [hx] at g1
        rw [hy] at g2
        have HS := Lib.hid hs
        clear hx hy hs
        go_wp2_with fail
        refine (cmpI_any _ x y).mono ?_
        rintro e w2 ⟨rfl, rfl⟩
        obtain ⟨c, hc⟩ : ∃ c, cmpI x y = c := ⟨_, rfl⟩
        have HC := Lib.hid hc
        rw [hc]
        clear hc
        by_cases hz : c = 0
        · have hb : (c == 0) = true := by simpa using hz
          have HN : Hid (cmpL (xs.drop (k + 1)) (ys.drop (k + 1)) = r) := by
            show _ = r
            rw [← H.out, HS.out, HC.out, if_neg (by simpa using hz)]
          clear hz
          go_wp2_with fail
          go_round
          case rel => exact ⟨k + 1, by omega, by go_num, by omega, HN⟩
          case measure => simp [intOf]; omega
        · have hb : (c == 0) = false := by simpa using hz
          have HV : Hid (r = c) := by show r = c; rw [← H.out, HS.out, HC.out, if_pos hz]
          go_wp2
          go_ret
          exact ⟨by rw [HV.out] <;> rfl, rfl⟩
      · have HV : Hid (r = 1) := by show r = 1; rw [← H.out, HLO.out k hlt (by omega)]
        go_wp2
        go_ret
        exact ⟨by rw [HV.out] <;> rfl, rfl⟩
    · have hkn : k = n := by omega
      subst hkn
      by_cases hlm : k < m
      · have HV : Hid (r = -1) := by show r = -1; rw [← H.out, HSH.out hlm]
        go_wp2
        go_ret
        exact ⟨by rw [HV.out] <;> rfl, rfl⟩
      · have HV : Hid (r = 0) := by show r = 0; rw [← H.out, HEND.out (by omega)]
        go_wp2
        go_ret
        exact ⟨by rw [HV.out] <;> rfl, rfl⟩

set_option maxHeartbeats 1000000 in
theorem cmpA_any (w : World) (a b : AtD) (xv yv : Value) (hx : IntsAt w xv a.args) (hy : IntsAt w yv b.args) : Calls Try.prog 64 #[.agg #[i64 a.pred, xv], .agg #[i64 b.pred, yv]] w fun e w' => e = .returned (i64 (cmpA a b)) ∧ Ext w w' := by
  have hL := fun W (hW : Ext w W) => cmpL_any W xv yv a.args b.args (hx.ext hW) (hy.ext hW)
  obtain ⟨xa, xcap, rfl, -⟩ := hx.open
  obtain ⟨ya, ycap, rfl, -⟩ := hy.open
  obtain ⟨p, l⟩ := a
  obtain ⟨q, m⟩ := b
  simp only at hL ⊢
  have HL := Lib.hid hL
  obtain ⟨c, hc⟩ : ∃ c, cmpL l m = c := ⟨_, rfl⟩
  obtain ⟨n, hn⟩ : ∃ c, l.length = c := ⟨_, rfl⟩
  obtain ⟨k, hk⟩ : ∃ c, m.length = c := ⟨_, rfl⟩
  obtain ⟨r, hr⟩ : ∃ r, cmpA ⟨p, l⟩ ⟨q, m⟩ = r := ⟨_, rfl⟩
  rw [hr]
  have HR : Hid (orI (cmpI p q) c = r) := by show orI (cmpI p q) c = r; rw [← hr, ← hc]; rfl
  simp only [hc, hn, hk] at hL ⊢
  have HL := Lib.hid hL
  clear hL hr hc hn hk hx hy
  go_enter Try.func64, Try.ntmps64
  go_wp2_with fail
  generalize hW0 : (w.alloc (.cells #[i64 p, .slice xa n xcap] 46)).alloc (.cells #[i64 q, .slice ya k ycap] 46) = W0
  have hE : Ext w W0 := by rw [← hW0]; exact ((Ext.refl w).alloc _).alloc _
  have e0 : W0.heap[w.heap.size]? = some (.cells #[i64 p, .slice xa n xcap] 46) := by
    rw [← hW0]; exact (heap_alloc_lt (by simp)).trans (heap_alloc_new _ _)
  have e1 : W0.heap[w.heap.size + 1]? = some (.cells #[i64 q, .slice ya k ycap] 46) := by rw [← hW0]; exact heap_alloc_second _ _ _
  obtain ⟨a0, a1, -⟩ := two_facts e0
  obtain ⟨c0, c1, -⟩ := two_facts e1
  have HE := Lib.hid hE
  clear hW0 hE e0 e1
  refine wp_region_seq (Ext W0) [(0, 0), (1, 1), (2, 0), (3, 1), (5, 0), (6, 1), (7, 0), (8, 1), (4, 2), (9, 2), (10, 2), (11, 2), (12, 0)] (by kernel_rfl) (by kernel_rfl) (Ext.refl W0).drew (fun hS => ?_)
  simp only [List.map, nthOp]
  refine seqL_yield rfl (fun w' => by go_simp; rfl) ?_
  try simp only [Act.put, List.setIfInBounds_toArray, List.set_cons_zero, List.set_cons_succ]
  refine seqL_read hS rfl (fun w' hE => by have := hE.cell a0; clear hE; go_simp; rfl) ?_
  try simp only [Act.put, List.setIfInBounds_toArray, List.set_cons_zero, List.set_cons_succ]
  refine seqL_yield rfl (fun w' => by go_simp; rfl) ?_
  try simp only [Act.put, List.setIfInBounds_toArray, List.set_cons_zero, List.set_cons_succ]
  refine seqL_read hS rfl (fun w' hE => by have := hE.cell c0; clear hE; go_simp; rfl) ?_
  try simp only [Act.put, List.setIfInBounds_toArray, List.set_cons_zero, List.set_cons_succ]
  refine seqL_yield rfl (fun w' => by go_simp; rfl) ?_
  try simp only [Act.put, List.setIfInBounds_toArray, List.set_cons_zero, List.set_cons_succ]
  refine seqL_read hS rfl (fun w' hE => by have := hE.cell a1; clear hE; go_simp; rfl) ?_
  try simp only [Act.put, List.setIfInBounds_toArray, List.set_cons_zero, List.set_cons_succ]
  refine seqL_yield rfl (fun w' => by go_simp; rfl) ?_
  try simp only [Act.put, List.setIfInBounds_toArray, List.set_cons_zero, List.set_cons_succ]
  refine seqL_read hS rfl (fun w' hE => by have := hE.cell c1; clear hE; go_simp; rfl) ?_
  try simp only [Act.put, List.setIfInBounds_toArray, List.set_cons_zero, List.set_cons_succ]
  refine seqL_grow rfl (fun K hK => ?_)
  have HKK := Lib.hid hK
  clear hK
  go_simp
  refine (cmpI_any _ p q).mono ?_
  rintro e w3 ⟨rfl, rfl⟩
  refine HKK.out _ _ hS (fun hS => ?_)
  clear HKK K
  try simp only [Act.put, List.setIfInBounds_toArray, List.set_cons_zero, List.set_cons_succ]
  refine seqL_grow rfl (fun K hK => ?_)
  have HKK := Lib.hid hK
  clear hK
  go_simp
  refine (HL.out _ (HE.out.trans hS)).mono ?_
  rintro e w3 ⟨rfl, rfl⟩
  refine HKK.out _ _ hS (fun hS => ?_)
  clear HKK K
  try simp only [Act.put, List.setIfInBounds_toArray, List.set_cons_zero, List.set_cons_succ]
  refine seqL_grow rfl (fun K hK => ?_)
  have HKK := Lib.hid hK
  clear hK
  go_simp
  refine HKK.out _ _ (hS.alloc _) (fun hS => ?_)
  clear HKK K
  try simp only [Act.put, List.setIfInBounds_toArray, List.set_cons_zero, List.set_cons_succ]
  refine seqL_grow rfl (fun K hK => ?_)
  have HKK := Lib.hid hK
  clear hK
  go_simp
  refine (or_any _ (cmpI p q) c W0.heap.size (by rw [drew_alloc_cell]; rfl) (by rw [drew_alloc_cell]; rfl)).mono ?_
  rintro e w3 ⟨rfl, rfl⟩
  refine HKK.out _ _ hS (fun hS => ?_)
  clear HKK K
  try simp only [Act.put, List.setIfInBounds_toArray, List.set_cons_zero, List.set_cons_succ]
  refine seqL_yield rfl (fun w' => by go_simp; rfl) ?_
  try simp only [Act.put, List.setIfInBounds_toArray, List.set_cons_zero, List.set_cons_succ]
  refine seqL_nil ?_
  have HE2 := Lib.hid (HE.out.trans hS)
  clear hS
  rw [HR.out]
  go_wp2
  go_ret
  exact ⟨rfl, HE2.out⟩
end Go.Proofs.Ytodlkjjoenglgaa

/- domain.predicate, schema, start. -/
namespace Go.Proofs.Ytodlkjjoenglgaa
open Go Go.RowKit

theorem IntsAt.nil (w : World) : IntsAt w (.slice none 0 0) [] := ⟨none, 0, rfl, Nat.le_refl _, Nat.zero_le _, by decide, fun i x h => by simp at h⟩
theorem IntsAt.slice {w : World} {v : Value} {l : List Int} (h : IntsAt w v l) : ∃ a cap, v = .slice a l.length cap := let ⟨a, cap, h, _⟩ := h; ⟨a, cap, h⟩

def notName : List UInt8 := [110, 111, 116]
def predCode (D : Dom) (i : Nat) : Int :=
  if isNameB (D.preds.getD i dPr).1 = false ∨ (D.preds.getD i dPr).1.toList = notName then 12
  else if ((List.range i).any fun j => (D.preds.getD j dPr).1.toList == (D.preds.getD i dPr).1.toList) = true then 7
  else paramsCode D (D.preds.getD i dPr).2

set_option maxHeartbeats 2000000 in
theorem pred_any (w : World) (d : DomV) (D : Dom) (hd : DomAt w d D) (i : Nat) (hi : i < D.preds.length) :
    Calls Try.prog 89 #[.agg d.cells, i64 i] w fun e w' => Ext w w' ∧ e = .returned (i64 (predCode D i)) := by
  obtain ⟨code, hcode⟩ : ∃ c, predCode D i = c := ⟨_, rfl⟩
  rw [hcode]
  obtain ⟨qa, qcap, pv, hq, q1, q2, q3, hrow⟩ := hd.preds.preds
  have hpar := fun W (hW : Ext w W) => params_any W d D (hd.ext hW) (pv i) _ ((hrow i hi).2.1.ext hW)
  have hrows := fun j hj => (hrow j hj).1
  have hsz := (hrow i hi).2.2
  obtain ⟨ua, ucap, hu⟩ := (hrow i hi).2.1.slice
  obtain ⟨un, hun⟩ : ∃ n, (D.preds.getD i dPr).2.length = n := ⟨_, rfl⟩
  obtain ⟨nm, hnm⟩ : ∃ n, (D.preds.getD i dPr).1 = n := ⟨_, rfl⟩
  obtain ⟨f, hf⟩ : ∃ f, (fun j => (D.preds.getD j dPr).1) = f := ⟨_, rfl⟩
  obtain ⟨pc, hpc⟩ : ∃ f, paramsCode D (D.preds.getD i dPr).2 = f := ⟨_, rfl⟩
  have hff : ∀ j, (D.preds.getD j dPr).1 = f j := fun j => by rw [← hf]
  have hc : code = if isNameB nm = false ∨ nm.toList = notName then 12 else if ((List.range i).any fun j => (f j).toList == nm.toList) = true then 7 else pc := by
    rw [← hcode, ← hf, ← hnm, ← hpc]; rfl
  obtain ⟨n, hn⟩ : ∃ n, D.preds.length = n := ⟨_, rfl⟩
  obtain ⟨tv, ov, qv, sv, iv, gv⟩ := d
  simp only at hq
  subst hq
  rw [hn] at hrows hi q1 q3
  simp only [hff] at hrows
  rw [hnm] at hsz
  rw [hun] at hu
  rw [hu, hpc] at hpar
  have hri := hrows i hi
  rw [hu, ← hff, hnm] at hri
  simp only [DomV.cells, hn] at hpar ⊢
  have HPAR := Lib.hid hpar
  have HROW := Lib.hid hrows
  have HC := Lib.hid hc
  unfold maxLen at q2
  obtain ⟨b, off, rfl, hcell⟩ := hri
  have h0 : w.cell? ⟨b, off + i * 2, none⟩ = some (.string nm) := hcell 0 _ rfl
  have h1 : w.cell? ⟨b, off + i * 2 + 1, none⟩ = some (.slice ua un ucap) := hcell 1 _ rfl
  have hlt := World.block_lt_of_cell? w _ h0
  clear hpar hrow hrows hcode hf hff hc hn hd hnm hun hpc hu hcell
  go_enter Try.func89, Try.ntmps89
  go_wp2_with fail
  refine (isName_any nm _ hsz).mono ?_
  rintro e w2 ⟨rfl, rfl⟩
  by_cases hbad : isNameB nm = false ∨ nm.toList = notName
  · have HV : Hid (code = 12) := by show code = 12; rw [HC.out, if_pos hbad]
    cases hN : isNameB nm with
    | false =>
      clear hbad
      go_wp2
      go_ret
      exact ⟨((Ext.refl w).alloc _).alloc _, by rw [HV.out] <;> rfl⟩
    | true =>
      have hO : nm.toList = notName := hbad.resolve_left (by rw [hN]; decide)
      have ho : (nm.toList == [110, 111, 116]) = true := by rw [hO]; rfl
      clear hbad hO
      go_wp2
      go_ret
      exact ⟨((Ext.refl w).alloc _).alloc _, by rw [HV.out] <;> rfl⟩
  · have hN : isNameB nm = true := by
      cases h : isNameB nm with
      | true => rfl
      | false => exact absurd (Or.inl h) hbad
    have ho : (nm.toList == [110, 111, 116]) = false := by
      cases h : (nm.toList == [110, 111, 116]) with
      | false => rfl
      | true => exact absurd (Or.inr (by unfold notName; simpa using h)) hbad
    have HC2 : Hid (code = if ((List.range i).any fun j => (f j).toList == nm.toList) = true then 7 else pc) := by show code = _; rw [HC.out, if_neg hbad]
    rw [hN]
    clear hbad hN
    go_wp2_with fail
    have hcall := hasPred ((w.alloc (.cells #[tv, ov, .slice (some ⟨b, off, none⟩) n qcap, sv, iv, gv] 29)).alloc (.cells #[.string nm, .slice ua un ucap] 58)) (some ⟨b, off, none⟩) i qcap (by omega) 107 enters107 #[.pointer (some ⟨w.heap.size + 1, 0, none⟩)]
      (fun i => .string (f i)) pv (fun j hj => (HROW.out j (by omega)).ext (((Ext.refl w).alloc _).alloc _))
      (fun i => (f i).toList == nm.toList) (fun j _ W hW => prEq W _ nm _ _ (hW.cell (by rw [cell_of_heap (heap_alloc_second _ _ _)]; rfl)))
    refine hcall.mono ?_
    rintro e w2 ⟨rfl, hE⟩
    have hb58 := two_facts (hE.block (heap_alloc_second w _ _))
    obtain ⟨g0, g1, -⟩ := hb58
    obtain ⟨f0, f1, f2, f3, f4, f5, hbl⟩ := six_facts (hE.of_new'.block (heap_alloc_new w _))
    have HE := Lib.hid hE.of_new'.of_new
    clear hcall hE
    obtain ⟨r, hr⟩ : ∃ r, ((List.range i).any fun j => (f j).toList == nm.toList) = r := ⟨_, rfl⟩
    have HR := Lib.hid hr
    rw [hr]
    clear hr
    cases r with
    | true =>
      have HV : Hid (code = 7) := by show code = 7; rw [HC2.out, if_pos HR.out]
      go_wp2
      go_ret
      exact ⟨HE.out, by rw [HV.out] <;> rfl⟩
    | false =>
      have HV : Hid (code = pc) := by show code = pc; rw [HC2.out, if_neg (by rw [HR.out]; decide)]
      go_wp2_with fail
      refine (HPAR.out _ HE.out).mono ?_
      rintro e w3 ⟨hE3, rfl⟩
      have HE3 := Lib.hid (HE.out.trans hE3)
      clear hE3
      go_wp2
      go_ret
      exact ⟨HE3.out, by rw [HV.out] <;> rfl⟩

theorem cl113 (w : World) (a b : AtD) (xv yv : Value) (bt : Nat) (hx : IntsAt w xv a.args) (hy : IntsAt w yv b.args) (h0 : w.cell? ⟨bt, 0, none⟩ = some (i64 a.pred)) (h1 : w.cell? ⟨bt, 1, none⟩ = some xv) :
    Calls Try.prog 113 (#[.agg #[i64 b.pred, yv]] ++ #[.pointer (some ⟨bt, 0, none⟩)]) w fun e w' => e = .returned (.bool (decide (cmpA a b = 0))) ∧ Ext w w' := by
  have hcmp := fun W (hW : Ext w W) => cmpA_any W a b xv yv (hx.ext hW) (hy.ext hW)
  obtain ⟨xa, xcap, rfl⟩ := hx.slice
  obtain ⟨ya, ycap, rfl⟩ := hy.slice
  have hlt := World.block_lt_of_cell? w _ h0
  simp only at hlt
  obtain ⟨c, hc⟩ : ∃ c, cmpA a b = c := ⟨_, rfl⟩
  rw [hc] at hcmp ⊢
  have HCMP := Lib.hid hcmp
  clear hcmp hc hx hy
  obtain ⟨p, l⟩ := a
  obtain ⟨q, m⟩ := b
  simp only at HCMP h0 ⊢
  generalize l.length = n at *
  generalize m.length = k at *
  go_enter Try.func113, Try.ntmps113
  go_wp2_with fail
  refine (HCMP.out _ ((Ext.refl w).alloc _)).mono ?_
  rintro e w3 ⟨rfl, hE⟩
  have HE := Lib.hid hE.of_new
  clear hE
  go_wp2
  go_ret
  refine ⟨?_, HE.out⟩
  apply ret_bool
  by_cases h : c = 0 <;> simp [h]
theorem enters113 : EntersF 113 := fun args W => enters_of Try.func113 (by kernel_rfl) rfl args W

def dupCode (l : List AtD) (i : Nat) : Int := if ((List.range i).any fun j => decide (cmpA (l.getD i dAt) (l.getD j dAt) = 0)) = true then 7 else 0
def startCode (D : Dom) : Int := if atomsCode D [] D.init 40 ≠ 0 then atomsCode D [] D.init 40 else scan (dupCode D.init) D.init.length

theorem TypesIn.nil (D : Dom) : TypesIn D [] := fun t ht => by simp at ht

set_option maxHeartbeats 2000000 in
theorem start_any (w : World) (d : DomV) (D : Dom) (hd : DomAt w d D) (hpre : DomPre D) :
    Calls Try.prog 91 #[.agg d.cells] w fun e w' => Ext w w' ∧ e = .returned (i64 (startCode D)) := by
  obtain ⟨code, hcode⟩ : ∃ c, startCode D = c := ⟨_, rfl⟩
  rw [hcode]
  have hatoms := fun W (hW : Ext w W) => atoms_any W d D (hd.ext hW) hpre _ [] (IntsAt.nil W) (TypesIn.nil D) D.init d.iv (Sl.ext hd.init hW (rAtom.ext hW)) 40
  obtain ⟨ia, icap, av, hiv, i1, i2, i3, hrow⟩ := hd.init.atoms
  obtain ⟨ac, hac⟩ : ∃ c, atomsCode D [] D.init 40 = c := ⟨_, rfl⟩
  obtain ⟨n, hn⟩ : ∃ n, D.init.length = n := ⟨_, rfl⟩
  obtain ⟨l, hl⟩ : ∃ l, D.init = l := ⟨_, rfl⟩
  have hc : code = if ac ≠ 0 then ac else scan (dupCode l) n := by rw [← hcode, ← hac, ← hn, ← hl]; rfl
  rw [hac] at hatoms
  obtain ⟨tv, ov, qv, sv, iv, gv⟩ := d
  simp only at hiv
  subst hiv
  simp only [DomV.cells] at hatoms ⊢
  rw [hn] at hatoms hrow i1 i3 ⊢
  rw [hl] at hrow
  have hsl : ∀ i, i < n → ∃ ua un ucap, av i = .slice ua un ucap := fun i hi => let ⟨ua, ucap, h, _⟩ := (hrow i hi).2; ⟨ua, _, ucap, h⟩
  have HATOMS := Lib.hid hatoms
  have HROW := Lib.hid hrow
  have HSL := Lib.hid hsl
  have HC := Lib.hid hc
  unfold maxLen at i2
  clear hatoms hrow hcode hc hac hn hl hd hpre hsl
  go_enter Try.func91, Try.ntmps91
  go_wp2_with fail
  refine (HATOMS.out _ ((Ext.refl w).alloc _)).mono ?_
  rintro e w2 ⟨hE, rfl⟩
  obtain ⟨f0, f1, f2, f3, f4, f5, hbl⟩ := six_facts (new_block hE)
  have HE := Lib.hid hE
  clear hE
  by_cases hz : ac = 0
  · subst hz
    have HC1 : Hid (code = scan (dupCode l) n) := by show code = _; rw [HC.out, if_neg (by simp)]
    have H0 : Hid (∀ j, j < 0 → dupCode l j = 0) := fun j hj => absurd hj (Nat.not_lt_zero j)
    go_wp2_with fail
    go_loopw [16] (fun i wr => ∃ k : Nat, k ≤ n ∧ i = .int .i64 k ∧ Hid (∀ j, j < k → dupCode l j = 0) ∧ Ext (w.alloc (.cells #[tv, ov, qv, sv, .slice ia n icap, gv] 29)) wr) (fun i _ => n - (intOf i).toNat)
    case atStart => exact ⟨0, Nat.zero_le _, rfl, H0, HE.out⟩
    case round =>
      obtain ⟨k, hk, rfl, H, hE⟩ := hrel
      clear H0 f0 f1 f2 f3 f4 f5 hbl
      obtain ⟨f0, f1, f2, f3, f4, f5, hbl⟩ := six_facts (new_block hE)
      have HER := Lib.hid hE
      have HEE := Lib.hid hE.of_new
      clear hE
      by_cases hlt : k < n
      · obtain ⟨⟨b, off, rfl, hcell⟩, hints⟩ := HROW.out k hlt
        obtain ⟨ua, un, ucap, hu⟩ := HSL.out k hlt
        have h0 : wr.cell? ⟨b, off + k * 2, none⟩ = some (i64 (l.getD k dAt).pred) := HEE.out.cell (hcell 0 _ rfl)
        have h1 : wr.cell? ⟨b, off + k * 2 + 1, none⟩ = some (av k) := HEE.out.cell (hcell 1 _ rfl)
        rw [hu] at h1 hints
        obtain ⟨p, hp⟩ : ∃ p, (l.getD k dAt).pred = p := ⟨_, rfl⟩
        rw [hp] at h0
        have hlt' := World.block_lt_of_cell? wr _ h0
        have HP := Lib.hid hp
        have HINTS := Lib.hid hints
        have HU := Lib.hid hu
        clear hp hints hcell hu
        go_wp2_with fail
        have hcall := hasAtom (wr.alloc (.cells #[i64 p, .slice ua un ucap] 46)) (some ⟨b, off, none⟩) k icap (by omega) 113 enters113 #[.pointer (some ⟨wr.heap.size, 0, none⟩)]
          (fun i => i64 (l.getD i dAt).pred) av (fun j hj => (HROW.out j (by omega)).1.ext (HEE.out.alloc _))
          (fun j => decide (cmpA (l.getD k dAt) (l.getD j dAt) = 0)) (fun j hj W hW => cl113 W (l.getD k dAt) (l.getD j dAt) (.slice ua un ucap) (av j) wr.heap.size (HINTS.out.ext ((HEE.out.alloc _).trans hW)) ((HROW.out j (by omega)).2.ext ((HEE.out.alloc _).trans hW)) (by rw [HP.out]; exact new_cell hW rfl) (new_cell hW rfl))
        refine hcall.mono ?_
        rintro e w3 ⟨rfl, hE3⟩
        have HE3 := Lib.hid (HER.out.trans hE3.of_new)
        obtain ⟨r, hr⟩ : ∃ r, ((List.range k).any fun j => decide (cmpA (l.getD k dAt) (l.getD j dAt) = 0)) = r := ⟨_, rfl⟩
        have HR := Lib.hid hr
        rw [hr]
        clear hr hE3 hcall f0 f1 f2 f3 f4 f5 hbl h0 h1 hlt'
        cases r with
        | true =>
          have hd7 : dupCode l k = 7 := by unfold dupCode; rw [if_pos HR.out]
          have HV : Hid (code = 7) := by show code = 7; rw [HC1.out, scan_hit hlt H.out (by rw [hd7]; decide), hd7]
          clear hd7
          go_wp2
          go_ret
          exact ⟨HE3.out.of_new, by rw [HV.out] <;> rfl⟩
        | false =>
          have hok : Hid (∀ j, j < k + 1 → dupCode l j = 0) := fun j hj => by
            rcases Nat.lt_succ_iff_lt_or_eq.1 hj with h' | rfl
            · exact H.out j h'
            · unfold dupCode; rw [if_neg (by rw [HR.out]; decide)]
          go_wp2_with fail
          go_roundw
          case rel => exact ⟨k + 1, by omega, by go_num, hok, HE3.out⟩
          case measure => simp [intOf]; omega
      · have HV : Hid (code = 0) := by
          show code = 0
          have : k = n := by omega
          subst this
          rw [HC1.out, scan_none H.out]
        go_wp2
        go_ret
        exact ⟨HEE.out, by rw [HV.out] <;> rfl⟩
  · have HV : Hid (code = ac) := by show code = ac; rw [HC.out, if_pos hz]
    go_wp2
    go_ret
    exact ⟨HE.out.of_new, by rw [HV.out] <;> rfl⟩
end Go.Proofs.Ytodlkjjoenglgaa

/- domain.schema. -/
namespace Go.Proofs.Ytodlkjjoenglgaa
open Go Go.RowKit

def dSc : ScD := ⟨ByteArray.empty, [], [], [], [], [], 0⟩
def diffBad (n : Nat) (p : Int × Int) : Bool := decide (p.1 < 0 ∨ p.2 ≤ p.1 ∨ (n : Int) ≤ p.2)
def orC (x y : Int) : Int := if x ≠ 0 then x else y
def scTail (D : Dom) (s : ScD) : Int :=
  orC (paramsCode D s.types) (if 8 < s.diff.length then 2 else if (s.diff.any (diffBad s.types.length)) = true then 3 else
    orC (litsCode D s.types s.pre) (orC (atomsCode D s.types s.add 8) (orC (atomsCode D s.types s.del 8) (if s.cost < 0 ∨ 100 < s.cost then 3 else 0))))
def schemaCode (D : Dom) (i : Nat) : Int :=
  if isNameB (D.schemas.getD i dSc).name = false then 12
  else if ((List.range i).any fun j => (D.schemas.getD j dSc).name.toList == (D.schemas.getD i dSc).name.toList) = true then 7
  else scTail D (D.schemas.getD i dSc)

structure ScV where
  t : Value
  d : Value
  p : Value
  a : Value
  l : Value
theorem Sl.schemas {w : World} {v : Value} {l : List ScD} (h : Sl w 7 144 rSc v l) :
    ∃ a cap, ∃ V : Nat → ScV, v = .slice a l.length cap ∧ l.length ≤ cap ∧ cap ≤ maxLen ∧ l.length * 144 ≤ 140737488351232 ∧ ∀ i, i < l.length →
      RowAt w a 7 i [.string (l.getD i dSc).name, (V i).t, (V i).d, (V i).p, (V i).a, (V i).l, i64 (l.getD i dSc).cost] ∧ (l.getD i dSc).name.size ≤ maxLen ∧
      IntsAt w (V i).t (l.getD i dSc).types ∧ Sl w 2 16 rPair (V i).d (l.getD i dSc).diff ∧ Sl w 3 40 rLit (V i).p (l.getD i dSc).pre ∧ Sl w 2 32 rAtom (V i).a (l.getD i dSc).add ∧ Sl w 2 32 rAtom (V i).l (l.getD i dSc).del := by
  obtain ⟨a, cap, C, h0, h1, h2, h3, h4⟩ := h.rows dSc
  refine ⟨a, cap, fun i => ⟨(C i).getD 1 undef, (C i).getD 2 undef, (C i).getD 3 undef, (C i).getD 4 undef, (C i).getD 5 undef⟩, h0, h1, h2, h3, fun i hi => ?_⟩
  obtain ⟨-, ⟨tv, dv, pv, av, lv, hc, hs, p1, p2, p3, p4, p5⟩, hr⟩ := h4 i hi
  dsimp only
  rw [hc] at hr ⊢
  exact ⟨hr, hs, p1, p2, p3, p4, p5⟩
theorem Sl.pairs {w : World} {v : Value} {l : List (Int × Int)} (h : Sl w 2 16 rPair v l) :
    ∃ a cap, v = .slice a l.length cap ∧ l.length ≤ cap ∧ cap ≤ maxLen ∧ l.length * 16 ≤ 140737488351232 ∧ ∀ i, i < l.length → RowAt w a 2 i [i64 (l.getD i (0, 0)).1, i64 (l.getD i (0, 0)).2] := by
  obtain ⟨a, cap, C, h0, h1, h2, h3, h4⟩ := h.rows (0, 0)
  refine ⟨a, cap, h0, h1, h2, h3, fun i hi => ?_⟩
  obtain ⟨-, hc, hr⟩ := h4 i hi
  rw [show C i = _ from hc] at hr
  exact hr
theorem Sl.slice {X : Type} {w : World} {sz by' : Nat} {R : World → List Value → X → Prop} {v : Value} {l : List X} (h : Sl w sz by' R v l) : ∃ a n cap, v = .slice a n cap := let ⟨a, cap, h, _⟩ := h; ⟨a, _, cap, h⟩

theorem seven_facts {w : World} {b : Nat} {c0 c1 c2 c3 c4 c5 c6 : Value} {T : TypeId} (h : w.heap[b]? = some (.cells #[c0, c1, c2, c3, c4, c5, c6] T)) :
    w.cell? ⟨b, 0, none⟩ = some c0 ∧ w.cell? ⟨b, 1, none⟩ = some c1 ∧ w.cell? ⟨b, 2, none⟩ = some c2 ∧ w.cell? ⟨b, 3, none⟩ = some c3 ∧ w.cell? ⟨b, 4, none⟩ = some c4 ∧ w.cell? ⟨b, 5, none⟩ = some c5 ∧ w.cell? ⟨b, 6, none⟩ = some c6 ∧ b < w.heap.size :=
  ⟨by rw [cell_of_heap h]; rfl, by rw [cell_of_heap h]; rfl, by rw [cell_of_heap h]; rfl, by rw [cell_of_heap h]; rfl, by rw [cell_of_heap h]; rfl, by rw [cell_of_heap h]; rfl, by rw [cell_of_heap h]; rfl, heap_lt h⟩

set_option maxHeartbeats 4000000 in
theorem schema_any (w : World) (d : DomV) (D : Dom) (hd : DomAt w d D) (hpre : DomPre D) (i : Nat) (hi : i < D.schemas.length) :
    Calls Try.prog 90 #[.agg d.cells, i64 i] w fun e w' => Ext w w' ∧ e = .returned (i64 (schemaCode D i)) := by
  obtain ⟨code, hcode⟩ : ∃ c, schemaCode D i = c := ⟨_, rfl⟩
  rw [hcode]
  obtain ⟨qa, qcap, V, hq, q1, q2, q3, hrow⟩ := hd.schemas.schemas
  obtain ⟨s, hs⟩ : ∃ s, D.schemas.getD i dSc = s := ⟨_, rfl⟩
  obtain ⟨-, hsz, ht, hdf, hp, ha, hl⟩ := hrow i hi
  rw [hs] at hsz ht hdf hp ha hl
  have hpar := fun W (hW : Ext w W) => params_any W d D (hd.ext hW) (V i).t s.types (ht.ext hW)
  have hlits := fun W (hW : Ext w W) (hz : paramsCode D s.types = 0) => lits_any W d D (hd.ext hW) hpre (V i).t s.types (ht.ext hW) (paramsCode_zero hz).2 s.pre (V i).p (Sl.ext hp hW (rLit.ext hW))
  have hadd := fun W (hW : Ext w W) (hz : paramsCode D s.types = 0) => atoms_any W d D (hd.ext hW) hpre (V i).t s.types (ht.ext hW) (paramsCode_zero hz).2 s.add (V i).a (Sl.ext ha hW (rAtom.ext hW)) 8
  have hdel := fun W (hW : Ext w W) (hz : paramsCode D s.types = 0) => atoms_any W d D (hd.ext hW) hpre (V i).t s.types (ht.ext hW) (paramsCode_zero hz).2 s.del (V i).l (Sl.ext hl hW (rAtom.ext hW)) 8
  obtain ⟨f, hf⟩ : ∃ f, (fun j => (D.schemas.getD j dSc).name) = f := ⟨_, rfl⟩
  obtain ⟨g, hg⟩ : ∃ f, (fun j => (D.schemas.getD j dSc).cost) = f := ⟨_, rfl⟩
  have hff : ∀ j, (D.schemas.getD j dSc).name = f j := fun j => by rw [← hf]
  have hgg : ∀ j, (D.schemas.getD j dSc).cost = g j := fun j => by rw [← hg]
  have hrows := fun j hj => (hrow j hj).1
  have hri := hrows i hi
  rw [hs] at hri
  have hc : code = if isNameB s.name = false then 12 else if ((List.range i).any fun j => (f j).toList == s.name.toList) = true then 7 else scTail D s := by
    rw [← hcode, ← hf, ← hs]; rfl
  obtain ⟨n, hn⟩ : ∃ n, D.schemas.length = n := ⟨_, rfl⟩
  obtain ⟨nm, hnm⟩ : ∃ n, s.name = n := ⟨_, rfl⟩
  obtain ⟨cost, hco⟩ : ∃ n, s.cost = n := ⟨_, rfl⟩
  obtain ⟨pc, hpc⟩ : ∃ f, paramsCode D s.types = f := ⟨_, rfl⟩
  obtain ⟨lc, hlc⟩ : ∃ f, litsCode D s.types s.pre = f := ⟨_, rfl⟩
  obtain ⟨ac, hac⟩ : ∃ f, atomsCode D s.types s.add 8 = f := ⟨_, rfl⟩
  obtain ⟨dc, hdc⟩ : ∃ f, atomsCode D s.types s.del 8 = f := ⟨_, rfl⟩
  obtain ⟨da, dcap, hdv, -, d2, d3, hdrow⟩ := hdf.pairs
  obtain ⟨dn, hdn⟩ : ∃ n, s.diff.length = n := ⟨_, rfl⟩
  obtain ⟨ta, tcap, htv⟩ := ht.slice
  obtain ⟨tn, htn⟩ : ∃ n, s.types.length = n := ⟨_, rfl⟩
  have htl := ht.rowAt
  obtain ⟨_, _, _, t1, t2, _, _⟩ := htl
  have htm : tn ≤ maxLen := by rw [← htn]; exact Nat.le_trans t1 t2
  clear t1 t2
  obtain ⟨pa, pn, pcap, hpv⟩ := hp.slice
  obtain ⟨aa, an, acap, hav⟩ := ha.slice
  obtain ⟨xa, xn, xcap, hxv⟩ := hl.slice
  obtain ⟨dr, hdr⟩ : ∃ r, s.diff.any (diffBad tn) = r := ⟨_, rfl⟩
  have hany := any_range_getD s.diff (0, 0) (diffBad tn)
  have htail : scTail D s = orC pc (if 8 < dn then 2 else if dr = true then 3 else orC lc (orC ac (orC dc (if cost < 0 ∨ 100 < cost then 3 else 0)))) := by
    rw [← hpc, ← hlc, ← hac, ← hdc, ← hdn, ← hdr, ← hco, ← htn]; rfl
  rw [htail] at hc
  rw [hdr, hdn] at hany
  rw [hnm] at hsz hri hc
  rw [hco] at hri
  rw [hn] at hrows hi q1 q3
  rw [hdn] at hdv d3 hdrow
  rw [htn] at htv
  simp only [hpc, htv, hpv, hav, hxv, hlc, hac, hdc] at hpar hlits hadd hdel
  rw [htv, hpv, hav, hxv, hdv] at hri
  simp only [hff, hgg] at hrows
  obtain ⟨tv, ov, qv, sv, iv, gv⟩ := d
  simp only at hq
  subst hq
  simp only [DomV.cells, hn] at hpar hlits hadd hdel ⊢
  have HPAR := Lib.hid hpar
  have HLITS := Lib.hid hlits
  have HADD := Lib.hid hadd
  have HDEL := Lib.hid hdel
  have HROW := Lib.hid hrows
  have HC := Lib.hid hc
  have HANY := Lib.hid hany
  have HDROW := Lib.hid hdrow
  unfold maxLen at q2 htm d2
  obtain ⟨b, off, rfl, hcell⟩ := hri
  have h0 : w.cell? ⟨b, off + i * 7, none⟩ = some (.string nm) := hcell 0 _ rfl
  have h1 : w.cell? ⟨b, off + i * 7 + 1, none⟩ = _ := hcell 1 _ rfl
  have h2 : w.cell? ⟨b, off + i * 7 + 2, none⟩ = _ := hcell 2 _ rfl
  have h3 : w.cell? ⟨b, off + i * 7 + 3, none⟩ = _ := hcell 3 _ rfl
  have h4 : w.cell? ⟨b, off + i * 7 + 4, none⟩ = _ := hcell 4 _ rfl
  have h5 : w.cell? ⟨b, off + i * 7 + 5, none⟩ = _ := hcell 5 _ rfl
  have h6 : w.cell? ⟨b, off + i * 7 + 6, none⟩ = _ := hcell 6 _ rfl
  have hlt := World.block_lt_of_cell? w _ h0
  clear hpar hlits hadd hdel hrow hrows hcode hf hg hff hgg hc hn hd hnm hco hpc hlc hac hdc hdv hdn htv htn hpv hav hxv hdr hany hcell hdrow htail hs ht hdf hp ha hl hpre
  go_enter Try.func90, Try.ntmps90
  go_wp2_with fail
  refine (isName_any nm _ hsz).mono ?_
  rintro e w2 ⟨rfl, rfl⟩
  cases hN : isNameB nm with
  | false =>
    have HV : Hid (code = 12) := by show code = 12; rw [HC.out, if_pos hN]
    clear hN
    go_wp2
    go_ret
    exact ⟨((Ext.refl w).alloc _).alloc _, by rw [HV.out] <;> rfl⟩
  | true =>
    have HC2 : Hid (code = if ((List.range i).any fun j => (f j).toList == nm.toList) = true then 7 else orC pc (if 8 < dn then 2 else if dr = true then 3 else orC lc (orC ac (orC dc (if cost < 0 ∨ 100 < cost then 3 else 0))))) := by show code = _; rw [HC.out, if_neg (by rw [hN]; decide)]
    clear hN HC
    go_wp2_with fail
    have hcall := hasSchema ((w.alloc (.cells #[tv, ov, qv, .slice (some ⟨b, off, none⟩) n qcap, iv, gv] 29)).alloc (.cells #[.string nm, .slice ta tn tcap, .slice da dn dcap, .slice pa pn pcap, .slice aa an acap, .slice xa xn xcap, i64 cost] 153)) (some ⟨b, off, none⟩) i qcap (by omega) 109 enters109 #[.pointer (some ⟨w.heap.size + 1, 0, none⟩)]
      (fun i => .string (f i)) (fun i => (V i).t) (fun i => (V i).d) (fun i => (V i).p) (fun i => (V i).a) (fun i => (V i).l) (fun i => i64 (g i)) (fun j hj => (HROW.out j (by omega)).ext (((Ext.refl w).alloc _).alloc _))
      (fun i => (f i).toList == nm.toList) (fun j _ W hW => scEq W _ nm _ _ _ _ _ _ _ (hW.cell (by rw [cell_of_heap (heap_alloc_second _ _ _)]; rfl)))
    refine hcall.mono ?_
    rintro e w2 ⟨rfl, hE⟩
    obtain ⟨g0, g1, g2, g3, g4, g5, g6, gl⟩ := seven_facts (hE.block (heap_alloc_second w _ _))
    obtain ⟨f0, f1, f2, f3, f4, f5, hbl⟩ := six_facts (hE.of_new'.block (heap_alloc_new w _))
    have HE := Lib.hid hE.of_new'.of_new
    have HB0 := Lib.hid (hE.of_new'.block (heap_alloc_new w _))
    have HB1 := Lib.hid (hE.block (heap_alloc_second w _ _))
    clear hcall hE h0 h1 h2 h3 h4 h5 h6
    obtain ⟨r, hr⟩ : ∃ r, ((List.range i).any fun j => (f j).toList == nm.toList) = r := ⟨_, rfl⟩
    rw [hr] at HC2
    rw [hr]
    clear hr
    cases r with
    | true =>
      have HV : Hid (code = 7) := by show code = 7; rw [HC2.out, if_pos rfl]
      go_wp2
      go_ret
      exact ⟨HE.out, by rw [HV.out] <;> rfl⟩
    | false =>
      have HC3 : Hid (code = orC pc (if 8 < dn then 2 else if dr = true then 3 else orC lc (orC ac (orC dc (if cost < 0 ∨ 100 < cost then 3 else 0))))) := by show code = _; rw [HC2.out, if_neg (by decide)]
      clear HC2
      go_wp2_with fail
      refine (HPAR.out _ HE.out).mono ?_
      rintro e w3 ⟨hE3, rfl⟩
      have HE3 := Lib.hid (HE.out.trans hE3)
      have HB30 := Lib.hid (hE3.block HB0.out)
      have HB31 := Lib.hid (hE3.block HB1.out)
      clear hE3 g0 g1 g2 g3 g4 g5 g6 gl f0 f1 f2 f3 f4 f5 hbl HB0 HB1 HE
      obtain ⟨g0, g1, g2, g3, g4, g5, g6, gl⟩ := seven_facts HB31.out
      obtain ⟨f0, f1, f2, f3, f4, f5, hbl⟩ := six_facts HB30.out
      by_cases hpz : pc = 0
      · subst hpz
        have HC4 : Hid (code = if 8 < dn then 2 else if dr = true then 3 else orC lc (orC ac (orC dc (if cost < 0 ∨ 100 < cost then 3 else 0)))) := by show code = _; rw [HC3.out]; rfl
        clear HC3
        by_cases hd8 : 8 < dn
        · have HV : Hid (code = 2) := by show code = 2; rw [HC4.out, if_pos hd8]
          go_wp2
          go_ret
          exact ⟨HE3.out.alloc _, by rw [HV.out] <;> rfl⟩
        · have HC5 : Hid (code = if dr = true then 3 else orC lc (orC ac (orC dc (if cost < 0 ∨ 100 < cost then 3 else 0)))) := by show code = _; rw [HC4.out, if_neg hd8]
          clear HC4
          go_wp2_with fail
          have hcall := hasPair (w3.alloc (.cells #[i64 tn] 3)) da dn dcap (by omega) 110 enters110 #[.pointer (some ⟨w3.heap.size, 0, none⟩)]
            (fun i => i64 (s.diff.getD i (0, 0)).1) (fun i => i64 (s.diff.getD i (0, 0)).2) (fun j hj => (HDROW.out j hj).ext (HE3.out.alloc _))
            (fun i => diffBad tn (s.diff.getD i (0, 0))) (fun j _ W hW => par110 W _ _ _ _ (hW.cell (by rw [World.cell?_alloc_new]; rfl)))
          rw [HANY.out] at hcall
          refine hcall.mono ?_
          rintro e w4 ⟨rfl, hE4⟩
          have HE4 := Lib.hid (HE3.out.trans hE4.of_new)
          have HB40 := Lib.hid (hE4.of_new.block HB30.out)
          have HB41 := Lib.hid (hE4.of_new.block HB31.out)
          clear hE4 hcall g0 g1 g2 g3 g4 g5 g6 gl f0 f1 f2 f3 f4 f5 hbl HB30 HB31
          obtain ⟨g0, g1, g2, g3, g4, g5, g6, gl⟩ := seven_facts HB41.out
          obtain ⟨f0, f1, f2, f3, f4, f5, hbl⟩ := six_facts HB40.out
          cases dr with
          | true =>
            have HV : Hid (code = 3) := by show code = 3; rw [HC5.out, if_pos rfl]
            go_wp2
            go_ret
            exact ⟨HE4.out, by rw [HV.out] <;> rfl⟩
          | false =>
            have HC6 : Hid (code = orC lc (orC ac (orC dc (if cost < 0 ∨ 100 < cost then 3 else 0)))) := by show code = _; rw [HC5.out, if_neg (by decide)]
            clear HC5
            go_wp2_with fail
            refine (HLITS.out _ HE4.out trivial).mono ?_
            rintro e w5 ⟨hE5, rfl⟩
            have HE5 := Lib.hid (HE4.out.trans hE5)
            have HB50 := Lib.hid (hE5.block HB40.out)
            have HB51 := Lib.hid (hE5.block HB41.out)
            clear hE5 g0 g1 g2 g3 g4 g5 g6 gl f0 f1 f2 f3 f4 f5 hbl HB40 HB41
            obtain ⟨g0, g1, g2, g3, g4, g5, g6, gl⟩ := seven_facts HB51.out
            obtain ⟨f0, f1, f2, f3, f4, f5, hbl⟩ := six_facts HB50.out
            by_cases hlz : lc = 0
            · subst hlz
              have HC7 : Hid (code = orC ac (orC dc (if cost < 0 ∨ 100 < cost then 3 else 0))) := by show code = _; rw [HC6.out]; rfl
              clear HC6
              go_wp2_with fail
              go_loopw [64] (fun i wr => ∃ k : Nat, k ≤ 2 ∧ i = .int .i64 k ∧ Hid ((0 < k → ac = 0) ∧ (1 < k → dc = 0)) ∧ Ext (w5.alloc (.cells #[.slice aa an acap, .slice xa xn xcap] 26)) wr) (fun i _ => 2 - (intOf i).toNat)
              case atStart => exact ⟨0, Nat.zero_le _, rfl, ⟨fun h => absurd h (by omega), fun h => absurd h (by omega)⟩, Ext.refl _⟩
              case round =>
                obtain ⟨k, hk, rfl, H, hE⟩ := hrel
                obtain ⟨s0, s1, -, -, sl⟩ := two_facts (new_block hE)
                have HER := Lib.hid hE
                have HEE := Lib.hid (HE5.out.trans hE.of_new)
                have HBR0 := Lib.hid (hE.of_new.block HB50.out)
                have HBR1 := Lib.hid (hE.of_new.block HB51.out)
                clear hE g0 g1 g2 g3 g4 g5 g6 gl f0 f1 f2 f3 f4 f5 hbl
                obtain ⟨g0, g1, g2, g3, g4, g5, g6, gl⟩ := seven_facts HBR1.out
                obtain ⟨f0, f1, f2, f3, f4, f5, hbl⟩ := six_facts HBR0.out
                have hk3 : k = 0 ∨ k = 1 ∨ k = 2 := by omega
                rcases hk3 with rfl | rfl | rfl
                · go_wp2_with fail
                  refine (HADD.out _ HEE.out trivial).mono ?_
                  rintro e w6 ⟨hE6, rfl⟩
                  have HE6 := Lib.hid (HEE.out.trans hE6)
                  have HER6 := Lib.hid (HER.out.trans hE6)
                  clear hE6 g0 g1 g2 g3 g4 g5 g6 gl f0 f1 f2 f3 f4 f5 hbl
                  by_cases haz : ac = 0
                  · have HN := Lib.hid haz
                    have hb : (ac == 0) = true := by simpa using haz
                    clear haz
                    go_wp2_with fail
                    go_roundw
                    case rel => exact ⟨1, by omega, by go_num, ⟨fun _ => HN.out, fun h => absurd h (by omega)⟩, HER6.out⟩
                    case measure => simp [intOf]
                  · have HV : Hid (code = ac) := by show code = ac; rw [HC7.out]; unfold orC; rw [if_pos haz]
                    go_wp2
                    go_ret
                    exact ⟨HE6.out, by rw [HV.out] <;> rfl⟩
                · go_wp2_with fail
                  refine (HDEL.out _ HEE.out trivial).mono ?_
                  rintro e w6 ⟨hE6, rfl⟩
                  have HE6 := Lib.hid (HEE.out.trans hE6)
                  have HER6 := Lib.hid (HER.out.trans hE6)
                  clear hE6 g0 g1 g2 g3 g4 g5 g6 gl f0 f1 f2 f3 f4 f5 hbl
                  have haz := H.out.1 (by omega)
                  by_cases hdz : dc = 0
                  · have HN := Lib.hid (And.intro haz hdz)
                    have hb : (dc == 0) = true := by simpa using hdz
                    clear haz hdz
                    go_wp2_with fail
                    go_roundw
                    case rel => exact ⟨2, by omega, by go_num, ⟨fun _ => HN.out.1, fun _ => HN.out.2⟩, HER6.out⟩
                    case measure => simp [intOf]
                  · have HV : Hid (code = dc) := by show code = dc; rw [HC7.out, haz]; unfold orC; rw [if_neg (by simp), if_pos hdz]
                    clear haz
                    go_wp2
                    go_ret
                    exact ⟨HE6.out, by rw [HV.out] <;> rfl⟩
                · have HC8 : Hid (code = if cost < 0 ∨ 100 < cost then 3 else 0) := by show code = _; rw [HC7.out, H.out.1 (by omega), H.out.2 (by omega)]; rfl
                  by_cases hc1 : cost < 0
                  · have HV : Hid (code = 3) := by show code = 3; rw [HC8.out, if_pos (.inl hc1)]
                    go_wp2
                    go_ret
                    exact ⟨HEE.out, by rw [HV.out] <;> rfl⟩
                  · by_cases hc2 : 100 < cost
                    · have HV : Hid (code = 3) := by show code = 3; rw [HC8.out, if_pos (.inr hc2)]
                      go_wp2
                      go_ret
                      exact ⟨HEE.out, by rw [HV.out] <;> rfl⟩
                    · have HV : Hid (code = 0) := by show code = 0; rw [HC8.out, if_neg (by omega)]
                      go_wp2
                      go_ret
                      exact ⟨HEE.out, by rw [HV.out] <;> rfl⟩
            · have HV : Hid (code = lc) := by show code = lc; rw [HC6.out]; unfold orC; rw [if_pos hlz]
              go_wp2
              go_ret
              exact ⟨HE5.out, by rw [HV.out] <;> rfl⟩
      · have HV : Hid (code = pc) := by show code = pc; rw [HC3.out]; unfold orC; rw [if_pos hpz]
        go_wp2
        go_ret
        exact ⟨HE3.out, by rw [HV.out] <;> rfl⟩
end Go.Proofs.Ytodlkjjoenglgaa

/- domain.Validate. -/
namespace Go.Proofs.Ytodlkjjoenglgaa
open Go Go.RowKit

def domTail (D : Dom) : Int × Int :=
  if startCode D ≠ 0 then (startCode D, -5) else if litsCode D [] D.goal ≠ 0 then (litsCode D [] D.goal, -6) else (0, 0)
def domSchemas (D : Dom) : Int × Int :=
  if 8 < D.schemas.length then (2, -4) else match firstBad (schemaCode D) D.schemas.length with | some i => (schemaCode D i, (i : Int)) | none => domTail D
def domPreds (D : Dom) : Int × Int :=
  if 8 < D.preds.length then (2, -3) else if scan (predCode D) D.preds.length ≠ 0 then (scan (predCode D) D.preds.length, -3) else domSchemas D
def domV (D : Dom) : Int × Int :=
  if typesV D.types ≠ (0, 0) then ((typesV D.types).1, -1)
  else if objectsV D.types.length D.objects ≠ (0, 0) then ((objectsV D.types.length D.objects).1, -2) else domPreds D

theorem domPre_of {D : Dom} (h1 : typesV D.types = (0, 0)) (h2 : objectsV D.types.length D.objects = (0, 0)) : DomPre D :=
  ⟨(typesV_ok h1).2, (objectsV_ok h2).1, fun i hi => (objectsV_ok h2).2 i hi⟩

/-- Between the calls: the box of the domain and the result's variable. -/
structure VInv (w : World) (c : Array Value) (W : World) : Prop where
  ext : Ext w W
  box : W.heap[w.heap.size]? = some (.cells c 29)
  res : W.heap[w.heap.size + 1]? = some (.cells #[i64 0, i64 0] 70)
theorem VInv.step {w W W' : World} {c : Array Value} (h : VInv w c W) (e : Ext W W') : VInv w c W' := ⟨h.ext.trans e, e.block h.box, e.block h.res⟩

set_option maxHeartbeats 4000000 in
theorem domV_any (w : World) (d : DomV) (D : Dom) (hd : DomAt w d D) :
    Calls Try.prog 66 #[.agg d.cells] w fun e w' => e = .returned (faultV (domV D)) ∧ Ext w w' := by
  obtain ⟨v, hv⟩ : ∃ v, domV D = v := ⟨_, rfl⟩
  rw [hv]
  have htypes := fun W (hW : Ext w W) => typesV_any W d.tv D.types (Sl.ext hd.types hW fun _ _ h => h)
  have hobjs := fun W (hW : Ext w W) => objectsV_any W d.tv d.ov D.types D.objects (Sl.ext hd.types hW fun _ _ h => h) (Sl.ext hd.objects hW fun _ _ h => h)
  have hpreds := fun W (hW : Ext w W) i (hi : i < D.preds.length) => pred_any W d D (hd.ext hW) i hi
  have hschemas := fun W (hW : Ext w W) (hp : DomPre D) i (hi : i < D.schemas.length) => schema_any W d D (hd.ext hW) hp i hi
  have hstart := fun W (hW : Ext w W) (hp : DomPre D) => start_any W d D (hd.ext hW) hp
  have hgoal := fun W (hW : Ext w W) (hp : DomPre D) => lits_any W d D (hd.ext hW) hp (.slice none 0 0) [] (IntsAt.nil W) (TypesIn.nil D) D.goal d.gv (Sl.ext hd.goal hW (rLit.ext hW))
  obtain ⟨ty, hty⟩ : ∃ x, typesV D.types = x := ⟨_, rfl⟩
  obtain ⟨ob, hob⟩ : ∃ x, objectsV D.types.length D.objects = x := ⟨_, rfl⟩
  obtain ⟨pf, hpf⟩ : ∃ f, predCode D = f := ⟨_, rfl⟩
  obtain ⟨sf, hsf⟩ : ∃ f, schemaCode D = f := ⟨_, rfl⟩
  obtain ⟨np, hnp⟩ : ∃ f, D.preds.length = f := ⟨_, rfl⟩
  obtain ⟨ns, hns⟩ : ∃ f, D.schemas.length = f := ⟨_, rfl⟩
  obtain ⟨sc, hsc⟩ : ∃ f, startCode D = f := ⟨_, rfl⟩
  obtain ⟨gc, hgc⟩ : ∃ f, litsCode D [] D.goal = f := ⟨_, rfl⟩
  have hpre := fun (h1 : ty = (0, 0)) (h2 : ob = (0, 0)) => domPre_of (hty.trans h1) (hob.trans h2)
  have h1 : v = if ty ≠ (0, 0) then (ty.1, -1) else if ob ≠ (0, 0) then (ob.1, -2) else domPreds D := by rw [← hv, ← hty, ← hob]; rfl
  have h2 : domPreds D = if 8 < np then (2, -3) else if scan pf np ≠ 0 then (scan pf np, -3) else domSchemas D := by rw [← hnp, ← hpf]; rfl
  have h3 : domSchemas D = if 8 < ns then (2, -4) else match firstBad sf ns with | some i => (sf i, (i : Int)) | none => domTail D := by rw [← hns, ← hsf]; rfl
  have h4 : domTail D = if sc ≠ 0 then (sc, -5) else if gc ≠ 0 then (gc, -6) else (0, 0) := by rw [← hsc, ← hgc]; rfl
  rw [h2] at h1
  obtain ⟨ta, tn, tcap, htv⟩ := hd.types.slice
  obtain ⟨oa, on, ocap, hov⟩ := hd.objects.slice
  obtain ⟨qa, qcap, hqv, q1, q2, q3, -⟩ := hd.preds.open
  obtain ⟨sa, scap, hsv, s1, s2, s3, -⟩ := hd.schemas.open
  obtain ⟨ia, in', icap, hiv⟩ := hd.init.slice
  obtain ⟨ga, gn, gcap, hgv⟩ := hd.goal.slice
  obtain ⟨tv, ov, qv, sv, iv, gv⟩ := d
  simp only at htv hov hqv hsv hiv hgv
  subst htv hov hqv hsv hiv hgv
  simp only [hty, hob, hpf, hsf, hnp, hns, hsc, hgc, DomV.cells] at htypes hobjs hpreds hschemas hstart hgoal q1 q3 s1 s3 ⊢
  have HT := Lib.hid htypes
  have HO := Lib.hid hobjs
  have HP := Lib.hid hpreds
  have HS := Lib.hid hschemas
  have HST := Lib.hid hstart
  have HG := Lib.hid hgoal
  have HPRE := Lib.hid hpre
  have H1 := Lib.hid h1
  have H3 := Lib.hid h3
  have H4 := Lib.hid h4
  unfold maxLen at q2 s2
  clear htypes hobjs hpreds hschemas hstart hgoal hpre h1 h2 h3 h4 hty hob hpf hsf hnp hns hsc hgc hv hd
  obtain ⟨t0, t1⟩ := ty
  obtain ⟨o0, o1⟩ := ob
  go_enter Try.func66, Try.ntmps66
  go_wp2_with fail
  refine (HT.out _ (((Ext.refl w).alloc _).alloc _)).mono ?_
  rintro e w2 ⟨rfl, hE⟩
  have HB0 := Lib.hid (hE.of_new'.block (heap_alloc_new w _))
  have HB1 := Lib.hid (hE.block (heap_alloc_second w _ _))
  have HE := Lib.hid hE.of_new'.of_new
  obtain ⟨f0, f1, f2, f3, f4, f5, hbl⟩ := six_facts HB0.out
  obtain ⟨r0, r1, z0, z1, rl⟩ := two_facts HB1.out
  clear hE
  by_cases ht : t0 = 0 ∧ t1 = 0
  · obtain ⟨rfl, rfl⟩ := ht
    have H1' := Lib.hid (show v = _ by rw [H1.out, if_neg (by simp)])
    clear H1
    go_wp2_with fail
    refine (HO.out _ (HE.out.alloc _)).mono ?_
    rintro e w3 ⟨rfl, hE3⟩
    have HB30 := Lib.hid (hE3.of_new.block HB0.out)
    have HB31 := Lib.hid (hE3.of_new.block HB1.out)
    have HE3 := Lib.hid (HE.out.trans hE3.of_new)
    clear f0 f1 f2 f3 f4 f5 hbl r0 r1 z0 z1 rl HB0 HB1 HE hE3
    obtain ⟨f0, f1, f2, f3, f4, f5, hbl⟩ := six_facts HB30.out
    obtain ⟨r0, r1, z0, z1, rl⟩ := two_facts HB31.out
    by_cases ho : o0 = 0 ∧ o1 = 0
    · obtain ⟨rfl, rfl⟩ := ho
      have HPR := Lib.hid (HPRE.out trivial rfl)
      have H1 := Lib.hid (show v = _ by rw [H1'.out, if_neg (by simp)])
      clear H1' HPRE HT HO
      by_cases hp8 : 8 < np
      · have HV := Lib.hid (show v = (2, -3) by rw [H1.out, if_pos hp8])
        go_wp2
        rw [HV.out]
        exact bodyPost_ret (results_fault rfl rfl (heap_two_alloc _ _ _ HB31.out)) rfl ⟨rfl, HE3.out.two_alloc (by simp) _ _ _⟩
      · have H2 := Lib.hid (show v = _ by rw [H1.out, if_neg hp8])
        clear H1
        go_wp2_with fail
        have HI : Hid (VInv w #[.slice ta tn tcap, .slice oa on ocap, .slice qa np qcap, .slice sa ns scap, .slice ia in' icap, .slice ga gn gcap] (w3.alloc (.cells #[i64 0, i64 0] 70))) :=
          VInv.step ⟨HE3.out, HB30.out, HB31.out⟩ ((Ext.refl w3).alloc _)
        generalize hC : (#[.slice ta tn tcap, .slice oa on ocap, .slice qa np qcap, .slice sa ns scap, .slice ia in' icap, .slice ga gn gcap] : Array Value) = C at HI
        have HC := Lib.hid hC
        clear hC f0 f1 f2 f3 f4 f5 hbl r0 r1 z0 z1 rl HB30 HB31 HE3
        have H0 : Hid (∀ j, j < 0 → pf j = 0) := fun j hj => absurd hj (Nat.not_lt_zero j)
        go_loopw [39] (fun i wr => ∃ k : Nat, k ≤ np ∧ i = .int .i64 k ∧ Hid (∀ j, j < k → pf j = 0) ∧ Hid (VInv w C wr)) (fun i _ => np - (intOf i).toNat)
        case atStart => exact ⟨0, Nat.zero_le _, rfl, H0, HI⟩
        case round =>
          obtain ⟨k, hk, rfl, H, HJ⟩ := hrel
          clear H0 HI
          obtain ⟨r0, r1, z0, z1, rl⟩ := two_facts HJ.out.res
          obtain ⟨f0, f1, f2, f3, f4, f5, hbl⟩ := six_facts (HC.out ▸ HJ.out.box)
          by_cases hlt : k < np
          · go_wp2_with fail
            refine (HP.out _ HJ.out.ext k hlt).mono ?_
            rintro e w4 ⟨hE4, rfl⟩
            have HJ4 := Lib.hid (HJ.out.step hE4)
            obtain ⟨c, hc⟩ : ∃ c, pf k = c := ⟨_, rfl⟩
            have HFK := Lib.hid hc
            rw [hc]
            clear hc hE4 f0 f1 f2 f3 f4 f5 hbl r0 r1 z0 z1 rl
            obtain ⟨r0, r1, z0, z1, rl⟩ := two_facts HJ4.out.res
            by_cases hz : c = 0
            · subst hz
              have hok : Hid (∀ j, j < k + 1 → pf j = 0) := fun j hj => by
                rcases Nat.lt_succ_iff_lt_or_eq.1 hj with h' | rfl
                · exact H.out j h'
                · exact HFK.out
              go_wp2_with fail
              go_roundw
              case rel => exact ⟨k + 1, by omega, by go_num, hok, HJ4⟩
              case measure => simp [intOf]; omega
            · have HV : Hid (v = (c, -3)) := by
                show v = (c, -3)
                rw [H2.out, scan_hit hlt H.out (by rw [HFK.out]; exact hz), HFK.out, if_pos hz]
              go_wp2
              rw [HV.out]
              exact bodyPost_ret (results_fault rfl rfl (heap_two _ _ HJ4.out.res)) rfl ⟨rfl, HJ4.out.ext.two (by simp) _ _⟩
          · have hkn : k = np := by omega
            subst hkn
            have H3' := Lib.hid (show v = _ by rw [H2.out, scan_none H.out, if_neg (by simp), H3.out])
            clear H2 H3 H
            by_cases hs8 : 8 < ns
            · have HV := Lib.hid (show v = (2, -4) by rw [H3'.out, if_pos hs8])
              go_wp2
              rw [HV.out]
              exact bodyPost_ret (results_fault rfl rfl (heap_two _ _ HJ.out.res)) rfl ⟨rfl, HJ.out.ext.two (by simp) _ _⟩
            · have H5 := Lib.hid (show v = _ by rw [H3'.out, if_neg hs8])
              clear H3'
              go_wp2_with fail
              clear f0 f1 f2 f3 f4 f5 hbl r0 r1 z0 z1 rl
              have H0 : Hid (∀ j, j < 0 → sf j = 0) := fun j hj => absurd hj (Nat.not_lt_zero j)
              go_loopw [58] (fun i wr => ∃ k : Nat, k ≤ ns ∧ i = .int .i64 k ∧ Hid (∀ j, j < k → sf j = 0) ∧ Hid (VInv w C wr)) (fun i _ => ns - (intOf i).toNat)
              case atStart => exact ⟨0, Nat.zero_le _, rfl, H0, HJ⟩
              case round =>
                clear HJ
                obtain ⟨k, hk, rfl, H, HJ⟩ := hrel
                clear H0
                obtain ⟨r0, r1, z0, z1, rl⟩ := two_facts HJ.out.res
                obtain ⟨f0, f1, f2, f3, f4, f5, hbl⟩ := six_facts (HC.out ▸ HJ.out.box)
                by_cases hlt : k < ns
                · go_wp2_with fail
                  refine (HS.out _ HJ.out.ext HPR.out k hlt).mono ?_
                  rintro e w4 ⟨hE4, rfl⟩
                  have HJ4 := Lib.hid (HJ.out.step hE4)
                  obtain ⟨c, hc⟩ : ∃ c, sf k = c := ⟨_, rfl⟩
                  have HFK := Lib.hid hc
                  rw [hc]
                  clear hc hE4 f0 f1 f2 f3 f4 f5 hbl r0 r1 z0 z1 rl
                  obtain ⟨r0, r1, z0, z1, rl⟩ := two_facts HJ4.out.res
                  by_cases hz : c = 0
                  · subst hz
                    have hok : Hid (∀ j, j < k + 1 → sf j = 0) := fun j hj => by
                      rcases Nat.lt_succ_iff_lt_or_eq.1 hj with h' | rfl
                      · exact H.out j h'
                      · exact HFK.out
                    go_wp2_with fail
                    go_roundw
                    case rel => exact ⟨k + 1, by omega, by go_num, hok, HJ4⟩
                    case measure => simp [intOf]; omega
                  · have HV : Hid (v = (c, (k : Int))) := by
                      show v = (c, (k : Int))
                      rw [H5.out, firstBad_hit hlt H.out (by rw [HFK.out]; exact hz)]
                      simp only [HFK.out]
                    go_wp2
                    rw [HV.out]
                    exact bodyPost_ret (results_fault rfl rfl (heap_two _ _ HJ4.out.res)) rfl ⟨rfl, HJ4.out.ext.two (by simp) _ _⟩
                · have hkn : k = ns := by omega
                  subst hkn
                  have H6 : Hid (v = if sc ≠ 0 then (sc, -5) else if gc ≠ 0 then (gc, -6) else (0, 0)) := by
                    show v = _
                    rw [H5.out, firstBad_none H.out, ← H4.out]
                  clear H5 H4 H
                  go_wp2_with fail
                  refine (HST.out _ HJ.out.ext HPR.out).mono ?_
                  rintro e w4 ⟨hE4, rfl⟩
                  have HJ4 := Lib.hid (HJ.out.step hE4)
                  clear hE4 f0 f1 f2 f3 f4 f5 hbl r0 r1 z0 z1 rl
                  obtain ⟨r0, r1, z0, z1, rl⟩ := two_facts HJ4.out.res
                  obtain ⟨f0, f1, f2, f3, f4, f5, hbl⟩ := six_facts (HC.out ▸ HJ4.out.box)
                  by_cases hz : sc = 0
                  · have H7 := Lib.hid (show v = _ by rw [H6.out, if_neg (by simpa using hz)])
                    subst hz
                    clear H6
                    go_wp2_with fail
                    refine (HG.out _ HJ4.out.ext HPR.out).mono ?_
                    rintro e w5 ⟨hE5, rfl⟩
                    have HJ5 := Lib.hid (HJ4.out.step hE5)
                    clear hE5 f0 f1 f2 f3 f4 f5 hbl r0 r1 z0 z1 rl
                    obtain ⟨r0, r1, z0, z1, rl⟩ := two_facts HJ5.out.res
                    by_cases hg : gc = 0
                    · have HV := Lib.hid (show v = (0, 0) by rw [H7.out, if_neg (by simpa using hg)])
                      subst hg
                      go_wp2
                      rw [HV.out]
                      exact bodyPost_ret (results_fault rfl rfl (heap_two _ _ HJ5.out.res)) rfl ⟨rfl, HJ5.out.ext.two (by simp) _ _⟩
                    · have HV := Lib.hid (show v = (gc, -6) by rw [H7.out, if_pos hg])
                      go_wp2
                      rw [HV.out]
                      exact bodyPost_ret (results_fault rfl rfl (heap_two _ _ HJ5.out.res)) rfl ⟨rfl, HJ5.out.ext.two (by simp) _ _⟩
                  · have HV := Lib.hid (show v = (sc, -5) by rw [H6.out, if_pos hz])
                    go_wp2
                    rw [HV.out]
                    exact bodyPost_ret (results_fault rfl rfl (heap_two _ _ HJ4.out.res)) rfl ⟨rfl, HJ4.out.ext.two (by simp) _ _⟩
    · have HV := Lib.hid (show v = (o0, -2) by rw [H1'.out, if_pos (by simpa using ho)])
      clear H1' HPRE HT HO
      by_cases ho0 : o0 = 0
      · have ho1 : ¬ o1 = 0 := fun h => ho ⟨ho0, h⟩
        subst ho0
        clear ho
        go_wp2
        rw [HV.out]
        exact bodyPost_ret (results_fault rfl rfl (heap_two_alloc _ _ _ HB31.out)) rfl ⟨rfl, HE3.out.two_alloc (by simp) _ _ _⟩
      · clear ho
        go_wp2
        rw [HV.out]
        exact bodyPost_ret (results_fault rfl rfl (heap_two_alloc _ _ _ HB31.out)) rfl ⟨rfl, HE3.out.two_alloc (by simp) _ _ _⟩
  · have HV := Lib.hid (show v = (t0, -1) by rw [H1.out, if_pos (by simpa using ht)])
    clear H1 HPRE
    by_cases ht0 : t0 = 0
    · have ht1 : ¬ t1 = 0 := fun h => ht ⟨ht0, h⟩
      subst ht0
      clear ht
      go_wp2
      rw [HV.out]
      exact bodyPost_ret (results_fault rfl rfl (heap_two_alloc _ _ _ HB1.out)) rfl ⟨rfl, HE.out.two_alloc (by simp) _ _ _⟩
    · clear ht
      go_wp2
      rw [HV.out]
      exact bodyPost_ret (results_fault rfl rfl (heap_two_alloc _ _ _ HB1.out)) rfl ⟨rfl, HE.out.two_alloc (by simp) _ _ _⟩
end Go.Proofs.Ytodlkjjoenglgaa
