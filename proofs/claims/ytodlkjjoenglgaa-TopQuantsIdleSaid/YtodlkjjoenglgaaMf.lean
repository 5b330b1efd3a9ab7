/- Parts of a proof about conditions: Pur1 Pur2 Pur3 Pur4 Pur5 Pur6 Pur7 Pur8 Pur9 Pur10 Pur11 Pur12 Pur13 Pur14 Pur15 Pur16. -/
import Derived.Test.YtodlkjjoenglgaaMd
import Derived.Test.YtodlkjjoenglgaaMe
/- The plain law, 1: trees and their nodes in a row. -/
namespace Go.Proofs.Ytodlkjjoenglgaa
open Go Go.RowKit

namespace Fo
/-- The roots' numbers of a forest whose first node has the number b. -/
def roots (b : Nat) : Fo → List Int
  | nil => []
  | cons _ k r => ((b + k.count : Nat) : Int) :: roots (b + k.count + 1) r
/-- The nodes of a forest in a row. -/
def flat (b : Nat) : Fo → List (Nd × List Int)
  | nil => []
  | cons n k r => flat b k ++ (n, roots b k) :: flat (b + k.count + 1) r
/-- The number of the first node of each node's tree. -/
def firsts (b : Nat) : Fo → List Int
  | nil => []
  | cons _ k r => firsts b k ++ (b : Int) :: firsts (b + k.count + 1) r
/-- Kinds and numbers of children are right. -/
def Shaped : Fo → Prop
  | nil => True
  | cons n k r => (1 ≤ n.kind ∧ n.kind ≤ 8) ∧ (arityOf n.kind < 0 ∨ (k.len : Int) = arityOf n.kind) ∧ k.Shaped ∧ r.Shaped

theorem roots_len (b : Nat) (f : Fo) : (f.roots b).length = f.len := by
  induction f generalizing b with
  | nil => rfl
  | cons n k r _ ih => simp [roots, len, ih]
theorem flat_len (b : Nat) (f : Fo) : (f.flat b).length = f.count := by
  induction f generalizing b with
  | nil => rfl
  | cons n k r ihk ih => simp [flat, count, ihk, ih]; omega
theorem firsts_len (b : Nat) (f : Fo) : (f.firsts b).length = f.count := by
  induction f generalizing b with
  | nil => rfl
  | cons n k r ihk ih => simp [firsts, count, ihk, ih]; omega
theorem roots_app (b : Nat) (f g : Fo) : (f.app g).roots b = f.roots b ++ g.roots (b + f.count) := by
  induction f generalizing b with
  | nil => rfl
  | cons n k r _ ih => simp only [app, roots, ih, count, List.cons_append]; rw [show b + k.count + 1 + r.count = b + (k.count + r.count + 1) by omega]
theorem flat_app (b : Nat) (f g : Fo) : (f.app g).flat b = f.flat b ++ g.flat (b + f.count) := by
  induction f generalizing b with
  | nil => rfl
  | cons n k r _ ih => simp only [app, flat, ih, count, List.append_assoc, List.cons_append]; rw [show b + k.count + 1 + r.count = b + (k.count + r.count + 1) by omega]
theorem firsts_app (b : Nat) (f g : Fo) : (f.app g).firsts b = f.firsts b ++ g.firsts (b + f.count) := by
  induction f generalizing b with
  | nil => rfl
  | cons n k r _ ih => simp only [app, firsts, ih, count, List.append_assoc, List.cons_append]; rw [show b + k.count + 1 + r.count = b + (k.count + r.count + 1) by omega]
theorem shaped_app (f g : Fo) : (f.app g).Shaped ↔ f.Shaped ∧ g.Shaped := by
  induction f with
  | nil => simp [app, Shaped]
  | cons n k r _ ih => simp only [app, Shaped, ih, and_assoc]
theorem last (f : Fo) (h : f ≠ nil) : ∃ g n k, f = app g (one n k) := by
  induction f with
  | nil => exact absurd rfl h
  | cons n k r _ ih =>
    cases r with
    | nil => exact ⟨nil, n, k, rfl⟩
    | cons n' k' r' =>
      obtain ⟨g, n2, k2, e⟩ := ih (by simp)
      exact ⟨cons n k g, n2, k2, by rw [e]; rfl⟩
theorem count_zero (f : Fo) (h : f.count = 0) : f = nil := by
  cases f with
  | nil => rfl
  | cons n k r => simp [count] at h
theorem count_one (n : Nd) (k : Fo) : (one n k).count = k.count + 1 := by simp [one, count]
theorem flat_one (b : Nat) (n : Nd) (k : Fo) : (one n k).flat b = k.flat b ++ [(n, k.roots b)] := rfl
theorem firsts_one (b : Nat) (n : Nd) (k : Fo) : (one n k).firsts b = k.firsts b ++ [(b : Int)] := rfl
theorem roots_one (b : Nat) (n : Nd) (k : Fo) : (one n k).roots b = [((b + k.count : Nat) : Int)] := rfl
end Fo

/-- Going back from behind a forest over its roots. -/
theorem walkBack_roots (pre rest : List Int) : ∀ (g f : Fo), pre = f.firsts 0 ++ g.firsts f.count ++ rest → walkBack pre ((f.count + g.count : Nat) : Int) (g.roots f.count).reverse = some (f.count : Int) := by
  intro g
  generalize hm : g.len = m
  induction m generalizing g rest with
  | zero =>
    intro f _
    cases g with
    | nil => simp [Fo.roots, walkBack, Fo.count]
    | cons n k r => simp [Fo.len] at hm
  | succ m ih =>
    intro f hp
    obtain ⟨g', n, k, rfl⟩ := g.last (by rintro rfl; simp [Fo.len] at hm)
    rw [Fo.roots_app, List.reverse_append, Fo.roots_one]
    simp only [List.reverse_cons, List.reverse_nil, List.nil_append, List.singleton_append, walkBack]
    rw [Fo.count_app, Fo.count_one, if_neg (by omega)]
    have hget : pre.getD ((f.count + g'.count + k.count : Nat) : Int).toNat 0 = ((f.count + g'.count : Nat) : Int) := by
      rw [hp, Fo.firsts_app, Fo.firsts_one, Int.toNat_natCast, List.getD_eq_getElem?_getD]
      rw [List.getElem?_append_left (by simp [Fo.firsts_len]; omega), List.getElem?_append_right (by simp [Fo.firsts_len]; omega), List.getElem?_append_right (by simp [Fo.firsts_len]; omega), List.getElem?_append_right (by simp [Fo.firsts_len]; omega)]
      simp only [Fo.firsts_len]
      rw [show f.count + g'.count + k.count - f.count - g'.count - k.count = 0 by omega]
      rfl
    rw [hget]
    have hl : g'.len = m := by rw [Fo.len_app] at hm; simp [Fo.one, Fo.len] at hm; omega
    refine ih ((Fo.one n k).firsts (f.count + g'.count) ++ rest) g' hl f ?_
    rw [hp, Fo.firsts_app]
    simp only [List.append_assoc]

theorem nodeStep_flat (n : Nd) (k f : Fo) (hs : (Fo.one n k).Shaped) : nodeStep (f.firsts 0 ++ k.firsts f.count) (n, k.roots f.count) = .inr (f.count : Int) := by
  obtain ⟨⟨h1, h2⟩, h3, -, -⟩ := hs
  unfold nodeStep
  rw [if_neg (by simp only; omega), if_neg (by simp only [Fo.roots_len]; omega)]
  have hl : ((f.firsts 0 ++ k.firsts f.count).length : Int) = ((f.count + k.count : Nat) : Int) := by rw [List.length_append, Fo.firsts_len, Fo.firsts_len]
  rw [hl]
  have h := walkBack_roots (f.firsts 0 ++ k.firsts f.count) [] k f (by rw [List.append_nil])
  simp only [h]

/-- A right forest's nodes pass. -/
theorem shapeGo_flat : ∀ (g f : Fo) (rest : List (Nd × List Int)), g.Shaped → shapeGo (f.firsts 0) (g.flat f.count ++ rest) = shapeGo ((f.app g).firsts 0) rest := by
  intro g
  induction g with
  | nil => intro f rest _; rw [Fo.app_nil]; rfl
  | cons n k r ihk ihr =>
    intro f rest hs
    obtain ⟨h1, h2, h3, h4⟩ := hs
    rw [Fo.flat, List.append_assoc, ihk f _ h3, List.cons_append, shapeGo, Fo.firsts_app, Nat.zero_add, nodeStep_flat n k f ⟨h1, h2, h3, trivial⟩]
    simp only
    have h5 : f.firsts 0 ++ k.firsts f.count ++ [(f.count : Int)] = (f.app (Fo.one n k)).firsts 0 := by
      rw [Fo.firsts_app, Fo.firsts_one, Nat.zero_add, List.append_assoc]
    have h6 : f.count + k.count + 1 = (f.app (Fo.one n k)).count := by rw [Fo.count_app, Fo.count_one]; omega
    rw [h5, h6, ihr (f.app (Fo.one n k)) rest h4, Fo.app_assoc]
    rfl

theorem shapeV_flat (n : Nd) (k : Fo) (hs : (Fo.one n k).Shaped) : shapeV ((Fo.one n k).flat 0) = if 30 < (Fo.one n k).count then (2, -10) else (0, 0) := by
  unfold shapeV
  rw [Fo.flat_len, Fo.count_one]
  by_cases h : 30 < k.count + 1
  · rw [if_pos (.inr h), if_pos h]
  · rw [if_neg (by omega), if_neg h]
    have h1 := shapeGo_flat (Fo.one n k) .nil [] hs
    rw [List.append_nil] at h1
    have h2 : shapeGo [] ((Fo.one n k).flat 0) = shapeGo ((Fo.one n k).firsts 0) [] := h1
    rw [h2, shapeGo, Fo.firsts_one]
    rw [if_neg]
    simp [List.getD_eq_getElem?_getD, Fo.firsts_len]

/-- What going back finds is a row of whole trees. -/
theorem walkBack_inv (rest : List Int) : ∀ (cs : List Int) (f g : Fo) (a : Int), walkBack (f.firsts 0 ++ g.firsts f.count ++ rest) (f.count : Int) cs = some a → ∃ f1 f2, f = Fo.app f1 f2 ∧ cs.reverse = f2.roots f1.count ∧ a = f1.count := by
  intro cs
  induction cs with
  | nil =>
    intro f g a h
    simp only [walkBack, Option.some.injEq] at h
    exact ⟨f, .nil, (Fo.app_nil f).symm, rfl, h.symm⟩
  | cons c cs ih =>
    intro f g a h
    rw [walkBack] at h
    split at h
    · cases h
    · rename_i hc
      have hne : f ≠ .nil := by rintro rfl; simp [Fo.count] at hc; omega
      obtain ⟨f', n, k, rfl⟩ := f.last hne
      have hcv : c = ((f'.count + k.count : Nat) : Int) := by rw [Fo.count_app, Fo.count_one] at hc; omega
      have hget : ((f'.app (Fo.one n k)).firsts 0 ++ g.firsts (f'.app (Fo.one n k)).count ++ rest).getD c.toNat 0 = (f'.count : Int) := by
        rw [hcv, Int.toNat_natCast, List.getD_eq_getElem?_getD, Fo.firsts_app, Fo.firsts_one, Nat.zero_add]
        rw [List.getElem?_append_left (by simp [Fo.firsts_len]), List.getElem?_append_left (by simp [Fo.firsts_len]), List.getElem?_append_right (by simp [Fo.firsts_len]), List.getElem?_append_right (by simp [Fo.firsts_len])]
        simp only [Fo.firsts_len]
        rw [show f'.count + k.count - f'.count - k.count = 0 by omega]
        rfl
      rw [hget] at h
      have he : (f'.app (Fo.one n k)).firsts 0 ++ g.firsts (f'.app (Fo.one n k)).count ++ rest = f'.firsts 0 ++ ((Fo.one n k).app g).firsts f'.count ++ rest := by
        rw [Fo.firsts_app, Fo.firsts_app, Fo.count_app, Nat.zero_add, List.append_assoc (f'.firsts 0)]
      rw [he] at h
      obtain ⟨f1, f2, rfl, h2, h3⟩ := ih f' _ a h
      refine ⟨f1, f2.app (Fo.one n k), Fo.app_assoc .., ?_, h3⟩
      rw [List.reverse_cons, h2, Fo.roots_app, Fo.roots_one, hcv, Fo.count_app]

/-- What passes is the nodes of a right forest. -/
theorem shapeGo_inv : ∀ (l : List (Nd × List Int)) (f : Fo), f.Shaped → shapeGo (f.firsts 0) l = (0, 0) → ∃ g : Fo, g.Shaped ∧ f.flat 0 ++ l = g.flat 0 ∧ (g.firsts 0).getD (g.count - 1) 0 = 0 := by
  intro l
  induction l with
  | nil =>
    intro f hf h
    rw [shapeGo] at h
    split at h
    · cases h
    · rename_i h0
      refine ⟨f, hf, List.append_nil _, ?_⟩
      rw [Fo.firsts_len] at h0
      simpa using h0
  | cons x l ih =>
    intro f hf h
    rw [shapeGo] at h
    cases hst : nodeStep (f.firsts 0) x with
    | inl e =>
      rw [hst] at h
      have h2 := congrArg Prod.snd h
      simp only at h2
      omega
    | inr a =>
      rw [hst] at h
      unfold nodeStep at hst
      split at hst
      · cases hst
      · rename_i hk
        split at hst
        · cases hst
        · rename_i har
          cases hw : walkBack (f.firsts 0) (f.firsts 0).length x.2.reverse with
          | none => rw [hw] at hst; cases hst
          | some a' =>
            rw [hw] at hst
            cases hst
            rw [Fo.firsts_len] at hw
            have hw' := walkBack_inv [] x.2.reverse f .nil a (by simpa [Fo.firsts] using hw)
            obtain ⟨f1, f2, rfl, h2, rfl⟩ := hw'
            rw [List.reverse_reverse] at h2
            obtain ⟨hf1, hf2⟩ := (Fo.shaped_app _ _).1 hf
            have hsh : (f1.app (Fo.one x.1 f2)).Shaped := (Fo.shaped_app _ _).2 ⟨hf1, ⟨by omega, by rw [h2, Fo.roots_len] at har; omega, hf2, trivial⟩⟩
            have h3 : (f1.app f2).firsts 0 ++ [(f1.count : Int)] = (f1.app (Fo.one x.1 f2)).firsts 0 := by
              rw [Fo.firsts_app, Fo.firsts_app, Fo.firsts_one, Nat.zero_add, List.append_assoc]
            simp only [h3] at h
            obtain ⟨g, hg1, hg2, hg3⟩ := ih _ hsh h
            refine ⟨g, hg1, ?_, hg3⟩
            rw [← hg2, Fo.flat_app, Fo.flat_app, Fo.flat_one, Nat.zero_add, ← h2]
            simp only [List.append_assoc, List.cons_append, List.nil_append]

theorem shapeV_inv {l : List (Nd × List Int)} (h : shapeV l = (0, 0)) : ∃ n k, l = (Fo.one n k).flat 0 ∧ (Fo.one n k).Shaped := by
  obtain ⟨h0, -, h1⟩ := shapeV_ok h
  obtain ⟨g, hg, hl, hf⟩ := shapeGo_inv l .nil trivial h1
  have hl : l = g.flat 0 := hl
  have hne : g ≠ .nil := by rintro rfl; rw [hl] at h0; simp [Fo.flat] at h0
  obtain ⟨f, n, k, rfl⟩ := g.last hne
  have hf0 : f.count = 0 := by
    rw [Fo.firsts_app, Fo.firsts_one, Fo.count_app, Fo.count_one, Nat.zero_add, List.getD_eq_getElem?_getD] at hf
    rw [List.getElem?_append_right (by rw [Fo.firsts_len]; omega), List.getElem?_append_right (by rw [Fo.firsts_len, Fo.firsts_len]; omega)] at hf
    rw [Fo.firsts_len, Fo.firsts_len, show f.count + (k.count + 1) - 1 - f.count - k.count = 0 by omega] at hf
    simpa using hf
  have := f.count_zero hf0
  subst this
  exact ⟨n, k, hl, ((Fo.shaped_app _ _).1 hg).2⟩
end Go.Proofs.Ytodlkjjoenglgaa

/- The plain law, 2: the scopes of a tree's nodes. -/
namespace Go.Proofs.Ytodlkjjoenglgaa
open Go Go.RowKit

def innerN (n : Nd) (o : List Int) : List Int := if isQ n.kind then o ++ [n.typ] else o
namespace Fo
/-- The scopes of the nodes of a forest that stands in a scope. -/
def scopes (ps : List Int) : Fo → List (List Int)
  | nil => []
  | cons n k r => scopes (innerN n ps) k ++ ps :: scopes ps r
theorem scopes_len (ps : List Int) (f : Fo) : (f.scopes ps).length = f.count := by
  induction f generalizing ps with
  | nil => rfl
  | cons n k r ihk ih => simp [scopes, count, ihk, ih]; omega
theorem roots_range (b : Nat) (f : Fo) : ∀ c ∈ f.roots b, (b : Int) ≤ c ∧ c < ((b + f.count : Nat) : Int) := by
  induction f generalizing b with
  | nil => intro c hc; simp [roots] at hc
  | cons n k r _ ih =>
    intro c hc
    simp only [roots, List.mem_cons] at hc
    simp only [count]
    rcases hc with rfl | hc
    · omega
    · have := ih _ c hc; omega
end Fo

section
variable {X : Type}
def setAll (v : X) (out : List X) (cs : List Int) : List X := cs.foldl (fun o k => o.set k.toNat v) out
theorem setAll_len (v : X) (cs : List Int) : ∀ out : List X, (setAll v out cs).length = out.length := by
  induction cs with
  | nil => intro out; rfl
  | cons c cs ih => intro out; show (setAll v _ cs).length = _; rw [ih, List.length_set]
theorem setAll_other (v : X) (cs : List Int) : ∀ (out : List X) (i : Nat), (∀ c ∈ cs, c.toNat ≠ i) → (setAll v out cs)[i]? = out[i]? := by
  induction cs with
  | nil => intro out i _; rfl
  | cons c cs ih =>
    intro out i h
    show (setAll v _ cs)[i]? = _
    rw [ih _ i fun x hx => h x (List.mem_cons_of_mem _ hx), List.getElem?_set_ne (h c (List.mem_cons_self ..))]
theorem setAll_mem (v : X) (cs : List Int) : ∀ (out : List X) (c : Int), c ∈ cs → c.toNat < out.length → (setAll v out cs)[c.toNat]? = some v := by
  induction cs with
  | nil => intro out c hc; simp at hc
  | cons d cs ih =>
    intro out c hc hl
    show (setAll v _ cs)[c.toNat]? = _
    by_cases hm : c ∈ cs
    · exact ih _ c hm (by rw [List.length_set]; exact hl)
    · rcases List.mem_cons.1 hc with rfl | h
      · by_cases ho : ∃ x ∈ cs, x.toNat = c.toNat
        · obtain ⟨x, hx, hxc⟩ := ho
          rw [← hxc]
          exact ih _ x hx (by rw [List.length_set, hxc]; exact hl)
        · rw [setAll_other _ _ _ _ fun x hx hxc => ho ⟨x, hx, hxc⟩, List.getElem?_set_self hl]
      · exact absurd h hm
/-- A stretch of a list replaced. -/
def repl (out : List X) (b : Nat) (seg : List X) : List X := out.take b ++ seg ++ out.drop (b + seg.length)
theorem repl_get (out : List X) (b : Nat) (seg : List X) (h : b + seg.length ≤ out.length) (i : Nat) : (repl out b seg)[i]? = if i < b then out[i]? else if i < b + seg.length then seg[i - b]? else out[i]? := by
  unfold repl
  rw [List.append_assoc]
  by_cases h1 : i < b
  · rw [if_pos h1, List.getElem?_append_left (by rw [List.length_take]; omega), List.getElem?_take, if_pos h1]
  · rw [if_neg h1, List.getElem?_append_right (by rw [List.length_take]; omega), List.length_take, Nat.min_eq_left (by omega)]
    by_cases h2 : i < b + seg.length
    · rw [if_pos h2, List.getElem?_append_left (by omega)]
    · rw [if_neg h2, List.getElem?_append_right (by omega), List.getElem?_drop, show b + seg.length + (i - b - seg.length) = i by omega]
theorem repl_len (out : List X) (b : Nat) (seg : List X) (h : b + seg.length ≤ out.length) : (repl out b seg).length = out.length := by
  unfold repl
  simp [List.length_take, List.length_drop]
  omega
end

theorem scFrom_flat : ∀ (f : Fo) (b : Nat) (ns : List (Nd × List Int)) (out : List (List Int)) (ps : List Int), (∀ i, i < f.count → ns[b + i]? = (f.flat b)[i]?) → b + f.count ≤ out.length → (∀ c ∈ f.roots b, out[c.toNat]? = some ps) →
    scFrom ns (b + f.count) out = scFrom ns b (repl out b (f.scopes ps)) := by
  intro f
  induction f with
  | nil =>
    intro b ns out ps _ hl _
    have : repl out b (Fo.scopes ps .nil) = out := by
      apply List.ext_getElem?
      intro i
      rw [repl_get _ _ _ (by simpa [Fo.scopes, Fo.count] using hl)]
      simp [Fo.scopes]
      intro h1 h2
      omega
    rw [this]; rfl
  | cons n k r ihk ihr =>
    intro b ns out ps hns hl hr
    simp only [Fo.count] at hns hl ⊢
    have hroot : out[b + k.count]? = some ps := by
      have := hr ((b + k.count : Nat) : Int) (by simp [Fo.roots])
      rwa [Int.toNat_natCast] at this
    -- the trees behind
    rw [show b + (k.count + r.count + 1) = b + k.count + 1 + r.count by omega,
      ihr (b + k.count + 1) ns out ps (fun i hi => by
        have := hns (k.count + 1 + i) (by omega)
        rw [show b + (k.count + 1 + i) = b + k.count + 1 + i by omega] at this
        rw [this, Fo.flat, List.getElem?_append_right (by rw [Fo.flat_len]; omega), Fo.flat_len, show k.count + 1 + i - k.count = i + 1 by omega, List.getElem?_cons_succ])
      (by omega) (fun c hc => hr c (by simp [Fo.roots, hc]))]
    have hl1 := repl_len out (b + k.count + 1) (r.scopes ps) (by rw [Fo.scopes_len]; omega)
    -- the node
    rw [scFrom]
    have hnode : ns.getD (b + k.count) dNd = (n, k.roots b) := by
      have := hns k.count (by omega)
      rw [Fo.flat, List.getElem?_append_right (by rw [Fo.flat_len]; exact Nat.le_refl _), Fo.flat_len, Nat.sub_self] at this
      rw [List.getD_eq_getElem?_getD, this]; rfl
    have hps : (repl out (b + k.count + 1) (r.scopes ps)).getD (b + k.count) [] = ps := by
      rw [List.getD_eq_getElem?_getD, repl_get _ _ _ (by rw [Fo.scopes_len]; omega), if_pos (by omega), hroot]; rfl
    have hstep : scStep ns (repl out (b + k.count + 1) (r.scopes ps)) (b + k.count) = setAll (innerN n ps) (repl out (b + k.count + 1) (r.scopes ps)) (k.roots b) := by
      unfold scStep
      rw [hnode, hps]
      rfl
    rw [hstep]
    -- its children
    have hrr := Fo.roots_range b k
    rw [ihk b ns _ (innerN n ps) (fun i hi => by
        rw [hns i (by omega), Fo.flat, List.getElem?_append_left (by rw [Fo.flat_len]; exact hi)])
      (by rw [setAll_len, hl1]; omega) (fun c hc => setAll_mem _ _ _ c hc (by have := hrr c hc; rw [hl1]; omega))]
    congr 1
    apply List.ext_getElem?
    intro i
    rw [repl_get _ _ _ (by rw [setAll_len, hl1, Fo.scopes_len]; omega), repl_get _ _ _ (by rw [Fo.scopes_len]; simp only [Fo.count]; omega), Fo.scopes_len, Fo.scopes_len]
    have hcc : (Fo.cons n k r).count = k.count + r.count + 1 := rfl
    by_cases h1 : i < b
    · rw [if_pos h1, if_pos h1, setAll_other _ _ _ _ (fun c hc => by have := hrr c hc; omega), repl_get _ _ _ (by rw [Fo.scopes_len]; omega), if_pos (by omega)]
    · rw [if_neg h1, if_neg h1]
      by_cases h2 : i < b + k.count
      · rw [if_pos h2, if_pos (show i < b + (Fo.cons n k r).count by omega), Fo.scopes, List.getElem?_append_left (by rw [Fo.scopes_len]; omega)]
      · rw [if_neg h2, setAll_other _ _ _ _ (fun c hc => by have := hrr c hc; omega), repl_get _ _ _ (by rw [Fo.scopes_len]; omega), Fo.scopes_len]
        by_cases h3 : i = b + k.count
        · subst h3
          rw [if_pos (show b + k.count < b + k.count + 1 by omega), if_pos (show b + k.count < b + (Fo.cons n k r).count by omega), Fo.scopes, List.getElem?_append_right (by rw [Fo.scopes_len]; omega), Fo.scopes_len, show b + k.count - b - k.count = 0 by omega, hroot]
          rfl
        · rw [if_neg (show ¬ i < b + k.count + 1 by omega)]
          by_cases h4 : i < b + k.count + 1 + r.count
          · rw [if_pos h4, if_pos (show i < b + (Fo.cons n k r).count by omega), Fo.scopes, List.getElem?_append_right (by rw [Fo.scopes_len]; omega), Fo.scopes_len, show i - b - k.count = (i - (b + k.count + 1)) + 1 by omega, List.getElem?_cons_succ]
          · rw [if_neg h4, if_neg (show ¬ i < b + (Fo.cons n k r).count by omega)]

theorem scopesV_flat (ts : List Int) (n : Nd) (k : Fo) : scopesV ⟨ts, (Fo.one n k).flat 0⟩ = (Fo.one n k).scopes ts := by
  unfold scopesV
  simp only [Fo.flat_len]
  have hc : (Fo.one n k).count = k.count + 1 := Fo.count_one n k
  have h := scFrom_flat (Fo.one n k) 0 ((Fo.one n k).flat 0) ((List.replicate (Fo.one n k).count []).set ((Fo.one n k).count - 1) ts) ts (fun i _ => by rw [Nat.zero_add]) (by rw [List.length_set, List.length_replicate]; omega) (fun c hcm => by
    rw [Fo.roots_one, List.mem_singleton] at hcm
    subst hcm
    rw [Int.toNat_natCast, hc, Nat.zero_add, Nat.add_sub_cancel, List.getElem?_set_self (by rw [List.length_replicate]; omega)])
  rw [Nat.zero_add] at h
  rw [h, scFrom]
  apply List.ext_getElem?
  intro i
  rw [repl_get _ _ _ (by rw [List.length_set, List.length_replicate, Fo.scopes_len]; omega), if_neg (by omega), Fo.scopes_len, Nat.zero_add, Nat.sub_zero]
  split
  · rfl
  · rename_i h2
    rw [List.getElem?_eq_none (by rw [List.length_set, List.length_replicate]; omega), List.getElem?_eq_none (by rw [Fo.scopes_len]; omega)]
end Go.Proofs.Ytodlkjjoenglgaa

/- The plain law, 3: when a tree's condition passes. -/
namespace Go.Proofs.Ytodlkjjoenglgaa
open Go Go.RowKit

/-- Of all nodes, each in its scope. -/
def AllF (P : Nd → List Int → Prop) : List Int → Fo → Prop
  | _, .nil => True
  | ps, .cons n k r => P n ps ∧ AllF P (innerN n ps) k ∧ AllF P ps r

theorem all_flat (P : Nd → List Int → Prop) (f : Fo) : ∀ (b : Nat) (ps : List Int), (∀ i, i < f.count → P ((f.flat b).getD i dNd).1 ((f.scopes ps).getD i [])) ↔ AllF P ps f := by
  induction f with
  | nil => intro b ps; simp [AllF, Fo.count]
  | cons n k r ihk ihr =>
    intro b ps
    have hf : ∀ i, ((Fo.cons n k r).flat b).getD i dNd = if i < k.count then (k.flat b).getD i dNd else if i = k.count then (n, k.roots b) else (r.flat (b + k.count + 1)).getD (i - k.count - 1) dNd := fun i => by
      rw [Fo.flat, List.getD_eq_getElem?_getD]
      by_cases h1 : i < k.count
      · rw [if_pos h1, List.getElem?_append_left (by rw [Fo.flat_len]; exact h1), List.getD_eq_getElem?_getD]
      · rw [if_neg h1, List.getElem?_append_right (by rw [Fo.flat_len]; omega), Fo.flat_len]
        by_cases h2 : i = k.count
        · rw [if_pos h2, h2, Nat.sub_self]; rfl
        · rw [if_neg h2, show i - k.count = (i - k.count - 1) + 1 by omega, List.getElem?_cons_succ, List.getD_eq_getElem?_getD]
          congr 2
    have hs : ∀ i, ((Fo.cons n k r).scopes ps).getD i [] = if i < k.count then (k.scopes (innerN n ps)).getD i [] else if i = k.count then ps else (r.scopes ps).getD (i - k.count - 1) [] := fun i => by
      rw [Fo.scopes, List.getD_eq_getElem?_getD]
      by_cases h1 : i < k.count
      · rw [if_pos h1, List.getElem?_append_left (by rw [Fo.scopes_len]; exact h1), List.getD_eq_getElem?_getD]
      · rw [if_neg h1, List.getElem?_append_right (by rw [Fo.scopes_len]; omega), Fo.scopes_len]
        by_cases h2 : i = k.count
        · rw [if_pos h2, h2, Nat.sub_self]; rfl
        · rw [if_neg h2, show i - k.count = (i - k.count - 1) + 1 by omega, List.getElem?_cons_succ, List.getD_eq_getElem?_getD]
          congr 2
    simp only [AllF, ← ihk b, ← ihr (b + k.count + 1), Fo.count, hf, hs]
    constructor
    · intro h
      refine ⟨?_, fun i hi => ?_, fun i hi => ?_⟩
      · have := h k.count (by omega)
        simpa using this
      · have := h i (by omega)
        simpa [hi] using this
      · have := h (k.count + 1 + i) (by omega)
        rw [if_neg (by omega), if_neg (by omega), if_neg (by omega), if_neg (by omega), show k.count + 1 + i - k.count - 1 = i by omega] at this
        exact this
    · rintro ⟨h1, h2, h3⟩ i hi
      by_cases hik : i < k.count
      · rw [if_pos hik, if_pos hik]; exact h2 i hik
      · rw [if_neg hik, if_neg hik]
        by_cases hi2 : i = k.count
        · rw [if_pos hi2, if_pos hi2]; exact h1
        · rw [if_neg hi2, if_neg hi2]; exact h3 _ (by omega)

/-- A node is right in its scope, but for how deep it stands. -/
def OkN (D : Dom) (n : Nd) (ps : List Int) : Prop := leafCode D n ps = 0 ∧ (isQ n.kind = true → inRange D.types n.typ)
def LimN (n : Nd) (ps : List Int) : Prop := isQ n.kind = true → ps.length < 6
/-- A tree is right in a scope. -/
def OkF (D : Dom) (ps : List Int) (f : Fo) : Prop := AllF (OkN D) ps f
def LimF (ps : List Int) (f : Fo) : Prop := AllF LimN ps f

theorem quantCode_zero {D : Dom} {x : Nd} {m : Nat} : quantCode D x m = 0 ↔ (isQ x.kind = true → inRange D.types x.typ ∧ m < 6) := by
  unfold quantCode inRange
  by_cases h : isQ x.kind = false
  · rw [if_pos h]; simp [h]
  · rw [if_neg h]
    have h : isQ x.kind = true := by simpa using h
    by_cases h1 : x.typ < -1 ∨ (D.types.length : Int) ≤ x.typ
    · rw [if_pos h1]; simp [h]; omega
    · rw [if_neg h1]
      by_cases h2 : 6 ≤ m
      · rw [if_pos h2]; simp [h]; omega
      · rw [if_neg h2]; simp [h]; omega
theorem quantCode_ok {D : Dom} {x : Nd} {m : Nat} (h : isQ x.kind = true → inRange D.types x.typ) : quantCode D x m = 0 ∨ quantCode D x m = 2 := by
  unfold quantCode
  by_cases h0 : isQ x.kind = false
  · rw [if_pos h0]; exact .inl rfl
  · have h1 := h (by simpa using h0)
    unfold inRange at h1
    rw [if_neg h0, if_neg (by omega)]
    split
    · exact .inr rfl
    · exact .inl rfl

theorem AllF.and {P Q : Nd → List Int → Prop} : ∀ {f : Fo} {ps : List Int}, AllF (fun n ps => P n ps ∧ Q n ps) ps f ↔ AllF P ps f ∧ AllF Q ps f := by
  intro f
  induction f with
  | nil => intro ps; simp [AllF]
  | cons n k r ihk ihr => intro ps; simp only [AllF, ihk, ihr]; grind
theorem AllF.imp {P Q : Nd → List Int → Prop} (h : ∀ n ps, P n ps → Q n ps) : ∀ {f : Fo} {ps : List Int}, AllF P ps f → AllF Q ps f := by
  intro f
  induction f with
  | nil => intro ps _; trivial
  | cons n k r ihk ihr => intro ps h1; exact ⟨h _ _ h1.1, ihk h1.2.1, ihr h1.2.2⟩

/-- A condition passes: then it is a right tree's. -/
theorem valV_inv {D : Dom} {C : Cnd} (h : valV D C = (0, 0)) : domV D = (0, 0) ∧ paramsCode D C.types = 0 ∧ ∃ n k, C.nodes = (Fo.one n k).flat 0 ∧ (Fo.one n k).Shaped ∧ (Fo.one n k).count ≤ 30 ∧ OkF D C.types (Fo.one n k) ∧ LimF C.types (Fo.one n k) := by
  unfold valV at h
  split at h
  · rename_i h1; exact absurd h h1
  · rename_i h1
    split at h
    · rename_i h2; exact absurd (congrArg Prod.fst h) h2
    · rename_i h2
      split at h
      · rename_i h3; exact absurd h h3
      · rename_i h3
        have h1 : domV D = (0, 0) := by simpa using h1
        have h2 : paramsCode D C.types = 0 := by simpa using h2
        have h3 : shapeV C.nodes = (0, 0) := by simpa using h3
        obtain ⟨n, k, hn, hs⟩ := shapeV_inv h3
        refine ⟨h1, h2, n, k, hn, hs, ?_, ?_⟩
        · have := (shapeV_ok h3).2.1
          rwa [hn, Fo.flat_len] at this
        · unfold valQuant at h
          cases hq : firstBad (fq D C) C.nodes.length with
          | some i => rw [hq] at h; exact absurd (congrArg Prod.fst h) (firstBad_of_some hq).2
          | none =>
            rw [hq] at h
            unfold valLeaf at h
            cases hl : firstBad (fl D C) C.nodes.length with
            | some i => rw [hl] at h; exact absurd (congrArg Prod.fst h) (firstBad_of_some hl).2
            | none =>
              have hq := firstBad_of_none hq
              have hl := firstBad_of_none hl
              unfold fq at hq
              unfold fl at hl
              obtain ⟨ts, ns⟩ := C
              simp only at hn hq hl h2
              subst hn
              rw [scopesV_flat, Fo.flat_len] at hq hl
              have hq' := (all_flat (fun n ps => isQ n.kind = true → inRange D.types n.typ ∧ ps.length < 6) (Fo.one n k) 0 ts).1 fun i hi => quantCode_zero.1 (hq i hi)
              have hl' := (all_flat (fun n ps => leafCode D n ps = 0) (Fo.one n k) 0 ts).1 fun i hi => hl i hi
              exact ⟨AllF.and.2 ⟨hl', AllF.imp (fun n ps h hQ => (h hQ).1) hq'⟩, AllF.imp (fun n ps h hQ => (h hQ).2) hq'⟩

/-- A right tree's condition passes, or is too large. -/
theorem valV_flat {D : Dom} {ts : List Int} {n : Nd} {k : Fo} (h1 : domV D = (0, 0)) (h2 : paramsCode D ts = 0) (hs : (Fo.one n k).Shaped) (ho : OkF D ts (Fo.one n k)) :
    valV D ⟨ts, (Fo.one n k).flat 0⟩ = (0, 0) ∨ (valV D ⟨ts, (Fo.one n k).flat 0⟩).1 = 2 := by
  unfold valV
  rw [if_neg (by simpa using h1), if_neg (by simpa using h2)]
  simp only [shapeV_flat n k hs]
  by_cases hc : 30 < (Fo.one n k).count
  · rw [if_pos hc, if_pos (by simp)]; exact .inr rfl
  · rw [if_neg hc, if_neg (by simp)]
    have ho' := AllF.and.1 ho
    have hl := (all_flat (fun n ps => leafCode D n ps = 0) (Fo.one n k) 0 ts).2 ho'.1
    have hq := (all_flat (fun n _ => isQ n.kind = true → inRange D.types n.typ) (Fo.one n k) 0 ts).2 ho'.2
    unfold valQuant
    cases hfq : firstBad (fq D ⟨ts, (Fo.one n k).flat 0⟩) ((Fo.one n k).flat 0).length with
    | some i =>
      obtain ⟨hi, hb⟩ := firstBad_of_some hfq
      rw [Fo.flat_len] at hi
      simp only
      refine .inr ?_
      unfold fq at hb ⊢
      exact (quantCode_ok (hq i hi)).resolve_left hb
    | none =>
      simp only
      unfold valLeaf
      rw [firstBad_none]
      · exact .inl rfl
      · intro j hj
        rw [Fo.flat_len] at hj
        unfold fl
        rw [scopesV_flat]
        exact hl j hj
end Go.Proofs.Ytodlkjjoenglgaa

/- The plain law, 4: what a tree says, and its negation. -/
namespace Go.Proofs.Ytodlkjjoenglgaa
open Go Go.RowKit

def holdsD (atoms : List AtD) (a : AtD) : Bool := atoms.any fun b => decide (cmpA a b = 0)
section
variable (D : Dom) (atoms : List AtD)
def evN (n : Nd) (kv : List Int → List Bool) (ps : List Int) : Bool :=
  if n.kind = 2 then holdsD atoms (bindA ps ⟨n.pred, n.args⟩)
  else if n.kind = 3 then decide (valueOf ps n.left = valueOf ps n.right)
  else if n.kind = 4 then !((kv ps).headD true)
  else if n.kind = 5 then (kv ps).all id
  else if n.kind = 6 then (kv ps).any id
  else if n.kind = 7 then (ofL D.types D.objects n.typ).any fun o => (kv (ps ++ [o])).headD true
  else if n.kind = 8 then (ofL D.types D.objects n.typ).all fun o => (kv (ps ++ [o])).headD true
  else true
/-- What the trees of a forest say. -/
def evF : Fo → List Int → List Bool
  | .nil, _ => []
  | .cons n k r, ps => evN D atoms n (evF k) ps :: evF r ps
theorem evF_len (f : Fo) (ps : List Int) : (evF D atoms f ps).length = f.len := by
  induction f with
  | nil => rfl
  | cons n k r _ ih => simp [evF, Fo.len, ih]
theorem evF_app (f g : Fo) (ps : List Int) : evF D atoms (f.app g) ps = evF D atoms f ps ++ evF D atoms g ps := by
  induction f with
  | nil => rfl
  | cons n k r _ ih => simp [evF, Fo.app, ih]
end

def dual (k : Int) : Int := if k = 5 then 6 else if k = 6 then 5 else if k = 7 then 8 else if k = 8 then 7 else k
def zNd (k : Int) : Nd := ⟨k, 0, [], 0, 0, 0⟩
/-- The negation (true) or the copy (false) of a tree, in which only leaves are negated. -/
def ngN (b : Bool) (n : Nd) (k : Fo) : Fo :=
  if b = false then Fo.one n k
  else if n.kind = 1 then Fo.one (zNd 6) .nil
  else if n.kind = 2 ∨ n.kind = 3 then Fo.one (zNd 4) (Fo.one { n with kind := dual n.kind } k)
  else Fo.one { n with kind := dual n.kind } k
def ngF : Bool → Fo → Fo
  | _, .nil => .nil
  | b, .cons n k r => (if n.kind = 4 then ngF (!b) k else ngN b n (ngF b k)).app (ngF b r)

theorem ngN_len (b : Bool) (n : Nd) (k : Fo) : (ngN b n k).len = 1 := by
  unfold ngN
  split
  · rfl
  · split
    · rfl
    · split <;> rfl
theorem ngF_len (f : Fo) : ∀ b, f.Shaped → (ngF b f).len = f.len := by
  induction f with
  | nil => intro b _; rfl
  | cons n k r ihk ihr =>
    intro b hs
    obtain ⟨h1, h2, h3, h4⟩ := hs
    rw [ngF, Fo.len_app, ihr b h4, Fo.len]
    split
    · rename_i h
      rw [ihk _ h3]
      unfold arityOf at h2
      rw [h, if_pos (.inl rfl)] at h2
      omega
    · rw [ngN_len]; omega

section
variable (D : Dom) (atoms : List AtD)
theorem headD_map (l : List Bool) (h : l.length = 1) : (l.map (!·)).headD true = !(l.headD true) := by
  match l, h with
  | [x], _ => rfl

theorem any_neg {X : Type} (l : List X) (p : X → Bool) : (l.any fun x => !(p x)) = !(l.all p) := by
  induction l with
  | nil => rfl
  | cons x l ih => simp [ih]
theorem all_neg {X : Type} (l : List X) (p : X → Bool) : (l.all fun x => !(p x)) = !(l.any p) := by
  induction l with
  | nil => rfl
  | cons x l ih => simp [ih]
/-- The negation says the opposite. -/
theorem ngF_ev (f : Fo) : ∀ b ps, f.Shaped → evF D atoms (ngF b f) ps = (evF D atoms f ps).map (fun x => x != b) := by
  induction f with
  | nil => intro b ps _; rfl
  | cons n k r ihk ihr =>
    intro b ps hs
    obtain ⟨h1, h2, h3, h4⟩ := hs
    rw [ngF, evF_app, ihr b ps h4]
    simp only [evF, List.map_cons]
    rw [← List.singleton_append]
    congr 1
    by_cases hk4 : n.kind = 4
    · rw [if_pos hk4, ihk _ ps h3]
      have hl : (evF D atoms k ps).length = 1 := by
        rw [evF_len]
        unfold arityOf at h2
        rw [hk4, if_pos (.inl rfl)] at h2
        omega
      match hv : evF D atoms k ps, hl with
      | [x], _ =>
        have : evN D atoms n (evF D atoms k) ps = !x := by
          unfold evN
          rw [if_neg (by omega), if_neg (by omega), if_pos hk4, hv]
          rfl
        rw [this]
        cases b <;> cases x <;> rfl
    · rw [if_neg hk4]
      unfold ngN
      cases b with
      | false =>
        rw [if_pos rfl]
        simp only [Fo.one, evF]
        have : evF D atoms (ngF false k) = evF D atoms k := by
          funext qs
          rw [ihk false qs h3]
          simp
        rw [this]
        simp
      | true =>
        rw [if_neg (by decide)]
        have hkv : ∀ qs, evF D atoms (ngF true k) qs = (evF D atoms k qs).map (!·) := fun qs => by
          rw [ihk true qs h3]
          congr 1
          funext x
          cases x <;> rfl
        have hq : (n.kind = 7 ∨ n.kind = 8) → ∀ qs, (evF D atoms (ngF true k) qs).headD true = !((evF D atoms k qs).headD true) := fun hk qs => by
          rw [hkv, headD_map _ (by rw [evF_len]; unfold arityOf at h2; rw [if_pos (by omega)] at h2; omega)]
        by_cases hk1 : n.kind = 1
        · rw [if_pos hk1]
          simp [Fo.one, evF, evN, zNd, hk1]
        · rw [if_neg hk1]
          by_cases hk2 : n.kind = 2
          · rw [if_pos (.inl hk2)]
            simp [Fo.one, evF, evN, zNd, hk2, dual]
          · by_cases hk3 : n.kind = 3
            · rw [if_pos (.inr hk3)]
              simp [Fo.one, evF, evN, zNd, hk3, dual]
            · rw [if_neg (by omega)]
              have hk : n.kind = 5 ∨ n.kind = 6 ∨ n.kind = 7 ∨ n.kind = 8 := by omega
              rcases hk with h | h | h | h
              · simp only [Fo.one, evF, evN, h, dual]
                simp [hkv]
                exact any_neg _ id
              · simp only [Fo.one, evF, evN, h, dual]
                simp [hkv]
                exact all_neg _ id
              · have hq := hq (.inl h)
                have he : (fun o => (evF D atoms (ngF true k) (ps ++ [o])).headD true) = fun o => !((evF D atoms k (ps ++ [o])).headD true) := funext fun o => hq _
                simp only [Fo.one, evF, evN, h, dual, he]
                simp only [all_neg]
                simp
              · have hq := hq (.inr h)
                have he : (fun o => (evF D atoms (ngF true k) (ps ++ [o])).headD true) = fun o => !((evF D atoms k (ps ++ [o])).headD true) := funext fun o => hq _
                simp only [Fo.one, evF, evN, h, dual, he]
                simp only [any_neg]
                simp
end

theorem isQ_dual (k : Int) : isQ (dual k) = isQ k := by
  unfold dual isQ
  by_cases h5 : k = 5
  · rw [if_pos h5, h5]; rfl
  · rw [if_neg h5]
    by_cases h6 : k = 6
    · rw [if_pos h6, h6]; rfl
    · rw [if_neg h6]
      by_cases h7 : k = 7
      · rw [if_pos h7, h7]; rfl
      · rw [if_neg h7]
        by_cases h8 : k = 8
        · rw [if_pos h8, h8]; rfl
        · rw [if_neg h8]
theorem innerN_dual (n : Nd) (ps : List Int) : innerN { n with kind := dual n.kind } ps = innerN n ps := by
  unfold innerN
  simp only [isQ_dual]
theorem innerN_not {n : Nd} (h : isQ n.kind = false) (ps : List Int) : innerN n ps = ps := by
  unfold innerN
  rw [h]; rfl
theorem AllF.app {P : Nd → List Int → Prop} {f g : Fo} {ps : List Int} : AllF P ps (f.app g) ↔ AllF P ps f ∧ AllF P ps g := by
  induction f with
  | nil => simp [Fo.app, AllF]
  | cons n k r _ ih => simp only [Fo.app, AllF, ih, and_assoc]
theorem dual_leaf {k : Int} (h : k = 2 ∨ k = 3) : dual k = k := by rcases h with rfl | rfl <;> rfl
theorem ngF_all {P : Nd → List Int → Prop} (h6 : ∀ ps, P (zNd 6) ps) (h4 : ∀ ps, P (zNd 4) ps) (hd : ∀ n ps, n.kind ≠ 1 → n.kind ≠ 2 → n.kind ≠ 3 → P n ps → P { n with kind := dual n.kind } ps) (f : Fo) : ∀ b ps, AllF P ps f → AllF P ps (ngF b f) := by
  induction f with
  | nil => intro b ps _; trivial
  | cons n k r ihk ihr =>
    intro b ps h
    obtain ⟨p1, p2, p3⟩ := h
    rw [ngF, AllF.app]
    refine ⟨?_, ihr b ps p3⟩
    by_cases hk4 : n.kind = 4
    · rw [if_pos hk4]
      rw [innerN_not (by rw [hk4]; rfl)] at p2
      exact ihk _ ps p2
    · rw [if_neg hk4]
      unfold ngN
      have hk := ihk b _ p2
      split
      · exact ⟨p1, hk, trivial⟩
      · split
        · exact ⟨h6 ps, trivial, trivial⟩
        · split
          · rename_i hl
            rw [dual_leaf hl]
            exact ⟨h4 ps, ⟨p1, hk, trivial⟩, trivial⟩
          · rename_i h1 hl
            refine ⟨hd n ps h1 (fun h => hl (.inl h)) (fun h => hl (.inr h)) p1, ?_, trivial⟩
            rw [innerN_dual]
            exact hk
theorem ngF_ok {D : Dom} {f : Fo} {ps : List Int} (b : Bool) (h : OkF D ps f) : OkF D ps (ngF b f) := by
  refine ngF_all (fun ps => ?_) (fun ps => ?_) (fun n ps h1 h2 h3 h => ?_) f b ps h
  · exact ⟨rfl, fun h => by cases h⟩
  · exact ⟨rfl, fun h => by cases h⟩
  · refine ⟨?_, fun hq => h.2 (by rwa [isQ_dual] at hq)⟩
    have hd : dual n.kind ≠ 2 ∧ dual n.kind ≠ 3 := by
      unfold dual
      split
      · omega
      · split
        · omega
        · split
          · omega
          · split
            · omega
            · exact ⟨h2, h3⟩
    unfold leafCode
    rw [if_neg hd.1, if_neg hd.2]
theorem ngF_lim {f : Fo} {ps : List Int} (b : Bool) (h : LimF ps f) : LimF ps (ngF b f) := by
  refine ngF_all (fun ps hq => by cases hq) (fun ps hq => by cases hq) (fun n ps _ _ _ h hq => h (by rwa [isQ_dual] at hq)) f b ps h
theorem arity_dual (k : Int) : arityOf (dual k) = arityOf k := by
  unfold dual
  by_cases h5 : k = 5
  · rw [if_pos h5, h5]; rfl
  · rw [if_neg h5]
    by_cases h6 : k = 6
    · rw [if_pos h6, h6]; rfl
    · rw [if_neg h6]
      by_cases h7 : k = 7
      · rw [if_pos h7, h7]; rfl
      · rw [if_neg h7]
        by_cases h8 : k = 8
        · rw [if_pos h8, h8]; rfl
        · rw [if_neg h8]
theorem dual_range {k : Int} (h : 1 ≤ k ∧ k ≤ 8) : 1 ≤ dual k ∧ dual k ≤ 8 := by
  unfold dual
  split
  · omega
  · split
    · omega
    · split
      · omega
      · split
        · omega
        · exact h
theorem ngF_shaped (f : Fo) : ∀ b, f.Shaped → (ngF b f).Shaped := by
  induction f with
  | nil => intro b _; trivial
  | cons n k r ihk ihr =>
    intro b h
    obtain ⟨h1, h2, h3, h4⟩ := h
    rw [ngF, Fo.shaped_app]
    refine ⟨?_, ihr b h4⟩
    split
    · exact ihk _ h3
    · have hl := ngF_len k b h3
      unfold ngN
      split
      · exact ⟨h1, by rw [hl]; exact h2, ihk b h3, trivial⟩
      · split
        · exact ⟨by decide, .inl (by decide), trivial, trivial⟩
        · split
          · rename_i hlf
            refine ⟨by decide, .inr rfl, ⟨?_, ?_, ihk b h3, trivial⟩, trivial⟩
            · exact dual_range h1
            · show arityOf (dual n.kind) < 0 ∨ _
              rw [arity_dual, hl]; exact h2
          · refine ⟨dual_range h1, ?_, ihk b h3, trivial⟩
            show arityOf (dual n.kind) < 0 ∨ _ = arityOf (dual n.kind)
            rw [arity_dual, hl]; exact h2
end Go.Proofs.Ytodlkjjoenglgaa

/- The plain law, 5: another tree in the place of one of those within a tree. -/
namespace Go.Proofs.Ytodlkjjoenglgaa
open Go Go.RowKit

/-- The values of the parameters are objects of their types. -/
def Env (D : Dom) (G ps : List Int) : Prop :=
  ps.length = G.length ∧ ∀ i, i < G.length → 0 ≤ ps.getD i 0 ∧ ps.getD i 0 < D.objects.length ∧ isA D.types (D.objects.getD (ps.getD i 0).toNat dNI).2 (G.getD i 0) = true

theorem mem_ofL {ts os : List (ByteArray × Int)} {t o : Int} : o ∈ ofL ts os t ↔ 0 ≤ o ∧ o < os.length ∧ isA ts (os.getD o.toNat dNI).2 t = true := by
  unfold ofL
  rw [List.mem_map]
  constructor
  · rintro ⟨i, hi, rfl⟩
    rw [List.mem_filter, List.mem_range] at hi
    exact ⟨by omega, by omega, by rw [Int.toNat_natCast]; exact hi.2⟩
  · rintro ⟨h1, h2, h3⟩
    exact ⟨o.toNat, by rw [List.mem_filter, List.mem_range]; exact ⟨by omega, h3⟩, by omega⟩

theorem Env.push {D : Dom} {G ps : List Int} (h : Env D G ps) {t o : Int} (ho : o ∈ ofL D.types D.objects t) : Env D (G ++ [t]) (ps ++ [o]) := by
  obtain ⟨h1, h2, h3⟩ := mem_ofL.1 ho
  refine ⟨by simp [h.1], fun i hi => ?_⟩
  rw [List.length_append, List.length_singleton] at hi
  by_cases hil : i < G.length
  · have := h.2 i hil
    rw [List.getD_eq_getElem?_getD, List.getD_eq_getElem?_getD (l := G ++ [t]), List.getElem?_append_left (by rw [h.1]; exact hil), List.getElem?_append_left hil, ← List.getD_eq_getElem?_getD, ← List.getD_eq_getElem?_getD]
    exact this
  · have hie : i = G.length := by omega
    subst hie
    rw [List.getD_eq_getElem?_getD, List.getD_eq_getElem?_getD (l := G ++ [t]), List.getElem?_append_right (by rw [h.1]; exact Nat.le_refl _), List.getElem?_append_right (Nat.le_refl _), h.1, Nat.sub_self]
    exact ⟨h1, h2, h3⟩

namespace Fo
/-- The trees within a forest, each with its scope, from the front. -/
def spots (G : List Int) : Fo → List ((Nd × Fo) × List Int)
  | nil => []
  | cons n k r => ((n, k), G) :: (spots (innerN n G) k ++ spots G r)
theorem spots_len (G : List Int) (f : Fo) : (f.spots G).length = f.count := by
  induction f generalizing G with
  | nil => rfl
  | cons n k r ihk ihr => simp [spots, count, ihk, ihr]
/-- Another tree in the place of the i-th. -/
def repl (i : Nat) (n' : Nd) (k' : Fo) : Fo → Fo
  | nil => nil
  | cons n k r => if i = 0 then cons n' k' r else if i ≤ k.count then cons n (repl (i - 1) n' k' k) r else cons n k (repl (i - 1 - k.count) n' k' r)
theorem repl_len (i : Nat) (n' : Nd) (k' f : Fo) : (Fo.repl i n' k' f).len = f.len := by
  induction f generalizing i with
  | nil => rfl
  | cons n k r _ ih =>
    simp only [repl]
    split
    · rfl
    · split
      · rfl
      · simp [len, ih]
end Fo

section
variable (D : Dom) (atoms : List AtD)
theorem evN_congr {n : Nd} {kv kv' : List Int → List Bool} {G ps : List Int} (he : Env D G ps) (h : ∀ qs, Env D (innerN n G) qs → kv qs = kv' qs) : evN D atoms n kv ps = evN D atoms n kv' ps := by
  unfold evN
  by_cases hq : isQ n.kind = true
  · have hin : innerN n G = G ++ [n.typ] := by unfold innerN; rw [if_pos hq]
    rw [hin] at h
    have hk : n.kind = 7 ∨ n.kind = 8 := by unfold isQ at hq; simpa using hq
    have hall : ∀ o ∈ ofL D.types D.objects n.typ, kv (ps ++ [o]) = kv' (ps ++ [o]) := fun o ho => h _ (he.push ho)
    rcases hk with hk | hk
    · simp only [hk]
      simp only [show ¬((7 : Int) = 2) by decide, show ¬((7 : Int) = 3) by decide, show ¬((7 : Int) = 4) by decide, show ¬((7 : Int) = 5) by decide, show ¬((7 : Int) = 6) by decide, if_false, if_true]
      rw [Bool.eq_iff_iff, List.any_eq_true, List.any_eq_true]
      constructor
      · rintro ⟨o, ho, h1⟩; exact ⟨o, ho, by rw [← hall o ho]; exact h1⟩
      · rintro ⟨o, ho, h1⟩; exact ⟨o, ho, by rw [hall o ho]; exact h1⟩
    · simp only [hk]
      simp only [show ¬((8 : Int) = 2) by decide, show ¬((8 : Int) = 3) by decide, show ¬((8 : Int) = 4) by decide, show ¬((8 : Int) = 5) by decide, show ¬((8 : Int) = 6) by decide, show ¬((8 : Int) = 7) by decide, if_false, if_true]
      rw [Bool.eq_iff_iff, List.all_eq_true, List.all_eq_true]
      constructor
      · intro h1 o ho; rw [← hall o ho]; exact h1 o ho
      · intro h1 o ho; rw [hall o ho]; exact h1 o ho
  · have hq : isQ n.kind = false := by simpa using hq
    rw [innerN_not hq] at h
    have hk : ¬ n.kind = 7 ∧ ¬ n.kind = 8 := by unfold isQ at hq; simpa using hq
    rw [h ps he, if_neg hk.1, if_neg hk.2, if_neg hk.1, if_neg hk.2]

/-- In a scope, two trees that are right and say the same. -/
structure Same (G : List Int) (n : Nd) (k : Fo) (n' : Nd) (k' : Fo) : Prop where
  shaped : (Fo.one n' k').Shaped
  ok : OkF D G (Fo.one n' k')
  ev : ∀ ps, Env D G ps → evN D atoms n' (evF D atoms k') ps = evN D atoms n (evF D atoms k) ps

theorem repl_same (n' : Nd) (k' f : Fo) : ∀ (i : Nat) (G : List Int) (n : Nd) (k : Fo) (G' : List Int), (f.spots G)[i]? = some ((n, k), G') → f.Shaped → OkF D G f → (OkF D G' (Fo.one n k) → (Fo.one n k).Shaped → Same D atoms G' n k n' k') →
    (Fo.repl i n' k' f).Shaped ∧ OkF D G (Fo.repl i n' k' f) ∧ ∀ ps, Env D G ps → evF D atoms (Fo.repl i n' k' f) ps = evF D atoms f ps := by
  induction f with
  | nil => intro i G n k G' h; simp [Fo.spots] at h
  | cons m q r ihq ihr =>
    intro i G n k G' hi hs ho hsame
    obtain ⟨s1, s2, s3, s4⟩ := hs
    obtain ⟨o1, o2, o3⟩ := ho
    simp only [Fo.repl]
    cases i with
    | zero =>
      simp only [Fo.spots, List.getElem?_cons_zero, Option.some.injEq, Prod.mk.injEq] at hi
      obtain ⟨⟨rfl, rfl⟩, rfl⟩ := hi
      have h := hsame ⟨o1, o2, trivial⟩ ⟨s1, s2, s3, trivial⟩
      rw [if_pos rfl]
      obtain ⟨t1, t2, t3, -⟩ := h.shaped
      obtain ⟨p1, p2, -⟩ := h.ok
      exact ⟨⟨t1, t2, t3, s4⟩, ⟨p1, p2, o3⟩, fun ps he => by simp only [evF]; rw [h.ev ps he]⟩
    | succ i =>
      rw [if_neg (by omega)]
      simp only [Fo.spots, List.getElem?_cons_succ] at hi
      by_cases hle : i + 1 ≤ q.count
      · rw [if_pos hle]
        rw [List.getElem?_append_left (by rw [Fo.spots_len]; omega)] at hi
        obtain ⟨a1, a2, a3⟩ := ihq i _ n k G' hi s3 o2 hsame
        refine ⟨⟨s1, ?_, a1, s4⟩, ⟨o1, a2, o3⟩, fun ps he => ?_⟩
        · rw [Nat.add_sub_cancel, Fo.repl_len]; exact s2
        · simp only [evF, Nat.add_sub_cancel]
          rw [evN_congr D atoms he a3]
      · rw [if_neg hle]
        rw [List.getElem?_append_right (by rw [Fo.spots_len]; omega), Fo.spots_len] at hi
        obtain ⟨a1, a2, a3⟩ := ihr _ _ n k G' hi s4 o3 hsame
        refine ⟨⟨s1, s2, s3, by rw [Nat.add_sub_cancel]; exact a1⟩, ⟨o1, o2, by rw [Nat.add_sub_cancel]; exact a2⟩, fun ps he => ?_⟩
        simp only [evF, Nat.add_sub_cancel]
        rw [a3 ps he]
end
end Go.Proofs.Ytodlkjjoenglgaa

/- The plain law, 6: what each law puts in a tree's place. -/
namespace Go.Proofs.Ytodlkjjoenglgaa
open Go Go.RowKit

section
variable (D : Dom) (atoms : List AtD)
theorem ev_true (k : Fo) (ps : List Int) : evN D atoms (zNd 1) (evF D atoms k) ps = true := by simp [evN, zNd]
theorem ev_not (n : Nd) (k : Fo) (ps : List Int) : evN D atoms (zNd 4) (evF D atoms (Fo.one n k)) ps = !(evN D atoms n (evF D atoms k) ps) := by simp [evN, zNd, Fo.one, evF]
theorem ev_and (k : Fo) (ps : List Int) : evN D atoms (zNd 5) (evF D atoms k) ps = (evF D atoms k ps).all id := by simp [evN, zNd]
theorem ev_or (k : Fo) (ps : List Int) : evN D atoms (zNd 6) (evF D atoms k) ps = (evF D atoms k ps).any id := by simp [evN, zNd]
theorem evF_one (n : Nd) (k : Fo) (ps : List Int) : evF D atoms (Fo.one n k) ps = [evN D atoms n (evF D atoms k) ps] := rfl
theorem evF_cons (n : Nd) (k r : Fo) (ps : List Int) : evF D atoms (Fo.cons n k r) ps = evN D atoms n (evF D atoms k) ps :: evF D atoms r ps := rfl
theorem evF_nil (ps : List Int) : evF D atoms .nil ps = [] := rfl
end

theorem ok_con {D : Dom} {G : List Int} {kd : Int} {k r : Fo} (h : kd = 1 ∨ kd = 4 ∨ kd = 5 ∨ kd = 6) : OkF D G (.cons (zNd kd) k r) ↔ OkF D G k ∧ OkF D G r := by
  have hq : isQ (zNd kd).kind = false := by rcases h with rfl | rfl | rfl | rfl <;> rfl
  have hl : leafCode D (zNd kd) G = 0 := by rcases h with rfl | rfl | rfl | rfl <;> rfl
  show (OkN D (zNd kd) G ∧ AllF (OkN D) (innerN (zNd kd) G) k ∧ AllF (OkN D) G r) ↔ _
  rw [innerN_not hq]
  constructor
  · rintro ⟨-, h1, h2⟩; exact ⟨h1, h2⟩
  · rintro ⟨h1, h2⟩; exact ⟨⟨hl, fun h => by rw [hq] at h; cases h⟩, h1, h2⟩
theorem ok_one {D : Dom} {G : List Int} {n : Nd} {k : Fo} {r : Fo} : OkF D G (.cons n k r) ↔ OkF D G (Fo.one n k) ∧ OkF D G r := by
  show (OkN D n G ∧ AllF (OkN D) (innerN n G) k ∧ AllF (OkN D) G r) ↔ (OkN D n G ∧ AllF (OkN D) (innerN n G) k ∧ True) ∧ _
  constructor
  · rintro ⟨h1, h2, h3⟩; exact ⟨⟨h1, h2, trivial⟩, h3⟩
  · rintro ⟨⟨h1, h2, -⟩, h3⟩; exact ⟨h1, h2, h3⟩
theorem ok_nil {D : Dom} {G : List Int} : OkF D G .nil := trivial
theorem shaped_cons {n : Nd} {k r : Fo} : (Fo.cons n k r).Shaped ↔ (Fo.one n k).Shaped ∧ r.Shaped := by
  show (_ ∧ _ ∧ _ ∧ _) ↔ (_ ∧ _ ∧ _ ∧ True) ∧ _
  constructor
  · rintro ⟨h1, h2, h3, h4⟩; exact ⟨⟨h1, h2, h3, trivial⟩, h4⟩
  · rintro ⟨⟨h1, h2, h3, -⟩, h4⟩; exact ⟨h1, h2, h3, h4⟩
theorem shaped_con {kd : Int} {k : Fo} (h : kd = 5 ∨ kd = 6) : (Fo.one (zNd kd) k).Shaped ↔ k.Shaped := by
  show (_ ∧ _ ∧ _ ∧ True) ↔ _
  constructor
  · rintro ⟨-, -, h3, -⟩; exact h3
  · intro h3
    refine ⟨?_, .inl ?_, h3, trivial⟩
    · rcases h with rfl | rfl <;> decide
    · rcases h with rfl | rfl <;> decide
theorem shaped_not {n : Nd} {k : Fo} : (Fo.one (zNd 4) (Fo.one n k)).Shaped ↔ (Fo.one n k).Shaped := by
  show (_ ∧ _ ∧ _ ∧ True) ↔ _
  constructor
  · rintro ⟨-, -, h3, -⟩; exact h3
  · intro h3
    exact ⟨by decide, .inr rfl, h3, trivial⟩
theorem shaped_true : (Fo.one (zNd 1) .nil).Shaped := ⟨by decide, .inr rfl, trivial, trivial⟩

/-- TopCondsKept's trees. -/
def keptT (how : Nat) (n : Nd) (k : Fo) : Nd × Fo :=
  match how with
  | 0 => (zNd 4, .one (zNd 4) (.one n k))
  | 1 => (zNd 5, .one n k)
  | 2 => (zNd 6, .one n k)
  | 3 => (zNd 5, .cons n k (.one n k))
  | 4 => (zNd 6, .cons n k (.one n k))
  | 5 => (zNd 5, .cons (zNd 1) .nil (.one n k))
  | 6 => (zNd 6, .cons n k (.one (zNd 6) .nil))
  | _ => (zNd 5, .cons n k (.one (zNd 5) .nil))

theorem kept_same (D : Dom) (atoms : List AtD) (how : Nat) (G : List Int) (n : Nd) (k : Fo) (ho : OkF D G (Fo.one n k)) (hs : (Fo.one n k).Shaped) : Same D atoms G n k (keptT how n k).1 (keptT how n k).2 := by
  have hn4 := (ok_con (D := D) (G := G) (kd := 4) (k := Fo.one n k) (r := .nil) (by simp)).2 ⟨ho, ok_nil⟩
  have h6 : OkF D G (Fo.one (zNd 6) .nil) := (ok_con (by simp)).2 ⟨ok_nil, ok_nil⟩
  have h5 : OkF D G (Fo.one (zNd 5) .nil) := (ok_con (by simp)).2 ⟨ok_nil, ok_nil⟩
  have h1 : OkF D G (Fo.one (zNd 1) .nil) := (ok_con (by simp)).2 ⟨ok_nil, ok_nil⟩
  have s5 : (Fo.one (zNd 5) .nil).Shaped := (shaped_con (by simp)).2 trivial
  have s6 : (Fo.one (zNd 6) .nil).Shaped := (shaped_con (by simp)).2 trivial
  unfold keptT
  split
  · exact ⟨shaped_not.2 (shaped_not.2 hs), (ok_con (by simp)).2 ⟨hn4, ok_nil⟩, fun ps _ => by rw [ev_not, ev_not, Bool.not_not]⟩
  · exact ⟨(shaped_con (by simp)).2 hs, (ok_con (by simp)).2 ⟨ho, ok_nil⟩, fun ps _ => by rw [ev_and, evF_one]; simp⟩
  · exact ⟨(shaped_con (by simp)).2 hs, (ok_con (by simp)).2 ⟨ho, ok_nil⟩, fun ps _ => by rw [ev_or, evF_one]; simp⟩
  · exact ⟨(shaped_con (by simp)).2 (shaped_cons.2 ⟨hs, hs⟩), (ok_con (by simp)).2 ⟨ok_one.2 ⟨ho, ho⟩, ok_nil⟩, fun ps _ => by rw [ev_and, evF_cons, evF_one]; simp⟩
  · exact ⟨(shaped_con (by simp)).2 (shaped_cons.2 ⟨hs, hs⟩), (ok_con (by simp)).2 ⟨ok_one.2 ⟨ho, ho⟩, ok_nil⟩, fun ps _ => by rw [ev_or, evF_cons, evF_one]; simp⟩
  · exact ⟨(shaped_con (by simp)).2 (shaped_cons.2 ⟨shaped_true, hs⟩), (ok_con (by simp)).2 ⟨ok_one.2 ⟨h1, ho⟩, ok_nil⟩, fun ps _ => by rw [ev_and, evF_cons, evF_one, ev_true]; simp⟩
  · exact ⟨(shaped_con (by simp)).2 (shaped_cons.2 ⟨hs, s6⟩), (ok_con (by simp)).2 ⟨ok_one.2 ⟨ho, h6⟩, ok_nil⟩, fun ps _ => by rw [ev_or, evF_cons, evF_one, ev_or, evF_nil]; simp⟩
  · exact ⟨(shaped_con (by simp)).2 (shaped_cons.2 ⟨hs, s5⟩), (ok_con (by simp)).2 ⟨ok_one.2 ⟨ho, h5⟩, ok_nil⟩, fun ps _ => by rw [ev_and, evF_cons, evF_one, ev_and, evF_nil]; simp⟩
end Go.Proofs.Ytodlkjjoenglgaa

/- The plain law, 7: Denied, Turned. -/
namespace Go.Proofs.Ytodlkjjoenglgaa
open Go Go.RowKit

def notAll : Fo → Fo
  | .nil => .nil
  | .cons n k r => .cons (zNd 4) (.one n k) (notAll r)
theorem notAll_len (f : Fo) : (notAll f).len = f.len := by
  induction f with
  | nil => rfl
  | cons n k r _ ih => simp [notAll, Fo.len, ih]
theorem notAll_shaped {f : Fo} (h : f.Shaped) : (notAll f).Shaped := by
  induction f with
  | nil => trivial
  | cons n k r _ ih =>
    obtain ⟨h1, h2⟩ := shaped_cons.1 h
    exact shaped_cons.2 ⟨shaped_not.2 h1, ih h2⟩
theorem notAll_ok {D : Dom} {G : List Int} {f : Fo} (h : OkF D G f) : OkF D G (notAll f) := by
  induction f with
  | nil => trivial
  | cons n k r _ ih =>
    obtain ⟨h1, h2⟩ := ok_one.1 h
    exact (ok_con (by simp)).2 ⟨h1, ih h2⟩
theorem notAll_ev (D : Dom) (atoms : List AtD) (f : Fo) (ps : List Int) : evF D atoms (notAll f) ps = (evF D atoms f ps).map (!·) := by
  induction f with
  | nil => rfl
  | cons n k r _ ih => rw [notAll, evF_cons, ev_not, ih]; rfl

/-- TopCondsDenied's tree. -/
def denT (n : Nd) (k : Fo) : Nd × Fo := (zNd 4, .one { n with kind := dual n.kind } (notAll k))
theorem den_same (D : Dom) (atoms : List AtD) (G : List Int) (n : Nd) (k : Fo) (hk : n.kind = 5 ∨ n.kind = 6 ∨ n.kind = 7 ∨ n.kind = 8) (ho : OkF D G (Fo.one n k)) (hs : (Fo.one n k).Shaped) : Same D atoms G n k (denT n k).1 (denT n k).2 := by
  obtain ⟨h1, h2, h3, -⟩ := hs
  obtain ⟨⟨l1, l2⟩, o2, -⟩ := ho
  refine ⟨shaped_not.2 ⟨dual_range h1, ?_, notAll_shaped h3, trivial⟩, (ok_con (by simp)).2 ⟨⟨⟨?_, ?_⟩, ?_, trivial⟩, ok_nil⟩, fun ps _ => ?_⟩
  · show arityOf (dual n.kind) < 0 ∨ ((notAll k).len : Int) = arityOf (dual n.kind)
    rw [arity_dual, notAll_len]; exact h2
  · unfold leafCode
    simp only
    rcases hk with h | h | h | h <;> rw [h] <;> rfl
  · intro hq
    exact l2 (by rw [← isQ_dual]; exact hq)
  · rw [innerN_dual]
    exact notAll_ok o2
  · show evN D atoms (zNd 4) (evF D atoms (Fo.one { n with kind := dual n.kind } (notAll k))) ps = _
    rw [ev_not]
    have hq : (n.kind = 7 ∨ n.kind = 8) → ∀ qs, (evF D atoms (notAll k) qs).headD true = !((evF D atoms k qs).headD true) := fun hk qs => by
      rw [notAll_ev, headD_map _ (by rw [evF_len]; unfold arityOf at h2; rw [if_pos (by omega)] at h2; omega)]
    rcases hk with h | h | h | h
    · simp only [evN, h, dual]
      simp [notAll_ev]
      have := any_neg (evF D atoms k ps) id
      simp only [id] at this ⊢
      rw [this]
    · simp only [evN, h, dual]
      simp [notAll_ev]
      have := all_neg (evF D atoms k ps) id
      simp only [id] at this ⊢
      rw [this]
    · have he : (fun o => (evF D atoms (notAll k) (ps ++ [o])).headD true) = fun o => !((evF D atoms k (ps ++ [o])).headD true) := funext fun o => hq (.inl h) _
      simp only [evN, h, dual, he]
      simp only [all_neg]
      simp
    · have he : (fun o => (evF D atoms (notAll k) (ps ++ [o])).headD true) = fun o => !((evF D atoms k (ps ++ [o])).headD true) := funext fun o => hq (.inr h) _
      simp only [evN, h, dual, he]
      simp only [any_neg]
      simp

/-- The trees of a forest the other way round. -/
def revF : Fo → Fo
  | .nil => .nil
  | .cons n k r => (revF r).app (.one n k)
theorem revF_len (f : Fo) : (revF f).len = f.len := by
  induction f with
  | nil => rfl
  | cons n k r _ ih => rw [revF, Fo.len_app, ih]; rfl
theorem revF_shaped {f : Fo} (h : f.Shaped) : (revF f).Shaped := by
  induction f with
  | nil => trivial
  | cons n k r _ ih =>
    obtain ⟨h1, h2⟩ := shaped_cons.1 h
    exact (Fo.shaped_app _ _).2 ⟨ih h2, h1⟩
theorem revF_ok {D : Dom} {G : List Int} {f : Fo} (h : OkF D G f) : OkF D G (revF f) := by
  induction f with
  | nil => trivial
  | cons n k r _ ih =>
    obtain ⟨h1, h2⟩ := ok_one.1 h
    exact AllF.app.2 ⟨ih h2, h1⟩
theorem revF_ev (D : Dom) (atoms : List AtD) (f : Fo) (ps : List Int) : evF D atoms (revF f) ps = (evF D atoms f ps).reverse := by
  induction f with
  | nil => rfl
  | cons n k r _ ih => rw [revF, evF_app, ih, evF_cons, List.reverse_cons, evF_one]

theorem ok_kids {D : Dom} {G : List Int} {n : Nd} {k : Fo} (hk : n.kind = 5 ∨ n.kind = 6) (h : OkF D G (Fo.one n k)) : OkF D G k := by
  obtain ⟨-, h2, -⟩ := h
  rwa [innerN_not (by rcases hk with h | h <;> rw [h] <;> rfl)] at h2
theorem evN_kind (D : Dom) (atoms : List AtD) (n : Nd) (kv : List Int → List Bool) (ps : List Int) (hk : n.kind = 5 ∨ n.kind = 6) : evN D atoms n kv ps = evN D atoms (zNd n.kind) kv ps := by
  rcases hk with h | h <;> simp [evN, zNd, h]
/-- TopCondsTurned's trees. -/
theorem turn_same (D : Dom) (atoms : List AtD) (G : List Int) (n : Nd) (k : Fo) (hk : n.kind = 5 ∨ n.kind = 6) (ho : OkF D G (Fo.one n k)) (hs : (Fo.one n k).Shaped) : Same D atoms G n k n (revF k) := by
  have ho2 := ok_kids hk ho
  obtain ⟨h1, h2, h3, -⟩ := hs
  obtain ⟨o1, o2, -⟩ := ho
  refine ⟨⟨h1, by rw [revF_len]; exact h2, revF_shaped h3, trivial⟩, ⟨o1, revF_ok o2, trivial⟩, fun ps _ => ?_⟩
  rw [evN_kind D atoms n _ ps hk, evN_kind D atoms n _ ps hk]
  rcases hk with h | h <;> rw [h]
  · rw [ev_and, ev_and, revF_ev, List.all_reverse]
  · rw [ev_or, ev_or, revF_ev, List.any_reverse]
theorem group_same (D : Dom) (atoms : List AtD) (G : List Int) (n : Nd) (k1 k2 : Fo) (hk : n.kind = 5 ∨ n.kind = 6) (ho : OkF D G (Fo.one n (k1.app k2))) (hs : (Fo.one n (k1.app k2)).Shaped) : Same D atoms G n (k1.app k2) (zNd n.kind) (.cons (zNd n.kind) k1 k2) := by
  have ho2 := AllF.app.1 (ok_kids hk ho)
  obtain ⟨h1, h2, h3, -⟩ := hs
  have h4 := (Fo.shaped_app _ _).1 h3
  have hc : n.kind = 1 ∨ n.kind = 4 ∨ n.kind = 5 ∨ n.kind = 6 := by omega
  refine ⟨(shaped_con hk).2 (shaped_cons.2 ⟨(shaped_con hk).2 h4.1, h4.2⟩), (ok_con hc).2 ⟨(ok_con hc).2 ⟨ho2.1, ho2.2⟩, ok_nil⟩, fun ps _ => ?_⟩
  rw [evN_kind D atoms n _ ps hk]
  rcases hk with h | h <;> rw [h]
  · rw [ev_and, ev_and, evF_cons, ev_and, evF_app]; simp
  · rw [ev_or, ev_or, evF_cons, ev_or, evF_app]; simp
end Go.Proofs.Ytodlkjjoenglgaa

/- The plain law, 8: Flat, Absorbed, Distributed. -/
namespace Go.Proofs.Ytodlkjjoenglgaa
open Go Go.RowKit

theorem flat_same (D : Dom) (atoms : List AtD) (G : List Int) (n m : Nd) (k1 q k2 : Fo) (hk : n.kind = 5 ∨ n.kind = 6) (hm : m.kind = n.kind) (ho : OkF D G (Fo.one n (k1.app (.cons m q k2)))) (hs : (Fo.one n (k1.app (.cons m q k2))).Shaped) :
    Same D atoms G n (k1.app (.cons m q k2)) (zNd n.kind) (k1.app (q.app k2)) := by
  obtain ⟨a1, a2⟩ := AllF.app.1 (ok_kids hk ho)
  obtain ⟨a3, a4⟩ := ok_one.1 a2
  have a5 := ok_kids (by rw [hm]; exact hk) a3
  obtain ⟨h1, h2, h3, -⟩ := hs
  obtain ⟨b1, b2⟩ := (Fo.shaped_app _ _).1 h3
  obtain ⟨b3, b4⟩ := shaped_cons.1 b2
  obtain ⟨-, -, b5, -⟩ := b3
  have hc : n.kind = 1 ∨ n.kind = 4 ∨ n.kind = 5 ∨ n.kind = 6 := by omega
  refine ⟨(shaped_con hk).2 ((Fo.shaped_app _ _).2 ⟨b1, (Fo.shaped_app _ _).2 ⟨b5, b4⟩⟩), (ok_con hc).2 ⟨AllF.app.2 ⟨a1, AllF.app.2 ⟨a5, a4⟩⟩, ok_nil⟩, fun ps _ => ?_⟩
  rw [evN_kind D atoms n _ ps hk]
  have hmk := evN_kind D atoms m (evF D atoms q) ps (by rw [hm]; exact hk)
  rw [hm] at hmk
  rcases hk with h | h <;> rw [h] at hmk ⊢
  · rw [ev_and, ev_and, evF_app, evF_app, evF_app, evF_cons, hmk, ev_and]; simp
  · rw [ev_or, ev_or, evF_app, evF_app, evF_app, evF_cons, hmk, ev_or]; simp

theorem spots_prefix {f : Fo} : ∀ {G : List Int} {x : Nd × Fo} {G' : List Int}, (x, G') ∈ f.spots G → ∃ l, G' = G ++ l := by
  induction f with
  | nil => intro G x G' h; simp [Fo.spots] at h
  | cons n k r ihk ihr =>
    intro G x G' h
    simp only [Fo.spots, List.mem_cons, List.mem_append] at h
    rcases h with h | h | h
    · exact ⟨[], by cases h; simp⟩
    · obtain ⟨l, hl⟩ := ihk h
      unfold innerN at hl
      split at hl
      · exact ⟨_, by rw [hl, List.append_assoc]⟩
      · exact ⟨l, hl⟩
    · exact ihr h
theorem spots_ok {D : Dom} {f : Fo} : ∀ {G : List Int} {n : Nd} {k : Fo} {G' : List Int}, ((n, k), G') ∈ f.spots G → OkF D G f → f.Shaped → OkF D G' (Fo.one n k) ∧ (Fo.one n k).Shaped := by
  induction f with
  | nil => intro G n k G' h; simp [Fo.spots] at h
  | cons m q r ihk ihr =>
    intro G n k G' h ho hs
    obtain ⟨o1, o2⟩ := ok_one.1 ho
    obtain ⟨s1, s2⟩ := shaped_cons.1 hs
    simp only [Fo.spots, List.mem_cons, List.mem_append] at h
    rcases h with h | h | h
    · cases h; exact ⟨o1, s1⟩
    · exact ihk h o1.2.1 s1.2.2.1
    · exact ihr h o2 s2

/-- TopCondsAbsorbed's trees. -/
def absT (how : Nat) (n : Nd) (k : Fo) (m : Nd) (q : Fo) : Nd × Fo :=
  match how with
  | 0 => (zNd 5, .cons n k (.one (zNd 6) (.cons n k (.one m q))))
  | 1 => (zNd 6, .cons (zNd 5) (.cons m q (.one n k)) (.one n k))
  | _ => (zNd 5, .cons (zNd 6) (.cons m q (.one (zNd 4) (.one m q))) (.one n k))
theorem abs_same (D : Dom) (atoms : List AtD) (how : Nat) (G : List Int) (n m : Nd) (k q : Fo) (ho : OkF D G (Fo.one n k)) (hs : (Fo.one n k).Shaped) (ho' : OkF D G (Fo.one m q)) (hs' : (Fo.one m q).Shaped) : Same D atoms G n k (absT how n k m q).1 (absT how n k m q).2 := by
  have hn4 : OkF D G (Fo.one (zNd 4) (Fo.one m q)) := (ok_con (by simp)).2 ⟨ho', ok_nil⟩
  unfold absT
  split
  · exact ⟨(shaped_con (by simp)).2 (shaped_cons.2 ⟨hs, (shaped_con (by simp)).2 (shaped_cons.2 ⟨hs, hs'⟩)⟩), (ok_con (by simp)).2 ⟨ok_one.2 ⟨ho, (ok_con (by simp)).2 ⟨ok_one.2 ⟨ho, ho'⟩, ok_nil⟩⟩, ok_nil⟩, fun ps _ => by
      rw [ev_and, evF_cons, evF_one, ev_or, evF_cons, evF_one]; cases evN D atoms n (evF D atoms k) ps <;> simp⟩
  · exact ⟨(shaped_con (by simp)).2 (shaped_cons.2 ⟨(shaped_con (by simp)).2 (shaped_cons.2 ⟨hs', hs⟩), hs⟩), (ok_con (by simp)).2 ⟨(ok_con (by simp)).2 ⟨ok_one.2 ⟨ho', ho⟩, ho⟩, ok_nil⟩, fun ps _ => by
      rw [ev_or, evF_cons, evF_one, ev_and, evF_cons, evF_one]; cases evN D atoms n (evF D atoms k) ps <;> simp⟩
  · exact ⟨(shaped_con (by simp)).2 (shaped_cons.2 ⟨(shaped_con (by simp)).2 (shaped_cons.2 ⟨hs', shaped_not.2 hs'⟩), hs⟩), (ok_con (by simp)).2 ⟨(ok_con (by simp)).2 ⟨ok_one.2 ⟨ho', hn4⟩, ho⟩, ok_nil⟩, fun ps _ => by
      rw [ev_and, evF_cons, evF_one, ev_or, evF_cons, evF_one, ev_not]; cases evN D atoms m (evF D atoms q) ps <;> simp⟩

/-- A tree beside each of a forest. -/
def beside (kd : Int) (a : Nd) (ka : Fo) : Fo → Fo
  | .nil => .nil
  | .cons x kx r => .cons (zNd kd) (.cons a ka (.one x kx)) (beside kd a ka r)
theorem beside_shaped {kd : Int} {a : Nd} {ka f : Fo} (hk : kd = 5 ∨ kd = 6) (ha : (Fo.one a ka).Shaped) (h : f.Shaped) : (beside kd a ka f).Shaped := by
  induction f with
  | nil => trivial
  | cons n k r _ ih =>
    obtain ⟨h1, h2⟩ := shaped_cons.1 h
    exact shaped_cons.2 ⟨(shaped_con hk).2 (shaped_cons.2 ⟨ha, h1⟩), ih h2⟩
theorem beside_ok {D : Dom} {G : List Int} {kd : Int} {a : Nd} {ka f : Fo} (hk : kd = 5 ∨ kd = 6) (ha : OkF D G (Fo.one a ka)) (h : OkF D G f) : OkF D G (beside kd a ka f) := by
  induction f with
  | nil => trivial
  | cons n k r _ ih =>
    obtain ⟨h1, h2⟩ := ok_one.1 h
    exact (ok_con (by omega)).2 ⟨ok_one.2 ⟨ha, h1⟩, ih h2⟩
theorem beside_ev (D : Dom) (atoms : List AtD) (a : Nd) (ka f : Fo) (ps : List Int) :
    evF D atoms (beside 5 a ka f) ps = (evF D atoms f ps).map (fun y => evN D atoms a (evF D atoms ka) ps && y) ∧ evF D atoms (beside 6 a ka f) ps = (evF D atoms f ps).map (fun y => evN D atoms a (evF D atoms ka) ps || y) := by
  induction f with
  | nil => exact ⟨rfl, rfl⟩
  | cons n k r _ ih =>
    constructor
    · rw [beside, evF_cons, ev_and, evF_cons, evF_one, ih.1, evF_cons]; simp
    · rw [beside, evF_cons, ev_or, evF_cons, evF_one, ih.2, evF_cons]; simp
theorem any_and (x : Bool) (l : List Bool) : (l.map (fun y => x && y)).any id = (x && l.any id) := by
  induction l with
  | nil => simp
  | cons y l ih => cases x <;> simp_all
theorem all_or (x : Bool) (l : List Bool) : (l.map (fun y => x || y)).all id = (x || l.all id) := by
  induction l with
  | nil => simp
  | cons y l ih => cases x <;> simp_all
/-- TopCondsDistributed's trees. -/
theorem dist_same (D : Dom) (atoms : List AtD) (G : List Int) (n a b : Nd) (ka kb k : Fo) (hk : n.kind = 5 ∨ n.kind = 6) (hb : b.kind = 11 - n.kind) (hab : k = .cons a ka (.one b kb) ∨ k = .cons b kb (.one a ka)) (ho : OkF D G (Fo.one n k)) (hs : (Fo.one n k).Shaped) :
    Same D atoms G n k (zNd (11 - n.kind)) (beside n.kind a ka kb) := by
  have o1 := ok_kids hk ho
  obtain ⟨h1, h2, h3, -⟩ := hs
  have oab : OkF D G (Fo.one a ka) ∧ OkF D G (Fo.one b kb) := by
    rcases hab with rfl | rfl
    · exact ok_one.1 o1
    · exact (ok_one.1 o1).symm
  have sab : (Fo.one a ka).Shaped ∧ (Fo.one b kb).Shaped := by
    rcases hab with rfl | rfl
    · exact shaped_cons.1 h3
    · exact (shaped_cons.1 h3).symm
  have hbk : b.kind = 5 ∨ b.kind = 6 := by omega
  have hc : 11 - n.kind = 1 ∨ 11 - n.kind = 4 ∨ 11 - n.kind = 5 ∨ 11 - n.kind = 6 := by omega
  refine ⟨(shaped_con (by omega)).2 (beside_shaped hk sab.1 sab.2.2.2.1), (ok_con hc).2 ⟨beside_ok hk oab.1 (ok_kids hbk oab.2), ok_nil⟩, fun ps _ => ?_⟩
  rw [evN_kind D atoms n _ ps hk]
  have hbb := evN_kind D atoms b (evF D atoms kb) ps hbk
  rw [hb] at hbb
  rcases hk with h | h <;> rw [h] at hbb ⊢
  · rw [show (11 : Int) - 5 = 6 by decide] at hbb ⊢
    rw [ev_or] at hbb
    rw [ev_or, ev_and, (beside_ev D atoms a ka kb ps).1, any_and]
    rcases hab with rfl | rfl
    · rw [evF_cons, evF_one, hbb]; simp
    · rw [evF_cons, evF_one, hbb]; simp [Bool.and_comm]
  · rw [show (11 : Int) - 6 = 5 by decide] at hbb ⊢
    rw [ev_and] at hbb
    rw [ev_and, ev_or, (beside_ev D atoms a ka kb ps).2, all_or]
    rcases hab with rfl | rfl
    · rw [evF_cons, evF_one, hbb]; simp
    · rw [evF_cons, evF_one, hbb]; simp [Bool.or_comm]
end Go.Proofs.Ytodlkjjoenglgaa

/- The plain law, 9: Parted; renumbering of arguments. -/
namespace Go.Proofs.Ytodlkjjoenglgaa
open Go Go.RowKit

def qNd (kd t : Int) : Nd := ⟨kd, 0, [], 0, 0, t⟩
/-- A quantifier over each of a forest. -/
def overAll (kd t : Int) : Fo → Fo
  | .nil => .nil
  | .cons x kx r => .cons (qNd kd t) (.one x kx) (overAll kd t r)
theorem ev_ex (D : Dom) (atoms : List AtD) (t : Int) (kv : List Int → List Bool) (ps : List Int) : evN D atoms (qNd 7 t) kv ps = (ofL D.types D.objects t).any fun o => (kv (ps ++ [o])).headD true := by simp [evN, qNd]
theorem ev_all (D : Dom) (atoms : List AtD) (t : Int) (kv : List Int → List Bool) (ps : List Int) : evN D atoms (qNd 8 t) kv ps = (ofL D.types D.objects t).all fun o => (kv (ps ++ [o])).headD true := by simp [evN, qNd]
theorem evN_quant (D : Dom) (atoms : List AtD) (n : Nd) (kv : List Int → List Bool) (ps : List Int) (hk : n.kind = 7 ∨ n.kind = 8) : evN D atoms n kv ps = evN D atoms (qNd n.kind n.typ) kv ps := by
  rcases hk with h | h <;> simp [evN, qNd, h]
theorem ok_quant {D : Dom} {G : List Int} {kd t : Int} {k r : Fo} (h : kd = 7 ∨ kd = 8) : OkF D G (.cons (qNd kd t) k r) ↔ inRange D.types t ∧ OkF D (G ++ [t]) k ∧ OkF D G r := by
  have hq : isQ (qNd kd t).kind = true := by rcases h with rfl | rfl <;> rfl
  have hl : leafCode D (qNd kd t) G = 0 := by rcases h with rfl | rfl <;> rfl
  have hi : innerN (qNd kd t) G = G ++ [t] := by unfold innerN; rw [if_pos hq]; rfl
  show (OkN D (qNd kd t) G ∧ AllF (OkN D) (innerN (qNd kd t) G) k ∧ AllF (OkN D) G r) ↔ _
  rw [hi]
  constructor
  · rintro ⟨⟨-, h0⟩, h1, h2⟩; exact ⟨h0 hq, h1, h2⟩
  · rintro ⟨h0, h1, h2⟩; exact ⟨⟨hl, fun _ => h0⟩, h1, h2⟩
theorem shaped_quant {kd t : Int} {n : Nd} {k : Fo} (h : kd = 7 ∨ kd = 8) : (Fo.one (qNd kd t) (Fo.one n k)).Shaped ↔ (Fo.one n k).Shaped := by
  show (_ ∧ _ ∧ _ ∧ True) ↔ _
  constructor
  · rintro ⟨-, -, h3, -⟩; exact h3
  · intro h3
    refine ⟨?_, .inr ?_, h3, trivial⟩
    · show 1 ≤ kd ∧ kd ≤ 8
      omega
    · rcases h with rfl | rfl <;> rfl
/-- What a right quantifier has below it. -/
theorem quant_inv {D : Dom} {G : List Int} {n : Nd} {k : Fo} (hk : n.kind = 7 ∨ n.kind = 8) (ho : OkF D G (Fo.one n k)) (hs : (Fo.one n k).Shaped) :
    inRange D.types n.typ ∧ OkF D (G ++ [n.typ]) k ∧ ∃ m q, k = Fo.one m q ∧ (Fo.one m q).Shaped := by
  obtain ⟨-, h2, h3, -⟩ := hs
  obtain ⟨⟨-, o1⟩, o2, -⟩ := ho
  have hq : isQ n.kind = true := by rcases hk with h | h <;> rw [h] <;> rfl
  have hi : innerN n G = G ++ [n.typ] := by unfold innerN; rw [if_pos hq]
  rw [hi] at o2
  refine ⟨o1 hq, o2, ?_⟩
  have hl : k.len = 1 := by unfold arityOf at h2; rw [if_pos (by omega)] at h2; omega
  match k, hl with
  | .cons m q .nil, _ => exact ⟨m, q, rfl, h3⟩
theorem overAll_shaped {kd t : Int} {f : Fo} (hk : kd = 7 ∨ kd = 8) (h : f.Shaped) : (overAll kd t f).Shaped := by
  induction f with
  | nil => trivial
  | cons n k r _ ih =>
    obtain ⟨h1, h2⟩ := shaped_cons.1 h
    exact shaped_cons.2 ⟨(shaped_quant hk).2 h1, ih h2⟩
theorem overAll_ok {D : Dom} {G : List Int} {kd t : Int} {f : Fo} (hk : kd = 7 ∨ kd = 8) (ht : inRange D.types t) (h : OkF D (G ++ [t]) f) : OkF D G (overAll kd t f) := by
  induction f with
  | nil => trivial
  | cons n k r _ ih =>
    obtain ⟨h1, h2⟩ := ok_one.1 h
    exact (ok_quant hk).2 ⟨ht, h1, ih h2⟩
theorem overAll_all (D : Dom) (atoms : List AtD) (t : Int) (f : Fo) (ps : List Int) : (evF D atoms (overAll 8 t f) ps).all id = (ofL D.types D.objects t).all fun o => (evF D atoms f (ps ++ [o])).all id := by
  induction f with
  | nil => simp [overAll, evF]
  | cons n k r _ ih =>
    rw [overAll, evF_cons, ev_all, List.all_cons, ih]
    simp only [evF_cons, evF_one, List.all_cons, List.headD_cons, id]
    rw [Bool.eq_iff_iff]
    simp only [Bool.and_eq_true, List.all_eq_true]
    grind
theorem overAll_any (D : Dom) (atoms : List AtD) (t : Int) (f : Fo) (ps : List Int) : (evF D atoms (overAll 7 t f) ps).any id = (ofL D.types D.objects t).any fun o => (evF D atoms f (ps ++ [o])).any id := by
  induction f with
  | nil => simp [overAll, evF]
  | cons n k r _ ih =>
    rw [overAll, evF_cons, ev_ex, List.any_cons, ih]
    simp only [evF_cons, evF_one, List.any_cons, List.headD_cons, id]
    rw [Bool.eq_iff_iff]
    simp only [Bool.or_eq_true, List.any_eq_true]
    grind
/-- TopQuantsParted's trees. -/
theorem part_same (D : Dom) (atoms : List AtD) (G : List Int) (n m : Nd) (q : Fo) (hk : (n.kind = 8 ∧ m.kind = 5) ∨ (n.kind = 7 ∧ m.kind = 6)) (ho : OkF D G (Fo.one n (Fo.one m q))) (hs : (Fo.one n (Fo.one m q)).Shaped) :
    Same D atoms G n (Fo.one m q) (zNd m.kind) (overAll n.kind n.typ q) := by
  have hq : n.kind = 7 ∨ n.kind = 8 := by omega
  have hm : m.kind = 5 ∨ m.kind = 6 := by omega
  obtain ⟨h1, h2, -⟩ := quant_inv hq ho hs
  have h4 := ok_kids hm h2
  obtain ⟨-, -, ⟨-, -, s3, -⟩, -⟩ := hs
  refine ⟨(shaped_con hm).2 (overAll_shaped hq s3), (ok_con (by omega)).2 ⟨overAll_ok hq h1 h4, ok_nil⟩, fun ps _ => ?_⟩
  rw [evN_quant D atoms n _ ps hq]
  have he : ∀ qs, evN D atoms m (evF D atoms q) qs = evN D atoms (zNd m.kind) (evF D atoms q) qs := fun qs => evN_kind D atoms m _ qs hm
  rcases hk with ⟨h5, h6⟩ | ⟨h5, h6⟩ <;> simp only [h5, h6] at he ⊢
  · rw [ev_and, ev_all, overAll_all]
    simp only [evF_one, List.headD_cons, he, ev_and]
  · rw [ev_or, ev_ex, overAll_any]
    simp only [evF_one, List.headD_cons, he, ev_or]
end Go.Proofs.Ytodlkjjoenglgaa

/- The plain law, 10: arguments renumbered. -/
namespace Go.Proofs.Ytodlkjjoenglgaa
open Go Go.RowKit

def gN (g : Int → Int) (n : Nd) : Nd := if n.kind = 2 then { n with args := n.args.map g } else if n.kind = 3 then { n with left := g n.left, right := g n.right } else n
def gF (g : Int → Int) : Fo → Fo
  | .nil => .nil
  | .cons n k r => .cons (gN g n) (gF g k) (gF g r)
theorem gN_kind (g : Int → Int) (n : Nd) : (gN g n).kind = n.kind := by unfold gN; split <;> (try split) <;> rfl
theorem gN_typ (g : Int → Int) (n : Nd) : (gN g n).typ = n.typ := by unfold gN; split <;> (try split) <;> rfl
theorem gF_len (g : Int → Int) (f : Fo) : (gF g f).len = f.len := by
  induction f with
  | nil => rfl
  | cons n k r _ ih => simp [gF, Fo.len, ih]
theorem gF_shaped {g : Int → Int} {f : Fo} (h : f.Shaped) : (gF g f).Shaped := by
  induction f with
  | nil => trivial
  | cons n k r ihk ihr =>
    obtain ⟨h1, h2, h3, h4⟩ := h
    exact ⟨by rw [gN_kind]; exact h1, by rw [gN_kind, gF_len]; exact h2, ihk h3, ihr h4⟩
theorem innerN_gN (g : Int → Int) (n : Nd) (G : List Int) : innerN (gN g n) G = innerN n G := by unfold innerN; rw [gN_kind, gN_typ]

/-- What a renumbering must keep of an argument. -/
structure GArg (D : Dom) (g : Int → Int) (G G' : List Int) : Prop where
  ty : ∀ a t, argType D G a = some t → ∃ t', argType D G' (g a) = some t' ∧ ∀ y, isA D.types t y = true → isA D.types t' y = true
  bad : ∀ a, ¬ argBad D G.length a → ¬ argBad D G'.length (g a)

theorem scan_zero_iff {f : Nat → Int} {n : Nat} : scan f n = 0 ↔ ∀ j, j < n → f j = 0 := ⟨scan_zero, scan_none⟩
theorem argCode_zero {D : Dom} {G want args : List Int} {i : Nat} : argCode D G want args i = 0 ↔ ∃ t, argType D G (args.getD i 0) = some t ∧ isA D.types t (want.getD i 0) = true := by
  unfold argCode
  cases h : argType D G (args.getD i 0) with
  | none => simp
  | some t =>
    simp only [Option.some.injEq]
    by_cases h2 : isA D.types t (want.getD i 0) = true
    · rw [if_pos h2]; exact ⟨fun _ => ⟨t, rfl, h2⟩, fun _ => rfl⟩
    · rw [if_neg h2]; exact ⟨fun h => (by cases h), fun ⟨t', e, h3⟩ => absurd (e ▸ h3) h2⟩
theorem atomCode_zero {D : Dom} {G : List Int} {a : AtD} : atomCode D G a = 0 ↔ (0 ≤ a.pred ∧ a.pred < D.preds.length) ∧ a.args.length = (D.preds.getD a.pred.toNat dPr).2.length ∧
    ∀ i, i < a.args.length → ∃ t, argType D G (a.args.getD i 0) = some t ∧ isA D.types t ((D.preds.getD a.pred.toNat dPr).2.getD i 0) = true := by
  unfold atomCode
  by_cases h1 : a.pred < 0 ∨ (D.preds.length : Int) ≤ a.pred
  · rw [if_pos h1]; constructor
    · intro h; cases h
    · rintro ⟨h, -⟩; omega
  · rw [if_neg h1]
    by_cases h2 : a.args.length ≠ (D.preds.getD a.pred.toNat dPr).2.length
    · rw [if_pos h2]; constructor
      · intro h; cases h
      · rintro ⟨-, h, -⟩; exact absurd h h2
    · rw [if_neg h2, scan_zero_iff]
      simp only [argCode_zero]
      constructor
      · intro h; exact ⟨by omega, by omega, h⟩
      · rintro ⟨-, -, h⟩; exact h
theorem getD_map {l : List Int} {g : Int → Int} {i : Nat} (hi : i < l.length) : (l.map g).getD i 0 = g (l.getD i 0) := by
  rw [List.getD_eq_getElem?_getD, List.getElem?_map, List.getD_eq_getElem?_getD, List.getElem?_eq_getElem hi]; rfl

theorem gF_ok {D : Dom} {g : Int → Int} {R : List Int → List Int → Prop} (hp : ∀ G G' t, R G G' → R (G ++ [t]) (G' ++ [t])) (hg : ∀ G G', R G G' → GArg D g G G') (f : Fo) : ∀ G G', R G G' → OkF D G f → OkF D G' (gF g f) := by
  induction f with
  | nil => intro G G' _ _; trivial
  | cons n k r ihk ihr =>
    intro G G' hR ho
    obtain ⟨⟨o1, o2⟩, o3, o4⟩ := ho
    refine ⟨⟨?_, ?_⟩, ?_, ihr G G' hR o4⟩
    · have h := hg G G' hR
      unfold leafCode at o1 ⊢
      rw [gN_kind]
      by_cases h2 : n.kind = 2
      · rw [if_pos h2] at o1 ⊢
        obtain ⟨p1, p2, p3⟩ := atomCode_zero.1 o1
        have hn : gN g n = { n with args := n.args.map g } := by unfold gN; rw [if_pos h2]
        rw [hn]
        refine atomCode_zero.2 ⟨p1, by rw [List.length_map]; exact p2, fun i hi => ?_⟩
        rw [List.length_map] at hi
        obtain ⟨t, h3, h4⟩ := p3 i hi
        obtain ⟨t', h5, h6⟩ := h.ty _ t h3
        refine ⟨t', ?_, h6 _ h4⟩
        show argType D G' ((n.args.map g).getD i 0) = _
        rw [getD_map hi]; exact h5
      · rw [if_neg h2] at o1 ⊢
        by_cases h3 : n.kind = 3
        · rw [if_pos h3] at o1 ⊢
          have hn : gN g n = { n with left := g n.left, right := g n.right } := by unfold gN; rw [if_neg h2, if_pos h3]
          rw [hn]
          split at o1
          · cases o1
          · rename_i hb
            have hb := not_or.1 hb
            rw [if_neg]
            rintro (hc | hc)
            · exact h.bad _ hb.1 hc
            · exact h.bad _ hb.2 hc
        · rw [if_neg h3]
    · intro hq
      rw [gN_kind] at hq
      rw [gN_typ]
      exact o2 hq
    · rw [innerN_gN]
      refine ihk _ _ ?_ o3
      unfold innerN
      split
      · exact hp _ _ _ hR
      · exact hR

theorem argType_bad {D : Dom} {G : List Int} {a t : Int} (h : argType D G a = some t) : ¬ argBad D G.length a := by
  unfold argType at h
  unfold argBad
  split at h
  · omega
  · split at h
    · omega
    · cases h
theorem ok_args {D : Dom} {G : List Int} {n : Nd} (h : leafCode D n G = 0) : (n.kind = 2 → ∀ a ∈ n.args, ¬ argBad D G.length a) ∧ (n.kind = 3 → ¬ argBad D G.length n.left ∧ ¬ argBad D G.length n.right) := by
  unfold leafCode at h
  constructor
  · intro h2 a ha
    rw [if_pos h2] at h
    obtain ⟨-, -, p3⟩ := atomCode_zero.1 h
    obtain ⟨i, hi, rfl⟩ := List.getElem_of_mem ha
    obtain ⟨t, h3, -⟩ := p3 i hi
    rw [List.getD_eq_getElem?_getD, List.getElem?_eq_getElem hi] at h3
    exact argType_bad h3
  · intro h3
    rw [if_neg (by omega), if_pos h3] at h
    split at h
    · cases h
    · rename_i hb
      exact not_or.1 hb

/-- A renumbered forest says, in the new scope, what the old one says in the old scope. -/
theorem gF_ev {D : Dom} (atoms : List AtD) {g : Int → Int} {R : List Int → List Int → List Int → Prop} (hp : ∀ G ps ps' t o, R G ps ps' → R (G ++ [t]) (ps ++ [o]) (ps' ++ [o]))
    (hv : ∀ G ps ps', R G ps ps' → ∀ a, ¬ argBad D G.length a → valueOf ps' (g a) = valueOf ps a) (f : Fo) : ∀ G ps ps', R G ps ps' → OkF D G f → evF D atoms (gF g f) ps' = evF D atoms f ps := by
  induction f with
  | nil => intro G ps ps' _ _; rfl
  | cons n k r ihk ihr =>
    intro G ps ps' hR ho
    obtain ⟨⟨o1, o2⟩, o3, o4⟩ := ho
    simp only [gF, evF]
    rw [ihr G ps ps' hR o4]
    congr 1
    obtain ⟨a1, a2⟩ := ok_args o1
    have hv := hv G ps ps' hR
    by_cases h2 : n.kind = 2
    · have hn : gN g n = { n with args := n.args.map g } := by unfold gN; rw [if_pos h2]
      unfold evN
      rw [gN_kind, if_pos h2, if_pos h2, hn]
      congr 1
      unfold bindA
      simp only [List.map_map, AtD.mk.injEq, true_and]
      apply List.map_congr_left
      intro a ha
      exact hv a (a1 h2 a ha)
    · by_cases h3 : n.kind = 3
      · have hn : gN g n = { n with left := g n.left, right := g n.right } := by unfold gN; rw [if_neg h2, if_pos h3]
        unfold evN
        rw [gN_kind, if_neg h2, if_neg h2, if_pos h3, if_pos h3, hn]
        simp only [hv _ (a2 h3).1, hv _ (a2 h3).2]
      · have hn : gN g n = n := by unfold gN; rw [if_neg h2, if_neg h3]
        rw [hn]
        by_cases hq : isQ n.kind = true
        · have hin : innerN n G = G ++ [n.typ] := by unfold innerN; rw [if_pos hq]
          rw [hin] at o3
          have he : ∀ o, evF D atoms (gF g k) (ps' ++ [o]) = evF D atoms k (ps ++ [o]) := fun o => ihk _ _ _ (hp _ _ _ _ _ hR) o3
          have hk : n.kind = 7 ∨ n.kind = 8 := by unfold isQ at hq; simpa using hq
          rw [evN_quant D atoms n _ _ hk, evN_quant D atoms n _ _ hk]
          rcases hk with h | h <;> rw [h]
          · simp only [ev_ex, he]
          · simp only [ev_all, he]
        · have hq : isQ n.kind = false := by simpa using hq
          rw [innerN_not hq] at o3
          have he := ihk G ps ps' hR o3
          have hk : ¬ n.kind = 7 ∧ ¬ n.kind = 8 := by unfold isQ at hq; simpa using hq
          unfold evN
          rw [he, if_neg h2, if_neg h2, if_neg h3, if_neg h3, if_neg hk.1, if_neg hk.2, if_neg hk.1, if_neg hk.2]
end Go.Proofs.Ytodlkjjoenglgaa

/- The plain law, 11: one quantifier more (wDeeper): Idle. -/
namespace Go.Proofs.Ytodlkjjoenglgaa
open Go Go.RowKit

def deepG (s : Nat) (a : Int) : Int := if (s : Int) ≤ -1 - a then a - 1 else a
/-- A type, a value, put in at place s. -/
def InsT (s : Nat) (t : Int) (G G' : List Int) : Prop := ∃ A L, G = A ++ L ∧ G' = A ++ t :: L ∧ A.length = s
def InsE (s : Nat) (G ps ps' : List Int) : Prop := ∃ A L o, ps = A ++ L ∧ ps' = A ++ o :: L ∧ A.length = s ∧ ps.length = G.length

theorem getD_ins {A L : List Int} {t : Int} {j : Nat} : (A ++ t :: L).getD (if A.length ≤ j then j + 1 else j) 0 = (A ++ L).getD j 0 := by
  rw [List.getD_eq_getElem?_getD, List.getD_eq_getElem?_getD]
  by_cases h : A.length ≤ j
  · rw [if_pos h, List.getElem?_append_right (by omega), List.getElem?_append_right h, show j + 1 - A.length = (j - A.length) + 1 by omega, List.getElem?_cons_succ]
  · rw [if_neg h, List.getElem?_append_left (by omega), List.getElem?_append_left (by omega)]
theorem deep_arg {D : Dom} {s : Nat} {t : Int} {G G' : List Int} (h : InsT s t G G') : GArg D (deepG s) G G' := by
  obtain ⟨A, L, rfl, rfl, rfl⟩ := h
  constructor
  · intro a u hu
    refine ⟨u, ?_, fun y h => h⟩
    unfold argType at hu ⊢
    unfold deepG
    rw [List.length_append] at hu
    rw [List.length_append, List.length_cons]
    by_cases h1 : 0 ≤ a ∧ a < D.objects.length
    · rw [if_pos h1] at hu
      have h3 : ¬ (A.length : Int) ≤ -1 - a := by omega
      simp only [if_neg h3]
      rw [if_pos h1]; exact hu
    · rw [if_neg h1] at hu
      split at hu
      · rename_i h2
        have hg := getD_ins (A := A) (L := L) (t := t) (j := (-1 - a).toNat)
        by_cases h3 : (A.length : Int) ≤ -1 - a
        · simp only [if_pos h3]
          rw [if_neg (by omega), if_pos (by omega)]
          rw [if_pos (by omega)] at hg
          rw [show (-1 - (a - 1)).toNat = (-1 - a).toNat + 1 by omega, hg]; exact hu
        · simp only [if_neg h3]
          rw [if_neg (by omega), if_pos (by omega)]
          rw [if_neg (by omega)] at hg
          rw [hg]; exact hu
      · cases hu
  · intro a ha
    unfold argBad deepG at *
    rw [List.length_append] at ha
    rw [List.length_append, List.length_cons]
    split <;> omega
theorem deep_val {s : Nat} {G ps ps' : List Int} (h : InsE s G ps ps') (a : Int) : valueOf ps' (deepG s a) = valueOf ps a := by
  obtain ⟨A, L, o, rfl, rfl, rfl, hl⟩ := h
  have hg := getD_ins (A := A) (L := L) (t := o) (j := (-1 - a).toNat)
  unfold valueOf deepG
  by_cases h0 : a < 0
  · rw [if_pos h0]
    by_cases h3 : (A.length : Int) ≤ -1 - a
    · simp only [if_pos h3]
      rw [if_pos (by omega)]
      rw [if_pos (by omega)] at hg
      rw [show (-1 - (a - 1)).toNat = (-1 - a).toNat + 1 by omega, hg]
    · simp only [if_neg h3]
      rw [if_pos h0]
      rw [if_neg (by omega)] at hg
      exact hg
  · have h3 : ¬ (A.length : Int) ≤ -1 - a := by omega
    simp only [if_neg h3, if_neg h0]
theorem InsT.push {s : Nat} {t : Int} (G G' : List Int) (u : Int) (h : InsT s t G G') : InsT s t (G ++ [u]) (G' ++ [u]) := by
  obtain ⟨A, L, rfl, rfl, hs⟩ := h
  exact ⟨A, L ++ [u], by simp, by simp, hs⟩
theorem InsE.push {s : Nat} (G ps ps' : List Int) (u o : Int) (h : InsE s G ps ps') : InsE s (G ++ [u]) (ps ++ [o]) (ps' ++ [o]) := by
  obtain ⟨A, L, x, rfl, rfl, hs, hl⟩ := h
  exact ⟨A, L ++ [o], x, by simp, by simp, hs, by simp at hl ⊢; omega⟩
theorem deep_ok {D : Dom} {G : List Int} (t : Int) {f : Fo} (h : OkF D G f) : OkF D (G ++ [t]) (gF (deepG G.length) f) :=
  gF_ok (R := InsT G.length t) (fun _ _ u h => InsT.push _ _ u h) (fun _ _ h => deep_arg h) f G _ ⟨G, [], by simp, rfl, rfl⟩ h
theorem deep_ev {D : Dom} (atoms : List AtD) {G ps : List Int} (o : Int) (hl : ps.length = G.length) {f : Fo} (h : OkF D G f) : evF D atoms (gF (deepG G.length) f) (ps ++ [o]) = evF D atoms f ps :=
  gF_ev atoms (R := InsE G.length) (fun _ _ _ u o h => InsE.push _ _ _ u o h) (fun _ _ _ h a _ => deep_val h a) f G ps _ ⟨ps, [], o, by simp, rfl, hl, hl⟩ h
theorem gF_one (g : Int → Int) (n : Nd) (k : Fo) : gF g (Fo.one n k) = Fo.one (gN g n) (gF g k) := rfl
/-- TopQuantsIdle's trees. -/
theorem idle_same (D : Dom) (atoms : List AtD) (G : List Int) (n : Nd) (k : Fo) (kd t : Int) (hk : kd = 7 ∨ kd = 8) (ht : inRange D.types t) (hne : ofL D.types D.objects t ≠ []) (ho : OkF D G (Fo.one n k)) (hs : (Fo.one n k).Shaped) :
    Same D atoms G n k (qNd kd t) (Fo.one (gN (deepG G.length) n) (gF (deepG G.length) k)) := by
  refine ⟨(shaped_quant hk).2 (gF_shaped (f := Fo.one n k) hs), (ok_quant hk).2 ⟨ht, deep_ok t ho, ok_nil⟩, fun ps he => ?_⟩
  have h : ∀ o, evF D atoms (Fo.one (gN (deepG G.length) n) (gF (deepG G.length) k)) (ps ++ [o]) = evF D atoms (Fo.one n k) ps := fun o => deep_ev atoms o he.1 ho
  obtain ⟨o, l, hol⟩ := List.exists_cons_of_ne_nil hne
  rcases hk with rfl | rfl
  · rw [ev_ex]
    simp only [h, evF_one, List.headD_cons, hol]
    cases evN D atoms n (evF D atoms k) ps <;> simp
  · rw [ev_all]
    simp only [h, evF_one, List.headD_cons, hol]
    cases evN D atoms n (evF D atoms k) ps <;> simp
end Go.Proofs.Ytodlkjjoenglgaa

/- The plain law, 12: two parameters change their places (Swapped); an object in a parameter's place (Listed). -/
namespace Go.Proofs.Ytodlkjjoenglgaa
open Go Go.RowKit

def swapG (s : Nat) (a : Int) : Int := if -1 - a = (s : Int) then a - 1 else if -1 - a = (s : Int) + 1 then a + 1 else a
theorem getD_swap {A L : List Int} {x y : Int} {j : Nat} : (A ++ y :: x :: L).getD (if j = A.length then j + 1 else if j = A.length + 1 then j - 1 else j) 0 = (A ++ x :: y :: L).getD j 0 := by
  rw [List.getD_eq_getElem?_getD, List.getD_eq_getElem?_getD]
  by_cases h : j = A.length
  · subst h
    rw [if_pos rfl, List.getElem?_append_right (by omega), List.getElem?_append_right (Nat.le_refl _), Nat.sub_self, show A.length + 1 - A.length = 1 by omega]
    rfl
  · rw [if_neg h]
    by_cases h2 : j = A.length + 1
    · subst h2
      rw [if_pos rfl, List.getElem?_append_right (by omega), List.getElem?_append_right (by omega), show A.length + 1 - 1 - A.length = 0 by omega, show A.length + 1 - A.length = 1 by omega]
      rfl
    · rw [if_neg h2]
      by_cases h3 : j < A.length
      · rw [List.getElem?_append_left h3, List.getElem?_append_left h3]
      · rw [List.getElem?_append_right (by omega), List.getElem?_append_right (by omega)]
        obtain ⟨d, hd⟩ : ∃ d, j - A.length = d + 2 := ⟨j - A.length - 2, by omega⟩
        rw [hd]; rfl
theorem swap_idx {s : Nat} {a : Int} (h : a < 0) : (-1 - swapG s a).toNat = (if (-1 - a).toNat = s then (-1 - a).toNat + 1 else if (-1 - a).toNat = s + 1 then (-1 - a).toNat - 1 else (-1 - a).toNat) ∧ swapG s a < 0 := by
  unfold swapG
  by_cases h1 : -1 - a = (s : Int)
  · have e : (-1 - a).toNat = s := by omega
    rw [if_pos h1, if_pos e]; omega
  · have e : ¬ (-1 - a).toNat = s := by omega
    rw [if_neg h1, if_neg e]
    by_cases h2 : -1 - a = (s : Int) + 1
    · have e2 : (-1 - a).toNat = s + 1 := by omega
      rw [if_pos h2, if_pos e2]; omega
    · have e2 : ¬ (-1 - a).toNat = s + 1 := by omega
      rw [if_neg h2, if_neg e2]; exact ⟨rfl, h⟩
theorem swap_pos {s : Nat} {a : Int} (h : ¬ a < 0) : swapG s a = a := by
  unfold swapG
  rw [if_neg (by omega), if_neg (by omega)]
def SwT (s : Nat) (G G' : List Int) : Prop := ∃ A L x y, G = A ++ x :: y :: L ∧ G' = A ++ y :: x :: L ∧ A.length = s
def SwE (s : Nat) (G ps ps' : List Int) : Prop := SwT s ps ps' ∧ ps.length = G.length
theorem SwT.push {s : Nat} (G G' : List Int) (u v : Int) (h : SwT s G G') (e : u = v) : SwT s (G ++ [u]) (G' ++ [v]) := by
  subst e
  obtain ⟨A, L, x, y, rfl, rfl, hs⟩ := h
  exact ⟨A, L ++ [u], x, y, by simp, by simp, hs⟩
theorem swap_val {s : Nat} {ps ps' : List Int} (h : SwT s ps ps') (a : Int) : valueOf ps' (swapG s a) = valueOf ps a := by
  obtain ⟨A, L, x, y, rfl, rfl, rfl⟩ := h
  unfold valueOf
  by_cases h0 : a < 0
  · obtain ⟨h1, h2⟩ := swap_idx (s := A.length) h0
    rw [if_pos h0, if_pos h2, h1, getD_swap]
  · rw [swap_pos h0, if_neg h0, if_neg h0]
theorem swap_arg {D : Dom} {s : Nat} {G G' : List Int} (h : SwT s G G') : GArg D (swapG s) G G' := by
  obtain ⟨A, L, x, y, rfl, rfl, rfl⟩ := h
  have hl : (A ++ y :: x :: L).length = (A ++ x :: y :: L).length := by simp
  constructor
  · intro a u hu
    refine ⟨u, ?_, fun y h => h⟩
    by_cases h0 : a < 0
    · obtain ⟨h1, h2⟩ := swap_idx (s := A.length) h0
      unfold argType at hu ⊢
      rw [if_neg (by omega)] at hu
      split at hu
      · rename_i h3
        rw [if_neg (by omega), if_pos, h1, getD_swap]
        · exact hu
        · refine ⟨h2, ?_⟩
          have := h3.2
          simp only [List.length_append, List.length_cons] at this ⊢
          have h4 := h1
          split at h4 <;> (try split at h4) <;> omega
      · cases hu
    · rw [swap_pos h0]
      unfold argType at hu ⊢
      rw [if_neg (show ¬(a < 0 ∧ _) from fun h => h0 h.1)] at hu ⊢
      exact hu
  · intro a ha
    rw [hl]
    unfold argBad at *
    by_cases h0 : a < 0
    · obtain ⟨h1, h2⟩ := swap_idx (s := A.length) h0
      simp only [List.length_append, List.length_cons] at ha ⊢
      split at h1 <;> (try split at h1) <;> omega
    · rw [swap_pos h0]; exact ha

theorem swap_ok {D : Dom} {G : List Int} (t u : Int) {f : Fo} (h : OkF D (G ++ [t] ++ [u]) f) : OkF D (G ++ [u] ++ [t]) (gF (swapG G.length) f) :=
  gF_ok (R := SwT G.length) (fun _ _ v h => SwT.push _ _ v v h rfl) (fun _ _ h => swap_arg h) f _ _ ⟨G, [], t, u, by simp, by simp, rfl⟩ h
theorem swap_ev {D : Dom} (atoms : List AtD) {G ps : List Int} (t u o r : Int) (hl : ps.length = G.length) {f : Fo} (h : OkF D (G ++ [t] ++ [u]) f) : evF D atoms (gF (swapG G.length) f) (ps ++ [r] ++ [o]) = evF D atoms f (ps ++ [o] ++ [r]) :=
  gF_ev atoms (R := SwE G.length) (fun _ _ _ v w h => ⟨SwT.push _ _ w w h.1 rfl, by simp [h.2]⟩) (fun _ _ _ h a _ => swap_val h.1 a) f (G ++ [t] ++ [u]) _ _ ⟨⟨ps, [], o, r, by simp, by simp, hl⟩, by simp [hl]⟩ h
/-- TopQuantsSwapped's trees. -/
theorem swap_same (D : Dom) (atoms : List AtD) (G : List Int) (n m x : Nd) (q : Fo) (hk : n.kind = 7 ∨ n.kind = 8) (hm : m.kind = n.kind) (ho : OkF D G (Fo.one n (Fo.one m (Fo.one x q)))) (hs : (Fo.one n (Fo.one m (Fo.one x q))).Shaped) :
    Same D atoms G n (Fo.one m (Fo.one x q)) (qNd n.kind m.typ) (Fo.one (qNd n.kind n.typ) (gF (swapG G.length) (Fo.one x q))) := by
  have hk' : m.kind = 7 ∨ m.kind = 8 := by omega
  obtain ⟨h1, h2, m', q', e, h3⟩ := quant_inv hk ho hs
  cases e
  obtain ⟨h4, h5, x', r', e, h6⟩ := quant_inv hk' h2 h3
  cases e
  refine ⟨(shaped_quant hk).2 ((shaped_quant hk).2 (gF_shaped (f := Fo.one x q) h6)), (ok_quant hk).2 ⟨h4, (ok_quant hk).2 ⟨h1, swap_ok _ _ h5, ok_nil⟩, ok_nil⟩, fun ps he => ?_⟩
  have hev : ∀ o r, evF D atoms (gF (swapG G.length) (Fo.one x q)) (ps ++ [r] ++ [o]) = evF D atoms (Fo.one x q) (ps ++ [o] ++ [r]) := fun o r => swap_ev atoms _ _ o r he.1 h5
  rw [evN_quant D atoms n _ ps hk]
  have hmq : ∀ qs, evN D atoms m (evF D atoms (Fo.one x q)) qs = evN D atoms (qNd n.kind m.typ) (evF D atoms (Fo.one x q)) qs := fun qs => by rw [evN_quant D atoms m _ qs hk', hm]
  rcases hk with h | h <;> simp only [h] at hmq ⊢
  · simp only [ev_ex, evF_one, List.headD_cons, hmq, hev]
    rw [Bool.eq_iff_iff]
    simp only [List.any_eq_true]
    constructor
    · rintro ⟨a, ha, b, hb, h⟩; exact ⟨b, hb, a, ha, h⟩
    · rintro ⟨a, ha, b, hb, h⟩; exact ⟨b, hb, a, ha, h⟩
  · simp only [ev_all, evF_one, List.headD_cons, hmq, hev]
    rw [Bool.eq_iff_iff]
    simp only [List.all_eq_true]
    constructor
    · intro h a ha b hb; exact h b hb a ha
    · intro h a ha b hb; exact h b hb a ha
end Go.Proofs.Ytodlkjjoenglgaa

/- The plain law, 13: Moved. -/
namespace Go.Proofs.Ytodlkjjoenglgaa
open Go Go.RowKit

theorem any_const_and {X : Type} (l : List X) (a b : Bool) (p : X → Bool) : (l.any fun o => (a && (p o && b))) = (a && ((l.any p) && b)) := by
  induction l with
  | nil => simp
  | cons x l ih => simp only [List.any_cons, ih]; cases a <;> cases b <;> simp
theorem all_const_or {X : Type} (l : List X) (a b : Bool) (p : X → Bool) : (l.all fun o => (a || (p o || b))) = (a || ((l.all p) || b)) := by
  induction l with
  | nil => simp
  | cons x l ih => simp only [List.all_cons, ih]; cases a <;> cases b <;> simp

/-- TopQuantsMoved's trees. -/
theorem move_same (D : Dom) (atoms : List AtD) (G : List Int) (n x y : Nd) (k1 q k2 : Fo) (hk : (n.kind = 5 ∧ x.kind = 7) ∨ (n.kind = 6 ∧ x.kind = 8)) (ho : OkF D G (Fo.one n (k1.app (.cons x (Fo.one y q) k2)))) (hs : (Fo.one n (k1.app (.cons x (Fo.one y q) k2))).Shaped) :
    Same D atoms G n (k1.app (.cons x (Fo.one y q) k2)) (qNd x.kind x.typ) (Fo.one n ((gF (deepG G.length) k1).app (.cons y q (gF (deepG G.length) k2)))) := by
  have hn : n.kind = 5 ∨ n.kind = 6 := by omega
  have hx : x.kind = 7 ∨ x.kind = 8 := by omega
  obtain ⟨a1, a2⟩ := AllF.app.1 (ok_kids hn ho)
  obtain ⟨a3, a4⟩ := ok_one.1 a2
  obtain ⟨h1, h2, h3, -⟩ := hs
  obtain ⟨b1, b2⟩ := (Fo.shaped_app _ _).1 h3
  obtain ⟨b3, b4⟩ := shaped_cons.1 b2
  obtain ⟨c1, c2, m', q', e, c3⟩ := quant_inv hx a3 b3
  cases e
  have hlf : ∀ G', leafCode D n G' = 0 := fun G' => by unfold leafCode; rw [if_neg (by omega), if_neg (by omega)]
  have hnq : isQ n.kind = false := by rcases hn with h | h <;> rw [h] <;> rfl
  refine ⟨(shaped_quant hx).2 ⟨h1, .inl (by rcases hn with h | h <;> rw [h] <;> decide), (Fo.shaped_app _ _).2 ⟨gF_shaped b1, shaped_cons.2 ⟨c3, gF_shaped b4⟩⟩, trivial⟩,
    (ok_quant hx).2 ⟨c1, ⟨⟨hlf _, fun h => by rw [hnq] at h; cases h⟩, ?_, trivial⟩, ok_nil⟩, fun ps he => ?_⟩
  · rw [innerN_not hnq]
    exact AllF.app.2 ⟨deep_ok _ a1, ok_one.2 ⟨c2, deep_ok _ a4⟩⟩
  · have e1 : ∀ o, evF D atoms (gF (deepG G.length) k1) (ps ++ [o]) = evF D atoms k1 ps := fun o => deep_ev atoms o he.1 a1
    have e2 : ∀ o, evF D atoms (gF (deepG G.length) k2) (ps ++ [o]) = evF D atoms k2 ps := fun o => deep_ev atoms o he.1 a4
    have e3 : ∀ kv qs, evN D atoms n kv qs = evN D atoms (zNd n.kind) kv qs := fun kv qs => evN_kind D atoms n kv qs hn
    have e4 : evN D atoms x (evF D atoms (Fo.one y q)) ps = evN D atoms (qNd x.kind x.typ) (evF D atoms (Fo.one y q)) ps := evN_quant D atoms x _ ps hx
    rcases hk with ⟨h5, h6⟩ | ⟨h5, h6⟩ <;> simp only [h5, h6] at e3 e4 ⊢
    · rw [e3, ev_and, ev_ex, evF_app, evF_cons, e4, ev_ex]
      simp only [evF_one, List.headD_cons, e3, ev_and, evF_app, evF_cons, e1, e2, List.all_append, List.all_cons, id]
      exact any_const_and _ _ _ _
    · rw [e3, ev_or, ev_all, evF_app, evF_cons, e4, ev_all]
      simp only [evF_one, List.headD_cons, e3, ev_or, evF_app, evF_cons, e1, e2, List.any_append, List.any_cons, id]
      exact all_const_or _ _ _ _
end Go.Proofs.Ytodlkjjoenglgaa

/- The plain law, 14: an object in a parameter's place: Listed. -/
namespace Go.Proofs.Ytodlkjjoenglgaa
open Go Go.RowKit

theorem isA_trans {ts : List (ByteArray × Int)} (h : HierOK ts) : ∀ (m : Nat) (a b c : Int), a.toNat < m → a < ts.length → isA ts a b = true → isA ts b c = true → isA ts a c = true := by
  intro m
  induction m with
  | zero => intro a b c hm; omega
  | succ m ih =>
    intro a b c hm hl h1 h2
    by_cases hn : a < 0
    · rw [isA_neg ts _ hn] at h1 ⊢
      have hb : b = -1 := by simpa using h1
      rw [hb, isA_neg ts _ (by decide)] at h2
      exact h2
    · rw [isA_step h b (by omega) hl] at h1
      by_cases hb : b = a
      · rw [← hb]; exact h2
      · have h1 : isA ts (par ts a) b = true := by simpa [hb] using h1
        have hp := h a (by omega) hl
        rw [isA_step h c (by omega) hl]
        by_cases hpn : par ts a < 0
        · have hpe : par ts a = -1 := by omega
          rw [isA_neg ts _ hpn] at h1
          have hb1 : b = -1 := by simpa using h1
          rw [hb1] at h2
          rw [hpe, h2]; simp
        · rw [ih (par ts a) b c (by omega) (by omega) h1 h2]; simp

def subG (s : Nat) (o a : Int) : Int := if -1 - a = (s : Int) then o else if (s : Int) < -1 - a then a + 1 else a
def SubT (s : Nat) (T : Int) (G G' : List Int) : Prop := ∃ A L, G = A ++ T :: L ∧ G' = A ++ L ∧ A.length = s
theorem getD_cut {A L : List Int} {x : Int} {j : Nat} (h : j ≠ A.length) : (A ++ L).getD (if A.length < j then j - 1 else j) 0 = (A ++ x :: L).getD j 0 := by
  rw [List.getD_eq_getElem?_getD, List.getD_eq_getElem?_getD]
  by_cases h1 : A.length < j
  · rw [if_pos h1, List.getElem?_append_right (by omega), List.getElem?_append_right (by omega), show j - A.length = (j - 1 - A.length) + 1 by omega, List.getElem?_cons_succ]
  · rw [if_neg h1, List.getElem?_append_left (by omega), List.getElem?_append_left (by omega)]
theorem SubT.push {s : Nat} {T : Int} (G G' : List Int) (u : Int) (h : SubT s T G G') : SubT s T (G ++ [u]) (G' ++ [u]) := by
  obtain ⟨A, L, rfl, rfl, hs⟩ := h
  exact ⟨A, L ++ [u], by simp, by simp, hs⟩
theorem sub_val {s : Nat} {o : Int} {ps ps' : List Int} (ho : 0 ≤ o) (h : SubT s o ps ps') (a : Int) : valueOf ps' (subG s o a) = valueOf ps a := by
  obtain ⟨A, L, rfl, rfl, rfl⟩ := h
  unfold valueOf subG
  by_cases h0 : a < 0
  · rw [if_pos h0]
    by_cases h1 : -1 - a = (A.length : Int)
    · simp only [if_pos h1]
      rw [if_neg (by omega), h1, Int.toNat_natCast, List.getD_eq_getElem?_getD, List.getElem?_append_right (Nat.le_refl _), Nat.sub_self]
      rfl
    · simp only [if_neg h1]
      have hg := getD_cut (A := A) (L := L) (x := o) (j := (-1 - a).toNat) (by omega)
      by_cases h2 : (A.length : Int) < -1 - a
      · simp only [if_pos h2]
        rw [if_pos (by omega)] at hg ⊢
        rw [show (-1 - (a + 1)).toNat = (-1 - a).toNat - 1 by omega]
        exact hg
      · simp only [if_neg h2]
        rw [if_neg (by omega)] at hg
        rw [if_pos h0]
        exact hg
  · have h1 : ¬ -1 - a = (A.length : Int) := by omega
    have h2 : ¬ (A.length : Int) < -1 - a := by omega
    simp only [if_neg h1, if_neg h2, if_neg h0]

theorem sub_arg {D : Dom} (hpre : DomPre D) {s : Nat} {T o : Int} (ho : o ∈ ofL D.types D.objects T) {G G' : List Int} (h : SubT s T G G') : GArg D (subG s o) G G' := by
  obtain ⟨A, L, rfl, rfl, rfl⟩ := h
  obtain ⟨o1, o2, o3⟩ := mem_ofL.1 ho
  have hob := hpre.objs o.toNat (by omega)
  constructor
  · intro a u hu
    unfold argType at hu ⊢
    rw [List.length_append, List.length_cons] at hu
    rw [List.length_append]
    unfold subG
    by_cases h0 : 0 ≤ a ∧ a < D.objects.length
    · have h1 : ¬ -1 - a = (A.length : Int) := by omega
      have h2 : ¬ (A.length : Int) < -1 - a := by omega
      simp only [if_neg h1, if_neg h2]
      rw [if_pos h0] at hu ⊢
      exact ⟨u, hu, fun _ h => h⟩
    · rw [if_neg h0] at hu
      split at hu
      · rename_i h3
        by_cases h1 : -1 - a = (A.length : Int)
        · simp only [if_pos h1]
          rw [if_pos ⟨o1, o2⟩]
          refine ⟨_, rfl, fun y hy => ?_⟩
          rw [h1, Int.toNat_natCast, List.getD_eq_getElem?_getD, List.getElem?_append_right (Nat.le_refl _), Nat.sub_self] at hu
          have hu : T = u := by simpa using hu
          subst hu
          exact isA_trans hpre.hier _ _ T y (Nat.lt_succ_self _) hob.2 o3 hy
        · simp only [if_neg h1]
          have hg := getD_cut (A := A) (L := L) (x := T) (j := (-1 - a).toNat) (by omega)
          by_cases h2 : (A.length : Int) < -1 - a
          · simp only [if_pos h2]
            rw [if_pos (by omega)] at hg
            rw [if_neg (by omega), if_pos (by omega), show (-1 - (a + 1)).toNat = (-1 - a).toNat - 1 by omega, hg]
            exact ⟨u, hu, fun _ h => h⟩
          · simp only [if_neg h2]
            rw [if_neg (by omega)] at hg
            rw [if_neg h0, if_pos (by omega), hg]
            exact ⟨u, hu, fun _ h => h⟩
      · cases hu
  · intro a ha
    unfold argBad subG at *
    rw [List.length_append, List.length_cons] at ha
    rw [List.length_append]
    split
    · omega
    · split <;> omega
end Go.Proofs.Ytodlkjjoenglgaa

/- The plain law, 15: Listed. -/
namespace Go.Proofs.Ytodlkjjoenglgaa
open Go Go.RowKit

/-- What is said of each object. -/
def listF (s : Nat) (x : Nd) (q : Fo) : List Int → Fo
  | [] => .nil
  | o :: l => .cons (gN (subG s o) x) (gF (subG s o) q) (listF s x q l)
theorem sub_ok {D : Dom} (hpre : DomPre D) {G : List Int} {T o : Int} (ho : o ∈ ofL D.types D.objects T) {f : Fo} (h : OkF D (G ++ [T]) f) : OkF D G (gF (subG G.length o) f) :=
  gF_ok (R := SubT G.length T) (fun _ _ u h => SubT.push _ _ u h) (fun _ _ h => sub_arg hpre ho h) f _ _ ⟨G, [], rfl, by simp, rfl⟩ h
theorem sub_ev {D : Dom} (atoms : List AtD) {G ps : List Int} {T o : Int} (ho : 0 ≤ o) (hl : ps.length = G.length) {f : Fo} (h : OkF D (G ++ [T]) f) : evF D atoms (gF (subG G.length o) f) ps = evF D atoms f (ps ++ [o]) :=
  gF_ev atoms (R := fun _ p p' => SubT G.length o p p') (fun _ _ _ _ v h => SubT.push _ _ v h) (fun _ _ _ h a _ => sub_val ho h a) f (G ++ [T]) _ _ ⟨ps, [], rfl, by simp, hl⟩ h
theorem listF_shaped {s : Nat} {x : Nd} {q : Fo} (h : (Fo.one x q).Shaped) (l : List Int) : (listF s x q l).Shaped := by
  induction l with
  | nil => trivial
  | cons o l ih => exact shaped_cons.2 ⟨gF_shaped (g := subG s o) h, ih⟩
theorem listF_ok {D : Dom} (hpre : DomPre D) {G : List Int} {T : Int} {x : Nd} {q : Fo} (h : OkF D (G ++ [T]) (Fo.one x q)) (l : List Int) (hl : ∀ o ∈ l, o ∈ ofL D.types D.objects T) : OkF D G (listF G.length x q l) := by
  induction l with
  | nil => trivial
  | cons o l ih => exact ok_one.2 ⟨sub_ok hpre (hl o (List.mem_cons_self ..)) h, ih fun o' ho' => hl o' (List.mem_cons_of_mem _ ho')⟩
theorem listF_ev {D : Dom} (atoms : List AtD) {G ps : List Int} {T : Int} (hpl : ps.length = G.length) {x : Nd} {q : Fo} (h : OkF D (G ++ [T]) (Fo.one x q)) (l : List Int) (hl : ∀ o ∈ l, 0 ≤ o) :
    evF D atoms (listF G.length x q l) ps = l.map fun o => (evF D atoms (Fo.one x q) (ps ++ [o])).headD true := by
  induction l with
  | nil => rfl
  | cons o l ih =>
    rw [listF, evF_cons, ih fun o' ho' => hl o' (List.mem_cons_of_mem _ ho'), List.map_cons]
    congr 1
    have := sub_ev atoms (T := T) (hl o (List.mem_cons_self ..)) hpl h
    rw [gF_one, evF_one] at this
    rw [← this]; rfl
/-- TopQuantsListed's trees. -/
theorem listed_same (D : Dom) (hpre : DomPre D) (atoms : List AtD) (G : List Int) (n x : Nd) (q : Fo) (hk : n.kind = 7 ∨ n.kind = 8) (ho : OkF D G (Fo.one n (Fo.one x q))) (hs : (Fo.one n (Fo.one x q)).Shaped) :
    Same D atoms G n (Fo.one x q) (zNd (if n.kind = 8 then 5 else 6)) (listF G.length x q (ofL D.types D.objects n.typ)) := by
  obtain ⟨h1, h2, x', q', e, h3⟩ := quant_inv hk ho hs
  cases e
  have hz : (if n.kind = 8 then (5 : Int) else 6) = 5 ∨ (if n.kind = 8 then (5 : Int) else 6) = 6 := by split <;> simp
  refine ⟨(shaped_con hz).2 (listF_shaped h3 _), (ok_con (.inr (.inr hz))).2 ⟨listF_ok hpre h2 _ fun o h => h, ok_nil⟩, fun ps he => ?_⟩
  rw [evN_quant D atoms n _ ps hk]
  have hl := listF_ev atoms he.1 h2 (ofL D.types D.objects n.typ) fun o h => (mem_ofL.1 h).1
  rcases hk with h | h <;> rw [h]
  · rw [if_neg (by decide), ev_or, ev_ex, hl, List.any_map]; rfl
  · rw [if_pos rfl, ev_and, ev_all, hl, List.all_map]; rfl
end Go.Proofs.Ytodlkjjoenglgaa

/- The plain law, 16: EqualsHeld. -/
namespace Go.Proofs.Ytodlkjjoenglgaa
open Go Go.RowKit

def eNd (a b : Int) : Nd := ⟨3, 0, [], a, b, 0⟩
/-- TopEqualsHeld's tree of an equality. -/
theorem eq_same (D : Dom) (atoms : List AtD) (G : List Int) (n : Nd) (k : Fo) (hk : n.kind = 3) (ho : OkF D G (Fo.one n k)) : Same D atoms G n k (eNd n.right n.left) .nil := by
  obtain ⟨⟨o1, -⟩, -, -⟩ := ho
  have hb := (ok_args o1).2 hk
  refine ⟨⟨⟨by show (1 : Int) ≤ 3; decide, by show (3 : Int) ≤ 8; decide⟩, .inr rfl, trivial, trivial⟩, ⟨⟨?_, fun h => by cases h⟩, trivial, trivial⟩, fun ps _ => ?_⟩
  · show (if argBad D G.length n.right ∨ argBad D G.length n.left then (3 : Int) else 0) = 0
    rw [if_neg (fun h => h.elim hb.2 hb.1)]
  · have e1 : evN D atoms (eNd n.right n.left) (evF D atoms .nil) ps = decide (valueOf ps n.right = valueOf ps n.left) := rfl
    have e2 : evN D atoms n (evF D atoms k) ps = decide (valueOf ps n.left = valueOf ps n.right) := by unfold evN; rw [if_neg (by omega), if_pos hk]
    rw [e1, e2, decide_eq_decide]
    exact eq_comm

theorem argType_push {D : Dom} {G : List Int} {u a t : Int} (h : argType D G a = some t) : argType D (G ++ [u]) a = some t := by
  unfold argType at h ⊢
  by_cases h0 : 0 ≤ a ∧ a < D.objects.length
  · rw [if_pos h0] at h ⊢; exact h
  · rw [if_neg h0] at h ⊢
    split at h
    · rename_i h1
      rw [if_pos (by rw [List.length_append]; omega)]
      rw [← h, List.getD_eq_getElem?_getD, List.getD_eq_getElem?_getD, List.getElem?_append_left (by omega)]
    · cases h
theorem argType_last {D : Dom} (G : List Int) (u : Int) : argType D (G ++ [u]) (-1 - (G.length : Int)) = some u := by
  unfold argType
  rw [if_neg (by omega), if_pos (by rw [List.length_append, List.length_singleton]; omega), show (-1 - (-1 - (G.length : Int))).toNat = G.length by omega, List.getD_eq_getElem?_getD, List.getElem?_append_right (Nat.le_refl _), Nat.sub_self]
  rfl
theorem value_push {D : Dom} {G ps : List Int} (hl : ps.length = G.length) (o : Int) {a : Int} (ha : ¬ argBad D G.length a) : valueOf (ps ++ [o]) a = valueOf ps a := by
  unfold argBad at ha
  unfold valueOf
  split
  · rw [List.getD_eq_getElem?_getD, List.getD_eq_getElem?_getD, List.getElem?_append_left (by omega)]
  · rfl
theorem value_last {G ps : List Int} (hl : ps.length = G.length) (o : Int) : valueOf (ps ++ [o]) (-1 - (G.length : Int)) = o := by
  unfold valueOf
  rw [if_pos (by omega), show (-1 - (-1 - (G.length : Int))).toNat = ps.length by omega, List.getD_eq_getElem?_getD, List.getElem?_append_right (Nat.le_refl _), Nat.sub_self]
  rfl
theorem isA_refl {ts : List (ByteArray × Int)} {a : Int} (h : -1 ≤ a) : isA ts a a = true := by
  by_cases h0 : a < 0
  · rw [isA_neg ts _ h0]; simp; omega
  · unfold isA
    simp [up, if_neg h0]
/-- The value of a right argument is an object of the type that is asked for. -/
theorem value_mem {D : Dom} (hpre : DomPre D) {G ps : List Int} (he : Env D G ps) {a t u : Int} (h : argType D G a = some t) (hi : isA D.types t u = true) : valueOf ps a ∈ ofL D.types D.objects u := by
  unfold argType at h
  unfold valueOf
  rw [mem_ofL]
  by_cases h0 : 0 ≤ a ∧ a < D.objects.length
  · rw [if_pos h0] at h
    rw [if_neg (by omega)]
    cases h
    exact ⟨h0.1, h0.2, hi⟩
  · rw [if_neg h0] at h
    split at h
    · rename_i h1
      cases h
      rw [if_pos h1.1]
      obtain ⟨e1, e2, e3⟩ := he.2 (-1 - a).toNat (by omega)
      refine ⟨e1, e2, isA_trans hpre.hier _ _ _ u (Nat.lt_succ_self _) ?_ e3 hi⟩
      exact (hpre.objs _ (by omega)).2
    · cases h

/-- TopEqualsHeld's trees of an atom. -/
def heldT (some' : Bool) (s : Nat) (at' : Int) (n : Nd) (k : Fo) (j : Nat) : Nd × Fo :=
  if some' then (qNd 7 at', .one (zNd 5) (.cons (eNd (-1 - (s : Int)) (n.args.getD j 0)) .nil (.one { n with args := n.args.set j (-1 - (s : Int)) } k)))
  else (qNd 8 at', .one (zNd 6) (.cons (zNd 4) (.one (eNd (-1 - (s : Int)) (n.args.getD j 0)) .nil) (.one { n with args := n.args.set j (-1 - (s : Int)) } k)))
theorem held_arg (D : Dom) (G : List Int) (at' : Int) {n : Nd} {j : Nat} (hj : j < n.args.length) (hk : n.kind = 2) (ht : -1 ≤ at') (hat : at' = (D.preds.getD n.pred.toNat dPr).2.getD j 0) (h : leafCode D n G = 0) :
    leafCode D { n with args := n.args.set j (-1 - (G.length : Int)) } (G ++ [at']) = 0 := by
  unfold leafCode at h ⊢
  rw [if_pos hk] at h
  rw [if_pos (show _ = _ from hk)]
  obtain ⟨p1, p2, p3⟩ := atomCode_zero.1 h
  refine atomCode_zero.2 ⟨p1, by rw [List.length_set]; exact p2, fun i hi => ?_⟩
  rw [List.length_set] at hi
  by_cases hij : j = i
  · subst hij
    refine ⟨at', ?_, by rw [← hat]; exact isA_refl ht⟩
    rw [List.getD_eq_getElem?_getD, List.getElem?_set_self hj]
    exact argType_last G at'
  · obtain ⟨t, h3, h4⟩ := p3 i hi
    refine ⟨t, ?_, h4⟩
    rw [List.getD_eq_getElem?_getD, List.getElem?_set_ne hij, ← List.getD_eq_getElem?_getD]
    exact argType_push h3

theorem held_bind (D : Dom) {G ps : List Int} (hl : ps.length = G.length) (o : Int) {n : Nd} {j : Nat} (hn : ∀ a ∈ n.args, ¬ argBad D G.length a) :
    (n.args.set j (-1 - (G.length : Int))).map (valueOf (ps ++ [o])) = (n.args.map (valueOf ps)).set j o := by
  rw [List.map_set, value_last hl o]
  congr 1
  exact List.map_congr_left fun a ha => value_push hl o (hn a ha)

theorem held_same (D : Dom) (hpre : DomPre D) (atoms : List AtD) (some' : Bool) (G : List Int) (at' : Int) (n : Nd) (k : Fo) (j : Nat) (hj : j < n.args.length) (hk : n.kind = 2) (ht : inRange D.types at') (hat : at' = (D.preds.getD n.pred.toNat dPr).2.getD j 0)
    (ho : OkF D G (Fo.one n k)) (hs : (Fo.one n k).Shaped) : Same D atoms G n k (heldT some' G.length at' n k j).1 (heldT some' G.length at' n k j).2 := by
  obtain ⟨⟨o1, o2⟩, o3, -⟩ := ho
  obtain ⟨s1, s2, s3, -⟩ := hs
  have hk0 : k = .nil := by
    have : k.len = 0 := by
      rw [hk] at s2
      unfold arityOf at s2
      simp at s2
      exact s2
    cases k with
    | nil => rfl
    | cons _ _ _ => simp [Fo.len] at this
  subst hk0
  have hargs := (ok_args o1).1 hk
  have hleaf := held_arg D G at' hj hk ht.1 hat o1
  obtain ⟨-, -, p3⟩ := atomCode_zero.1 (by unfold leafCode at o1; rw [if_pos hk] at o1; exact o1)
  obtain ⟨t, h3, h4⟩ := p3 j hj
  simp only at h3 h4
  rw [← hat] at h4
  have heq : leafCode D (eNd (-1 - (G.length : Int)) (n.args.getD j 0)) (G ++ [at']) = 0 := by
    have hb1 := argType_bad (argType_last (D := D) G at')
    have hb2 := argType_bad (argType_push (u := at') h3)
    show (if argBad D (G ++ [at']).length _ ∨ argBad D (G ++ [at']).length _ then (3 : Int) else 0) = 0
    rw [if_neg (fun h => h.elim hb1 hb2)]
  have hno : ∀ x : Nd, isQ x.kind = false → (isQ x.kind = true → inRange D.types x.typ) := fun x h h' => by rw [h] at h'; cases h'
  have hq2 : isQ n.kind = false := by rw [hk]; rfl
  have hokE : OkF D (G ++ [at']) (Fo.one (eNd (-1 - (G.length : Int)) (n.args.getD j 0)) .nil) := ⟨⟨heq, hno _ rfl⟩, trivial, trivial⟩
  have hokN : OkF D (G ++ [at']) (Fo.one { n with args := n.args.set j (-1 - (G.length : Int)) } .nil) := ⟨⟨hleaf, hno _ hq2⟩, trivial, trivial⟩
  have hshE : (Fo.one (eNd (-1 - (G.length : Int)) (n.args.getD j 0)) .nil).Shaped := ⟨⟨by show (1 : Int) ≤ 3; decide, by show (3 : Int) ≤ 8; decide⟩, .inr rfl, trivial, trivial⟩
  have hshN : (Fo.one { n with args := n.args.set j (-1 - (G.length : Int)) } .nil).Shaped := ⟨s1, s2, trivial, trivial⟩
  have hev : ∀ ps o, ps.length = G.length → evN D atoms { n with args := n.args.set j (-1 - (G.length : Int)) } (evF D atoms .nil) (ps ++ [o]) = holdsD atoms ⟨n.pred, (n.args.map (valueOf ps)).set j o⟩ := fun ps o hl => by
    unfold evN
    rw [if_pos (show _ = _ from hk)]
    unfold bindA
    simp only
    rw [held_bind D hl o hargs]
  have hev0 : ∀ ps, evN D atoms n (evF D atoms .nil) ps = holdsD atoms ⟨n.pred, n.args.map (valueOf ps)⟩ := fun ps => by
    unfold evN
    rw [if_pos hk]; rfl
  have hevE : ∀ ps o, ps.length = G.length → evN D atoms (eNd (-1 - (G.length : Int)) (n.args.getD j 0)) (evF D atoms .nil) (ps ++ [o]) = decide (o = valueOf ps (n.args.getD j 0)) := fun ps o hl => by
    have e1 : evN D atoms (eNd (-1 - (G.length : Int)) (n.args.getD j 0)) (evF D atoms .nil) (ps ++ [o]) = decide (valueOf (ps ++ [o]) (-1 - (G.length : Int)) = valueOf (ps ++ [o]) (n.args.getD j 0)) := rfl
    rw [e1, value_last hl o, value_push hl o (argType_bad h3)]
  have hset : ∀ ps : List Int, (n.args.map (valueOf ps)).set j (valueOf ps (n.args.getD j 0)) = n.args.map (valueOf ps) := fun ps => by
    apply List.ext_getElem?
    intro i
    by_cases hij : j = i
    · subst hij
      rw [List.getElem?_set_self (by rw [List.length_map]; exact hj), List.getElem?_map, List.getD_eq_getElem?_getD, List.getElem?_eq_getElem hj]; rfl
    · rw [List.getElem?_set_ne hij]
  cases some' with
  | true =>
    unfold heldT
    simp only [if_true]
    refine ⟨(shaped_quant (.inl rfl)).2 ((shaped_con (.inl rfl)).2 (shaped_cons.2 ⟨hshE, hshN⟩)), (ok_quant (.inl rfl)).2 ⟨ht, (ok_con (.inr (.inr (.inl rfl)))).2 ⟨ok_one.2 ⟨hokE, hokN⟩, ok_nil⟩, ok_nil⟩, fun ps he => ?_⟩
    have hm := value_mem hpre he h3 h4
    rw [ev_ex, hev0, Bool.eq_iff_iff, List.any_eq_true]
    simp only [evF_one, List.headD_cons, ev_and, evF_cons]
    constructor
    · rintro ⟨o, -, h⟩
      rw [hevE ps o he.1, hev ps o he.1] at h
      simp only [List.all_cons, List.all_nil, id, Bool.and_true, Bool.and_eq_true, decide_eq_true_eq] at h
      obtain ⟨rfl, h⟩ := h
      rwa [hset] at h
    · intro h
      refine ⟨_, hm, ?_⟩
      rw [hevE ps _ he.1, hev ps _ he.1, hset, h]
      simp
  | false =>
    unfold heldT
    simp only [Bool.false_eq_true, if_false]
    refine ⟨(shaped_quant (.inr rfl)).2 ((shaped_con (.inr rfl)).2 (shaped_cons.2 ⟨shaped_not.2 hshE, hshN⟩)), (ok_quant (.inr rfl)).2 ⟨ht, (ok_con (.inr (.inr (.inr rfl)))).2 ⟨ok_one.2 ⟨(ok_con (.inr (.inl rfl))).2 ⟨hokE, ok_nil⟩, hokN⟩, ok_nil⟩, ok_nil⟩, fun ps he => ?_⟩
    have hm := value_mem hpre he h3 h4
    rw [ev_all, hev0, Bool.eq_iff_iff, List.all_eq_true]
    simp only [evF_one, List.headD_cons, ev_or, evF_cons, ev_not]
    constructor
    · intro h
      have h := h _ hm
      rw [hevE ps _ he.1, hev ps _ he.1, hset] at h
      simpa using h
    · intro h o _
      rw [hevE ps o he.1, hev ps o he.1]
      by_cases ho : o = valueOf ps (n.args.getD j 0)
      · subst ho
        rw [hset, h]; simp
      · rw [show decide (o = valueOf ps (n.args.getD j 0)) = false from decide_eq_false ho]; rfl
end Go.Proofs.Ytodlkjjoenglgaa
