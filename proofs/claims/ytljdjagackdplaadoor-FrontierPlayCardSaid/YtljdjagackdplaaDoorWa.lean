/-
  slices.Reverse and consist.Prove, walked.
-/
import Derived.Test.YtljdjagackdplaaDoorTh
import Derived.Test.YtljdjagackdplaaDoorTq
import Derived.Test.YtljdjagackdplaaDoorLu
namespace Go.Proofs.YtljdjagackdplaaDoor.L
open Go
set_option linter.unusedSectionVars false
variable [Globs] [Has_sha_table] [Has_sha_begin]
/-! ### A row turned round, two at a time -/
def swp {α : Type} (l : List α) (i j : Nat) : List α := match l[i]?, l[j]? with | some a, some c => (l.set i c).set j a | _, _ => l
def rv {α : Type} (xs : List α) : Nat → List α
  | 0 => xs
  | i + 1 => swp (rv xs i) i (xs.length - 1 - i)
theorem swp_len {α : Type} (l : List α) (i j : Nat) : (swp l i j).length = l.length := by
  unfold swp
  split
  · rw [List.length_set, List.length_set]
  · rfl
theorem rv_len {α : Type} (xs : List α) : ∀ i, (rv xs i).length = xs.length
  | 0 => rfl
  | i + 1 => by rw [rv, swp_len, rv_len xs i]
theorem swp_of {α : Type} {l : List α} {i j : Nat} {a c : α} (h1 : l[i]? = some a) (h2 : l[j]? = some c) : swp l i j = (l.set i c).set j a := by
  unfold swp
  rw [h1, h2]
theorem rv_get {α : Type} (xs : List α) : ∀ (i k : Nat), 2 * i ≤ xs.length → k < xs.length → (rv xs i)[k]? = if k < i ∨ xs.length ≤ k + i then xs[xs.length - 1 - k]? else xs[k]?
  | 0, k, _, hk => by rw [if_neg (by omega)]; rfl
  | i + 1, k, hi, hk => by
    have g1 := rv_get xs i i (by omega) (by omega)
    have g2 := rv_get xs i (xs.length - 1 - i) (by omega) (by omega)
    have gk := rv_get xs i k (by omega) hk
    rw [if_neg (by omega)] at g1 g2
    obtain ⟨a, ha⟩ : ∃ a, xs[i]? = some a := ⟨_, List.getElem?_eq_getElem (by omega)⟩
    obtain ⟨c, hc⟩ : ∃ c, xs[xs.length - 1 - i]? = some c := ⟨_, List.getElem?_eq_getElem (by omega)⟩
    rw [rv, swp_of (g1.trans ha) (g2.trans hc)]
    have hl := rv_len xs i
    by_cases hkj : k = xs.length - 1 - i
    · subst hkj
      rw [List.getElem?_set_self (by rw [List.length_set]; omega), if_pos (by omega), show xs.length - 1 - (xs.length - 1 - i) = i by omega, ha]
    · rw [List.getElem?_set_ne (by omega)]
      by_cases hki : k = i
      · subst hki
        rw [List.getElem?_set_self (by omega), if_pos (by omega), hc]
      · rw [List.getElem?_set_ne (by omega), gk]
        by_cases h : k < i ∨ xs.length ≤ k + i
        · rw [if_pos h, if_pos (by omega)]
        · rw [if_neg h, if_neg (by omega)]
theorem rv_all {α : Type} (xs : List α) (i : Nat) (h1 : 2 * i ≤ xs.length) (h2 : xs.length ≤ 2 * i + 1) : rv xs i = xs.reverse := by
  apply List.ext_getElem?
  intro k
  by_cases hk : k < xs.length
  · rw [rv_get xs i k h1 hk, List.getElem?_reverse hk]
    by_cases h : k < i ∨ xs.length ≤ k + i
    · rw [if_pos h]
    · rw [if_neg h, show xs.length - 1 - k = k by omega]
  · rw [List.getElem?_eq_none (by rw [rv_len]; omega), List.getElem?_eq_none (by rw [List.length_reverse]; omega)]
theorem itemS_own {b o n c e : Nat} {φs φs' : List Pr} : ∀ u H w, (itemS b o n c (own b e φs) u).ok H w → itemS b o n c (own b e φs) u = own b e φs ∧ itemS b o n c (own b e φs') u = own b e φs' := by
  intro u H w h
  obtain rfl := itemS_ok h
  exact ⟨itemS_self _ _ _ _ _, itemS_self _ _ _ _ _⟩
theorem itemS_fst {b o n c e : Nat} {φs : List Pr} : ∀ u H w, (itemS b o n c (own b e φs) u).ok H w → itemS b o n c (own b e φs) u = own b e φs := fun u H w h => (itemS_own (φs' := φs) u H w h).1
theorem itemA_own {b e : Nat} {φs φs' : List Pr} : ∀ u H w, (itemA b e φs u).ok H w → itemA b e φs u = own b e φs ∧ itemA b e φs' u = own b e φs' := by
  intro u H w h
  obtain ⟨rfl, _⟩ := itemA_ok h
  exact ⟨itemA_self _ _ _, itemA_self _ _ _⟩
theorem itemA_fst {b e : Nat} {φs : List Pr} : ∀ u H w, (itemA b e φs u).ok H w → itemA b e φs u = own b e φs := fun u H w h => (itemA_own (φs' := φs) u H w h).1
theorem op_shr1 {P : Program} {Γ : Env} {Δ : List Res} {d : Option Nat} {ty : Nat} {pos : String} {af : Array Edge} {g : Option (Nat × Bool)} {x y : Operand} {t yt : Nat} {m c : Nat} {k2 : IntKind} (h1 : opd Γ x = some (is (.int .i64 (m : Int)))) (h2 : opd Γ y = some (is (.int k2 1))) (hc : m / 2 = c) : OpP P Γ Δ ⟨d, .binOp .shr t x y yt, ty, pos, af, g⟩ (is (.int .i64 (c : Int))) := by
  have := op_shrn (P := P) (Γ := Γ) (Δ := Δ) (d := d) (ty := ty) (pos := pos) (af := af) (g := g) (t := t) (yt := yt) (m := m) (n := 1) h1 h2 (by decide)
  rw [Nat.pow_one, hc] at this
  exact this
theorem op_ksl_hi' {P : Program} {Γ : Env} {Δ : List Res} {d : Option Nat} {ty : Nat} {pos : String} {af : Array Edge} {g : Option (Nat × Bool)} {x y : Operand} {t : Nat} {α : Type} {T : Ty α} {xs ys : List α} {e sz hi : Nat} {k : IntKind} (h : opd Γ x = some (sl T xs)) (hh : opd Γ y = some (is (.int k (hi : Int)))) [ht : TSl P t e] [TSz P e sz] (h1 : hi ≤ xs.length) (he : xs.take hi = ys) : OpP P Γ Δ ⟨d, .slice t x none (some y) none, ty, pos, af, g⟩ (sl T ys) := he ▸ op_ksl_hi h hh h1
theorem take_hash (x : Hash) : (hashT.cells x).take hashT.sz = hashT.cells x := List.take_of_length_le (Nat.le_of_eq (hashT.len _))
theorem at_hash (x : Hash) : ((hashT.cells x).drop 0).take hashT.sz = hashT.cells x := take_hash x
set_option linter.unusedVariables false
set_option linter.unusedSimpArgs false
attribute [local irreducible] J Lq E OpP PRun is any agg tup ptr sl PRunW OpE
attribute [local irreducible] up2 mroot nodeH leafH emptyH shaH ownAt row someL leafOf splitZ split rv
end Go.Proofs.YtljdjagackdplaaDoor.L
