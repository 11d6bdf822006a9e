import Derived.Test.YtafbkgijahinkaaDoorWa
import Derived.Test.YtafbkgijahinkaaDoorLu
import Derived.Test.YtafbkgijahinkaaDoorTg
import Derived.Test.YtafbkgijahinkaaDoorWz
/-
  consist.Check's helpers, walked: the closure up, slices.Grow, slices.Concat.
-/
namespace Go.Proofs.YtafbkgijahinkaaDoor.L
open Go
set_option linter.unusedSectionVars false
variable [Globs] [Has_sha_table] [Has_sha_begin]
set_option linter.unusedVariables false
set_option linter.unusedSimpArgs false
attribute [local irreducible] J Lq E OpP PRun is any agg tup ptr sl PRunW OpE
attribute [local irreducible] up2 mroot nodeH leafH emptyH shaH ownAt row someL leafOf splitZ split rv
theorem flat_snoc {α : Type} {xss : List (List α)} {i : Nat} {x : List α} (h : xss[i]? = some x) : (xss.take (i + 1)).flatten = (xss.take i).flatten ++ x := by
  rw [List.take_add_one, h]
  simp
theorem flat_le {α : Type} (xss : List (List α)) (i : Nat) : (xss.take i).flatten.length ≤ xss.flatten.length := by
  conv => rhs; rw [← List.take_append_drop i xss, List.flatten_append, List.length_append]
  omega
end Go.Proofs.YtafbkgijahinkaaDoor.L
/-
  consist.Check, walked.
-/
namespace Go.Proofs.YtafbkgijahinkaaDoor.L
open Go
set_option linter.unusedSectionVars false
variable [Globs] [Has_sha_table] [Has_sha_begin]
theorem pair_set1 (p q r : Hash) : splice (pairT.cells ⟨[p, q], rfl⟩) (0 + (1 : Int).toNat * 32) (hashT.cells r) = pairT.cells ⟨[p, r], rfl⟩ := by
  unfold pairT
  exact set_flat0 hashT.toTy (xs := [p, q]) (k := 1) (v := r) (show 1 < 2 by decide)
theorem foldC_one (x : Hash × Hash) (ds : List (Bool × Hash)) (d : Bool × Hash) : foldC x (ds ++ [d]) = stepC (foldC x ds) d := by
  unfold foldC
  rw [List.foldl_append]
  rfl
theorem upH {H : IH} {b1 b2 : Nat} : ∀ vs, All2 (fun (φ : Pr) v => φ.h H v) [] vs → All2 (fun (φ : Pr) v => φ.h H v) [is (.pointer (some ⟨b1, 0, none⟩)), is (.pointer (some ⟨b2, 0, none⟩))] (vs ++ [.pointer (some ⟨b1, 0, none⟩), .pointer (some ⟨b2, 0, none⟩)])
  | [], _ => All2.of_is [_, _]
  | _ :: _, h => h.elim
def okS (W : List Bool) (a c : Hash) : List Hash → Bool
  | [] => false
  | x :: t => decide (t.length = W.length) && decide (foldC (x, x) (W.zip t) = (a, c))
theorem okC_st {m n : Nat} (h : m ≠ n) (a c : Hash) (pr : List Hash) : okC m n a c pr = okS (ways m n) a c (startC true m a pr) := by
  unfold okC
  rw [if_neg h]
  cases startC true m a pr <;> rfl
set_option linter.unusedVariables false
set_option linter.unusedSimpArgs false
attribute [local irreducible] J Lq E OpP PRun is any agg tup ptr sl PRunW OpE
attribute [local irreducible] up2 mroot nodeH leafH emptyH shaH ownAt row someL leafOf splitZ split rv ways pairT
end Go.Proofs.YtafbkgijahinkaaDoor.L
/-
  The document's proofs of consistency, walked.
-/
namespace Go.Proofs.YtafbkgijahinkaaDoor.L
open Go
set_option linter.unusedSectionVars false
variable [Globs] [Has_sha_table] [Has_sha_begin]
theorem cpart_len : ∀ (n : Nat) (l : List Hash) (m : Nat) (yes : Bool), l.length = n → 1 ≤ m → m ≤ n → (cpart l m yes).length ≤ n := by
  intro n
  induction n using Nat.strongRecOn with
  | _ n ih =>
    intro l m yes hn h1 hm
    by_cases he : m = l.length
    · rw [cpart_all h1 he]
      split
      · exact Nat.zero_le _
      · show 1 ≤ n; omega
    · obtain ⟨s1, s2, s3⟩ := split_lt (n := l.length) (by omega)
      have l1 : (l.take (split l.length)).length = split l.length := by rw [List.length_take]; omega
      have l2 : (l.drop (split l.length)).length = l.length - split l.length := List.length_drop
      by_cases hk : m ≤ split l.length
      · rw [cpart_left h1 (by omega) hk yes, List.length_append]
        have := ih (split l.length) (by omega) _ m yes l1 h1 hk
        show _ + 1 ≤ n
        omega
      · rw [cpart_right (by omega) (by omega) yes, List.length_append]
        have := ih (l.length - split l.length) (by omega) _ (m - split l.length) false l2 (by omega) (by omega)
        show _ + 1 ≤ n
        omega
set_option linter.unusedVariables false
set_option linter.unusedSimpArgs false
attribute [local irreducible] J Lq E OpP PRun is any agg tup ptr sl PRunW OpE
attribute [local irreducible] up2 mroot nodeH leafH emptyH shaH ownAt row someL leafOf splitZ split rv ways pairT cpart leadsR
end Go.Proofs.YtafbkgijahinkaaDoor.L
/-
  The document's check of consistency, walked.
-/
namespace Go.Proofs.YtafbkgijahinkaaDoor.L
open Go
set_option linter.unusedSectionVars false
variable [Globs] [Has_sha_table] [Has_sha_begin]
theorem leadsR_yes (r : List Hash) (m : Nat) (a : Hash) : leadsR r m m true a = ((a, a), decide (r.length = 0)) := by
  cases r with
  | nil => unfold leadsR; simp
  | cons h r => unfold leadsR; rw [if_pos rfl, if_pos rfl]; rfl
theorem leadsR_nil {m n : Nat} {yes : Bool} (h : ¬ (m = n ∧ yes = true)) (a : Hash) : leadsR [] m n yes a = ((a, a), false) := by
  unfold leadsR
  cases yes with
  | false => rw [Bool.and_false]
  | true => rw [decide_eq_false (fun he => h ⟨he, rfl⟩)]; rfl
theorem leadsR_no (h : Hash) (r : List Hash) (m : Nat) (a : Hash) : leadsR (h :: r) m m false a = ((h, h), decide (r.length = 0)) := by
  unfold leadsR
  rw [if_pos rfl, if_neg (by decide)]
  cases r <;> rfl
theorem leadsR_left {h : Hash} {r : List Hash} {m n : Nat} {yes : Bool} {a : Hash} (hmn : m ≠ n) (hk : m ≤ split n) : leadsR (h :: r) m n yes a = (((leadsR r m (split n) yes a).1.1, nodeH (leadsR r m (split n) yes a).1.2 h), (leadsR r m (split n) yes a).2) := by
  conv => lhs; unfold leadsR
  rw [if_neg hmn, if_pos hk]
theorem leadsR_right {h : Hash} {r : List Hash} {m n : Nat} {yes : Bool} {a : Hash} (hmn : m ≠ n) (hk : ¬ m ≤ split n) : leadsR (h :: r) m n yes a = ((nodeH h (leadsR r (m - split n) (n - split n) false a).1.1, nodeH h (leadsR r (m - split n) (n - split n) false a).1.2), (leadsR r (m - split n) (n - split n) false a).2) := by
  conv => lhs; unfold leadsR
  rw [if_neg hmn, if_neg hk]
set_option linter.unusedVariables false
set_option linter.unusedSimpArgs false
attribute [local irreducible] J Lq E OpP PRun is any agg tup ptr sl PRunW OpE
attribute [local irreducible] up2 mroot nodeH leafH emptyH shaH ownAt row someL leafOf splitZ split rv ways pairT cpart leadsR
end Go.Proofs.YtafbkgijahinkaaDoor.L
/-
  Both checks, the examples of layer 12.
-/
namespace Go.Proofs.YtafbkgijahinkaaDoor.L
open Go
set_option linter.unusedSectionVars false
variable [Globs] [Has_sha_table] [Has_sha_begin]
theorem okC_all {m n : Nat} (h1 : 1 ≤ m) (hm : m ≤ n) (u v : Hash) (pr : List Hash) : okC m n u v pr = ((leadsR pr.reverse m n true u).2 && decide ((leadsR pr.reverse m n true u).1 = (u, v))) := by
  by_cases he : m = n
  · subst he
    rw [leadsR_yes, List.length_reverse]
    unfold okC
    rw [if_pos rfl]
    cases pr <;> simp
  · exact okC_ref h1 (by omega) u v pr
/-- What a check tells. -/
def chkC (m n : Int) (u v : Hash) (pr : List Hash) : Int := if m < 1 ∨ n < m then 2 else if okC m.toNat n.toNat u v pr = true then 0 else 110
theorem chkC_bad {m n : Int} (h : m < 1 ∨ n < m) (u v : Hash) (pr : List Hash) : chkC m n u v pr = 2 := if_pos h
theorem chkC_ok {m n : Nat} (h1 : 1 ≤ m) (hm : m ≤ n) (u v : Hash) (pr : List Hash) : chkC m n u v pr = if okC m n u v pr = true then 0 else 110 := by
  unfold chkC
  rw [if_neg (by omega), Int.toNat_natCast, Int.toNat_natCast]
theorem tup3_eq {x y x' y' : Hash} : ((x, y) = (x', y')) ↔ (x = x' ∧ y = y') := Prod.mk.injEq x y x' y' ▸ Iff.rfl
theorem cprove_fn (l : List Hash) (m : Nat) (hl : l.length ≤ 90000) (h1 : 1 ≤ m) (hm : m ≤ l.length) : Fn Tryd.prog 27 [sl hashT.toTy l, is (.int .i64 (m : Int))] (tup [sl hashT.toTy (cpart l m true), is (.int .i64 0)]) := (cprove_fnR l m hl h1 hm).frz2
set_option linter.unusedVariables false
set_option linter.unusedSimpArgs false
attribute [local irreducible] J Lq E OpP PRun is any agg tup ptr sl PRunW OpE
attribute [local irreducible] up2 mroot nodeH leafH emptyH shaH ownAt row someL leafOf splitZ split rv ways pairT cpart leadsR okC chkC
end Go.Proofs.YtafbkgijahinkaaDoor.L
