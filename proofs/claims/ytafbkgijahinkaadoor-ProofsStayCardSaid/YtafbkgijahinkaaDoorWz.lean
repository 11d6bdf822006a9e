/-
  Rows that are given up, and rows that are compared, walked.
-/
import Derived.Test.YtafbkgijahinkaaDoorWa
import Derived.Test.YtafbkgijahinkaaDoorLu
namespace Go.Proofs.YtafbkgijahinkaaDoor.L
open Go
set_option linter.unusedSectionVars false
variable [Globs] [Has_sha_table] [Has_sha_begin]
set_option linter.unusedVariables false
/-! ### Rows that are given up -/
theorem weakLast {φ φ' : Pr} (h : ∀ H v, φ'.h H v → φ.h H v) : ∀ (xs : List Pr) H vs, All2 (fun (φ : Pr) v => φ.h H v) (xs ++ [φ']) vs → All2 (fun (φ : Pr) v => φ.h H v) (xs ++ [φ]) vs
  | [], H, [v], ⟨h1, _⟩ => ⟨h H v h1, trivial⟩
  | [], _, [], h => h.elim
  | [], _, _ :: _ :: _, ⟨_, h⟩ => h.elim
  | _ :: xs, H, _ :: vs, ⟨h1, h2⟩ => ⟨h1, weakLast h xs H vs h2⟩
  | _ :: _, _, [], h => h.elim
theorem sl_of_nil {α : Type} {T : Ty α} (H : IH) (v : Value) (h : (is (.slice none 0 0)).h H v) : (sl T []).h H v := sl_nil H v h
def nine : Hash := ⟨9 :: List.replicate 31 0, rfl⟩
theorem weakTwo {φ φ' χ χ' : Pr} (h : ∀ H v, φ'.h H v → φ.h H v) (k : ∀ H v, χ'.h H v → χ.h H v) : ∀ H vs, All2 (fun (φ : Pr) v => φ.h H v) [φ', χ'] vs → All2 (fun (φ : Pr) v => φ.h H v) [φ, χ] vs
  | H, [v, u], ⟨h1, h2, _⟩ => ⟨h H v h1, k H u h2, trivial⟩
  | _, [], h => h.elim
  | _, [_], ⟨_, h⟩ => h.elim
  | _, _ :: _ :: _ :: _, ⟨_, _, h⟩ => h.elim
theorem weakAt {φ φ' : Pr} (h : ∀ H v, φ'.h H v → φ.h H v) : ∀ (xs ys : List Pr) H vs, All2 (fun (φ : Pr) v => φ.h H v) (xs ++ φ' :: ys) vs → All2 (fun (φ : Pr) v => φ.h H v) (xs ++ φ :: ys) vs
  | [], _, H, v :: _, ⟨h1, h2⟩ => ⟨h H v h1, h2⟩
  | [], _, _, [], h => h.elim
  | _ :: xs, ys, H, _ :: vs, ⟨h1, h2⟩ => ⟨h1, weakAt h xs ys H vs h2⟩
  | _ :: _, _, _, [], h => h.elim
set_option linter.unusedVariables false
set_option linter.unusedSimpArgs false
attribute [local irreducible] J Lq E OpP PRun is any agg tup ptr sl PRunW OpE
attribute [local irreducible] up2 mroot nodeH leafH emptyH shaH ownAt row someL leafOf splitZ split rv slw
end Go.Proofs.YtafbkgijahinkaaDoor.L
