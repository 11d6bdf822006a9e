/-
  Rows that are given up, and rows that are compared, walked.
-/
import Derived.Test.YtkhgebacgkgpcaaDoorWa
import Derived.Test.YtkhgebacgkgpcaaDoorLu
namespace Go.Proofs.YtkhgebacgkgpcaaDoor.L
open Go
set_option linter.unusedSectionVars false
variable [Globs] [Has_sha_table] [Has_sha_begin]
set_option linter.unusedVariables false
/-! ### Rows that are given up -/
theorem FnR.frz2 {P : Program} {f : Nat} {φs : List Pr} {α : Type} {T : Ty α} {l : List α} {e : Nat} {χ : Pr} (F : FnR P f φs [] (fun ψ Δ => ∃ A c, ψ = tup [is (.slice A l.length c), χ] ∧ Δ = [row (.slice A l.length c) e T l])) : Fn P f φs (tup [sl T l, χ]) :=
  ⟨F.ent, fun H w vs hs hv => (F.run H w vs hs hv (fun r hr => by cases hr) List.nodup_nil (fun b hb => by cases hb)).mono fun e' w' hR => by
    obtain ⟨v, H', ψ, Δ', rfl, ⟨A, c, rfl, rfl⟩, hψ, hsat, hok, hnd', hblk, hle, hfr, hkk⟩ := hR
    obtain ⟨cs, rfl, hcs⟩ := hψ
    match cs, hcs with
    | [v1, v2], ⟨h1, h2, _⟩ =>
      have h1 : v1 = .slice A l.length c := h1
      subst h1
      obtain ⟨H2, k1, k2, k3, k4⟩ := row_freeze hsat (hok _ List.mem_cons_self)
      refine ⟨_, H2, rfl, ⟨IH.le_trans hle k1, fun b o hb => ?_, k2, hfr⟩, _, rfl, k3, χ.mono k1 h2, trivial⟩
      rw [k4 b o (fun hb2 => ?_)]
      · exact hkk b o hb (by simp [blks])
      · have := hblk b (by unfold blks; rw [List.filterMap_cons, hb2]; exact List.mem_cons_self)
        rcases this.2 with h | h
        · cases h
        · omega⟩
theorem E.retct {α : Type} (T : Td α) {P : Program} {n : Nat} {w0 : World} {H0 : IH} {Γ : Env} {Δ : List Res} {fn : Func} {x : α} {r1 s t1 b1 e1 : Nat} {φ1 : List Pr} {χ ψ : Pr} (hr : fn.results = #[.cell r1 t1, .tmp s]) (h1 : look Γ r1 = some (is (.pointer (some ⟨b1, 0, none⟩)))) (h3 : look Γ s = some χ)
    (m1 : own b1 e1 φ1 ∈ Δ) [TSz P t1 T.sz] [TAg P t1 T.ag] (hx : φ1.take T.sz = T.cells x) (hp : ψ = tup [T.val x, χ]) : E ⟨P, n, w0, H0, [], none, []⟩ .ret Γ Δ (bodyPost P fn (RetP H0 w0 ψ)) := fun H a w S => by
  obtain ⟨v1, hv1, rfl⟩ := S.env r1 _ h1
  obtain ⟨v3, hv3, hχ⟩ := S.env s _ h3
  obtain ⟨u1, hu1, hφ1⟩ := own_load (P := P) T (t := t1) (S.res _ m1) hx
  refine ⟨S.dfr, .tuple #[u1, v3], ?_, _, H, rfl, S.ext, ?_⟩
  · simp [results, hr, hv1, hv3, asAddr, hu1]
  · rw [hp]
    exact ⟨[u1, v3], rfl, hφ1, hχ, trivial⟩
theorem weakLast {φ φ' : Pr} (h : ∀ H v, φ'.h H v → φ.h H v) : ∀ (xs : List Pr) H vs, All2 (fun (φ : Pr) v => φ.h H v) (xs ++ [φ']) vs → All2 (fun (φ : Pr) v => φ.h H v) (xs ++ [φ]) vs
  | [], H, [v], ⟨h1, _⟩ => ⟨h H v h1, trivial⟩
  | [], _, [], h => h.elim
  | [], _, _ :: _ :: _, ⟨_, h⟩ => h.elim
  | _ :: xs, H, _ :: vs, ⟨h1, h2⟩ => ⟨h1, weakLast h xs H vs h2⟩
  | _ :: _, _, [], h => h.elim
theorem sl_of_nil {α : Type} {T : Ty α} (H : IH) (v : Value) (h : (is (.slice none 0 0)).h H v) : (sl T []).h H v := sl_nil H v h
def nine : Hash := ⟨9 :: List.replicate 31 0, rfl⟩
theorem weakTwo {φ φ' χ χ' : Pr} (h : ∀ H v, φ'.h H v → φ.h H v) (k : ∀ H v, χ'.h H v → χ.h H v) : ∀ H vs, All2 (fun (φ : Pr) v => φ.h H v) [φ', χ'] vs → All2 (fun (φ : Pr) v => φ.h H v) [φ, χ] vs
  | H, [v, u], ⟨h1, h2, _⟩ => ⟨h H v h1, k H u h2, trivial⟩
  | _, [], h => h.elim
  | _, [_], ⟨_, h⟩ => h.elim
  | _, _ :: _ :: _ :: _, ⟨_, _, h⟩ => h.elim
theorem weakAt {φ φ' : Pr} (h : ∀ H v, φ'.h H v → φ.h H v) : ∀ (xs ys : List Pr) H vs, All2 (fun (φ : Pr) v => φ.h H v) (xs ++ φ' :: ys) vs → All2 (fun (φ : Pr) v => φ.h H v) (xs ++ φ :: ys) vs
  | [], _, H, v :: _, ⟨h1, h2⟩ => ⟨h H v h1, h2⟩
  | [], _, _, [], h => h.elim
  | _ :: xs, ys, H, _ :: vs, ⟨h1, h2⟩ => ⟨h1, weakAt h xs ys H vs h2⟩
  | _ :: _, _, _, [], h => h.elim
set_option linter.unusedVariables false
set_option linter.unusedSimpArgs false
attribute [local irreducible] J Lq E OpP PRun is any agg tup ptr sl PRunW OpE
attribute [local irreducible] up2 mroot nodeH leafH emptyH shaH ownAt row someL leafOf splitZ split rv slw
end Go.Proofs.YtkhgebacgkgpcaaDoor.L
