/-
  slices.Reverse and consist.Prove, walked.
-/
import Derived.Test.YtafbkgijahinkaaDoorTh
import Derived.Test.YtafbkgijahinkaaDoorTq
import Derived.Test.YtafbkgijahinkaaDoorLu
namespace Go.Proofs.YtafbkgijahinkaaDoor.L
open Go
set_option linter.unusedSectionVars false
variable [Globs] [Has_sha_table] [Has_sha_begin]
/-! ### A row turned round, two at a time -/
def swp {α : Type} (l : List α) (i j : Nat) : List α := match l[i]?, l[j]? with | some a, some c => (l.set i c).set j a | _, _ => l
def rv {α : Type} (xs : List α) : Nat → List α
  | 0 => xs
  | i + 1 => swp (rv xs i) i (xs.length - 1 - i)
theorem swp_len {α : Type} (l : List α) (i j : Nat) : (swp l i j).length = l.length := by
  unfold swp
  split
  · rw [List.length_set, List.length_set]
  · rfl
theorem rv_len {α : Type} (xs : List α) : ∀ i, (rv xs i).length = xs.length
  | 0 => rfl
  | i + 1 => by rw [rv, swp_len, rv_len xs i]
theorem swp_of {α : Type} {l : List α} {i j : Nat} {a c : α} (h1 : l[i]? = some a) (h2 : l[j]? = some c) : swp l i j = (l.set i c).set j a := by
  unfold swp
  rw [h1, h2]
theorem rv_get {α : Type} (xs : List α) : ∀ (i k : Nat), 2 * i ≤ xs.length → k < xs.length → (rv xs i)[k]? = if k < i ∨ xs.length ≤ k + i then xs[xs.length - 1 - k]? else xs[k]?
  | 0, k, _, hk => by rw [if_neg (by omega)]; rfl
  | i + 1, k, hi, hk => by
    have g1 := rv_get xs i i (by omega) (by omega)
    have g2 := rv_get xs i (xs.length - 1 - i) (by omega) (by omega)
    have gk := rv_get xs i k (by omega) hk
    rw [if_neg (by omega)] at g1 g2
    obtain ⟨a, ha⟩ : ∃ a, xs[i]? = some a := ⟨_, List.getElem?_eq_getElem (by omega)⟩
    obtain ⟨c, hc⟩ : ∃ c, xs[xs.length - 1 - i]? = some c := ⟨_, List.getElem?_eq_getElem (by omega)⟩
    rw [rv, swp_of (g1.trans ha) (g2.trans hc)]
    have hl := rv_len xs i
    by_cases hkj : k = xs.length - 1 - i
    · subst hkj
      rw [List.getElem?_set_self (by rw [List.length_set]; omega), if_pos (by omega), show xs.length - 1 - (xs.length - 1 - i) = i by omega, ha]
    · rw [List.getElem?_set_ne (by omega)]
      by_cases hki : k = i
      · subst hki
        rw [List.getElem?_set_self (by omega), if_pos (by omega), hc]
      · rw [List.getElem?_set_ne (by omega), gk]
        by_cases h : k < i ∨ xs.length ≤ k + i
        · rw [if_pos h, if_pos (by omega)]
        · rw [if_neg h, if_neg (by omega)]
theorem rv_all {α : Type} (xs : List α) (i : Nat) (h1 : 2 * i ≤ xs.length) (h2 : xs.length ≤ 2 * i + 1) : rv xs i = xs.reverse := by
  apply List.ext_getElem?
  intro k
  by_cases hk : k < xs.length
  · rw [rv_get xs i k h1 hk, List.getElem?_reverse hk]
    by_cases h : k < i ∨ xs.length ≤ k + i
    · rw [if_pos h]
    · rw [if_neg h, show xs.length - 1 - k = k by omega]
  · rw [List.getElem?_eq_none (by rw [rv_len]; omega), List.getElem?_eq_none (by rw [List.length_reverse]; omega)]
theorem itemS_own {b o n c e : Nat} {φs φs' : List Pr} : ∀ u H w, (itemS b o n c (own b e φs) u).ok H w → itemS b o n c (own b e φs) u = own b e φs ∧ itemS b o n c (own b e φs') u = own b e φs' := by
  intro u H w h
  obtain rfl := itemS_ok h
  exact ⟨itemS_self _ _ _ _ _, itemS_self _ _ _ _ _⟩
theorem itemS_fst {b o n c e : Nat} {φs : List Pr} : ∀ u H w, (itemS b o n c (own b e φs) u).ok H w → itemS b o n c (own b e φs) u = own b e φs := fun u H w h => (itemS_own (φs' := φs) u H w h).1
theorem itemA_own {b e : Nat} {φs φs' : List Pr} : ∀ u H w, (itemA b e φs u).ok H w → itemA b e φs u = own b e φs ∧ itemA b e φs' u = own b e φs' := by
  intro u H w h
  obtain ⟨rfl, _⟩ := itemA_ok h
  exact ⟨itemA_self _ _ _, itemA_self _ _ _⟩
theorem itemA_fst {b e : Nat} {φs : List Pr} : ∀ u H w, (itemA b e φs u).ok H w → itemA b e φs u = own b e φs := fun u H w h => (itemA_own (φs' := φs) u H w h).1
theorem op_shr1 {P : Program} {Γ : Env} {Δ : List Res} {d : Option Nat} {ty : Nat} {pos : String} {af : Array Edge} {g : Option (Nat × Bool)} {x y : Operand} {t yt : Nat} {m c : Nat} {k2 : IntKind} (h1 : opd Γ x = some (is (.int .i64 (m : Int)))) (h2 : opd Γ y = some (is (.int k2 1))) (hc : m / 2 = c) : OpP P Γ Δ ⟨d, .binOp .shr t x y yt, ty, pos, af, g⟩ (is (.int .i64 (c : Int))) := by
  have := op_shrn (P := P) (Γ := Γ) (Δ := Δ) (d := d) (ty := ty) (pos := pos) (af := af) (g := g) (t := t) (yt := yt) (m := m) (n := 1) h1 h2 (by decide)
  rw [Nat.pow_one, hc] at this
  exact this
theorem op_ksl_hi' {P : Program} {Γ : Env} {Δ : List Res} {d : Option Nat} {ty : Nat} {pos : String} {af : Array Edge} {g : Option (Nat × Bool)} {x y : Operand} {t : Nat} {α : Type} {T : Ty α} {xs ys : List α} {e sz hi : Nat} {k : IntKind} (h : opd Γ x = some (sl T xs)) (hh : opd Γ y = some (is (.int k (hi : Int)))) [ht : TSl P t e] [TSz P e sz] (h1 : hi ≤ xs.length) (he : xs.take hi = ys) : OpP P Γ Δ ⟨d, .slice t x none (some y) none, ty, pos, af, g⟩ (sl T ys) := he ▸ op_ksl_hi h hh h1
theorem take_hash (x : Hash) : (hashT.cells x).take hashT.sz = hashT.cells x := List.take_of_length_le (Nat.le_of_eq (hashT.len _))
theorem at_hash (x : Hash) : ((hashT.cells x).drop 0).take hashT.sz = hashT.cells x := take_hash x
set_option linter.unusedVariables false
set_option linter.unusedSimpArgs false
attribute [local irreducible] J Lq E OpP PRun is any agg tup ptr sl PRunW OpE
attribute [local irreducible] up2 mroot nodeH leafH emptyH shaH ownAt row someL leafOf splitZ split rv
set_option maxHeartbeats 1000000 in
theorem reverse_fnR (xs : List Hash) (hx : xs.length ≤ 100000) (A : Option Addr) (c e : Nat) : FnR Tryd.prog 41 [is (.slice A xs.length c)] [row (.slice A xs.length c) e hashT.toTy xs] (fun ψ Δ => ψ = any ∧ Δ = [row (.slice A xs.length c) e hashT.toTy xs.reverse]) := by
  refine FnR.mk' 28 Tryd.func41 rfl rfl rfl rfl fun w0 H0 => ?_
  by_cases h0 : xs = []
  · subst h0
    repeat (first | ((first | (apply Lq.s; rfl) | apply PRun.s | (apply Lq.run; rfl; rfl; rfl; exact bsB) | (apply PRun.run; rfl; rfl; exact bsB)); first | (apply op_slen; rfl) | (exact bsO)) | apply J.seq | apply E.next | apply J.lq | apply Lq.nil | apply PRun.nil | apply J.block | apply E.in_normal | apply J.skip | (apply Lq.store; rfl; rfl; exact bsP; exact bsS; rfl; rfl) | (apply PRun.al; rfl) | (apply Lq.al; rfl; rfl; intro b) | (apply Open.cons; intro b) | apply Open.nil | (apply Lq.pass; rfl; rfl; rfl) | (apply PRun.pass; rfl; rfl) | (apply Lq.skip; rfl; rfl; rfl; exact bsB) | (apply PRun.skip; rfl; rfl; exact bsB) | (apply J.drawN; exact mixed; kernel_rfl) | (apply J.cond_t; rfl) | (apply J.cond_f; rfl) | apply J.exit | apply E.then_exit | apply E.in_exit | (apply E.in_other; rfl))
    refine J.loop (fun _ : Nat => True) (fun _ => [(2, is (.int .i64 0)), (3, is (.int .i64 (0 - 1)))]) (fun _ => [row (.slice A 0 c) e hashT.toTy []]) (fun _ => 0) 0 trivial (Sub.same (by repeat' (first | exact trivial | refine ⟨rfl, ?_⟩))) ?_
    intro _ _
    repeat (first | ((first | (apply Lq.s; rfl) | apply PRun.s | (apply Lq.run; rfl; rfl; rfl; exact bsB) | (apply PRun.run; rfl; rfl; exact bsB)); first | (exact bsO)) | apply J.seq | apply E.next | apply J.lq | apply Lq.nil | apply PRun.nil | apply J.block | apply E.in_normal | apply J.skip | (apply Lq.store; rfl; rfl; exact bsP; exact bsS; rfl; rfl) | (apply PRun.al; rfl) | (apply Lq.al; rfl; rfl; intro b) | (apply Open.cons; intro b) | apply Open.nil | (apply Lq.pass; rfl; rfl; rfl) | (apply PRun.pass; rfl; rfl) | (apply Lq.skip; rfl; rfl; rfl; exact bsB) | (apply PRun.skip; rfl; rfl; exact bsB) | (apply J.drawN; exact mixed; kernel_rfl) | (apply J.cond_t; rfl) | (apply J.cond_f; rfl) | apply J.exit | apply E.then_exit | apply E.in_exit | (apply E.in_other; rfl))
    exact E.retR0 .normal (.inr rfl) rfl (fun _ => any_h) ⟨rfl, rfl⟩ (List.Perm.refl _)
  · have hpos : 0 < xs.length := List.length_pos_iff.2 h0
    refine J.open (List.Perm.refl _) h0 ?_
    intro rb ro cap pre post hR
    obtain ⟨hv, hpre, hle, hcap, hroom, _⟩ := hR
    injection hv with hA _ hc
    subst hA; subst hc
    repeat (first | ((first | (apply Lq.s; rfl) | apply PRun.s | (apply Lq.run; rfl; rfl; rfl; exact bsB) | (apply PRun.run; rfl; rfl; exact bsB)); first | (apply op_slen; rfl) | (apply op_sub (c := ((xs.length - 1 : Nat) : Int)); rfl; rfl; (rw [show (xs.length : Int) - 1 = ((xs.length - 1 : Nat) : Int) by omega]; apply wrapi <;> omega)) | (exact bsO)) | apply J.seq | apply E.next | apply J.lq | apply Lq.nil | apply PRun.nil | apply J.block | apply E.in_normal | apply J.skip | (apply Lq.store; rfl; rfl; exact bsP; exact bsS; rfl; rfl) | (apply PRun.al; rfl) | (apply Lq.al; rfl; rfl; intro b) | (apply Open.cons; intro b) | apply Open.nil | (apply Lq.pass; rfl; rfl; rfl) | (apply PRun.pass; rfl; rfl) | (apply Lq.skip; rfl; rfl; rfl; exact bsB) | (apply PRun.skip; rfl; rfl; exact bsB) | (apply J.drawN; exact mixed; kernel_rfl) | (apply J.cond_t; rfl) | (apply J.cond_f; rfl) | apply J.exit | apply E.then_exit | apply E.in_exit | (apply E.in_other; rfl))
    refine J.loop (fun p : Nat × Nat => p.1 + p.2 + 1 = xs.length ∧ p.1 ≤ p.2 + 1) (fun p => [(0, is (.slice (some ⟨rb, ro, none⟩) xs.length c)), (2, is (.int .i64 (p.1 : Int))), (3, is (.int .i64 (p.2 : Int)))]) (fun p => [own rb e (pre ++ flat hashT.toTy (rv xs p.1) ++ post)]) (fun p => xs.length - p.1) (0, xs.length - 1) ⟨by dsimp only; omega, by dsimp only; omega⟩ (by dsimp only; rw [rv]; exact (Sub.same (by repeat' (first | exact trivial | refine ⟨rfl, ?_⟩)))) ?_
    rintro ⟨i, j⟩ ⟨hij, hij2⟩
    dsimp only at hij hij2 ⊢
    have hl := rv_len xs i
    by_cases hlt : i < j
    · obtain ⟨a, ha⟩ : ∃ a, (rv xs i)[i]? = some a := ⟨_, List.getElem?_eq_getElem (by omega)⟩
      obtain ⟨d, hd⟩ : ∃ d, (rv xs i)[j]? = some d := ⟨_, List.getElem?_eq_getElem (by omega)⟩
      have hnext : rv xs (i + 1) = ((rv xs i).set i d).set j a := by
        rw [rv, show xs.length - 1 - i = j by omega]
        exact swp_of ha hd
      repeat (first | ((first | (apply Lq.s; rfl) | apply PRun.s | (apply Lq.run; rfl; rfl; rfl; exact bsB) | (apply PRun.run; rfl; rfl; exact bsB)); first | (exact bsO)) | apply J.seq | apply E.next | apply J.lq | apply Lq.nil | apply PRun.nil | apply J.block | apply E.in_normal | apply J.skip | (apply Lq.store; rfl; rfl; exact bsP; exact bsS; rfl; rfl) | (apply PRun.al; rfl) | (apply Lq.al; rfl; rfl; intro b) | (apply Open.cons; intro b) | apply Open.nil | (apply Lq.pass; rfl; rfl; rfl) | (apply PRun.pass; rfl; rfl) | (apply Lq.skip; rfl; rfl; rfl; exact bsB) | (apply PRun.skip; rfl; rfl; exact bsB) | (apply J.cond_t; rfl) | (apply J.cond_f; rfl) | apply J.exit | apply E.then_exit | apply E.in_exit | (apply E.in_other; rfl))
      refine J.drawW1 16 [(none, none), (none, none), (none, none), (none, none), (none, none), (none, none), (none, none), (some 0, some 0), (none, none), (none, none), (none, none), (some 0, some 0), (none, none), (some 0, some 0), (none, none), (some 0, some 0)] 0 (itemS rb ro xs.length c (own rb e (pre ++ flat hashT.toTy (rv xs i) ++ post))) rfl (by rw [itemS_self]) mixed (by kernel_rfl) ?_
      repeat (first | ((first | apply PRunW.s | (apply PRunW.run; rfl; rfl; exact bsB) | (apply Lq.s; rfl) | apply PRun.s | (apply Lq.run; rfl; rfl; rfl; exact bsB) | (apply PRun.run; rfl; rfl; exact bsB)); first | (apply op_siaddr; rfl; rfl; omega; omega) | (exact bsO)) | apply J.seq | apply E.next | apply J.lq | apply Lq.nil | apply PRun.nil | apply J.block | apply E.in_normal | apply J.skip | (apply Lq.store; rfl; rfl; exact bsP; exact bsS; rfl; rfl) | (apply PRun.al; rfl) | (apply Lq.al; rfl; rfl; intro b) | (apply Open.cons; intro b) | apply Open.nil | (apply Lq.pass; rfl; rfl; rfl) | (apply PRun.pass; rfl; rfl) | (apply Lq.skip; rfl; rfl; rfl; exact bsB) | (apply PRun.skip; rfl; rfl; exact bsB) | (apply J.cond_t; rfl) | (apply J.cond_f; rfl) | apply J.exit | apply E.then_exit | apply E.in_exit | (apply E.in_other; rfl) | apply PRunW.nil | (apply PRunW.al; rfl) | (apply PRunW.pass; rfl; rfl) | (apply PRunW.skip; rfl; rfl; exact bsB) | (apply Open.pv; intro b) | apply Open.av | (apply Open.rv; intro A c))
      refine PRunW.ldG hashT (v := d) (by decide) itemS_fst rfl rfl (at_row hashT.toTy hpre (by rw [Int.toNat_natCast]; exact hd)) ?_
      repeat (first | ((first | apply PRunW.s | (apply PRunW.run; rfl; rfl; exact bsB) | (apply Lq.s; rfl) | apply PRun.s | (apply Lq.run; rfl; rfl; rfl; exact bsB) | (apply PRun.run; rfl; rfl; exact bsB)); first | (apply op_siaddr; rfl; rfl; omega; omega) | (exact bsO)) | apply J.seq | apply E.next | apply J.lq | apply Lq.nil | apply PRun.nil | apply J.block | apply E.in_normal | apply J.skip | (apply Lq.store; rfl; rfl; exact bsP; exact bsS; rfl; rfl) | (apply PRun.al; rfl) | (apply Lq.al; rfl; rfl; intro b) | (apply Open.cons; intro b) | apply Open.nil | (apply Lq.pass; rfl; rfl; rfl) | (apply PRun.pass; rfl; rfl) | (apply Lq.skip; rfl; rfl; rfl; exact bsB) | (apply PRun.skip; rfl; rfl; exact bsB) | (apply J.cond_t; rfl) | (apply J.cond_f; rfl) | apply J.exit | apply E.then_exit | apply E.in_exit | (apply E.in_other; rfl) | apply PRunW.nil | (apply PRunW.al; rfl) | (apply PRunW.pass; rfl; rfl) | (apply PRunW.skip; rfl; rfl; exact bsB) | (apply Open.pv; intro b) | apply Open.av | (apply Open.rv; intro A c))
      refine PRunW.ldG hashT (v := a) (by decide) itemS_fst rfl rfl (at_row hashT.toTy hpre (by rw [Int.toNat_natCast]; exact ha)) ?_
      repeat (first | ((first | apply PRunW.s | (apply PRunW.run; rfl; rfl; exact bsB) | (apply Lq.s; rfl) | apply PRun.s | (apply Lq.run; rfl; rfl; rfl; exact bsB) | (apply PRun.run; rfl; rfl; exact bsB)); first | (apply op_siaddr; rfl; rfl; omega; omega) | (exact bsO)) | apply J.seq | apply E.next | apply J.lq | apply Lq.nil | apply PRun.nil | apply J.block | apply E.in_normal | apply J.skip | (apply Lq.store; rfl; rfl; exact bsP; exact bsS; rfl; rfl) | (apply PRun.al; rfl) | (apply Lq.al; rfl; rfl; intro b) | (apply Open.cons; intro b) | apply Open.nil | (apply Lq.pass; rfl; rfl; rfl) | (apply PRun.pass; rfl; rfl) | (apply Lq.skip; rfl; rfl; rfl; exact bsB) | (apply PRun.skip; rfl; rfl; exact bsB) | (apply J.cond_t; rfl) | (apply J.cond_f; rfl) | apply J.exit | apply E.then_exit | apply E.in_exit | (apply E.in_other; rfl) | apply PRunW.nil | (apply PRunW.al; rfl) | (apply PRunW.pass; rfl; rfl) | (apply PRunW.skip; rfl; rfl; exact bsB) | (apply Open.pv; intro b) | apply Open.av | (apply Open.rv; intro A c))
      refine PRunW.stG (R1 := itemS rb ro xs.length c (own rb e (pre ++ flat hashT.toTy ((rv xs i).set i d) ++ post))) itemS_own rfl rfl rfl (Seg.val hashT d) (hashT.len _) (by rw [Int.toNat_natCast]; exact row_room hashT.toTy hpre (by omega)) (by rw [Int.toNat_natCast]; exact set_row hashT.toTy hpre (by omega)) ?_
      repeat (first | ((first | apply PRunW.s | (apply PRunW.run; rfl; rfl; exact bsB) | (apply Lq.s; rfl) | apply PRun.s | (apply Lq.run; rfl; rfl; rfl; exact bsB) | (apply PRun.run; rfl; rfl; exact bsB)); first | (apply op_siaddr; rfl; rfl; omega; omega) | (exact bsO)) | apply J.seq | apply E.next | apply J.lq | apply Lq.nil | apply PRun.nil | apply J.block | apply E.in_normal | apply J.skip | (apply Lq.store; rfl; rfl; exact bsP; exact bsS; rfl; rfl) | (apply PRun.al; rfl) | (apply Lq.al; rfl; rfl; intro b) | (apply Open.cons; intro b) | apply Open.nil | (apply Lq.pass; rfl; rfl; rfl) | (apply PRun.pass; rfl; rfl) | (apply Lq.skip; rfl; rfl; rfl; exact bsB) | (apply PRun.skip; rfl; rfl; exact bsB) | (apply J.cond_t; rfl) | (apply J.cond_f; rfl) | apply J.exit | apply E.then_exit | apply E.in_exit | (apply E.in_other; rfl) | apply PRunW.nil | (apply PRunW.al; rfl) | (apply PRunW.pass; rfl; rfl) | (apply PRunW.skip; rfl; rfl; exact bsB) | (apply Open.pv; intro b) | apply Open.av | (apply Open.rv; intro A c))
      refine PRunW.stG (R1 := itemS rb ro xs.length c (own rb e (pre ++ flat hashT.toTy (((rv xs i).set i d).set j a) ++ post))) itemS_own rfl rfl rfl (Seg.val hashT a) (hashT.len _) (by rw [Int.toNat_natCast]; exact row_room hashT.toTy hpre (by rw [List.length_set]; omega)) (by rw [Int.toNat_natCast]; exact set_row hashT.toTy hpre (by rw [List.length_set]; omega)) ?_
      rw [← hnext]
      refine PRunW.nil (Open.sv ?_)
      repeat (first | ((first | apply PRunW.s | (apply PRunW.run; rfl; rfl; exact bsB) | (apply Lq.s; rfl) | apply PRun.s | (apply Lq.run; rfl; rfl; rfl; exact bsB) | (apply PRun.run; rfl; rfl; exact bsB)); first | (apply op_sub (c := ((j - 1 : Nat) : Int)); rfl; rfl; (rw [show (j : Int) - 1 = ((j - 1 : Nat) : Int) by omega]; apply wrapi <;> omega)) | (apply op_add (c := ((i + 1 : Nat) : Int)); rfl; rfl; (rw [show (i : Int) + 1 = ((i + 1 : Nat) : Int) by omega]; apply wrapi <;> omega)) | (exact bsO)) | apply J.seq | apply E.next | apply J.lq | apply Lq.nil | apply PRun.nil | apply J.block | apply E.in_normal | apply J.skip | (apply Lq.store; rfl; rfl; exact bsP; exact bsS; rfl; rfl) | (apply PRun.al; rfl) | (apply Lq.al; rfl; rfl; intro b) | (apply Open.cons; intro b) | apply Open.nil | (apply Lq.pass; rfl; rfl; rfl) | (apply PRun.pass; rfl; rfl) | (apply Lq.skip; rfl; rfl; rfl; exact bsB) | (apply PRun.skip; rfl; rfl; exact bsB) | (apply J.cond_t; rfl) | (apply J.cond_f; rfl) | apply J.exit | apply E.then_exit | apply E.in_exit | (apply E.in_other; rfl) | apply PRunW.nil | (apply PRunW.al; rfl) | (apply PRunW.pass; rfl; rfl) | (apply PRunW.skip; rfl; rfl; exact bsB) | (apply Open.pv; intro b) | apply Open.av | (apply Open.rv; intro A c))
      exact E.again (i + 1, j - 1) (by dsimp only; omega) ⟨by dsimp only; omega, by dsimp only; omega⟩ (Sub.same (by repeat' (first | exact trivial | refine ⟨rfl, ?_⟩)))
    · have hr := rv_all xs i (by omega) (by omega)
      rw [hr]
      repeat (first | ((first | (apply Lq.s; rfl) | apply PRun.s | (apply Lq.run; rfl; rfl; rfl; exact bsB) | (apply PRun.run; rfl; rfl; exact bsB)); first | (exact bsO)) | apply J.seq | apply E.next | apply J.lq | apply Lq.nil | apply PRun.nil | apply J.block | apply E.in_normal | apply J.skip | (apply Lq.store; rfl; rfl; exact bsP; exact bsS; rfl; rfl) | (apply PRun.al; rfl) | (apply Lq.al; rfl; rfl; intro b) | (apply Open.cons; intro b) | apply Open.nil | (apply Lq.pass; rfl; rfl; rfl) | (apply PRun.pass; rfl; rfl) | (apply Lq.skip; rfl; rfl; rfl; exact bsB) | (apply PRun.skip; rfl; rfl; exact bsB) | (apply J.drawN; exact mixed; kernel_rfl) | (apply J.cond_t; rfl) | (apply J.cond_f; rfl) | apply J.exit | apply E.then_exit | apply E.in_exit | (apply E.in_other; rfl))
      have hrl : xs.reverse.length = xs.length := List.length_reverse
      refine E.close hashT.toTy xs.reverse (b := rb) (o := ro) (cap := c) (List.Perm.refl _) ?_ (by rw [hrl]; exact hle) hcap (take_rowT hashT.toTy hpre) ?_
      · simp only [List.length_append, flat_len, hrl] at hroom ⊢
        exact hroom
      rw [hrl]
      exact E.retR0 .normal (.inr rfl) rfl (fun _ => any_h) ⟨rfl, rfl⟩ (List.Perm.refl _)
theorem cprove_bad (l : List Hash) (m : Int) (hl : l.length ≤ 100000) (hm : m < 1 ∨ (l.length : Int) < m) : Fn Tryd.prog 27 [sl hashT.toTy l, is (.int .i64 m)] (tup [is (.slice none 0 0), is (.int .i64 2)]) := by
  by_cases h1 : m < 1
  · refine Fn.mk' 60 Tryd.func27 rfl rfl rfl rfl fun w0 H0 => ?_
    repeat (first | ((first | (apply Lq.s; rfl) | apply PRun.s | (apply Lq.run; rfl; rfl; rfl; exact bsB) | (apply PRun.run; rfl; rfl; exact bsB)); first | (exact bsO)) | apply J.seq | apply E.next | apply J.lq | apply Lq.nil | apply PRun.nil | apply J.block | apply E.in_normal | apply J.skip | (apply Lq.store; rfl; rfl; exact bsP; exact bsS; rfl; rfl) | (apply PRun.al; rfl) | (apply Lq.al; rfl; rfl; intro b) | (apply Open.cons; intro b) | apply Open.nil | (apply Lq.pass; rfl; rfl; rfl) | (apply PRun.pass; rfl; rfl) | (apply Lq.skip; rfl; rfl; rfl; exact bsB) | (apply PRun.skip; rfl; rfl; exact bsB) | (apply J.drawN; exact mixed; kernel_rfl) | (apply J.cond_t; rfl) | (apply J.cond_f; rfl) | apply J.exit | apply E.then_exit | apply E.in_exit | (apply E.in_other; rfl))
    (refine J.ret ?_; (repeat (first | refine E.then_ret ?_ | refine E.in_ret ?_)))
    exact E.ret2 rfl rfl rfl
  · have h2 : (l.length : Int) < m := by omega
    refine Fn.mk' 60 Tryd.func27 rfl rfl rfl rfl fun w0 H0 => ?_
    repeat (first | ((first | (apply Lq.s; rfl) | apply PRun.s | (apply Lq.run; rfl; rfl; rfl; exact bsB) | (apply PRun.run; rfl; rfl; exact bsB)); first | (exact bsO)) | apply J.seq | apply E.next | apply J.lq | apply Lq.nil | apply PRun.nil | apply J.block | apply E.in_normal | apply J.skip | (apply Lq.store; rfl; rfl; exact bsP; exact bsS; rfl; rfl) | (apply PRun.al; rfl) | (apply Lq.al; rfl; rfl; intro b) | (apply Open.cons; intro b) | apply Open.nil | (apply Lq.pass; rfl; rfl; rfl) | (apply PRun.pass; rfl; rfl) | (apply Lq.skip; rfl; rfl; rfl; exact bsB) | (apply PRun.skip; rfl; rfl; exact bsB) | (apply J.drawN; exact mixed; kernel_rfl) | (apply J.cond_t; rfl) | (apply J.cond_f; rfl) | apply J.exit | apply E.then_exit | apply E.in_exit | (apply E.in_other; rfl))
    (refine J.ret ?_; (repeat (first | refine E.then_ret ?_ | refine E.in_ret ?_)))
    exact E.ret2 rfl rfl rfl
set_option maxHeartbeats 1000000 in
theorem cprove_fnR (l : List Hash) (m : Nat) (hl : l.length ≤ 90000) (h1 : 1 ≤ m) (hm : m ≤ l.length) : FnR Tryd.prog 27 [sl hashT.toTy l, is (.int .i64 (m : Int))] [] (fun ψ Δ => ∃ A c, ψ = tup [is (.slice A (cpart l m true).length c), is (.int .i64 0)] ∧ Δ = [row (.slice A (cpart l m true).length c) 32 hashT.toTy (cpart l m true)]) := by
  refine FnR.mk' 60 Tryd.func27 rfl rfl rfl rfl fun w0 H0 => ?_
  generalize hw : cpart l m true = want
  repeat (first | ((first | (apply Lq.s; rfl) | apply PRun.s | (apply Lq.run; rfl; rfl; rfl; exact bsB) | (apply PRun.run; rfl; rfl; exact bsB)); first | (exact bsO)) | apply J.seq | apply E.next | apply J.lq | apply Lq.nil | apply PRun.nil | apply J.block | apply E.in_normal | apply J.skip | (apply Lq.store; rfl; rfl; exact bsP; exact bsS; rfl; rfl) | (apply PRun.al; rfl) | (apply Lq.al; rfl; rfl; intro b) | (apply Open.cons; intro b) | apply Open.nil | (apply Lq.pass; rfl; rfl; rfl) | (apply PRun.pass; rfl; rfl) | (apply Lq.skip; rfl; rfl; rfl; exact bsB) | (apply PRun.skip; rfl; rfl; exact bsB) | (apply J.drawN; exact mixed; kernel_rfl) | (apply J.cond_t; rfl) | (apply J.cond_f; rfl) | apply J.exit | apply E.then_exit | apply E.in_exit | (apply E.in_other; rfl))
  refine J.nilrow 32 hashT.toTy ?_
  refine J.loop (fun p : List Hash × Nat × Bool × List Hash × Option Addr × Nat => 1 ≤ p.2.1 ∧ p.2.1 ≤ p.1.length ∧ p.1.length + p.2.2.2.1.length ≤ l.length ∧ want = cpart p.1 p.2.1 p.2.2.1 ++ p.2.2.2.1.reverse)
    (fun p => [(0, sl hashT.toTy p.1), (1, is (.int .i64 (p.2.1 : Int))), (6, is (.slice p.2.2.2.2.1 p.2.2.2.1.length p.2.2.2.2.2)), (7, is (.bool p.2.2.1))])
    (fun p => [row (.slice p.2.2.2.2.1 p.2.2.2.1.length p.2.2.2.2.2) 32 hashT.toTy p.2.2.2.1]) (fun p => p.1.length) (l, m, true, [], none, 0) ⟨h1, hm, by simp, by simp [hw]⟩ (Sub.same (by repeat' (first | exact trivial | refine ⟨rfl, ?_⟩))) ?_
  rintro ⟨x, k, yes, out, A, c⟩ ⟨hk1, hk2, hlen, hwant⟩
  dsimp only at hk1 hk2 hlen hwant ⊢
  by_cases hlt : k < x.length
  · have hsp := splitN_fn x.length (by omega)
    obtain ⟨s1, s2, s3⟩ := split_lt (n := x.length) (by omega)
    have l1 : (x.take (split x.length)).length = split x.length := by rw [List.length_take]; omega
    have l2 : (x.drop (split x.length)).length = x.length - split x.length := List.length_drop
    by_cases hks : k ≤ split x.length
    · have hc := cpart_left hk1 hlt hks yes
      generalize split x.length = s at *
      have hroot := root_fn (x.drop s) (by omega)
      generalize mroot (x.drop s) = r at *
      repeat (first | ((first | (apply Lq.s; rfl) | apply PRun.s | (apply Lq.run; rfl; rfl; rfl; exact bsB) | (apply PRun.run; rfl; rfl; exact bsB)); first | (apply op_call hsp; exact bsD) | (apply op_ksl_lo (T := hashT.toTy) (lo := s); rfl; rfl; omega) | (apply op_call hroot; exact bsD) | (apply op_bslice hashT (xs := [r]); (repeat (first | exact PO.nil _ | (apply PO.cons; rfl))); rfl; rfl; rfl) | (exact bsO)) | apply J.seq | apply E.next | apply J.lq | apply Lq.nil | apply PRun.nil | apply J.block | apply E.in_normal | apply J.skip | (apply Lq.store; rfl; rfl; exact bsP; exact bsS; rfl; rfl) | (apply PRun.al; rfl) | (apply Lq.al; rfl; rfl; intro b) | (apply Open.cons; intro b) | apply Open.nil | (apply Lq.pass; rfl; rfl; rfl) | (apply PRun.pass; rfl; rfl) | (apply Lq.skip; rfl; rfl; rfl; exact bsB) | (apply PRun.skip; rfl; rfl; exact bsB) | (apply J.drawN; exact mixed; kernel_rfl) | (apply J.cond_t; rfl) | (apply J.cond_f; rfl) | apply J.exit | apply E.then_exit | apply E.in_exit | (apply E.in_other; rfl))
      (apply Lq.append (T := hashT) (xs := out) (ys := [r]); rfl; exact List.Perm.refl _; (apply From.sl; rfl); rfl; rfl; rfl; (show _ + 1 ≤ maxLen; unfold maxLen; omega); (show (_ + 1) * 32 ≤ _; omega))
      intro A1 c1
      repeat (first | ((first | (apply Lq.s; rfl) | apply PRun.s | (apply Lq.run; rfl; rfl; rfl; exact bsB) | (apply PRun.run; rfl; rfl; exact bsB)); first | (apply op_ksl_hi (T := hashT.toTy) (hi := s); rfl; rfl; omega) | (exact bsO)) | apply J.seq | apply E.next | apply J.lq | apply Lq.nil | apply PRun.nil | apply J.block | apply E.in_normal | apply J.skip | (apply Lq.store; rfl; rfl; exact bsP; exact bsS; rfl; rfl) | (apply PRun.al; rfl) | (apply Lq.al; rfl; rfl; intro b) | (apply Open.cons; intro b) | apply Open.nil | (apply Lq.pass; rfl; rfl; rfl) | (apply PRun.pass; rfl; rfl) | (apply Lq.skip; rfl; rfl; rfl; exact bsB) | (apply PRun.skip; rfl; rfl; exact bsB) | (apply J.drawN; exact mixed; kernel_rfl) | (apply J.cond_t; rfl) | (apply J.cond_f; rfl) | apply J.exit | apply E.then_exit | apply E.in_exit | (apply E.in_other; rfl))
      exact E.again (x.take s, k, yes, out ++ [r], A1, c1) (by dsimp only; omega) ⟨hk1, by dsimp only; omega, by dsimp only; rw [List.length_append]; show _ + (_ + 1) ≤ _; omega, by dsimp only; rw [hwant, hc, List.reverse_append]; simp⟩ (Sub.same (by repeat' (first | exact trivial | refine ⟨rfl, ?_⟩)))
    · have hc := cpart_right hlt (by omega) yes
      generalize split x.length = s at *
      have hroot := root_fn (x.take s) (by omega)
      generalize mroot (x.take s) = r at *
      repeat (first | ((first | (apply Lq.s; rfl) | apply PRun.s | (apply Lq.run; rfl; rfl; rfl; exact bsB) | (apply PRun.run; rfl; rfl; exact bsB)); first | (apply op_call hsp; exact bsD) | (apply op_ksl_hi (T := hashT.toTy) (hi := s); rfl; rfl; omega) | (apply op_call hroot; exact bsD) | (apply op_bslice hashT (xs := [r]); (repeat (first | exact PO.nil _ | (apply PO.cons; rfl))); rfl; rfl; rfl) | (exact bsO)) | apply J.seq | apply E.next | apply J.lq | apply Lq.nil | apply PRun.nil | apply J.block | apply E.in_normal | apply J.skip | (apply Lq.store; rfl; rfl; exact bsP; exact bsS; rfl; rfl) | (apply PRun.al; rfl) | (apply Lq.al; rfl; rfl; intro b) | (apply Open.cons; intro b) | apply Open.nil | (apply Lq.pass; rfl; rfl; rfl) | (apply PRun.pass; rfl; rfl) | (apply Lq.skip; rfl; rfl; rfl; exact bsB) | (apply PRun.skip; rfl; rfl; exact bsB) | (apply J.drawN; exact mixed; kernel_rfl) | (apply J.cond_t; rfl) | (apply J.cond_f; rfl) | apply J.exit | apply E.then_exit | apply E.in_exit | (apply E.in_other; rfl))
      (apply Lq.append (T := hashT) (xs := out) (ys := [r]); rfl; exact List.Perm.refl _; (apply From.sl; rfl); rfl; rfl; rfl; (show _ + 1 ≤ maxLen; unfold maxLen; omega); (show (_ + 1) * 32 ≤ _; omega))
      intro A1 c1
      repeat (first | ((first | (apply Lq.s; rfl) | apply PRun.s | (apply Lq.run; rfl; rfl; rfl; exact bsB) | (apply PRun.run; rfl; rfl; exact bsB)); first | (apply op_ksl_lo (T := hashT.toTy) (lo := s); rfl; rfl; omega) | (apply op_sub (c := ((k - s : Nat) : Int)); rfl; rfl; (rw [show (k : Int) - (s : Int) = ((k - s : Nat) : Int) by omega]; apply wrapi <;> omega)) | (exact bsO)) | apply J.seq | apply E.next | apply J.lq | apply Lq.nil | apply PRun.nil | apply J.block | apply E.in_normal | apply J.skip | (apply Lq.store; rfl; rfl; exact bsP; exact bsS; rfl; rfl) | (apply PRun.al; rfl) | (apply Lq.al; rfl; rfl; intro b) | (apply Open.cons; intro b) | apply Open.nil | (apply Lq.pass; rfl; rfl; rfl) | (apply PRun.pass; rfl; rfl) | (apply Lq.skip; rfl; rfl; rfl; exact bsB) | (apply PRun.skip; rfl; rfl; exact bsB) | (apply J.drawN; exact mixed; kernel_rfl) | (apply J.cond_t; rfl) | (apply J.cond_f; rfl) | apply J.exit | apply E.then_exit | apply E.in_exit | (apply E.in_other; rfl))
      exact E.again (x.drop s, k - s, false, out ++ [r], A1, c1) (by dsimp only; omega) ⟨by dsimp only; omega, by dsimp only; omega, by dsimp only; rw [List.length_append]; show _ + (_ + 1) ≤ _; omega, by dsimp only; rw [hwant, hc, List.reverse_append]; simp⟩ (Sub.same (by repeat' (first | exact trivial | refine ⟨rfl, ?_⟩)))
  · obtain rfl : k = x.length := by omega
    rw [cpart_all hk1 rfl] at hwant
    cases yes with
    | true =>
      rw [if_pos rfl, List.nil_append] at hwant
      repeat (first | ((first | (apply Lq.s; rfl) | apply PRun.s | (apply Lq.run; rfl; rfl; rfl; exact bsB) | (apply PRun.run; rfl; rfl; exact bsB)); first | (exact bsO)) | apply J.seq | apply E.next | apply J.lq | apply Lq.nil | apply PRun.nil | apply J.block | apply E.in_normal | apply J.skip | (apply Lq.store; rfl; rfl; exact bsP; exact bsS; rfl; rfl) | (apply PRun.al; rfl) | (apply Lq.al; rfl; rfl; intro b) | (apply Open.cons; intro b) | apply Open.nil | (apply Lq.pass; rfl; rfl; rfl) | (apply PRun.pass; rfl; rfl) | (apply Lq.skip; rfl; rfl; rfl; exact bsB) | (apply PRun.skip; rfl; rfl; exact bsB) | (apply J.drawN; exact mixed; kernel_rfl) | (apply J.cond_t; rfl) | (apply J.cond_f; rfl) | apply J.exit | apply E.then_exit | apply E.in_exit | (apply E.in_other; rfl))
      refine Lq.callS (Δf := []) (reverse_fnR out (by omega) A c 32) rfl bsD (List.Perm.refl _) ?_
      rintro _ _ ⟨rfl, rfl⟩
      repeat (first | ((first | (apply Lq.s; rfl) | apply PRun.s | (apply Lq.run; rfl; rfl; rfl; exact bsB) | (apply PRun.run; rfl; rfl; exact bsB)); first | (exact bsO)) | apply J.seq | apply E.next | apply J.lq | apply Lq.nil | apply PRun.nil | apply J.block | apply E.in_normal | apply J.skip | (apply Lq.store; rfl; rfl; exact bsP; exact bsS; rfl; rfl) | (apply PRun.al; rfl) | (apply Lq.al; rfl; rfl; intro b) | (apply Open.cons; intro b) | apply Open.nil | (apply Lq.pass; rfl; rfl; rfl) | (apply PRun.pass; rfl; rfl) | (apply Lq.skip; rfl; rfl; rfl; exact bsB) | (apply PRun.skip; rfl; rfl; exact bsB) | (apply J.drawN; exact mixed; kernel_rfl) | (apply J.cond_t; rfl) | (apply J.cond_f; rfl) | apply J.exit | apply E.then_exit | apply E.in_exit | (apply E.in_other; rfl))
      (refine J.ret ?_; (repeat (first | refine E.then_ret ?_ | refine E.in_ret ?_)))
      have hrl : want.length = out.length := by rw [hwant, List.length_reverse]
      refine E.retR2 (G := []) rfl rfl rfl ⟨A, c, ?_, rfl⟩ ?_
      · rw [hrl]
      · rw [hrl, hwant]
    | false =>
      rw [if_neg (by decide)] at hwant
      have hroot := root_fn x (by omega)
      generalize mroot x = r at *
      repeat (first | ((first | (apply Lq.s; rfl) | apply PRun.s | (apply Lq.run; rfl; rfl; rfl; exact bsB) | (apply PRun.run; rfl; rfl; exact bsB)); first | (apply op_call hroot; exact bsD) | (apply op_bslice hashT (xs := [r]); (repeat (first | exact PO.nil _ | (apply PO.cons; rfl))); rfl; rfl; rfl) | (exact bsO)) | apply J.seq | apply E.next | apply J.lq | apply Lq.nil | apply PRun.nil | apply J.block | apply E.in_normal | apply J.skip | (apply Lq.store; rfl; rfl; exact bsP; exact bsS; rfl; rfl) | (apply PRun.al; rfl) | (apply Lq.al; rfl; rfl; intro b) | (apply Open.cons; intro b) | apply Open.nil | (apply Lq.pass; rfl; rfl; rfl) | (apply PRun.pass; rfl; rfl) | (apply Lq.skip; rfl; rfl; rfl; exact bsB) | (apply PRun.skip; rfl; rfl; exact bsB) | (apply J.drawN; exact mixed; kernel_rfl) | (apply J.cond_t; rfl) | (apply J.cond_f; rfl) | apply J.exit | apply E.then_exit | apply E.in_exit | (apply E.in_other; rfl))
      (apply Lq.append (T := hashT) (xs := out) (ys := [r]); rfl; exact List.Perm.refl _; (apply From.sl; rfl); rfl; rfl; rfl; (show _ + 1 ≤ maxLen; unfold maxLen; omega); (show (_ + 1) * 32 ≤ _; omega))
      intro A1 c1
      repeat (first | ((first | (apply Lq.s; rfl) | apply PRun.s | (apply Lq.run; rfl; rfl; rfl; exact bsB) | (apply PRun.run; rfl; rfl; exact bsB)); first | (exact bsO)) | apply J.seq | apply E.next | apply J.lq | apply Lq.nil | apply PRun.nil | apply J.block | apply E.in_normal | apply J.skip | (apply Lq.store; rfl; rfl; exact bsP; exact bsS; rfl; rfl) | (apply PRun.al; rfl) | (apply Lq.al; rfl; rfl; intro b) | (apply Open.cons; intro b) | apply Open.nil | (apply Lq.pass; rfl; rfl; rfl) | (apply PRun.pass; rfl; rfl) | (apply Lq.skip; rfl; rfl; rfl; exact bsB) | (apply PRun.skip; rfl; rfl; exact bsB) | (apply J.drawN; exact mixed; kernel_rfl) | (apply J.cond_t; rfl) | (apply J.cond_f; rfl) | apply J.exit | apply E.then_exit | apply E.in_exit | (apply E.in_other; rfl))
      refine Lq.callS (Δf := []) (reverse_fnR (out ++ [r]) (by rw [List.length_append]; show _ + 1 ≤ _; omega) A1 c1 32) rfl bsD (List.Perm.refl _) ?_
      rintro _ _ ⟨rfl, rfl⟩
      have hw2 : want = (out ++ [r]).reverse := by rw [hwant, List.reverse_append]; rfl
      repeat (first | ((first | (apply Lq.s; rfl) | apply PRun.s | (apply Lq.run; rfl; rfl; rfl; exact bsB) | (apply PRun.run; rfl; rfl; exact bsB)); first | (exact bsO)) | apply J.seq | apply E.next | apply J.lq | apply Lq.nil | apply PRun.nil | apply J.block | apply E.in_normal | apply J.skip | (apply Lq.store; rfl; rfl; exact bsP; exact bsS; rfl; rfl) | (apply PRun.al; rfl) | (apply Lq.al; rfl; rfl; intro b) | (apply Open.cons; intro b) | apply Open.nil | (apply Lq.pass; rfl; rfl; rfl) | (apply PRun.pass; rfl; rfl) | (apply Lq.skip; rfl; rfl; rfl; exact bsB) | (apply PRun.skip; rfl; rfl; exact bsB) | (apply J.drawN; exact mixed; kernel_rfl) | (apply J.cond_t; rfl) | (apply J.cond_f; rfl) | apply J.exit | apply E.then_exit | apply E.in_exit | (apply E.in_other; rfl))
      (refine J.ret ?_; (repeat (first | refine E.then_ret ?_ | refine E.in_ret ?_)))
      have hrl : want.length = (out ++ [r]).length := by rw [hw2, List.length_reverse]
      refine E.retR2 (G := []) rfl rfl rfl ⟨A1, c1, ?_, rfl⟩ ?_
      · rw [hrl]
      · rw [hrl, hw2]
end Go.Proofs.YtafbkgijahinkaaDoor.L
