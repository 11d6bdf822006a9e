/-
  Laws of roots, walked: RootsGrown, RootsApart.
-/
import Derived.Test.YtljdjagackdplaaDoorTe
import Derived.Test.YtljdjagackdplaaDoorLx
namespace Go.Proofs.YtljdjagackdplaaDoor.L
open Go
set_option linter.unusedSectionVars false
variable [Globs] [Has_sha_table] [Has_sha_begin]
theorem splice_all {φs seg : List Pr} (h : φs.length = seg.length) : splice φs 0 seg = seg := by
  unfold splice
  rw [List.take_zero, List.nil_append, Nat.zero_add, ← h, List.drop_length, List.append_nil]
theorem splice_pre (pre R seg : List Pr) {o : Nat} (m : Nat) (h : pre.length = o) : splice (pre ++ R) (o + m) seg = pre ++ splice R m seg := by
  subst h
  unfold splice
  rw [List.take_length_add_append, Nat.add_assoc, List.drop_length_add_append]
  simp
theorem set_row {α : Type} (T : Ty α) {pre post : List Pr} {xs : List α} {o k : Nat} {v : α} (h : pre.length = o) (hk : k < xs.length) : splice (pre ++ flat T xs ++ post) (o + k * T.sz) (T.cells v) = pre ++ flat T (xs.set k v) ++ post := by
  rw [List.append_assoc, splice_pre pre _ _ _ h]
  have := set_flat T (post := post) (v := v) hk
  rw [Nat.zero_add] at this
  rw [this, List.append_assoc]
theorem take_rowT {α : Type} (T : Ty α) {pre post : List Pr} {xs : List α} {o : Nat} (h : pre.length = o) : ((pre ++ flat T xs ++ post).drop o).take (xs.length * T.sz) = flat T xs := by
  subst h
  rw [List.append_assoc, List.drop_left, ← flat_len, List.take_left]
theorem Lq.open {α : Type} {C : Cx} {Γ : Env} {Δ Δ' : List Res} {ops : Array Oper} {rest : List Oper} {Q : Exit → Act → World → Prop} {T : Ty α} {v : Value} {e : Nat} {xs : List α} (hp : Δ.Perm (row v e T xs :: Δ')) (hne : xs ≠ []) (k : ∀ b o cap pre post, RowAt T v xs b o cap pre post → Lq C Γ (own b e (pre ++ flat T xs ++ post) :: Δ') ops rest Q) : Lq C Γ Δ ops rest Q := fun H a w S => by
  obtain ⟨b, o, cap, pre, post, h, S'⟩ := S.open hp hne
  exact k b o cap pre post h H a w S'
def pairT : Td (Arr Hash 2) := arrT 2 hashT (by decide)
theorem op_pairH {P : Program} {Γ : Env} {Δ : List Res} {d : Option Nat} {ty t : Nat} {pos : String} {af : Array Edge} {g : Option (Nat × Bool)} {x y : Operand} {p q : Hash} {z : Value} {pl : Nat → Option (Nat × Nat)} [hz : TZero P t z] [hp : TPl P t pl] (h1 : opd Γ x = some (hashT.val p)) (h2 : opd Γ y = some (hashT.val q)) (e0 : pl 0 = some (0, 32)) (e1 : pl 1 = some (32, 32)) (ho : z.cells.toList.all (fun v => v.oneCell') = true) (hl : z.cells.toList.length = 64) :
    OpP P Γ Δ ⟨d, .build t #[(0, x), (1, y)], ty, pos, af, g⟩ (pairT.val ⟨[p, q], rfl⟩) := by
  have hc : ∀ r : Hash, (hashT.cells r).length = 32 := fun r => hashT.len r
  have l1 : (splice (z.cells.toList.map is) 0 (hashT.cells p)).length = 64 := by
    unfold splice
    simp only [List.length_append, List.length_take, List.length_drop, List.length_map, hl, hc]
    rfl
  have key : splice (splice (z.cells.toList.map is) 0 (hashT.cells p)) 32 (hashT.cells q) = pairT.cells ⟨[p, q], rfl⟩ := by
    show _ = hashT.cells p ++ (hashT.cells q ++ [])
    have s1 : splice (z.cells.toList.map is) 0 (hashT.cells p) = hashT.cells p ++ (z.cells.toList.map is).drop 32 := by
      unfold splice
      rw [List.take_zero, List.nil_append, Nat.zero_add, hc]
    rw [s1]
    have := splice_pre (hashT.cells p) ((z.cells.toList.map is).drop 32) (hashT.cells q) 0 (hc p)
    rw [Nat.add_zero] at this
    rw [this, splice_all (by rw [List.length_drop, List.length_map, hl, hc]), List.append_nil]
  have hb := op_build (P := P) (Γ := Γ) (Δ := Δ) (d := d) (ty := ty) (pos := pos) (af := af) (g := g) (t := t) (z := z) (pl := pl) (ps := [(0, x), (1, y)]) (φs := pairT.cells ⟨[p, q], rfl⟩) ho
    (BP.cons e0 h1 (Seg.val hashT p) (hc p) (by rw [List.length_map, hl]; rfl) (BP.cons e1 h2 (Seg.val hashT q) (hc q) (by rw [l1]; rfl) (by rw [key]; exact BP.nil _)))
  exact hb
set_option linter.unusedVariables false
set_option linter.unusedSimpArgs false
attribute [local irreducible] J Lq E OpP PRun is any agg tup ptr sl PRunW OpE
attribute [local irreducible] up2 mroot nodeH leafH emptyH shaH ownAt row someL leafOf splitZ split
theorem some_fnR (n s : Nat) (hn : n ≤ 100000) (hs : s < 4294967296) : FnR Tryd.prog 21 [is (.int .i64 (n : Int)), is (.int .u32 (s : Int))] [] (fun ψ Δ => ∃ A c, ψ = is (.slice A n c) ∧ Δ = [row (.slice A n c) 23 hashT.toTy (someL n s)]) := by
  refine FnR.mk' 35 Tryd.func21 rfl rfl rfl rfl fun w0 H0 => ?_
  repeat (first | ((first | (apply Lq.s; rfl) | apply PRun.s | (apply Lq.run; rfl; rfl; rfl; exact bsB) | (apply PRun.run; rfl; rfl; exact bsB)); first | (exact bsO)) | apply J.seq | apply E.next | apply J.lq | apply Lq.nil | apply PRun.nil | apply J.block | apply E.in_normal | apply J.skip | (apply Lq.store; rfl; rfl; exact bsP; exact bsS; rfl; rfl) | (apply PRun.al; rfl) | (apply Lq.al; rfl; rfl; intro b) | (apply Open.cons; intro b) | apply Open.nil | (apply Lq.pass; rfl; rfl; rfl) | (apply PRun.pass; rfl; rfl) | (apply Lq.skip; rfl; rfl; rfl; exact bsB) | (apply PRun.skip; rfl; rfl; exact bsB) | (apply J.drawN; exact mixed; kernel_rfl) | (apply J.cond_t; rfl) | (apply J.cond_f; rfl) | apply J.exit | apply E.then_exit | apply E.in_exit | (apply E.in_other; rfl))
  refine J.nilrow 23 hashT.toTy ?_
  refine J.loop (fun p : Nat × Option Addr × Nat => p.1 ≤ n) (fun p => [(0, is (.int .i64 (n : Int))), (1, is (.int .u32 (s : Int))), (5, is (.slice p.2.1 (someL p.1 s).length p.2.2)), (6, is (.int .i64 (p.1 : Int)))])
    (fun p => [row (.slice p.2.1 (someL p.1 s).length p.2.2) 23 hashT.toTy (someL p.1 s)]) (fun p => n - p.1) (0, none, 0) (Nat.zero_le _) ?_ ?_
  · try dsimp only
    rw [someL_0]
    exact (Sub.same (by repeat' (first | exact trivial | refine ⟨rfl, ?_⟩)))
  rintro ⟨k, A, c⟩ hk
  dsimp only at hk ⊢
  have hl := someL_len k s
  by_cases hlt : k < n
  · repeat (first | ((first | (apply Lq.s; rfl) | apply PRun.s | (apply Lq.run; rfl; rfl; rfl; exact bsB) | (apply PRun.run; rfl; rfl; exact bsB)); first | (apply op_convnb; rfl) | (apply op_quon (m := k) (n := 256); rfl; rfl; decide; omega) | (apply op_shrn (m := s) (n := 8); rfl; rfl; decide) | (apply op_shrn (m := s) (n := 16); rfl; rfl; decide) | (apply op_shrn (m := s) (n := 24); rfl; rfl; decide) | (apply op_bslice u8T (xs := [UInt8.ofNat k, UInt8.ofNat (k / 256), UInt8.ofNat s, UInt8.ofNat (s / 2 ^ 8), UInt8.ofNat (s / 2 ^ 16), UInt8.ofNat (s / 2 ^ 24)]); (repeat (first | exact PO.nil _ | (apply PO.cons; rfl))); rfl; rfl; rfl) | (apply op_str_sl; rfl) | (apply op_call ((leafH_fn [UInt8.ofNat k, UInt8.ofNat (k / 256), UInt8.ofNat s, UInt8.ofNat (s / 2 ^ 8), UInt8.ofNat (s / 2 ^ 16), UInt8.ofNat (s / 2 ^ 24)] (by simp)).to (show _ = hashT.val (leafOf s k) by unfold leafOf; rfl)); exact bsD) | (apply op_bslice hashT (xs := [leafOf s k]); (repeat (first | exact PO.nil _ | (apply PO.cons; rfl))); rfl; rfl; rfl) | (exact bsO)) | apply J.seq | apply E.next | apply J.lq | apply Lq.nil | apply PRun.nil | apply J.block | apply E.in_normal | apply J.skip | (apply Lq.store; rfl; rfl; exact bsP; exact bsS; rfl; rfl) | (apply PRun.al; rfl) | (apply Lq.al; rfl; rfl; intro b) | (apply Open.cons; intro b) | apply Open.nil | (apply Lq.pass; rfl; rfl; rfl) | (apply PRun.pass; rfl; rfl) | (apply Lq.skip; rfl; rfl; rfl; exact bsB) | (apply PRun.skip; rfl; rfl; exact bsB) | (apply J.drawN; exact mixed; kernel_rfl) | (apply J.cond_t; rfl) | (apply J.cond_f; rfl) | apply J.exit | apply E.then_exit | apply E.in_exit | (apply E.in_other; rfl))
    (apply Lq.append (T := hashT) (xs := someL k s) (ys := [leafOf s k]); rfl; exact List.Perm.refl _; (apply From.sl; rfl); rfl; rfl; rfl; (show _ + 1 ≤ maxLen; unfold maxLen; omega); (show (_ + 1) * 32 ≤ _; omega))
    intro A1 c1
    repeat (first | ((first | (apply Lq.s; rfl) | apply PRun.s | (apply Lq.run; rfl; rfl; rfl; exact bsB) | (apply PRun.run; rfl; rfl; exact bsB)); first | (exact bsO)) | apply J.seq | apply E.next | apply J.lq | apply Lq.nil | apply PRun.nil | apply J.block | apply E.in_normal | apply J.skip | (apply Lq.store; rfl; rfl; exact bsP; exact bsS; rfl; rfl) | (apply PRun.al; rfl) | (apply Lq.al; rfl; rfl; intro b) | (apply Open.cons; intro b) | apply Open.nil | (apply Lq.pass; rfl; rfl; rfl) | (apply PRun.pass; rfl; rfl) | (apply Lq.skip; rfl; rfl; rfl; exact bsB) | (apply PRun.skip; rfl; rfl; exact bsB) | (apply J.drawN; exact mixed; kernel_rfl) | (apply J.cond_t; rfl) | (apply J.cond_f; rfl) | apply J.exit | apply E.then_exit | apply E.in_exit | (apply E.in_other; rfl))
    rw [← someL_s]
    exact E.again (k + 1, A1, c1) (by dsimp only; omega) (by dsimp only; omega) (Sub.same (by repeat' (first | exact trivial | refine ⟨rfl, ?_⟩)))
  · obtain rfl : k = n := by omega
    repeat (first | ((first | (apply Lq.s; rfl) | apply PRun.s | (apply Lq.run; rfl; rfl; rfl; exact bsB) | (apply PRun.run; rfl; rfl; exact bsB)); first | (exact bsO)) | apply J.seq | apply E.next | apply J.lq | apply Lq.nil | apply PRun.nil | apply J.block | apply E.in_normal | apply J.skip | (apply Lq.store; rfl; rfl; exact bsP; exact bsS; rfl; rfl) | (apply PRun.al; rfl) | (apply Lq.al; rfl; rfl; intro b) | (apply Open.cons; intro b) | apply Open.nil | (apply Lq.pass; rfl; rfl; rfl) | (apply PRun.pass; rfl; rfl) | (apply Lq.skip; rfl; rfl; rfl; exact bsB) | (apply PRun.skip; rfl; rfl; exact bsB) | (apply J.drawN; exact mixed; kernel_rfl) | (apply J.cond_t; rfl) | (apply J.cond_f; rfl) | apply J.exit | apply E.then_exit | apply E.in_exit | (apply E.in_other; rfl))
    (refine J.ret ?_; (repeat (first | refine E.then_ret ?_ | refine E.in_ret ?_)))
    exact E.retR1 (Δ' := [row (.slice A (someL k s).length c) 23 hashT.toTy (someL k s)]) (G := []) rfl rfl ⟨A, c, by rw [hl], by rw [hl]⟩ (List.Perm.refl _)
theorem wrap_pow62 {p : Nat} (h : p ≤ 2 ^ 62) : IntKind.i64.wrap ((1 * p : Nat) : Int) = (p : Int) := wrap_pow h
theorem rootsGrown (power : UInt8) (s : Nat) (more : Hash) (_h0 : True) (hs : s < 4294967296) (_h2 : True) : Fn Tryd.prog 7 [is (.int .u8 (power.toNat : Int)), is (.int .u32 (s : Int)), hashT.val more] (is (.bool true)) := by
  have h7 : power.toNat % 7 ≤ 6 := by omega
  have hpow : 2 ^ (power.toNat % 7) ≤ 2 ^ 6 := Nat.pow_le_pow_right (by decide) h7
  have hpow1 : 1 ≤ 2 ^ (power.toNat % 7) := Nat.one_le_two_pow
  have hsplit : split (2 ^ (power.toNat % 7) + 1) = 2 ^ (power.toNat % 7) := split_of (by omega) (by rw [Nat.pow_succ]; omega)
  generalize hn : 2 ^ (power.toNat % 7) = n at *
  have hl := someL_len n s
  have hroot : mroot ([] ++ someL n s ++ [more]) = nodeH (mroot (someL n s)) more := by
    rw [List.nil_append, mroot_split (by rw [List.length_append, hl]; show 2 ≤ n + 1; omega), show (someL n s ++ [more]).length = n + 1 by rw [List.length_append, hl]; rfl, hsplit, List.take_left' hl, List.drop_left' hl, mroot_one]
  refine Fn.mk' 30 Tryd.func7 rfl rfl rfl rfl fun w0 H0 => ?_
  repeat (first | ((first | (apply Lq.s; rfl) | apply PRun.s | (apply Lq.run; rfl; rfl; rfl; exact bsB) | (apply PRun.run; rfl; rfl; exact bsB)); first | (apply op_box hashT; rfl) | (apply op_remn (m := power.toNat) (n := 7); rfl; rfl; decide) | (apply op_shln (m := 1) (n := power.toNat % 7) (c := (n : Int)); rfl; rfl; (show power.toNat % 7 ≤ 64; omega); (rw [hn]; exact wrap_pow (by omega))) | (apply op_call (some_fn n s (by omega) hs); exact bsD) | (apply op_call (root_fn (someL n s) (by omega)); exact bsD) | (exact bsO)) | apply J.seq | apply E.next | apply J.lq | apply Lq.nil | apply PRun.nil | apply J.block | apply E.in_normal | apply J.skip | (apply Lq.store; rfl; rfl; exact bsP; exact bsS; rfl; rfl) | (apply PRun.al; rfl) | (apply Lq.al; rfl; rfl; intro b) | (apply Open.cons; intro b) | apply Open.nil | (apply Lq.pass; rfl; rfl; rfl) | (apply PRun.pass; rfl; rfl) | (apply Lq.skip; rfl; rfl; rfl; exact bsB) | (apply PRun.skip; rfl; rfl; exact bsB) | (apply J.cond_t; rfl) | (apply J.cond_f; rfl) | apply J.exit | apply E.then_exit | apply E.in_exit | (apply E.in_other; rfl))
  refine Lq.storeE (φs' := hashT.cells (mroot (someL n s))) rfl rfl (List.Perm.refl _) (Seg.val hashT _) (hashT.len _) (Nat.le_refl 32) (splice_all (by rw [hashT.len]; rfl)) ?_
  repeat (first | ((first | (apply Lq.s; rfl) | apply PRun.s | (apply Lq.run; rfl; rfl; rfl; exact bsB) | (apply PRun.run; rfl; rfl; exact bsB)); first | (exact bsO)) | apply J.seq | apply E.next | apply J.lq | apply Lq.nil | apply PRun.nil | apply J.block | apply E.in_normal | apply J.skip | (apply Lq.store; rfl; rfl; exact bsP; exact bsS; rfl; rfl) | (apply PRun.al; rfl) | (apply Lq.al; rfl; rfl; intro b) | (apply Open.cons; intro b) | apply Open.nil | (apply Lq.pass; rfl; rfl; rfl) | (apply PRun.pass; rfl; rfl) | (apply Lq.skip; rfl; rfl; rfl; exact bsB) | (apply PRun.skip; rfl; rfl; exact bsB) | (apply J.cond_t; rfl) | (apply J.cond_f; rfl) | apply J.exit | apply E.then_exit | apply E.in_exit | (apply E.in_other; rfl))
  refine J.drawW 15 [(none, some 16), (none, none), (some 16, some 18), (none, none), (none, none), (some 18, none), (none, none), (none, none), (none, none), (none, none), (none, none), (none, none), (none, none), (none, none), (none, none)] mixed (by kernel_rfl) ?_
  (apply PRunW.bsl (T := hashT) (xs := []); (repeat (first | exact PO.nil _ | (apply PO.cons; rfl))); rfl; rfl; rfl)
  repeat (first | ((first | apply PRunW.s | (apply PRunW.run; rfl; rfl; exact bsB) | (apply Lq.s; rfl) | apply PRun.s | (apply Lq.run; rfl; rfl; rfl; exact bsB) | (apply PRun.run; rfl; rfl; exact bsB)); first | (exact bsO)) | apply J.seq | apply E.next | apply J.lq | apply Lq.nil | apply PRun.nil | apply J.block | apply E.in_normal | apply J.skip | (apply Lq.store; rfl; rfl; exact bsP; exact bsS; rfl; rfl) | (apply PRun.al; rfl) | (apply Lq.al; rfl; rfl; intro b) | (apply Open.cons; intro b) | apply Open.nil | (apply Lq.pass; rfl; rfl; rfl) | (apply PRun.pass; rfl; rfl) | (apply Lq.skip; rfl; rfl; rfl; exact bsB) | (apply PRun.skip; rfl; rfl; exact bsB) | (apply J.cond_t; rfl) | (apply J.cond_f; rfl) | apply J.exit | apply E.then_exit | apply E.in_exit | (apply E.in_other; rfl) | apply PRunW.nil | (apply PRunW.al; rfl) | (apply PRunW.pass; rfl; rfl) | (apply PRunW.skip; rfl; rfl; exact bsB) | (apply Open.pv; intro b) | apply Open.av | (apply Open.rv; intro A c))
  (apply PRunW.ap (T := hashT) (xs := []) (ys := someL n s); rfl; rfl; (apply From.sl; rfl); rfl; rfl; (show 0 + _ ≤ maxLen; unfold maxLen; omega); (show (0 + _) * 32 ≤ _; omega))
  repeat (first | ((first | apply PRunW.s | (apply PRunW.run; rfl; rfl; exact bsB) | (apply Lq.s; rfl) | apply PRun.s | (apply Lq.run; rfl; rfl; rfl; exact bsB) | (apply PRun.run; rfl; rfl; exact bsB)); first | (apply op_load hashT; rfl) | (apply op_bslice hashT (xs := [more]); (repeat (first | exact PO.nil _ | (apply PO.cons; rfl))); rfl; rfl; rfl) | (exact bsO)) | apply J.seq | apply E.next | apply J.lq | apply Lq.nil | apply PRun.nil | apply J.block | apply E.in_normal | apply J.skip | (apply Lq.store; rfl; rfl; exact bsP; exact bsS; rfl; rfl) | (apply PRun.al; rfl) | (apply Lq.al; rfl; rfl; intro b) | (apply Open.cons; intro b) | apply Open.nil | (apply Lq.pass; rfl; rfl; rfl) | (apply PRun.pass; rfl; rfl) | (apply Lq.skip; rfl; rfl; rfl; exact bsB) | (apply PRun.skip; rfl; rfl; exact bsB) | (apply J.cond_t; rfl) | (apply J.cond_f; rfl) | apply J.exit | apply E.then_exit | apply E.in_exit | (apply E.in_other; rfl) | apply PRunW.nil | (apply PRunW.al; rfl) | (apply PRunW.pass; rfl; rfl) | (apply PRunW.skip; rfl; rfl; exact bsB) | (apply Open.pv; intro b) | apply Open.av | (apply Open.rv; intro A c))
  (apply PRunW.apF (T := hashT) (xs := [] ++ someL n s) (ys := [more]); rfl; (apply From.sl; rfl); rfl; rfl; (rw [List.nil_append]; show _ + 1 ≤ maxLen; unfold maxLen; omega); (rw [List.nil_append]; show (_ + 1) * 32 ≤ _; omega))
  repeat (first | ((first | apply PRunW.s | (apply PRunW.run; rfl; rfl; exact bsB) | (apply Lq.s; rfl) | apply PRun.s | (apply Lq.run; rfl; rfl; rfl; exact bsB) | (apply PRun.run; rfl; rfl; exact bsB)); first | (apply op_call (root_fn ([] ++ someL n s ++ [more]) (by rw [List.nil_append, List.length_append, hl]; show n + 1 ≤ _; omega)); exact bsD) | (apply op_oload hashT (x := mroot (someL n s)); rfl; exact bsM; exact List.take_of_length_le (Nat.le_of_eq (hashT.len _))) | (apply op_load hashT; rfl) | (apply op_call (nodeH_fn (mroot (someL n s)) more); exact bsD) | (apply op_eqA_t (T := hashT) (m := 2) (eqd_arr eqd_u8) rfl rfl; rfl; rfl; exact hroot) | (apply op_call does09_fn; exact bsD) | (exact bsO)) | apply J.seq | apply E.next | apply J.lq | apply Lq.nil | apply PRun.nil | apply J.block | apply E.in_normal | apply J.skip | (apply Lq.store; rfl; rfl; exact bsP; exact bsS; rfl; rfl) | (apply PRun.al; rfl) | (apply Lq.al; rfl; rfl; intro b) | (apply Open.cons; intro b) | apply Open.nil | (apply Lq.pass; rfl; rfl; rfl) | (apply PRun.pass; rfl; rfl) | (apply Lq.skip; rfl; rfl; rfl; exact bsB) | (apply PRun.skip; rfl; rfl; exact bsB) | (apply J.cond_t; rfl) | (apply J.cond_f; rfl) | apply J.exit | apply E.then_exit | apply E.in_exit | (apply E.in_other; rfl) | apply PRunW.nil | (apply PRunW.al; rfl) | (apply PRunW.pass; rfl; rfl) | (apply PRunW.skip; rfl; rfl; exact bsB) | (apply Open.pv; intro b) | apply Open.av | (apply Open.rv; intro A c))
  (refine J.ret ?_; (repeat (first | refine E.then_ret ?_ | refine E.in_ret ?_)))
  exact E.ret1 rfl rfl
end Go.Proofs.YtljdjagackdplaaDoor.L
