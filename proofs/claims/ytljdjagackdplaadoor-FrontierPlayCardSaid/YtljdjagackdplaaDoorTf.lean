import Derived.Test.YtljdjagackdplaaDoorTb
import Derived.Test.YtljdjagackdplaaDoorLx
/-
  Leaves by a number, and the chapter's examples of roots, walked.
-/
namespace Go.Proofs.YtljdjagackdplaaDoor.L
open Go
set_option linter.unusedSectionVars false
variable [Globs] [Has_sha_table] [Has_sha_begin]
def leafOf (s i : Nat) : Hash := leafH [UInt8.ofNat i, UInt8.ofNat (i / 256), UInt8.ofNat s, UInt8.ofNat (s / 2 ^ 8), UInt8.ofNat (s / 2 ^ 16), UInt8.ofNat (s / 2 ^ 24)]
def someL (n s : Nat) : List Hash := (List.range n).map (leafOf s)
theorem someL_len (n s : Nat) : (someL n s).length = n := by simp [someL]
theorem someL_0 (s : Nat) : someL 0 s = [] := rfl
theorem someL_s (n s : Nat) : someL (n + 1) s = someL n s ++ [leafOf s n] := by simp [someL, List.range_succ]
theorem hash_ne {a b : Hash} (h : a.1 ≠ b.1) : a ≠ b := fun e => h (by rw [e])
theorem leafOf_val (s i : Nat) : (leafOf s i).1 = sha ([0] ++ [UInt8.ofNat i, UInt8.ofNat (i / 256), UInt8.ofNat s, UInt8.ofNat (s / 2 ^ 8), UInt8.ofNat (s / 2 ^ 16), UInt8.ofNat (s / 2 ^ 24)]) := rfl
set_option maxRecDepth 100000 in
theorem leaf01 : leafOf 0 0 ≠ leafOf 0 1 := hash_ne (by rw [leafOf_val, leafOf_val]; decide +kernel)
theorem split1 : split 1 = 0 := by decide +kernel
theorem split2 : split 2 = 1 := by decide +kernel
theorem split3 : split 3 = 2 := by decide +kernel
theorem split8 : split 8 = 4 := by decide +kernel
theorem split9 : split 9 = 8 := by decide +kernel
theorem mroot2 (a b : Hash) : mroot [a, b] = nodeH a b := by
  rw [mroot_split (Nat.le_of_ble_eq_true rfl), show [a, b].length = 2 from rfl, split2]
  rfl
theorem mroot3 (a b c : Hash) : mroot [a, b, c] = nodeH (nodeH a b) c := by
  rw [mroot_split (Nat.le_of_ble_eq_true rfl), show [a, b, c].length = 3 from rfl, split3]
  show nodeH (mroot [a, b]) (mroot [c]) = _
  rw [mroot2, mroot_one]
theorem op_convnb {P : Program} {Γ : Env} {Δ : List Res} {d : Option Nat} {ty t t' : Nat} {pos : String} {af : Array Edge} {g : Option (Nat × Bool)} {x : Operand} {k : IntKind} {n : Nat} [TInt P t k] [TInt P t' .u8] (h : opd Γ x = some (is (.int k (n : Int)))) : OpP P Γ Δ ⟨d, .convert t t' x, ty, pos, af, g⟩ (is (.int .u8 ((UInt8.ofNat n).toNat : Int))) :=
  op_conv h (wrapb n)
set_option linter.unusedVariables false
set_option linter.unusedSimpArgs false
attribute [local irreducible] J Lq E OpP PRun is any agg tup ptr sl
attribute [local irreducible] up2 mroot nodeH leafH emptyH shaH ownAt row someL leafOf
theorem some_fn (n s : Nat) (hn : n ≤ 100000) (hs : s < 4294967296) : Fn Tryd.prog 21 [is (.int .i64 (n : Int)), is (.int .u32 (s : Int))] (sl hashT.toTy (someL n s)) := by
  refine Fn.mk' 35 Tryd.func21 rfl rfl rfl rfl fun w0 H0 => ?_
  repeat (first | ((first | (apply Lq.s; rfl) | apply PRun.s | (apply Lq.run; rfl; rfl; rfl; exact bsB) | (apply PRun.run; rfl; rfl; exact bsB)); first | (exact bsO)) | apply J.seq | apply E.next | apply J.lq | apply Lq.nil | apply PRun.nil | apply J.block | apply E.in_normal | apply J.skip | (apply Lq.store; rfl; rfl; exact bsP; exact bsS; rfl; rfl) | (apply PRun.al; rfl) | (apply Lq.al; rfl; rfl; intro b) | (apply Open.cons; intro b) | apply Open.nil | (apply Lq.pass; rfl; rfl; rfl) | (apply PRun.pass; rfl; rfl) | (apply Lq.skip; rfl; rfl; rfl; exact bsB) | (apply PRun.skip; rfl; rfl; exact bsB) | (apply J.drawN; exact mixed; kernel_rfl) | (apply J.cond_t; rfl) | (apply J.cond_f; rfl) | apply J.exit | apply E.then_exit | apply E.in_exit | (apply E.in_other; rfl))
  refine J.nilrow 23 hashT.toTy ?_
  refine J.loop (fun p : Nat × Option Addr × Nat => p.1 ≤ n) (fun p => [(0, is (.int .i64 (n : Int))), (1, is (.int .u32 (s : Int))), (5, is (.slice p.2.1 (someL p.1 s).length p.2.2)), (6, is (.int .i64 (p.1 : Int)))])
    (fun p => [row (.slice p.2.1 (someL p.1 s).length p.2.2) 23 hashT.toTy (someL p.1 s)]) (fun p => n - p.1) (0, none, 0) (Nat.zero_le _) ?_ ?_
  · try dsimp only
    rw [someL_0]
    exact (Sub.same (by repeat' (first | exact trivial | refine ⟨rfl, ?_⟩)))
  rintro ⟨k, A, c⟩ hk
  dsimp only at hk ⊢
  have hl := someL_len k s
  by_cases hlt : k < n
  · repeat (first | ((first | (apply Lq.s; rfl) | apply PRun.s | (apply Lq.run; rfl; rfl; rfl; exact bsB) | (apply PRun.run; rfl; rfl; exact bsB)); first | (apply op_convnb; rfl) | (apply op_quon (m := k) (n := 256); rfl; rfl; decide; omega) | (apply op_shrn (m := s) (n := 8); rfl; rfl; decide) | (apply op_shrn (m := s) (n := 16); rfl; rfl; decide) | (apply op_shrn (m := s) (n := 24); rfl; rfl; decide) | (apply op_bslice u8T (xs := [UInt8.ofNat k, UInt8.ofNat (k / 256), UInt8.ofNat s, UInt8.ofNat (s / 2 ^ 8), UInt8.ofNat (s / 2 ^ 16), UInt8.ofNat (s / 2 ^ 24)]); (repeat (first | exact PO.nil _ | (apply PO.cons; rfl))); rfl; rfl; rfl) | (apply op_str_sl; rfl) | (apply op_call ((leafH_fn [UInt8.ofNat k, UInt8.ofNat (k / 256), UInt8.ofNat s, UInt8.ofNat (s / 2 ^ 8), UInt8.ofNat (s / 2 ^ 16), UInt8.ofNat (s / 2 ^ 24)] (by simp)).to (show _ = hashT.val (leafOf s k) by unfold leafOf; rfl)); exact bsD) | (apply op_bslice hashT (xs := [leafOf s k]); (repeat (first | exact PO.nil _ | (apply PO.cons; rfl))); rfl; rfl; rfl) | (exact bsO)) | apply J.seq | apply E.next | apply J.lq | apply Lq.nil | apply PRun.nil | apply J.block | apply E.in_normal | apply J.skip | (apply Lq.store; rfl; rfl; exact bsP; exact bsS; rfl; rfl) | (apply PRun.al; rfl) | (apply Lq.al; rfl; rfl; intro b) | (apply Open.cons; intro b) | apply Open.nil | (apply Lq.pass; rfl; rfl; rfl) | (apply PRun.pass; rfl; rfl) | (apply Lq.skip; rfl; rfl; rfl; exact bsB) | (apply PRun.skip; rfl; rfl; exact bsB) | (apply J.drawN; exact mixed; kernel_rfl) | (apply J.cond_t; rfl) | (apply J.cond_f; rfl) | apply J.exit | apply E.then_exit | apply E.in_exit | (apply E.in_other; rfl))
    (apply Lq.append (T := hashT) (xs := someL k s) (ys := [leafOf s k]); rfl; exact List.Perm.refl _; (apply From.sl; rfl); rfl; rfl; rfl; (show _ + 1 ≤ maxLen; unfold maxLen; omega); (show (_ + 1) * 32 ≤ _; omega))
    intro A1 c1
    repeat (first | ((first | (apply Lq.s; rfl) | apply PRun.s | (apply Lq.run; rfl; rfl; rfl; exact bsB) | (apply PRun.run; rfl; rfl; exact bsB)); first | (exact bsO)) | apply J.seq | apply E.next | apply J.lq | apply Lq.nil | apply PRun.nil | apply J.block | apply E.in_normal | apply J.skip | (apply Lq.store; rfl; rfl; exact bsP; exact bsS; rfl; rfl) | (apply PRun.al; rfl) | (apply Lq.al; rfl; rfl; intro b) | (apply Open.cons; intro b) | apply Open.nil | (apply Lq.pass; rfl; rfl; rfl) | (apply PRun.pass; rfl; rfl) | (apply Lq.skip; rfl; rfl; rfl; exact bsB) | (apply PRun.skip; rfl; rfl; exact bsB) | (apply J.drawN; exact mixed; kernel_rfl) | (apply J.cond_t; rfl) | (apply J.cond_f; rfl) | apply J.exit | apply E.then_exit | apply E.in_exit | (apply E.in_other; rfl))
    rw [← someL_s]
    exact E.again (k + 1, A1, c1) (by dsimp only; omega) (by dsimp only; omega) (Sub.same (by repeat' (first | exact trivial | refine ⟨rfl, ?_⟩)))
  · obtain rfl : k = n := by omega
    repeat (first | ((first | (apply Lq.s; rfl) | apply PRun.s | (apply Lq.run; rfl; rfl; rfl; exact bsB) | (apply PRun.run; rfl; rfl; exact bsB)); first | (exact bsO)) | apply J.seq | apply E.next | apply J.lq | apply Lq.nil | apply PRun.nil | apply J.block | apply E.in_normal | apply J.skip | (apply Lq.store; rfl; rfl; exact bsP; exact bsS; rfl; rfl) | (apply PRun.al; rfl) | (apply Lq.al; rfl; rfl; intro b) | (apply Open.cons; intro b) | apply Open.nil | (apply Lq.pass; rfl; rfl; rfl) | (apply PRun.pass; rfl; rfl) | (apply Lq.skip; rfl; rfl; rfl; exact bsB) | (apply PRun.skip; rfl; rfl; exact bsB) | (apply J.drawN; exact mixed; kernel_rfl) | (apply J.cond_t; rfl) | (apply J.cond_f; rfl) | apply J.exit | apply E.then_exit | apply E.in_exit | (apply E.in_other; rfl))
    (refine J.ret ?_; (repeat (first | refine E.then_ret ?_ | refine E.in_ret ?_)))
    refine E.freeze 4 rfl (List.Perm.refl _) ?_
    exact E.ret1 rfl rfl
theorem splitZ_of {n : Int} {m : Nat} (h : split n.toNat = m) : is (.int .i64 (splitZ n)) = is (.int .i64 (m : Int)) := by unfold splitZ; rw [h]
theorem some3 (s : Nat) : someL 3 s = [leafOf s 0, leafOf s 1, leafOf s 2] := by unfold someL; rfl
theorem does09_fn : Fn Tryd.prog 17 [] (is (.bool true)) := by
  have h01 := leaf01
  generalize hq0 : leafOf 0 0 = q0 at h01
  generalize hq1 : leafOf 0 1 = q1 at h01
  generalize hq2 : leafOf 0 2 = q2
  have hS : someL 3 0 = [q0, q1, q2] := by rw [some3, hq0, hq1, hq2]
  refine Fn.mk' 55 Tryd.func17 rfl rfl rfl rfl fun w0 H0 => ?_
  repeat (first | ((first | (apply Lq.s; rfl) | apply PRun.s | (apply Lq.run; rfl; rfl; rfl; exact bsB) | (apply PRun.run; rfl; rfl; exact bsB)); first | (apply op_call ((some_fn 3 0 (by decide) (by decide)).to (show _ = sl hashT.toTy [q0, q1, q2] by rw [hS])); exact bsD) | (apply op_call ((split_fn 1 (by decide) (by decide)).to (splitZ_of split1)); exact bsD) | (apply op_call ((split_fn 2 (by decide) (by decide)).to (splitZ_of split2)); exact bsD) | (apply op_call ((split_fn 3 (by decide) (by decide)).to (splitZ_of split3)); exact bsD) | (apply op_call ((split_fn 8 (by decide) (by decide)).to (splitZ_of split8)); exact bsD) | (apply op_call ((split_fn 9 (by decide) (by decide)).to (splitZ_of split9)); exact bsD) | (apply op_call ((root_fn [q0, q1, q2] (by simp)).to (show _ = hashT.val (nodeH (nodeH q0 q1) q2) by rw [mroot3])); exact bsD) | (apply op_call ((root_fn [q0] (by simp)).to (show _ = hashT.val q0 by rw [mroot_one])); exact bsD) | (apply op_iaddr hashT.toTy (x := q0); rfl; rfl; decide; rfl) | (apply op_iaddr hashT.toTy (x := q1); rfl; rfl; decide; rfl) | (apply op_iaddr hashT.toTy (x := q2); rfl; rfl; decide; rfl) | (apply op_load hashT; rfl) | (apply op_call (nodeH_fn q0 q1); exact bsD) | (apply op_call (nodeH_fn (nodeH q0 q1) q2); exact bsD) | (apply op_eqA_t (T := hashT) (m := 2) (eqd_arr eqd_u8) rfl rfl; rfl; rfl; rfl) | (apply op_ksl_hi (T := hashT.toTy) (hi := 1); rfl; rfl; (show 1 ≤ 3; decide)) | (apply op_neA_t (T := hashT) (m := 2) (eqd_arr eqd_u8) rfl rfl; rfl; rfl; exact h01) | (exact bsO)) | apply J.seq | apply E.next | apply J.lq | apply Lq.nil | apply PRun.nil | apply J.block | apply E.in_normal | apply J.skip | (apply Lq.store; rfl; rfl; exact bsP; exact bsS; rfl; rfl) | (apply PRun.al; rfl) | (apply Lq.al; rfl; rfl; intro b) | (apply Open.cons; intro b) | apply Open.nil | (apply Lq.pass; rfl; rfl; rfl) | (apply PRun.pass; rfl; rfl) | (apply Lq.skip; rfl; rfl; rfl; exact bsB) | (apply PRun.skip; rfl; rfl; exact bsB) | (apply J.drawN; exact mixed; kernel_rfl) | (apply J.cond_t; rfl) | (apply J.cond_f; rfl) | apply J.exit | apply E.then_exit | apply E.in_exit | (apply E.in_other; rfl))
  (refine J.ret ?_; (repeat (first | refine E.then_ret ?_ | refine E.in_ret ?_)))
  exact E.ret1 rfl rfl
end Go.Proofs.YtljdjagackdplaaDoor.L
/-
  The document's greatest power of two below a number, walked; the law RootsSplit, walked.
-/
namespace Go.Proofs.YtljdjagackdplaaDoor.L
open Go
set_option linter.unusedSectionVars false
variable [Globs] [Has_sha_table] [Has_sha_begin]
set_option linter.unusedVariables false
set_option linter.unusedSimpArgs false
attribute [local irreducible] J Lq E OpP PRun is any agg tup ptr sl
attribute [local irreducible] up2 mroot nodeH leafH emptyH shaH ownAt row someL leafOf splitZ
theorem refsplit_fn (n : Int) (h1 : -9223372036854775808 ≤ n) (h2 : n ≤ 9223372036854775807) : Fn Tryd.prog 19 [is (.int .i64 n)] (is (.int .i64 (splitZ n))) := by
  by_cases hn : n < 2
  · have e : splitZ n = 0 := by unfold splitZ split; rw [if_pos (by omega)]; rfl
    rw [e]
    refine Fn.mk' 14 Tryd.func19 rfl rfl rfl rfl fun w0 H0 => ?_
    repeat (first | ((first | (apply Lq.s; rfl) | apply PRun.s | (apply Lq.run; rfl; rfl; rfl; exact bsB) | (apply PRun.run; rfl; rfl; exact bsB)); first | (exact bsO)) | apply J.seq | apply E.next | apply J.lq | apply Lq.nil | apply PRun.nil | apply J.block | apply E.in_normal | apply J.skip | (apply Lq.store; rfl; rfl; exact bsP; exact bsS; rfl; rfl) | (apply PRun.al; rfl) | (apply Lq.al; rfl; rfl; intro b) | (apply Open.cons; intro b) | apply Open.nil | (apply Lq.pass; rfl; rfl; rfl) | (apply PRun.pass; rfl; rfl) | (apply Lq.skip; rfl; rfl; rfl; exact bsB) | (apply PRun.skip; rfl; rfl; exact bsB) | (apply J.drawN; exact mixed; kernel_rfl) | (apply J.cond_t; rfl) | (apply J.cond_f; rfl) | apply J.exit | apply E.then_exit | apply E.in_exit | (apply E.in_other; rfl))
    (refine J.ret ?_; (repeat (first | refine E.then_ret ?_ | refine E.in_ret ?_)))
    exact E.ret1 rfl rfl
  · obtain ⟨m, rfl⟩ : ∃ m : Nat, n = (m : Int) := ⟨n.toNat, by omega⟩
    refine Fn.mk' 14 Tryd.func19 rfl rfl rfl rfl fun w0 H0 => ?_
    repeat (first | ((first | (apply Lq.s; rfl) | apply PRun.s | (apply Lq.run; rfl; rfl; rfl; exact bsB) | (apply PRun.run; rfl; rfl; exact bsB)); first | (exact bsO)) | apply J.seq | apply E.next | apply J.lq | apply Lq.nil | apply PRun.nil | apply J.block | apply E.in_normal | apply J.skip | (apply Lq.store; rfl; rfl; exact bsP; exact bsS; rfl; rfl) | (apply PRun.al; rfl) | (apply Lq.al; rfl; rfl; intro b) | (apply Open.cons; intro b) | apply Open.nil | (apply Lq.pass; rfl; rfl; rfl) | (apply PRun.pass; rfl; rfl) | (apply Lq.skip; rfl; rfl; rfl; exact bsB) | (apply PRun.skip; rfl; rfl; exact bsB) | (apply J.drawN; exact mixed; kernel_rfl) | (apply J.cond_t; rfl) | (apply J.cond_f; rfl) | apply J.exit | apply E.then_exit | apply E.in_exit | (apply E.in_other; rfl))
    refine J.loop (fun i : Nat => 2 ^ i < m) (fun i => [(0, is (.int .i64 (m : Int))), (3, is (.int .i64 ((2 ^ i : Nat) : Int)))]) (fun _ => []) (fun i => m - 2 ^ i) 0 (by show 1 < m; omega) ?_ ?_
    · exact (Sub.same (by repeat' (first | exact trivial | refine ⟨rfl, ?_⟩)))
    rintro i hi
    have hp : 2 ^ (i + 1) = 2 * 2 ^ i := by rw [Nat.pow_succ]; omega
    have h0 : 1 ≤ 2 ^ i := Nat.one_le_two_pow
    by_cases hlt : 2 * 2 ^ i < m
    · generalize hq : 2 ^ (i + 1) = q at hp
      generalize hr : 2 ^ i = r at *
      repeat (first | ((first | (apply Lq.s; rfl) | apply PRun.s | (apply Lq.run; rfl; rfl; rfl; exact bsB) | (apply PRun.run; rfl; rfl; exact bsB)); first | (apply op_mul (c := (q : Int)); rfl; rfl; (rw [show (r : Int) * 2 = (q : Int) by omega]; apply wrapi <;> omega)) | (exact bsO)) | apply J.seq | apply E.next | apply J.lq | apply Lq.nil | apply PRun.nil | apply J.block | apply E.in_normal | apply J.skip | (apply Lq.store; rfl; rfl; exact bsP; exact bsS; rfl; rfl) | (apply PRun.al; rfl) | (apply Lq.al; rfl; rfl; intro b) | (apply Open.cons; intro b) | apply Open.nil | (apply Lq.pass; rfl; rfl; rfl) | (apply PRun.pass; rfl; rfl) | (apply Lq.skip; rfl; rfl; rfl; exact bsB) | (apply PRun.skip; rfl; rfl; exact bsB) | (apply J.drawN; exact mixed; kernel_rfl) | (apply J.cond_t; rfl) | (apply J.cond_f; rfl) | apply J.exit | apply E.then_exit | apply E.in_exit | (apply E.in_other; rfl))
      refine E.again (i + 1) ?_ ?_ ?_
      · try rw [hq]
        omega
      · try rw [hq]
        omega
      · try dsimp only
        try rw [hq]
        exact (Sub.same (by repeat' (first | exact trivial | refine ⟨rfl, ?_⟩)))
    · have e : splitZ (m : Int) = ((2 ^ i : Nat) : Int) := by
        unfold splitZ
        rw [Int.toNat_natCast, split_of hi (by omega)]
      rw [e]
      generalize hr : 2 ^ i = r at *
      repeat (first | ((first | (apply Lq.s; rfl) | apply PRun.s | (apply Lq.run; rfl; rfl; rfl; exact bsB) | (apply PRun.run; rfl; rfl; exact bsB)); first | (exact bsO)) | apply J.seq | apply E.next | apply J.lq | apply Lq.nil | apply PRun.nil | apply J.block | apply E.in_normal | apply J.skip | (apply Lq.store; rfl; rfl; exact bsP; exact bsS; rfl; rfl) | (apply PRun.al; rfl) | (apply Lq.al; rfl; rfl; intro b) | (apply Open.cons; intro b) | apply Open.nil | (apply Lq.pass; rfl; rfl; rfl) | (apply PRun.pass; rfl; rfl) | (apply Lq.skip; rfl; rfl; rfl; exact bsB) | (apply PRun.skip; rfl; rfl; exact bsB) | (apply J.drawN; exact mixed; kernel_rfl) | (apply J.cond_t; rfl) | (apply J.cond_f; rfl) | apply J.exit | apply E.then_exit | apply E.in_exit | (apply E.in_other; rfl))
      (refine J.ret ?_; (repeat (first | refine E.then_ret ?_ | refine E.in_ret ?_)))
      exact E.ret1 rfl rfl
theorem rootsSplit (n : Int) (h : -9223372036854775808 ≤ n ∧ n ≤ 9223372036854775807) : Fn Tryd.prog 4 [is (.int .i64 n)] (is (.bool true)) := by
  refine Fn.mk' 11 Tryd.func4 rfl rfl rfl rfl fun w0 H0 => ?_
  repeat (first | ((first | (apply Lq.s; rfl) | apply PRun.s | (apply Lq.run; rfl; rfl; rfl; exact bsB) | (apply PRun.run; rfl; rfl; exact bsB)); first | (apply op_call (split_fn n h.1 h.2); exact bsD) | (apply op_call (refsplit_fn n h.1 h.2); exact bsD) | (apply op_call does09_fn; exact bsD) | (exact bsO)) | apply J.seq | apply E.next | apply J.lq | apply Lq.nil | apply PRun.nil | apply J.block | apply E.in_normal | apply J.skip | (apply Lq.store; rfl; rfl; exact bsP; exact bsS; rfl; rfl) | (apply PRun.al; rfl) | (apply Lq.al; rfl; rfl; intro b) | (apply Open.cons; intro b) | apply Open.nil | (apply Lq.pass; rfl; rfl; rfl) | (apply PRun.pass; rfl; rfl) | (apply Lq.skip; rfl; rfl; rfl; exact bsB) | (apply PRun.skip; rfl; rfl; exact bsB) | (apply J.drawN; exact mixed; kernel_rfl) | (apply J.cond_t; rfl) | (apply J.cond_f; rfl) | apply J.exit | apply E.then_exit | apply E.in_exit | (apply E.in_other; rfl))
  (refine J.ret ?_; (repeat (first | refine E.then_ret ?_ | refine E.in_ret ?_)))
  exact E.ret1 rfl rfl
end Go.Proofs.YtljdjagackdplaaDoor.L
/-
  Laws of roots, walked: RootsParts, RootsLevels.
-/
namespace Go.Proofs.YtljdjagackdplaaDoor.L
open Go
set_option linter.unusedSectionVars false
variable [Globs] [Has_sha_table] [Has_sha_begin]
theorem splitZ_nat (n : Nat) : splitZ (n : Int) = ((split n : Nat) : Int) := by unfold splitZ; rw [Int.toNat_natCast]
theorem and_pow {k i : Nat} (h : k = 2 ^ i) (hi : i < 7) : IntKind.i64.wrap ((BitVec.ofInt IntKind.i64.bits (k : Int) &&& BitVec.ofInt IntKind.i64.bits ((k : Int) - 1)).toNat : Int) = 0 := by
  have : ∀ j : Fin 7, IntKind.i64.wrap ((BitVec.ofInt IntKind.i64.bits ((2 ^ j.1 : Nat) : Int) &&& BitVec.ofInt IntKind.i64.bits (((2 ^ j.1 : Nat) : Int) - 1)).toNat : Int) = 0 := by decide
  subst h
  exact this ⟨i, hi⟩
theorem splitN_fn (n : Nat) (h : n ≤ 9223372036854775807) : Fn Tryd.prog 18 [is (.int .i64 (n : Int))] (is (.int .i64 ((split n : Nat) : Int))) :=
  (split_fn (n : Int) (by omega) (by omega)).to (by rw [splitZ_nat])
set_option linter.unusedVariables false
set_option linter.unusedSimpArgs false
attribute [local irreducible] J Lq E OpP PRun is any agg tup ptr sl
attribute [local irreducible] up2 mroot nodeH leafH emptyH shaH ownAt row someL leafOf splitZ split
theorem rootsParts (l : List Hash) (_h : l.length ≤ maxLen ∧ ∀ x ∈ l, True) : Fn Tryd.prog 5 [sl hashT.toTy l] (is (.bool true)) := by
  by_cases hbig : 100 < l.length
  · refine Fn.mk' 53 Tryd.func5 rfl rfl rfl rfl fun w0 H0 => ?_
    repeat (first | ((first | (apply Lq.s; rfl) | apply PRun.s | (apply Lq.run; rfl; rfl; rfl; exact bsB) | (apply PRun.run; rfl; rfl; exact bsB)); first | (apply op_call does09_fn; exact bsD) | (exact bsO)) | apply J.seq | apply E.next | apply J.lq | apply Lq.nil | apply PRun.nil | apply J.block | apply E.in_normal | apply J.skip | (apply Lq.store; rfl; rfl; exact bsP; exact bsS; rfl; rfl) | (apply PRun.al; rfl) | (apply Lq.al; rfl; rfl; intro b) | (apply Open.cons; intro b) | apply Open.nil | (apply Lq.pass; rfl; rfl; rfl) | (apply PRun.pass; rfl; rfl) | (apply Lq.skip; rfl; rfl; rfl; exact bsB) | (apply PRun.skip; rfl; rfl; exact bsB) | (apply J.drawN; exact mixed; kernel_rfl) | (apply J.cond_t; rfl) | (apply J.cond_f; rfl) | apply J.exit | apply E.then_exit | apply E.in_exit | (apply E.in_other; rfl))
    (refine J.ret ?_; (repeat (first | refine E.then_ret ?_ | refine E.in_ret ?_)))
    exact E.ret1 rfl rfl
  · by_cases hsmall : l.length < 2
    · refine Fn.mk' 53 Tryd.func5 rfl rfl rfl rfl fun w0 H0 => ?_
      repeat (first | ((first | (apply Lq.s; rfl) | apply PRun.s | (apply Lq.run; rfl; rfl; rfl; exact bsB) | (apply PRun.run; rfl; rfl; exact bsB)); first | (apply op_call does09_fn; exact bsD) | (exact bsO)) | apply J.seq | apply E.next | apply J.lq | apply Lq.nil | apply PRun.nil | apply J.block | apply E.in_normal | apply J.skip | (apply Lq.store; rfl; rfl; exact bsP; exact bsS; rfl; rfl) | (apply PRun.al; rfl) | (apply Lq.al; rfl; rfl; intro b) | (apply Open.cons; intro b) | apply Open.nil | (apply Lq.pass; rfl; rfl; rfl) | (apply PRun.pass; rfl; rfl) | (apply Lq.skip; rfl; rfl; rfl; exact bsB) | (apply PRun.skip; rfl; rfl; exact bsB) | (apply J.drawN; exact mixed; kernel_rfl) | (apply J.cond_t; rfl) | (apply J.cond_f; rfl) | apply J.exit | apply E.then_exit | apply E.in_exit | (apply E.in_other; rfl))
      (refine J.ret ?_; (repeat (first | refine E.then_ret ?_ | refine E.in_ret ?_)))
      exact E.ret1 rfl rfl
    · have hsp := splitN_fn l.length (by omega)
      have hroot := mroot_split (l := l) (by omega)
      obtain ⟨k1, k2, k3⟩ := split_lt (n := l.length) (by omega)
      obtain ⟨i, hi, hi1, hi2⟩ := split_spec (n := l.length) (by omega)
      have hi7 : i < 7 := by
        rcases Nat.lt_or_ge i 7 with h | h
        · exact h
        · have := Nat.pow_le_pow_right (n := 2) (by decide) h; omega
      have hand := and_pow hi hi7
      generalize split l.length = k at *
      have hk1 : (l.take k).length = k := by rw [List.length_take]; omega
      have hk2 : (l.drop k).length = l.length - k := List.length_drop
      refine Fn.mk' 53 Tryd.func5 rfl rfl rfl rfl fun w0 H0 => ?_
      repeat (first | ((first | (apply Lq.s; rfl) | apply PRun.s | (apply Lq.run; rfl; rfl; rfl; exact bsB) | (apply PRun.run; rfl; rfl; exact bsB)); first | (apply op_call does09_fn; exact bsD) | (apply op_call hsp; exact bsD) | (apply op_andI (c := 0); rfl; rfl; exact hand) | (apply op_ksl_hi (T := hashT.toTy) (hi := k); rfl; rfl; omega) | (apply op_ksl_lo (T := hashT.toTy) (lo := k); rfl; rfl; omega) | (apply op_call (root_fn l (by omega)); exact bsD) | (apply op_call (root_fn (l.take k) (by omega)); exact bsD) | (apply op_call (root_fn (l.drop k) (by omega)); exact bsD) | (apply op_call (nodeH_fn (mroot (l.take k)) (mroot (l.drop k))); exact bsD) | (apply op_eqA_t (T := hashT) (m := 2) (eqd_arr eqd_u8) rfl rfl; rfl; rfl; exact hroot) | (exact bsO)) | apply J.seq | apply E.next | apply J.lq | apply Lq.nil | apply PRun.nil | apply J.block | apply E.in_normal | apply J.skip | (apply Lq.store; rfl; rfl; exact bsP; exact bsS; rfl; rfl) | (apply PRun.al; rfl) | (apply Lq.al; rfl; rfl; intro b) | (apply Open.cons; intro b) | apply Open.nil | (apply Lq.pass; rfl; rfl; rfl) | (apply PRun.pass; rfl; rfl) | (apply Lq.skip; rfl; rfl; rfl; exact bsB) | (apply PRun.skip; rfl; rfl; exact bsB) | (apply J.drawN; exact mixed; kernel_rfl) | (apply J.cond_t; rfl) | (apply J.cond_f; rfl) | apply J.exit | apply E.then_exit | apply E.in_exit | (apply E.in_other; rfl))
      (refine J.ret ?_; (repeat (first | refine E.then_ret ?_ | refine E.in_ret ?_)))
      exact E.ret1 rfl rfl
theorem rootsLevels (l : List Hash) (_h : l.length ≤ maxLen ∧ ∀ x ∈ l, True) : Fn Tryd.prog 8 [sl hashT.toTy l] (is (.bool true)) := by
  by_cases hbig : 40 < l.length
  · refine Fn.mk' 49 Tryd.func8 rfl rfl rfl rfl fun w0 H0 => ?_
    repeat (first | ((first | (apply Lq.s; rfl) | apply PRun.s | (apply Lq.run; rfl; rfl; rfl; exact bsB) | (apply PRun.run; rfl; rfl; exact bsB)); first | (exact bsO)) | apply J.seq | apply E.next | apply J.lq | apply Lq.nil | apply PRun.nil | apply J.block | apply E.in_normal | apply J.skip | (apply Lq.store; rfl; rfl; exact bsP; exact bsS; rfl; rfl) | (apply PRun.al; rfl) | (apply Lq.al; rfl; rfl; intro b) | (apply Open.cons; intro b) | apply Open.nil | (apply Lq.pass; rfl; rfl; rfl) | (apply PRun.pass; rfl; rfl) | (apply Lq.skip; rfl; rfl; rfl; exact bsB) | (apply PRun.skip; rfl; rfl; exact bsB) | (apply J.drawN; exact mixed; kernel_rfl) | (apply J.cond_t; rfl) | (apply J.cond_f; rfl) | apply J.exit | apply E.then_exit | apply E.in_exit | (apply E.in_other; rfl))
    (refine J.ret ?_; (repeat (first | refine E.then_ret ?_ | refine E.in_ret ?_)))
    exact E.ret1 rfl rfl
  · refine Fn.mk' 49 Tryd.func8 rfl rfl rfl rfl fun w0 H0 => ?_
    repeat (first | ((first | (apply Lq.s; rfl) | apply PRun.s | (apply Lq.run; rfl; rfl; rfl; exact bsB) | (apply PRun.run; rfl; rfl; exact bsB)); first | (exact bsO)) | apply J.seq | apply E.next | apply J.lq | apply Lq.nil | apply PRun.nil | apply J.block | apply E.in_normal | apply J.skip | (apply Lq.store; rfl; rfl; exact bsP; exact bsS; rfl; rfl) | (apply PRun.al; rfl) | (apply Lq.al; rfl; rfl; intro b) | (apply Open.cons; intro b) | apply Open.nil | (apply Lq.pass; rfl; rfl; rfl) | (apply PRun.pass; rfl; rfl) | (apply Lq.skip; rfl; rfl; rfl; exact bsB) | (apply PRun.skip; rfl; rfl; exact bsB) | (apply J.drawN; exact mixed; kernel_rfl) | (apply J.cond_t; rfl) | (apply J.cond_f; rfl) | apply J.exit | apply E.then_exit | apply E.in_exit | (apply E.in_other; rfl))
    refine J.nilrow 23 hashT.toTy ?_
    refine J.loop (fun p : Nat × Option Addr × Nat => 2 * p.1 ≤ l.length) (fun p => [(0, sl hashT.toTy l), (3, is (.slice p.2.1 (up2 (l.take (2 * p.1))).length p.2.2)), (4, is (.int .i64 ((2 * p.1 : Nat) : Int)))])
      (fun p => [row (.slice p.2.1 (up2 (l.take (2 * p.1))).length p.2.2) 23 hashT.toTy (up2 (l.take (2 * p.1)))]) (fun p => l.length - 2 * p.1) (0, none, 0) (Nat.zero_le _) ?_ ?_
    · try dsimp only
      rw [Nat.mul_zero, List.take_zero, up2_nil]
      exact (Sub.same (by repeat' (first | exact trivial | refine ⟨rfl, ?_⟩)))
    rintro ⟨k, A, c⟩ hk
    dsimp only at hk ⊢
    have hul : (up2 (l.take (2 * k))).length = (2 * k + 1) / 2 := by rw [up2_len, List.length_take]; congr 2; omega
    by_cases hmore : 2 * k + 1 < l.length
    · obtain ⟨p, hp⟩ : ∃ p, l[2 * k]? = some p := ⟨_, List.getElem?_eq_getElem (by omega)⟩
      obtain ⟨q, hq⟩ : ∃ q, l[2 * k + 1]? = some q := ⟨_, List.getElem?_eq_getElem (by omega)⟩
      have hup := up2_more (x := l) (k := k) (a := p) (c := q) (by rw [List.getElem?_drop]; exact hp) (by rw [List.getElem?_drop]; exact hq)
      repeat (first | ((first | (apply Lq.s; rfl) | apply PRun.s | (apply Lq.run; rfl; rfl; rfl; exact bsB) | (apply PRun.run; rfl; rfl; exact bsB)); first | (apply op_add (c := ((2 * (k + 1) : Nat) : Int)); rfl; rfl; (rw [show ((2 * k : Nat) : Int) + 2 = ((2 * (k + 1) : Nat) : Int) by omega]; apply wrapi <;> omega)) | (apply op_iaddr hashT.toTy (x := p); rfl; rfl; exact Int.natCast_nonneg _; (rw [Int.toNat_natCast]; exact hp)) | (apply op_iaddr hashT.toTy (x := q); rfl; rfl; omega; (rw [show (((2 * k : Nat) : Int) + 1).toNat = 2 * k + 1 by omega]; exact hq)) | (apply op_load hashT; rfl) | (apply op_call (nodeH_fn p q); exact bsD) | (apply op_bslice hashT (xs := [nodeH p q]); (repeat (first | exact PO.nil _ | (apply PO.cons; rfl))); rfl; rfl; rfl) | (exact bsO)) | apply J.seq | apply E.next | apply J.lq | apply Lq.nil | apply PRun.nil | apply J.block | apply E.in_normal | apply J.skip | (apply Lq.store; rfl; rfl; exact bsP; exact bsS; rfl; rfl) | (apply PRun.al; rfl) | (apply Lq.al; rfl; rfl; intro b) | (apply Open.cons; intro b) | apply Open.nil | (apply Lq.pass; rfl; rfl; rfl) | (apply PRun.pass; rfl; rfl) | (apply Lq.skip; rfl; rfl; rfl; exact bsB) | (apply PRun.skip; rfl; rfl; exact bsB) | (apply J.drawN; exact mixed; kernel_rfl) | (apply J.cond_t; rfl) | (apply J.cond_f; rfl) | apply J.exit | apply E.then_exit | apply E.in_exit | (apply E.in_other; rfl))
      (apply Lq.append (T := hashT) (xs := up2 (l.take (2 * k))) (ys := [nodeH p q]); rfl; exact List.Perm.refl _; (apply From.sl; rfl); rfl; rfl; rfl; (show _ + 1 ≤ maxLen; unfold maxLen; omega); (show (_ + 1) * 32 ≤ _; omega))
      intro A1 c1
      repeat (first | ((first | (apply Lq.s; rfl) | apply PRun.s | (apply Lq.run; rfl; rfl; rfl; exact bsB) | (apply PRun.run; rfl; rfl; exact bsB)); first | (apply op_add (c := ((2 * (k + 1) : Nat) : Int)); rfl; rfl; (rw [show ((2 * k : Nat) : Int) + 2 = ((2 * (k + 1) : Nat) : Int) by omega]; apply wrapi <;> omega)) | (exact bsO)) | apply J.seq | apply E.next | apply J.lq | apply Lq.nil | apply PRun.nil | apply J.block | apply E.in_normal | apply J.skip | (apply Lq.store; rfl; rfl; exact bsP; exact bsS; rfl; rfl) | (apply PRun.al; rfl) | (apply Lq.al; rfl; rfl; intro b) | (apply Open.cons; intro b) | apply Open.nil | (apply Lq.pass; rfl; rfl; rfl) | (apply PRun.pass; rfl; rfl) | (apply Lq.skip; rfl; rfl; rfl; exact bsB) | (apply PRun.skip; rfl; rfl; exact bsB) | (apply J.drawN; exact mixed; kernel_rfl) | (apply J.cond_t; rfl) | (apply J.cond_f; rfl) | apply J.exit | apply E.then_exit | apply E.in_exit | (apply E.in_other; rfl))
      rw [← hup]
      exact E.again (k + 1, A1, c1) (by dsimp only; omega) (by dsimp only; omega) (Sub.same (by repeat' (first | exact trivial | refine ⟨rfl, ?_⟩)))
    · by_cases hodd : l.length % 2 = 1
      · obtain ⟨p, hp⟩ : ∃ p, l[2 * k]? = some p := ⟨_, List.getElem?_eq_getElem (by omega)⟩
        have hd : l.drop (2 * k) = [p] := by
          rw [List.drop_eq_getElem_cons (by omega), List.drop_eq_nil_of_le (by omega)]
          rw [List.getElem?_eq_getElem (by omega)] at hp
          injection hp with hp
          rw [hp]
        have hend := up2_end hk (by rw [hd]; exact Nat.le_refl 1)
        rw [hd] at hend
        repeat (first | ((first | (apply Lq.s; rfl) | apply PRun.s | (apply Lq.run; rfl; rfl; rfl; exact bsB) | (apply PRun.run; rfl; rfl; exact bsB)); first | (apply op_remn (m := l.length) (n := 2); rfl; rfl; decide) | (apply op_iaddr hashT.toTy (x := p); rfl; rfl; omega; (rw [show ((l.length : Int) - 1).toNat = 2 * k by omega]; exact hp)) | (apply op_load hashT; rfl) | (apply op_bslice hashT (xs := [p]); (repeat (first | exact PO.nil _ | (apply PO.cons; rfl))); rfl; rfl; rfl) | (exact bsO)) | apply J.seq | apply E.next | apply J.lq | apply Lq.nil | apply PRun.nil | apply J.block | apply E.in_normal | apply J.skip | (apply Lq.store; rfl; rfl; exact bsP; exact bsS; rfl; rfl) | (apply PRun.al; rfl) | (apply Lq.al; rfl; rfl; intro b) | (apply Open.cons; intro b) | apply Open.nil | (apply Lq.pass; rfl; rfl; rfl) | (apply PRun.pass; rfl; rfl) | (apply Lq.skip; rfl; rfl; rfl; exact bsB) | (apply PRun.skip; rfl; rfl; exact bsB) | (apply J.drawN; exact mixed; kernel_rfl) | (apply J.cond_t; rfl) | (apply J.cond_f; rfl) | apply J.exit | apply E.then_exit | apply E.in_exit | (apply E.in_other; rfl))
        (apply Lq.append (T := hashT) (xs := up2 (l.take (2 * k))) (ys := [p]); rfl; exact List.Perm.refl _; (apply From.sl; rfl); rfl; rfl; rfl; (show _ + 1 ≤ maxLen; unfold maxLen; omega); (show (_ + 1) * 32 ≤ _; omega))
        intro A1 c1
        rw [hend]
        repeat (first | ((first | (apply Lq.s; rfl) | apply PRun.s | (apply Lq.run; rfl; rfl; rfl; exact bsB) | (apply PRun.run; rfl; rfl; exact bsB)); first | (apply op_call (root_fn l (by omega)); exact bsD) | (exact bsO)) | apply J.seq | apply E.next | apply J.lq | apply Lq.nil | apply PRun.nil | apply J.block | apply E.in_normal | apply J.skip | (apply Lq.store; rfl; rfl; exact bsP; exact bsS; rfl; rfl) | (apply PRun.al; rfl) | (apply Lq.al; rfl; rfl; intro b) | (apply Open.cons; intro b) | apply Open.nil | (apply Lq.pass; rfl; rfl; rfl) | (apply PRun.pass; rfl; rfl) | (apply Lq.skip; rfl; rfl; rfl; exact bsB) | (apply PRun.skip; rfl; rfl; exact bsB) | (apply J.drawN; exact mixed; kernel_rfl) | (apply J.cond_t; rfl) | (apply J.cond_f; rfl) | apply J.exit | apply E.then_exit | apply E.in_exit | (apply E.in_other; rfl))
        refine Lq.freeze 43 rfl (List.Perm.refl _) ?_
        repeat (first | ((first | (apply Lq.s; rfl) | apply PRun.s | (apply Lq.run; rfl; rfl; rfl; exact bsB) | (apply PRun.run; rfl; rfl; exact bsB)); first | (apply op_call (root_fn (up2 l) (by rw [up2_len]; omega)); exact bsD) | (apply op_eqA_t (T := hashT) (m := 2) (eqd_arr eqd_u8) rfl rfl; rfl; rfl; exact (mroot_up2 _ l rfl).symm) | (apply op_call does09_fn; exact bsD) | (exact bsO)) | apply J.seq | apply E.next | apply J.lq | apply Lq.nil | apply PRun.nil | apply J.block | apply E.in_normal | apply J.skip | (apply Lq.store; rfl; rfl; exact bsP; exact bsS; rfl; rfl) | (apply PRun.al; rfl) | (apply Lq.al; rfl; rfl; intro b) | (apply Open.cons; intro b) | apply Open.nil | (apply Lq.pass; rfl; rfl; rfl) | (apply PRun.pass; rfl; rfl) | (apply Lq.skip; rfl; rfl; rfl; exact bsB) | (apply PRun.skip; rfl; rfl; exact bsB) | (apply J.drawN; exact mixed; kernel_rfl) | (apply J.cond_t; rfl) | (apply J.cond_f; rfl) | apply J.exit | apply E.then_exit | apply E.in_exit | (apply E.in_other; rfl))
        (refine J.ret ?_; (repeat (first | refine E.then_ret ?_ | refine E.in_ret ?_)))
        exact E.ret1 rfl rfl
      · have hd : l.take (2 * k) = l := List.take_of_length_le (by omega)
        rw [hd]
        repeat (first | ((first | (apply Lq.s; rfl) | apply PRun.s | (apply Lq.run; rfl; rfl; rfl; exact bsB) | (apply PRun.run; rfl; rfl; exact bsB)); first | (apply op_remn (m := l.length) (n := 2); rfl; rfl; decide) | (apply op_call (root_fn l (by omega)); exact bsD) | (exact bsO)) | apply J.seq | apply E.next | apply J.lq | apply Lq.nil | apply PRun.nil | apply J.block | apply E.in_normal | apply J.skip | (apply Lq.store; rfl; rfl; exact bsP; exact bsS; rfl; rfl) | (apply PRun.al; rfl) | (apply Lq.al; rfl; rfl; intro b) | (apply Open.cons; intro b) | apply Open.nil | (apply Lq.pass; rfl; rfl; rfl) | (apply PRun.pass; rfl; rfl) | (apply Lq.skip; rfl; rfl; rfl; exact bsB) | (apply PRun.skip; rfl; rfl; exact bsB) | (apply J.drawN; exact mixed; kernel_rfl) | (apply J.cond_t; rfl) | (apply J.cond_f; rfl) | apply J.exit | apply E.then_exit | apply E.in_exit | (apply E.in_other; rfl))
        refine Lq.freeze 43 rfl (List.Perm.refl _) ?_
        repeat (first | ((first | (apply Lq.s; rfl) | apply PRun.s | (apply Lq.run; rfl; rfl; rfl; exact bsB) | (apply PRun.run; rfl; rfl; exact bsB)); first | (apply op_call (root_fn (up2 l) (by rw [up2_len]; omega)); exact bsD) | (apply op_eqA_t (T := hashT) (m := 2) (eqd_arr eqd_u8) rfl rfl; rfl; rfl; exact (mroot_up2 _ l rfl).symm) | (apply op_call does09_fn; exact bsD) | (exact bsO)) | apply J.seq | apply E.next | apply J.lq | apply Lq.nil | apply PRun.nil | apply J.block | apply E.in_normal | apply J.skip | (apply Lq.store; rfl; rfl; exact bsP; exact bsS; rfl; rfl) | (apply PRun.al; rfl) | (apply Lq.al; rfl; rfl; intro b) | (apply Open.cons; intro b) | apply Open.nil | (apply Lq.pass; rfl; rfl; rfl) | (apply PRun.pass; rfl; rfl) | (apply Lq.skip; rfl; rfl; rfl; exact bsB) | (apply PRun.skip; rfl; rfl; exact bsB) | (apply J.drawN; exact mixed; kernel_rfl) | (apply J.cond_t; rfl) | (apply J.cond_f; rfl) | apply J.exit | apply E.then_exit | apply E.in_exit | (apply E.in_other; rfl))
        (refine J.ret ?_; (repeat (first | refine E.then_ret ?_ | refine E.in_ret ?_)))
        exact E.ret1 rfl rfl
end Go.Proofs.YtljdjagackdplaaDoor.L
/-
  Laws of roots, walked: RootsGrown, RootsApart.
-/
namespace Go.Proofs.YtljdjagackdplaaDoor.L
open Go
set_option linter.unusedSectionVars false
variable [Globs] [Has_sha_table] [Has_sha_begin]
theorem Lq.open {α : Type} {C : Cx} {Γ : Env} {Δ Δ' : List Res} {ops : Array Oper} {rest : List Oper} {Q : Exit → Act → World → Prop} {T : Ty α} {v : Value} {e : Nat} {xs : List α} (hp : Δ.Perm (row v e T xs :: Δ')) (hne : xs ≠ []) (k : ∀ b o cap pre post, RowAt T v xs b o cap pre post → Lq C Γ (own b e (pre ++ flat T xs ++ post) :: Δ') ops rest Q) : Lq C Γ Δ ops rest Q := fun H a w S => by
  obtain ⟨b, o, cap, pre, post, h, S'⟩ := S.open hp hne
  exact k b o cap pre post h H a w S'
def pairT : Td (Arr Hash 2) := arrT 2 hashT (by decide)
theorem op_pairH {P : Program} {Γ : Env} {Δ : List Res} {d : Option Nat} {ty t : Nat} {pos : String} {af : Array Edge} {g : Option (Nat × Bool)} {x y : Operand} {p q : Hash} {z : Value} {pl : Nat → Option (Nat × Nat)} [hz : TZero P t z] [hp : TPl P t pl] (h1 : opd Γ x = some (hashT.val p)) (h2 : opd Γ y = some (hashT.val q)) (e0 : pl 0 = some (0, 32)) (e1 : pl 1 = some (32, 32)) (ho : z.cells.toList.all (fun v => v.oneCell') = true) (hl : z.cells.toList.length = 64) :
    OpP P Γ Δ ⟨d, .build t #[(0, x), (1, y)], ty, pos, af, g⟩ (pairT.val ⟨[p, q], rfl⟩) := by
  have hc : ∀ r : Hash, (hashT.cells r).length = 32 := fun r => hashT.len r
  have l1 : (splice (z.cells.toList.map is) 0 (hashT.cells p)).length = 64 := by
    unfold splice
    simp only [List.length_append, List.length_take, List.length_drop, List.length_map, hl, hc]
    rfl
  have key : splice (splice (z.cells.toList.map is) 0 (hashT.cells p)) 32 (hashT.cells q) = pairT.cells ⟨[p, q], rfl⟩ := by
    show _ = hashT.cells p ++ (hashT.cells q ++ [])
    have s1 : splice (z.cells.toList.map is) 0 (hashT.cells p) = hashT.cells p ++ (z.cells.toList.map is).drop 32 := by
      unfold splice
      rw [List.take_zero, List.nil_append, Nat.zero_add, hc]
    rw [s1]
    have := splice_pre (hashT.cells p) ((z.cells.toList.map is).drop 32) (hashT.cells q) 0 (hc p)
    rw [Nat.add_zero] at this
    rw [this, splice_all (by rw [List.length_drop, List.length_map, hl, hc]), List.append_nil]
  have hb := op_build (P := P) (Γ := Γ) (Δ := Δ) (d := d) (ty := ty) (pos := pos) (af := af) (g := g) (t := t) (z := z) (pl := pl) (ps := [(0, x), (1, y)]) (φs := pairT.cells ⟨[p, q], rfl⟩) ho
    (BP.cons e0 h1 (Seg.val hashT p) (hc p) (by rw [List.length_map, hl]; rfl) (BP.cons e1 h2 (Seg.val hashT q) (hc q) (by rw [l1]; rfl) (by rw [key]; exact BP.nil _)))
  exact hb
set_option linter.unusedVariables false
set_option linter.unusedSimpArgs false
attribute [local irreducible] J Lq E OpP PRun is any agg tup ptr sl PRunW OpE
attribute [local irreducible] up2 mroot nodeH leafH emptyH shaH ownAt row someL leafOf splitZ split
theorem some_fnR (n s : Nat) (hn : n ≤ 100000) (hs : s < 4294967296) : FnR Tryd.prog 21 [is (.int .i64 (n : Int)), is (.int .u32 (s : Int))] [] (fun ψ Δ => ∃ A c, ψ = is (.slice A n c) ∧ Δ = [row (.slice A n c) 23 hashT.toTy (someL n s)]) := by
  refine FnR.mk' 35 Tryd.func21 rfl rfl rfl rfl fun w0 H0 => ?_
  repeat (first | ((first | (apply Lq.s; rfl) | apply PRun.s | (apply Lq.run; rfl; rfl; rfl; exact bsB) | (apply PRun.run; rfl; rfl; exact bsB)); first | (exact bsO)) | apply J.seq | apply E.next | apply J.lq | apply Lq.nil | apply PRun.nil | apply J.block | apply E.in_normal | apply J.skip | (apply Lq.store; rfl; rfl; exact bsP; exact bsS; rfl; rfl) | (apply PRun.al; rfl) | (apply Lq.al; rfl; rfl; intro b) | (apply Open.cons; intro b) | apply Open.nil | (apply Lq.pass; rfl; rfl; rfl) | (apply PRun.pass; rfl; rfl) | (apply Lq.skip; rfl; rfl; rfl; exact bsB) | (apply PRun.skip; rfl; rfl; exact bsB) | (apply J.drawN; exact mixed; kernel_rfl) | (apply J.cond_t; rfl) | (apply J.cond_f; rfl) | apply J.exit | apply E.then_exit | apply E.in_exit | (apply E.in_other; rfl))
  refine J.nilrow 23 hashT.toTy ?_
  refine J.loop (fun p : Nat × Option Addr × Nat => p.1 ≤ n) (fun p => [(0, is (.int .i64 (n : Int))), (1, is (.int .u32 (s : Int))), (5, is (.slice p.2.1 (someL p.1 s).length p.2.2)), (6, is (.int .i64 (p.1 : Int)))])
    (fun p => [row (.slice p.2.1 (someL p.1 s).length p.2.2) 23 hashT.toTy (someL p.1 s)]) (fun p => n - p.1) (0, none, 0) (Nat.zero_le _) ?_ ?_
  · try dsimp only
    rw [someL_0]
    exact (Sub.same (by repeat' (first | exact trivial | refine ⟨rfl, ?_⟩)))
  rintro ⟨k, A, c⟩ hk
  dsimp only at hk ⊢
  have hl := someL_len k s
  by_cases hlt : k < n
  · repeat (first | ((first | (apply Lq.s; rfl) | apply PRun.s | (apply Lq.run; rfl; rfl; rfl; exact bsB) | (apply PRun.run; rfl; rfl; exact bsB)); first | (apply op_convnb; rfl) | (apply op_quon (m := k) (n := 256); rfl; rfl; decide; omega) | (apply op_shrn (m := s) (n := 8); rfl; rfl; decide) | (apply op_shrn (m := s) (n := 16); rfl; rfl; decide) | (apply op_shrn (m := s) (n := 24); rfl; rfl; decide) | (apply op_bslice u8T (xs := [UInt8.ofNat k, UInt8.ofNat (k / 256), UInt8.ofNat s, UInt8.ofNat (s / 2 ^ 8), UInt8.ofNat (s / 2 ^ 16), UInt8.ofNat (s / 2 ^ 24)]); (repeat (first | exact PO.nil _ | (apply PO.cons; rfl))); rfl; rfl; rfl) | (apply op_str_sl; rfl) | (apply op_call ((leafH_fn [UInt8.ofNat k, UInt8.ofNat (k / 256), UInt8.ofNat s, UInt8.ofNat (s / 2 ^ 8), UInt8.ofNat (s / 2 ^ 16), UInt8.ofNat (s / 2 ^ 24)] (by simp)).to (show _ = hashT.val (leafOf s k) by unfold leafOf; rfl)); exact bsD) | (apply op_bslice hashT (xs := [leafOf s k]); (repeat (first | exact PO.nil _ | (apply PO.cons; rfl))); rfl; rfl; rfl) | (exact bsO)) | apply J.seq | apply E.next | apply J.lq | apply Lq.nil | apply PRun.nil | apply J.block | apply E.in_normal | apply J.skip | (apply Lq.store; rfl; rfl; exact bsP; exact bsS; rfl; rfl) | (apply PRun.al; rfl) | (apply Lq.al; rfl; rfl; intro b) | (apply Open.cons; intro b) | apply Open.nil | (apply Lq.pass; rfl; rfl; rfl) | (apply PRun.pass; rfl; rfl) | (apply Lq.skip; rfl; rfl; rfl; exact bsB) | (apply PRun.skip; rfl; rfl; exact bsB) | (apply J.drawN; exact mixed; kernel_rfl) | (apply J.cond_t; rfl) | (apply J.cond_f; rfl) | apply J.exit | apply E.then_exit | apply E.in_exit | (apply E.in_other; rfl))
    (apply Lq.append (T := hashT) (xs := someL k s) (ys := [leafOf s k]); rfl; exact List.Perm.refl _; (apply From.sl; rfl); rfl; rfl; rfl; (show _ + 1 ≤ maxLen; unfold maxLen; omega); (show (_ + 1) * 32 ≤ _; omega))
    intro A1 c1
    repeat (first | ((first | (apply Lq.s; rfl) | apply PRun.s | (apply Lq.run; rfl; rfl; rfl; exact bsB) | (apply PRun.run; rfl; rfl; exact bsB)); first | (exact bsO)) | apply J.seq | apply E.next | apply J.lq | apply Lq.nil | apply PRun.nil | apply J.block | apply E.in_normal | apply J.skip | (apply Lq.store; rfl; rfl; exact bsP; exact bsS; rfl; rfl) | (apply PRun.al; rfl) | (apply Lq.al; rfl; rfl; intro b) | (apply Open.cons; intro b) | apply Open.nil | (apply Lq.pass; rfl; rfl; rfl) | (apply PRun.pass; rfl; rfl) | (apply Lq.skip; rfl; rfl; rfl; exact bsB) | (apply PRun.skip; rfl; rfl; exact bsB) | (apply J.drawN; exact mixed; kernel_rfl) | (apply J.cond_t; rfl) | (apply J.cond_f; rfl) | apply J.exit | apply E.then_exit | apply E.in_exit | (apply E.in_other; rfl))
    rw [← someL_s]
    exact E.again (k + 1, A1, c1) (by dsimp only; omega) (by dsimp only; omega) (Sub.same (by repeat' (first | exact trivial | refine ⟨rfl, ?_⟩)))
  · obtain rfl : k = n := by omega
    repeat (first | ((first | (apply Lq.s; rfl) | apply PRun.s | (apply Lq.run; rfl; rfl; rfl; exact bsB) | (apply PRun.run; rfl; rfl; exact bsB)); first | (exact bsO)) | apply J.seq | apply E.next | apply J.lq | apply Lq.nil | apply PRun.nil | apply J.block | apply E.in_normal | apply J.skip | (apply Lq.store; rfl; rfl; exact bsP; exact bsS; rfl; rfl) | (apply PRun.al; rfl) | (apply Lq.al; rfl; rfl; intro b) | (apply Open.cons; intro b) | apply Open.nil | (apply Lq.pass; rfl; rfl; rfl) | (apply PRun.pass; rfl; rfl) | (apply Lq.skip; rfl; rfl; rfl; exact bsB) | (apply PRun.skip; rfl; rfl; exact bsB) | (apply J.drawN; exact mixed; kernel_rfl) | (apply J.cond_t; rfl) | (apply J.cond_f; rfl) | apply J.exit | apply E.then_exit | apply E.in_exit | (apply E.in_other; rfl))
    (refine J.ret ?_; (repeat (first | refine E.then_ret ?_ | refine E.in_ret ?_)))
    exact E.retR1 (Δ' := [row (.slice A (someL k s).length c) 23 hashT.toTy (someL k s)]) (G := []) rfl rfl ⟨A, c, by rw [hl], by rw [hl]⟩ (List.Perm.refl _)
theorem wrap_pow62 {p : Nat} (h : p ≤ 2 ^ 62) : IntKind.i64.wrap ((1 * p : Nat) : Int) = (p : Int) := wrap_pow h
theorem rootsGrown (power : UInt8) (s : Nat) (more : Hash) (_h0 : True) (hs : s < 4294967296) (_h2 : True) : Fn Tryd.prog 7 [is (.int .u8 (power.toNat : Int)), is (.int .u32 (s : Int)), hashT.val more] (is (.bool true)) := by
  have h7 : power.toNat % 7 ≤ 6 := by omega
  have hpow : 2 ^ (power.toNat % 7) ≤ 2 ^ 6 := Nat.pow_le_pow_right (by decide) h7
  have hpow1 : 1 ≤ 2 ^ (power.toNat % 7) := Nat.one_le_two_pow
  have hsplit : split (2 ^ (power.toNat % 7) + 1) = 2 ^ (power.toNat % 7) := split_of (by omega) (by rw [Nat.pow_succ]; omega)
  generalize hn : 2 ^ (power.toNat % 7) = n at *
  have hl := someL_len n s
  have hroot : mroot ([] ++ someL n s ++ [more]) = nodeH (mroot (someL n s)) more := by
    rw [List.nil_append, mroot_split (by rw [List.length_append, hl]; show 2 ≤ n + 1; omega), show (someL n s ++ [more]).length = n + 1 by rw [List.length_append, hl]; rfl, hsplit, List.take_left' hl, List.drop_left' hl, mroot_one]
  refine Fn.mk' 30 Tryd.func7 rfl rfl rfl rfl fun w0 H0 => ?_
  repeat (first | ((first | (apply Lq.s; rfl) | apply PRun.s | (apply Lq.run; rfl; rfl; rfl; exact bsB) | (apply PRun.run; rfl; rfl; exact bsB)); first | (apply op_box hashT; rfl) | (apply op_remn (m := power.toNat) (n := 7); rfl; rfl; decide) | (apply op_shln (m := 1) (n := power.toNat % 7) (c := (n : Int)); rfl; rfl; (show power.toNat % 7 ≤ 64; omega); (rw [hn]; exact wrap_pow (by omega))) | (apply op_call (some_fn n s (by omega) hs); exact bsD) | (apply op_call (root_fn (someL n s) (by omega)); exact bsD) | (exact bsO)) | apply J.seq | apply E.next | apply J.lq | apply Lq.nil | apply PRun.nil | apply J.block | apply E.in_normal | apply J.skip | (apply Lq.store; rfl; rfl; exact bsP; exact bsS; rfl; rfl) | (apply PRun.al; rfl) | (apply Lq.al; rfl; rfl; intro b) | (apply Open.cons; intro b) | apply Open.nil | (apply Lq.pass; rfl; rfl; rfl) | (apply PRun.pass; rfl; rfl) | (apply Lq.skip; rfl; rfl; rfl; exact bsB) | (apply PRun.skip; rfl; rfl; exact bsB) | (apply J.cond_t; rfl) | (apply J.cond_f; rfl) | apply J.exit | apply E.then_exit | apply E.in_exit | (apply E.in_other; rfl))
  refine Lq.storeE (φs' := hashT.cells (mroot (someL n s))) rfl rfl (List.Perm.refl _) (Seg.val hashT _) (hashT.len _) (Nat.le_refl 32) (splice_all (by rw [hashT.len]; rfl)) ?_
  repeat (first | ((first | (apply Lq.s; rfl) | apply PRun.s | (apply Lq.run; rfl; rfl; rfl; exact bsB) | (apply PRun.run; rfl; rfl; exact bsB)); first | (exact bsO)) | apply J.seq | apply E.next | apply J.lq | apply Lq.nil | apply PRun.nil | apply J.block | apply E.in_normal | apply J.skip | (apply Lq.store; rfl; rfl; exact bsP; exact bsS; rfl; rfl) | (apply PRun.al; rfl) | (apply Lq.al; rfl; rfl; intro b) | (apply Open.cons; intro b) | apply Open.nil | (apply Lq.pass; rfl; rfl; rfl) | (apply PRun.pass; rfl; rfl) | (apply Lq.skip; rfl; rfl; rfl; exact bsB) | (apply PRun.skip; rfl; rfl; exact bsB) | (apply J.cond_t; rfl) | (apply J.cond_f; rfl) | apply J.exit | apply E.then_exit | apply E.in_exit | (apply E.in_other; rfl))
  refine J.drawW 15 [(none, some 16), (none, none), (some 16, some 18), (none, none), (none, none), (some 18, none), (none, none), (none, none), (none, none), (none, none), (none, none), (none, none), (none, none), (none, none), (none, none)] mixed (by kernel_rfl) ?_
  (apply PRunW.bsl (T := hashT) (xs := []); (repeat (first | exact PO.nil _ | (apply PO.cons; rfl))); rfl; rfl; rfl)
  repeat (first | ((first | apply PRunW.s | (apply PRunW.run; rfl; rfl; exact bsB) | (apply Lq.s; rfl) | apply PRun.s | (apply Lq.run; rfl; rfl; rfl; exact bsB) | (apply PRun.run; rfl; rfl; exact bsB)); first | (exact bsO)) | apply J.seq | apply E.next | apply J.lq | apply Lq.nil | apply PRun.nil | apply J.block | apply E.in_normal | apply J.skip | (apply Lq.store; rfl; rfl; exact bsP; exact bsS; rfl; rfl) | (apply PRun.al; rfl) | (apply Lq.al; rfl; rfl; intro b) | (apply Open.cons; intro b) | apply Open.nil | (apply Lq.pass; rfl; rfl; rfl) | (apply PRun.pass; rfl; rfl) | (apply Lq.skip; rfl; rfl; rfl; exact bsB) | (apply PRun.skip; rfl; rfl; exact bsB) | (apply J.cond_t; rfl) | (apply J.cond_f; rfl) | apply J.exit | apply E.then_exit | apply E.in_exit | (apply E.in_other; rfl) | apply PRunW.nil | (apply PRunW.al; rfl) | (apply PRunW.pass; rfl; rfl) | (apply PRunW.skip; rfl; rfl; exact bsB) | (apply Open.pv; intro b) | apply Open.av | (apply Open.rv; intro A c))
  (apply PRunW.ap (T := hashT) (xs := []) (ys := someL n s); rfl; rfl; (apply From.sl; rfl); rfl; rfl; (show 0 + _ ≤ maxLen; unfold maxLen; omega); (show (0 + _) * 32 ≤ _; omega))
  repeat (first | ((first | apply PRunW.s | (apply PRunW.run; rfl; rfl; exact bsB) | (apply Lq.s; rfl) | apply PRun.s | (apply Lq.run; rfl; rfl; rfl; exact bsB) | (apply PRun.run; rfl; rfl; exact bsB)); first | (apply op_load hashT; rfl) | (apply op_bslice hashT (xs := [more]); (repeat (first | exact PO.nil _ | (apply PO.cons; rfl))); rfl; rfl; rfl) | (exact bsO)) | apply J.seq | apply E.next | apply J.lq | apply Lq.nil | apply PRun.nil | apply J.block | apply E.in_normal | apply J.skip | (apply Lq.store; rfl; rfl; exact bsP; exact bsS; rfl; rfl) | (apply PRun.al; rfl) | (apply Lq.al; rfl; rfl; intro b) | (apply Open.cons; intro b) | apply Open.nil | (apply Lq.pass; rfl; rfl; rfl) | (apply PRun.pass; rfl; rfl) | (apply Lq.skip; rfl; rfl; rfl; exact bsB) | (apply PRun.skip; rfl; rfl; exact bsB) | (apply J.cond_t; rfl) | (apply J.cond_f; rfl) | apply J.exit | apply E.then_exit | apply E.in_exit | (apply E.in_other; rfl) | apply PRunW.nil | (apply PRunW.al; rfl) | (apply PRunW.pass; rfl; rfl) | (apply PRunW.skip; rfl; rfl; exact bsB) | (apply Open.pv; intro b) | apply Open.av | (apply Open.rv; intro A c))
  (apply PRunW.apF (T := hashT) (xs := [] ++ someL n s) (ys := [more]); rfl; (apply From.sl; rfl); rfl; rfl; (rw [List.nil_append]; show _ + 1 ≤ maxLen; unfold maxLen; omega); (rw [List.nil_append]; show (_ + 1) * 32 ≤ _; omega))
  repeat (first | ((first | apply PRunW.s | (apply PRunW.run; rfl; rfl; exact bsB) | (apply Lq.s; rfl) | apply PRun.s | (apply Lq.run; rfl; rfl; rfl; exact bsB) | (apply PRun.run; rfl; rfl; exact bsB)); first | (apply op_call (root_fn ([] ++ someL n s ++ [more]) (by rw [List.nil_append, List.length_append, hl]; show n + 1 ≤ _; omega)); exact bsD) | (apply op_oload hashT (x := mroot (someL n s)); rfl; exact bsM; exact List.take_of_length_le (Nat.le_of_eq (hashT.len _))) | (apply op_load hashT; rfl) | (apply op_call (nodeH_fn (mroot (someL n s)) more); exact bsD) | (apply op_eqA_t (T := hashT) (m := 2) (eqd_arr eqd_u8) rfl rfl; rfl; rfl; exact hroot) | (apply op_call does09_fn; exact bsD) | (exact bsO)) | apply J.seq | apply E.next | apply J.lq | apply Lq.nil | apply PRun.nil | apply J.block | apply E.in_normal | apply J.skip | (apply Lq.store; rfl; rfl; exact bsP; exact bsS; rfl; rfl) | (apply PRun.al; rfl) | (apply Lq.al; rfl; rfl; intro b) | (apply Open.cons; intro b) | apply Open.nil | (apply Lq.pass; rfl; rfl; rfl) | (apply PRun.pass; rfl; rfl) | (apply Lq.skip; rfl; rfl; rfl; exact bsB) | (apply PRun.skip; rfl; rfl; exact bsB) | (apply J.cond_t; rfl) | (apply J.cond_f; rfl) | apply J.exit | apply E.then_exit | apply E.in_exit | (apply E.in_other; rfl) | apply PRunW.nil | (apply PRunW.al; rfl) | (apply PRunW.pass; rfl; rfl) | (apply PRunW.skip; rfl; rfl; exact bsB) | (apply Open.pv; intro b) | apply Open.av | (apply Open.rv; intro A c))
  (refine J.ret ?_; (repeat (first | refine E.then_ret ?_ | refine E.in_ret ?_)))
  exact E.ret1 rfl rfl
end Go.Proofs.YtljdjagackdplaaDoor.L
