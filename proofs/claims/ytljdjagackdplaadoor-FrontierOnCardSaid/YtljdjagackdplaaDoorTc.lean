/-
  Leaves by a number, and the chapter's examples of roots, walked.
-/
import Derived.Test.YtljdjagackdplaaDoorTb
namespace Go.Proofs.YtljdjagackdplaaDoor.L
open Go
set_option linter.unusedSectionVars false
variable [Globs] [Has_sha_table] [Has_sha_begin]
def leafOf (s i : Nat) : Hash := leafH [UInt8.ofNat i, UInt8.ofNat (i / 256), UInt8.ofNat s, UInt8.ofNat (s / 2 ^ 8), UInt8.ofNat (s / 2 ^ 16), UInt8.ofNat (s / 2 ^ 24)]
def someL (n s : Nat) : List Hash := (List.range n).map (leafOf s)
theorem someL_len (n s : Nat) : (someL n s).length = n := by simp [someL]
theorem someL_0 (s : Nat) : someL 0 s = [] := rfl
theorem someL_s (n s : Nat) : someL (n + 1) s = someL n s ++ [leafOf s n] := by simp [someL, List.range_succ]
theorem hash_ne {a b : Hash} (h : a.1 ≠ b.1) : a ≠ b := fun e => h (by rw [e])
theorem leafOf_val (s i : Nat) : (leafOf s i).1 = sha ([0] ++ [UInt8.ofNat i, UInt8.ofNat (i / 256), UInt8.ofNat s, UInt8.ofNat (s / 2 ^ 8), UInt8.ofNat (s / 2 ^ 16), UInt8.ofNat (s / 2 ^ 24)]) := rfl
set_option maxRecDepth 100000 in
theorem leaf01 : leafOf 0 0 ≠ leafOf 0 1 := hash_ne (by rw [leafOf_val, leafOf_val]; decide +kernel)
theorem split1 : split 1 = 0 := by decide +kernel
theorem split2 : split 2 = 1 := by decide +kernel
theorem split3 : split 3 = 2 := by decide +kernel
theorem split8 : split 8 = 4 := by decide +kernel
theorem split9 : split 9 = 8 := by decide +kernel
theorem mroot2 (a b : Hash) : mroot [a, b] = nodeH a b := by
  rw [mroot_split (Nat.le_of_ble_eq_true rfl), show [a, b].length = 2 from rfl, split2]
  rfl
theorem mroot3 (a b c : Hash) : mroot [a, b, c] = nodeH (nodeH a b) c := by
  rw [mroot_split (Nat.le_of_ble_eq_true rfl), show [a, b, c].length = 3 from rfl, split3]
  show nodeH (mroot [a, b]) (mroot [c]) = _
  rw [mroot2, mroot_one]
theorem J.nilrow {α : Type} {C : Cx} {Γ : Env} {Δ : List Res} {c : Code} {Q : Exit → Act → World → Prop} (e : TypeId) (T : Ty α) (k : J C Γ (row (.slice none 0 0) e T [] :: Δ) c Q) : J C Γ Δ c Q := fun H a w S => k H a w (S.gain row_nil (fun b hb => by cases hb))
theorem op_convnb {P : Program} {Γ : Env} {Δ : List Res} {d : Option Nat} {ty t t' : Nat} {pos : String} {af : Array Edge} {g : Option (Nat × Bool)} {x : Operand} {k : IntKind} {n : Nat} [TInt P t k] [TInt P t' .u8] (h : opd Γ x = some (is (.int k (n : Int)))) : OpP P Γ Δ ⟨d, .convert t t' x, ty, pos, af, g⟩ (is (.int .u8 ((UInt8.ofNat n).toNat : Int))) :=
  op_conv h (wrapb n)
set_option linter.unusedVariables false
set_option linter.unusedSimpArgs false
attribute [local irreducible] J Lq E OpP PRun is any agg tup ptr sl
attribute [local irreducible] up2 mroot nodeH leafH emptyH shaH ownAt row someL leafOf
theorem some_fn (n s : Nat) (hn : n ≤ 100000) (hs : s < 4294967296) : Fn Tryd.prog 21 [is (.int .i64 (n : Int)), is (.int .u32 (s : Int))] (sl hashT.toTy (someL n s)) := by
  refine Fn.mk' 35 Tryd.func21 rfl rfl rfl rfl fun w0 H0 => ?_
  repeat (first | ((first | (apply Lq.s; rfl) | apply PRun.s | (apply Lq.run; rfl; rfl; rfl; exact bsB) | (apply PRun.run; rfl; rfl; exact bsB)); first | (exact bsO)) | apply J.seq | apply E.next | apply J.lq | apply Lq.nil | apply PRun.nil | apply J.block | apply E.in_normal | apply J.skip | (apply Lq.store; rfl; rfl; exact bsP; exact bsS; rfl; rfl) | (apply PRun.al; rfl) | (apply Lq.al; rfl; rfl; intro b) | (apply Open.cons; intro b) | apply Open.nil | (apply Lq.pass; rfl; rfl; rfl) | (apply PRun.pass; rfl; rfl) | (apply Lq.skip; rfl; rfl; rfl; exact bsB) | (apply PRun.skip; rfl; rfl; exact bsB) | (apply J.drawN; exact mixed; kernel_rfl) | (apply J.cond_t; rfl) | (apply J.cond_f; rfl) | apply J.exit | apply E.then_exit | apply E.in_exit | (apply E.in_other; rfl))
  refine J.nilrow 23 hashT.toTy ?_
  refine J.loop (fun p : Nat × Option Addr × Nat => p.1 ≤ n) (fun p => [(0, is (.int .i64 (n : Int))), (1, is (.int .u32 (s : Int))), (5, is (.slice p.2.1 (someL p.1 s).length p.2.2)), (6, is (.int .i64 (p.1 : Int)))])
    (fun p => [row (.slice p.2.1 (someL p.1 s).length p.2.2) 23 hashT.toTy (someL p.1 s)]) (fun p => n - p.1) (0, none, 0) (Nat.zero_le _) ?_ ?_
  · try dsimp only
    rw [someL_0]
    exact (Sub.same (by repeat' (first | exact trivial | refine ⟨rfl, ?_⟩)))
  rintro ⟨k, A, c⟩ hk
  dsimp only at hk ⊢
  have hl := someL_len k s
  by_cases hlt : k < n
  · repeat (first | ((first | (apply Lq.s; rfl) | apply PRun.s | (apply Lq.run; rfl; rfl; rfl; exact bsB) | (apply PRun.run; rfl; rfl; exact bsB)); first | (apply op_convnb; rfl) | (apply op_quon (m := k) (n := 256); rfl; rfl; decide; omega) | (apply op_shrn (m := s) (n := 8); rfl; rfl; decide) | (apply op_shrn (m := s) (n := 16); rfl; rfl; decide) | (apply op_shrn (m := s) (n := 24); rfl; rfl; decide) | (apply op_bslice u8T (xs := [UInt8.ofNat k, UInt8.ofNat (k / 256), UInt8.ofNat s, UInt8.ofNat (s / 2 ^ 8), UInt8.ofNat (s / 2 ^ 16), UInt8.ofNat (s / 2 ^ 24)]); (repeat (first | exact PO.nil _ | (apply PO.cons; rfl))); rfl; rfl; rfl) | (apply op_str_sl; rfl) | (apply op_call ((leafH_fn [UInt8.ofNat k, UInt8.ofNat (k / 256), UInt8.ofNat s, UInt8.ofNat (s / 2 ^ 8), UInt8.ofNat (s / 2 ^ 16), UInt8.ofNat (s / 2 ^ 24)] (by simp)).to (show _ = hashT.val (leafOf s k) by unfold leafOf; rfl)); exact bsD) | (apply op_bslice hashT (xs := [leafOf s k]); (repeat (first | exact PO.nil _ | (apply PO.cons; rfl))); rfl; rfl; rfl) | (exact bsO)) | apply J.seq | apply E.next | apply J.lq | apply Lq.nil | apply PRun.nil | apply J.block | apply E.in_normal | apply J.skip | (apply Lq.store; rfl; rfl; exact bsP; exact bsS; rfl; rfl) | (apply PRun.al; rfl) | (apply Lq.al; rfl; rfl; intro b) | (apply Open.cons; intro b) | apply Open.nil | (apply Lq.pass; rfl; rfl; rfl) | (apply PRun.pass; rfl; rfl) | (apply Lq.skip; rfl; rfl; rfl; exact bsB) | (apply PRun.skip; rfl; rfl; exact bsB) | (apply J.drawN; exact mixed; kernel_rfl) | (apply J.cond_t; rfl) | (apply J.cond_f; rfl) | apply J.exit | apply E.then_exit | apply E.in_exit | (apply E.in_other; rfl))
    (apply Lq.append (T := hashT) (xs := someL k s) (ys := [leafOf s k]); rfl; exact List.Perm.refl _; (apply From.sl; rfl); rfl; rfl; rfl; (show _ + 1 ≤ maxLen; unfold maxLen; omega); (show (_ + 1) * 32 ≤ _; omega))
    intro A1 c1
    repeat (first | ((first | (apply Lq.s; rfl) | apply PRun.s | (apply Lq.run; rfl; rfl; rfl; exact bsB) | (apply PRun.run; rfl; rfl; exact bsB)); first | (exact bsO)) | apply J.seq | apply E.next | apply J.lq | apply Lq.nil | apply PRun.nil | apply J.block | apply E.in_normal | apply J.skip | (apply Lq.store; rfl; rfl; exact bsP; exact bsS; rfl; rfl) | (apply PRun.al; rfl) | (apply Lq.al; rfl; rfl; intro b) | (apply Open.cons; intro b) | apply Open.nil | (apply Lq.pass; rfl; rfl; rfl) | (apply PRun.pass; rfl; rfl) | (apply Lq.skip; rfl; rfl; rfl; exact bsB) | (apply PRun.skip; rfl; rfl; exact bsB) | (apply J.drawN; exact mixed; kernel_rfl) | (apply J.cond_t; rfl) | (apply J.cond_f; rfl) | apply J.exit | apply E.then_exit | apply E.in_exit | (apply E.in_other; rfl))
    rw [← someL_s]
    exact E.again (k + 1, A1, c1) (by dsimp only; omega) (by dsimp only; omega) (Sub.same (by repeat' (first | exact trivial | refine ⟨rfl, ?_⟩)))
  · obtain rfl : k = n := by omega
    repeat (first | ((first | (apply Lq.s; rfl) | apply PRun.s | (apply Lq.run; rfl; rfl; rfl; exact bsB) | (apply PRun.run; rfl; rfl; exact bsB)); first | (exact bsO)) | apply J.seq | apply E.next | apply J.lq | apply Lq.nil | apply PRun.nil | apply J.block | apply E.in_normal | apply J.skip | (apply Lq.store; rfl; rfl; exact bsP; exact bsS; rfl; rfl) | (apply PRun.al; rfl) | (apply Lq.al; rfl; rfl; intro b) | (apply Open.cons; intro b) | apply Open.nil | (apply Lq.pass; rfl; rfl; rfl) | (apply PRun.pass; rfl; rfl) | (apply Lq.skip; rfl; rfl; rfl; exact bsB) | (apply PRun.skip; rfl; rfl; exact bsB) | (apply J.drawN; exact mixed; kernel_rfl) | (apply J.cond_t; rfl) | (apply J.cond_f; rfl) | apply J.exit | apply E.then_exit | apply E.in_exit | (apply E.in_other; rfl))
    (refine J.ret ?_; (repeat (first | refine E.then_ret ?_ | refine E.in_ret ?_)))
    refine E.freeze 4 rfl (List.Perm.refl _) ?_
    exact E.ret1 rfl rfl
theorem splitZ_of {n : Int} {m : Nat} (h : split n.toNat = m) : is (.int .i64 (splitZ n)) = is (.int .i64 (m : Int)) := by unfold splitZ; rw [h]
theorem some3 (s : Nat) : someL 3 s = [leafOf s 0, leafOf s 1, leafOf s 2] := by unfold someL; rfl
theorem does09_fn : Fn Tryd.prog 17 [] (is (.bool true)) := by
  have h01 := leaf01
  generalize hq0 : leafOf 0 0 = q0 at h01
  generalize hq1 : leafOf 0 1 = q1 at h01
  generalize hq2 : leafOf 0 2 = q2
  have hS : someL 3 0 = [q0, q1, q2] := by rw [some3, hq0, hq1, hq2]
  refine Fn.mk' 55 Tryd.func17 rfl rfl rfl rfl fun w0 H0 => ?_
  repeat (first | ((first | (apply Lq.s; rfl) | apply PRun.s | (apply Lq.run; rfl; rfl; rfl; exact bsB) | (apply PRun.run; rfl; rfl; exact bsB)); first | (apply op_call ((some_fn 3 0 (by decide) (by decide)).to (show _ = sl hashT.toTy [q0, q1, q2] by rw [hS])); exact bsD) | (apply op_call ((split_fn 1 (by decide) (by decide)).to (splitZ_of split1)); exact bsD) | (apply op_call ((split_fn 2 (by decide) (by decide)).to (splitZ_of split2)); exact bsD) | (apply op_call ((split_fn 3 (by decide) (by decide)).to (splitZ_of split3)); exact bsD) | (apply op_call ((split_fn 8 (by decide) (by decide)).to (splitZ_of split8)); exact bsD) | (apply op_call ((split_fn 9 (by decide) (by decide)).to (splitZ_of split9)); exact bsD) | (apply op_call ((root_fn [q0, q1, q2] (by simp)).to (show _ = hashT.val (nodeH (nodeH q0 q1) q2) by rw [mroot3])); exact bsD) | (apply op_call ((root_fn [q0] (by simp)).to (show _ = hashT.val q0 by rw [mroot_one])); exact bsD) | (apply op_iaddr hashT.toTy (x := q0); rfl; rfl; decide; rfl) | (apply op_iaddr hashT.toTy (x := q1); rfl; rfl; decide; rfl) | (apply op_iaddr hashT.toTy (x := q2); rfl; rfl; decide; rfl) | (apply op_load hashT; rfl) | (apply op_call (nodeH_fn q0 q1); exact bsD) | (apply op_call (nodeH_fn (nodeH q0 q1) q2); exact bsD) | (apply op_eqA_t (T := hashT) (m := 2) (eqd_arr eqd_u8) rfl rfl; rfl; rfl; rfl) | (apply op_ksl_hi (T := hashT.toTy) (hi := 1); rfl; rfl; (show 1 ≤ 3; decide)) | (apply op_neA_t (T := hashT) (m := 2) (eqd_arr eqd_u8) rfl rfl; rfl; rfl; exact h01) | (exact bsO)) | apply J.seq | apply E.next | apply J.lq | apply Lq.nil | apply PRun.nil | apply J.block | apply E.in_normal | apply J.skip | (apply Lq.store; rfl; rfl; exact bsP; exact bsS; rfl; rfl) | (apply PRun.al; rfl) | (apply Lq.al; rfl; rfl; intro b) | (apply Open.cons; intro b) | apply Open.nil | (apply Lq.pass; rfl; rfl; rfl) | (apply PRun.pass; rfl; rfl) | (apply Lq.skip; rfl; rfl; rfl; exact bsB) | (apply PRun.skip; rfl; rfl; exact bsB) | (apply J.drawN; exact mixed; kernel_rfl) | (apply J.cond_t; rfl) | (apply J.cond_f; rfl) | apply J.exit | apply E.then_exit | apply E.in_exit | (apply E.in_other; rfl))
  (refine J.ret ?_; (repeat (first | refine E.then_ret ?_ | refine E.in_ret ?_)))
  exact E.ret1 rfl rfl
end Go.Proofs.YtljdjagackdplaaDoor.L
