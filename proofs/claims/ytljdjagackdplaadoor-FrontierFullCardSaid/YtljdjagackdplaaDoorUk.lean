/-
  The law FrontierFull.
-/
import Derived.Test.YtljdjagackdplaaDoorUj
namespace Go.Proofs.YtljdjagackdplaaDoor.L
open Go
set_option linter.unusedSectionVars false
variable [Globs] [Has_sha_table] [Has_sha_begin]
set_option linter.unusedVariables false
theorem edge_pow {l : List Hash} {j : Nat} (h : l.length = 2 ^ j) : edge l = [mroot l] := by
  have hp : 1 ≤ 2 ^ j := Nat.one_le_two_pow
  rw [edge_at (l := l) (j := j) (by omega) (by rw [Nat.pow_succ]; omega), List.take_of_length_le (by omega), List.drop_eq_nil_of_le (by omega), edge_nil]
set_option linter.unusedVariables false
set_option linter.unusedSimpArgs false
attribute [local irreducible] J Lq E OpP PRun is any agg tup ptr sl PRunW OpE PRunV OpV star
attribute [local irreducible] up2 mroot nodeH leafH emptyH shaH ownAt row someL leafOf splitZ split rv join2 edge rootE o1 o2 o3 frV fre
set_option maxRecDepth 100000 in
set_option maxHeartbeats 2000000 in
theorem frontierFull (power : UInt8) (s : Nat) (_h0 : True) (hs : s < 4294967296) : Fn Tryd.prog 13 [is (.int .u8 (power.toNat : Int)), is (.int .u32 (s : Int))] (is (.bool true)) := by
  obtain ⟨j, hj⟩ : ∃ j, j = power.toNat % 7 := ⟨_, rfl⟩
  have hj6 : j ≤ 6 := by omega
  have hpow : 2 ^ j ≤ 2 ^ 6 := Nat.pow_le_pow_right (by decide) hj6
  have hpow1 : 1 ≤ 2 ^ j := Nat.one_le_two_pow
  have hones := pop_ones j
  obtain ⟨n, hn⟩ : ∃ n, n = 2 ^ j := ⟨_, rfl⟩
  have hsh : 1 * 2 ^ (power.toNat % 7) = n := by rw [← hj, hn, Nat.one_mul]
  have hlen := someL_len n s
  rw [← hn] at hpow hpow1 hones
  have hpow : n ≤ 64 := hpow
  have hsome := some_fn n s (by omega) hs
  generalize someL n s = l at *
  have he := edge_pow (l := l) (j := j) (by omega)
  obtain ⟨x, hx⟩ : ∃ x, l[n - 1]? = some x := ⟨_, List.getElem?_eq_getElem (by omega)⟩
  have htl : (l.take (n - 1)).length = n - 1 := by rw [List.length_take]; omega
  have hel := edge_len (l.take (n - 1))
  rw [htl, hones] at hel
  have hts : l.take (n - 1) ++ [x] = l := by
    have := List.take_add_one (l := l) (i := n - 1)
    rw [hx, show n - 1 + 1 = n by omega, List.take_of_length_le (by omega)] at this
    exact this.symm
  have r1 := root_fn l (by omega)
  have F1 := fof_fnR (l.take (n - 1)) (by omega)
  have H1 := fun fb => eHashes fb (l.take (n - 1)) (by omega)
  have A1 := fun fb => eAppend fb (l.take (n - 1)) x (by omega)
  rw [hts] at A1
  have H2 := fun fb => eHashes fb l (by omega)
  rw [he] at H2
  have R2 := fun fb => eRoot fb l (by omega)
  have hV0 := fun fb (Δ : List Res) (h : frV fb (edge (l.take (n - 1))) (l.take (n - 1)).length Δ) => star_top (fre_mk h)
  generalize mroot l = r at *
  generalize hq : l.take (n - 1) = l' at *
  generalize edge l' = es at *
  refine Fn.mk' 68 Tryd.func13 rfl rfl rfl rfl fun w0 H0 => ?_
  repeat (first | ((first | (apply Lq.s; rfl) | apply PRun.s | (apply Lq.run; rfl; rfl; rfl; exact bsB) | (apply PRun.run; rfl; rfl; exact bsB)); first | (apply op_remn (m := power.toNat) (n := 7); rfl; rfl; decide) | (apply op_shln (m := 1) (n := power.toNat % 7) (c := (n : Int)); rfl; rfl; (show power.toNat % 7 ≤ 64; omega); (rw [hsh]; apply wrapi <;> omega)) | (apply op_call hsome; exact bsD) | (apply op_len (xs := l); rfl) | (apply op_sub (c := ((n - 1 : Nat) : Int)); rfl; rfl; (rw [hlen, show (n : Int) - 1 = ((n - 1 : Nat) : Int) by omega]; apply wrapi <;> omega)) | (apply op_ksl_hi' (T := hashT.toTy) (ys := l') (hi := n - 1); rfl; rfl; omega; exact hq) | (exact bsO)) | apply J.seq | apply E.next | apply J.lq | apply Lq.nil | apply PRun.nil | apply J.block | apply E.in_normal | apply J.skip | (apply Lq.store; rfl; rfl; exact bsP; exact bsS; rfl; rfl) | (apply PRun.al; rfl) | (apply Lq.al; rfl; rfl; intro b) | (apply Open.cons; intro b) | apply Open.nil | (apply Lq.pass; rfl; rfl; rfl) | (apply PRun.pass; rfl; rfl) | (apply Lq.skip; rfl; rfl; rfl; exact bsB) | (apply PRun.skip; rfl; rfl; exact bsB) | (apply J.cond_t; rfl) | (apply J.cond_f; rfl) | apply J.exit | apply E.then_exit | apply E.in_exit | (apply E.in_other; rfl))
  refine Lq.callS (Δ0 := []) (Δf := []) F1 rfl bsD (List.Perm.refl _) ?_
  rintro _ D1 ⟨fb, rfl, hV⟩
  rw [List.append_nil]
  repeat (first | ((first | (apply Lq.s; rfl) | apply PRun.s | (apply Lq.run; rfl; rfl; rfl; exact bsB) | (apply PRun.run; rfl; rfl; exact bsB)); first | (exact bsO)) | apply J.seq | apply E.next | apply J.lq | apply Lq.nil | apply PRun.nil | apply J.block | apply E.in_normal | apply J.skip | (apply Lq.store; rfl; rfl; exact bsP; exact bsS; rfl; rfl) | (apply PRun.al; rfl) | (apply Lq.al; rfl; rfl; intro b) | (apply Open.cons; intro b) | apply Open.nil | (apply Lq.pass; rfl; rfl; rfl) | (apply PRun.pass; rfl; rfl) | (apply Lq.skip; rfl; rfl; rfl; exact bsB) | (apply PRun.skip; rfl; rfl; exact bsB) | (apply J.cond_t; rfl) | (apply J.cond_f; rfl) | apply J.exit | apply E.then_exit | apply E.in_exit | (apply E.in_other; rfl))
  refine Lq.v rfl (hV0 fb _ hV) (opV_call (H1 fb) bsD) ?_
  intro D2 hV2
  repeat (first | ((first | (apply Lq.s; rfl) | apply PRun.s | (apply Lq.run; rfl; rfl; rfl; exact bsB) | (apply PRun.run; rfl; rfl; exact bsB)); first | (apply op_len (xs := es); rfl) | (apply op_len (xs := l); rfl) | (apply op_remn (m := power.toNat) (n := 7); rfl; rfl; decide) | (apply op_conv (c := ((power.toNat % 7 : Nat) : Int)); rfl; (apply wrapi <;> omega)) | (apply op_sub (c := ((n - 1 : Nat) : Int)); rfl; rfl; (rw [hlen, show (n : Int) - 1 = ((n - 1 : Nat) : Int) by omega]; apply wrapi <;> omega)) | (apply op_iaddr hashT.toTy (x := x); rfl; rfl; exact Int.natCast_nonneg _; (rw [Int.toNat_natCast]; exact hx)) | (apply op_load hashT; rfl) | (exact bsO)) | apply J.seq | apply E.next | apply J.lq | apply Lq.nil | apply PRun.nil | apply J.block | apply E.in_normal | apply J.skip | (apply Lq.store; rfl; rfl; exact bsP; exact bsS; rfl; rfl) | (apply PRun.al; rfl) | (apply Lq.al; rfl; rfl; intro b) | (apply Open.cons; intro b) | apply Open.nil | (apply Lq.pass; rfl; rfl; rfl) | (apply PRun.pass; rfl; rfl) | (apply Lq.skip; rfl; rfl; rfl; exact bsB) | (apply PRun.skip; rfl; rfl; exact bsB) | (apply J.cond_t; rfl) | (apply J.cond_f; rfl) | apply J.exit | apply E.then_exit | apply E.in_exit | (apply E.in_other; rfl))
  refine Lq.vr rfl rfl rfl rfl hV2 (opV_call (A1 fb) bsD) ?_
  intro D3 hV3
  repeat (first | ((first | (apply Lq.s; rfl) | apply PRun.s | (apply Lq.run; rfl; rfl; rfl; exact bsB) | (apply PRun.run; rfl; rfl; exact bsB)); first | (exact bsO)) | apply J.seq | apply E.next | apply J.lq | apply Lq.nil | apply PRun.nil | apply J.block | apply E.in_normal | apply J.skip | (apply Lq.store; rfl; rfl; exact bsP; exact bsS; rfl; rfl) | (apply PRun.al; rfl) | (apply Lq.al; rfl; rfl; intro b) | (apply Open.cons; intro b) | apply Open.nil | (apply Lq.pass; rfl; rfl; rfl) | (apply PRun.pass; rfl; rfl) | (apply Lq.skip; rfl; rfl; rfl; exact bsB) | (apply PRun.skip; rfl; rfl; exact bsB) | (apply J.cond_t; rfl) | (apply J.cond_f; rfl) | apply J.exit | apply E.then_exit | apply E.in_exit | (apply E.in_other; rfl))
  refine Lq.v rfl hV3 (opV_call (H2 fb) bsD) ?_
  intro D4 hV4
  repeat (first | ((first | (apply Lq.s; rfl) | apply PRun.s | (apply Lq.run; rfl; rfl; rfl; exact bsB) | (apply PRun.run; rfl; rfl; exact bsB)); first | (exact bsO)) | apply J.seq | apply E.next | apply J.lq | apply Lq.nil | apply PRun.nil | apply J.block | apply E.in_normal | apply J.skip | (apply Lq.store; rfl; rfl; exact bsP; exact bsS; rfl; rfl) | (apply PRun.al; rfl) | (apply Lq.al; rfl; rfl; intro b) | (apply Open.cons; intro b) | apply Open.nil | (apply Lq.pass; rfl; rfl; rfl) | (apply PRun.pass; rfl; rfl) | (apply Lq.skip; rfl; rfl; rfl; exact bsB) | (apply PRun.skip; rfl; rfl; exact bsB) | (apply J.cond_t; rfl) | (apply J.cond_f; rfl) | apply J.exit | apply E.then_exit | apply E.in_exit | (apply E.in_other; rfl))
  refine J.drawV 23 [false, false, false, false, false, false, false, false, true, false, false, false, false, false, false, false, false, false, false, false, false, false, false] _ hV4 mixed (by kernel_rfl) ?_
  repeat (first | ((first | apply PRunV.s | (apply PRunV.run; rfl; rfl; exact bsB) | (apply Lq.s; rfl) | apply PRun.s | (apply Lq.run; rfl; rfl; rfl; exact bsB) | (apply PRun.run; rfl; rfl; exact bsB)); first | (apply op_len (xs := [r]); rfl) | (apply op_iaddr hashT.toTy (x := r); rfl; rfl; decide; rfl) | (apply op_load hashT; rfl) | (exact bsO)) | apply J.seq | apply E.next | apply J.lq | apply Lq.nil | apply PRun.nil | apply J.block | apply E.in_normal | apply J.skip | (apply Lq.store; rfl; rfl; exact bsP; exact bsS; rfl; rfl) | (apply PRun.al; rfl) | (apply Lq.al; rfl; rfl; intro b) | (apply Open.cons; intro b) | apply Open.nil | (apply Lq.pass; rfl; rfl; rfl) | (apply PRun.pass; rfl; rfl) | (apply Lq.skip; rfl; rfl; rfl; exact bsB) | (apply PRun.skip; rfl; rfl; exact bsB) | (apply J.cond_t; rfl) | (apply J.cond_f; rfl) | apply J.exit | apply E.then_exit | apply E.in_exit | (apply E.in_other; rfl) | (apply PRunV.pass; rfl; rfl) | (apply PRunV.skip; rfl; rfl; exact bsB))
  refine PRunV.er rfl rfl rfl (opV_call (R2 fb) bsD) ?_
  repeat (first | ((first | apply PRunV.s | (apply PRunV.run; rfl; rfl; exact bsB) | (apply Lq.s; rfl) | apply PRun.s | (apply Lq.run; rfl; rfl; rfl; exact bsB) | (apply PRun.run; rfl; rfl; exact bsB)); first | (apply op_iaddr hashT.toTy (x := r); rfl; rfl; decide; rfl) | (apply op_load hashT; rfl) | (apply op_call r1; exact bsD) | (apply op_eqA_t (T := hashT) (m := 2) (eqd_arr eqd_u8) rfl rfl; rfl; rfl; rfl) | (apply op_call does10_fn; exact bsD) | (exact bsO)) | apply J.seq | apply E.next | apply J.lq | apply Lq.nil | apply PRun.nil | apply J.block | apply E.in_normal | apply J.skip | (apply Lq.store; rfl; rfl; exact bsP; exact bsS; rfl; rfl) | (apply PRun.al; rfl) | (apply Lq.al; rfl; rfl; intro b) | (apply Open.cons; intro b) | apply Open.nil | (apply Lq.pass; rfl; rfl; rfl) | (apply PRun.pass; rfl; rfl) | (apply Lq.skip; rfl; rfl; rfl; exact bsB) | (apply PRun.skip; rfl; rfl; exact bsB) | (apply J.cond_t; rfl) | (apply J.cond_f; rfl) | apply J.exit | apply E.then_exit | apply E.in_exit | (apply E.in_other; rfl) | (apply PRunV.pass; rfl; rfl) | (apply PRunV.skip; rfl; rfl; exact bsB))
  refine PRunV.nil ?_
  intro D5 _
  repeat (first | ((first | (apply Lq.s; rfl) | apply PRun.s | (apply Lq.run; rfl; rfl; rfl; exact bsB) | (apply PRun.run; rfl; rfl; exact bsB)); first | (exact bsO)) | apply J.seq | apply E.next | apply J.lq | apply Lq.nil | apply PRun.nil | apply J.block | apply E.in_normal | apply J.skip | (apply Lq.store; rfl; rfl; exact bsP; exact bsS; rfl; rfl) | (apply PRun.al; rfl) | (apply Lq.al; rfl; rfl; intro b) | (apply Open.cons; intro b) | apply Open.nil | (apply Lq.pass; rfl; rfl; rfl) | (apply PRun.pass; rfl; rfl) | (apply Lq.skip; rfl; rfl; rfl; exact bsB) | (apply PRun.skip; rfl; rfl; exact bsB) | (apply J.cond_t; rfl) | (apply J.cond_f; rfl) | apply J.exit | apply E.then_exit | apply E.in_exit | (apply E.in_other; rfl))
  (refine J.ret ?_; (repeat (first | refine E.then_ret ?_ | refine E.in_ret ?_)))
  exact E.ret1 rfl rfl
end Go.Proofs.YtljdjagackdplaaDoor.L
