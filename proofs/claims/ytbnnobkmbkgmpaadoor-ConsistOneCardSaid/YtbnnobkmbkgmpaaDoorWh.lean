/-
  Laws of layer 12: ConsistOn, ConsistHalf.
-/
import Derived.Test.YtbnnobkmbkgmpaaDoorWg
namespace Go.Proofs.YtbnnobkmbkgmpaaDoor.L
open Go
set_option linter.unusedSectionVars false
variable [Globs] [Has_sha_table] [Has_sha_begin]
set_option linter.unusedVariables false
theorem check_part {l : List Hash} {m n : Nat} {u v : Hash} {p : List Hash} (hl : l.length ≤ 70000) (hn : l.length = n) (h1 : 1 ≤ m) (hm : m ≤ n) (hu : u = mroot (l.take m)) (hv : v = mroot l) (hp : p = cpart l m true) : Fn Tryd.prog 14 [is (.int .i64 (m : Int)), is (.int .i64 (n : Int)), hashT.val u, hashT.val v, sl hashT.toTy p] (is (.int .i64 0)) := by
  subst hp
  have hlen := cpart_len n l m true hn h1 hm
  refine (check_fn (m : Int) (n : Int) u v (cpart l m true) (by omega) (by omega)).to ?_
  rw [chkC_ok h1 hm, okC_part hn h1 hm hu, if_pos (decide_eq_true hv.symm)]
theorem cpart_half {l : List Hash} {n h j : Nat} (hl : l.length = n) (hn : n = 2 * h) (hh : h = 2 ^ j) : cpart l h true = [mroot (l.drop h)] := by
  have p0 : 1 ≤ 2 ^ j := Nat.one_le_two_pow
  have hs : split n = h := by rw [hh]; exact split_of (by omega) (by rw [Nat.pow_succ]; omega)
  rw [cpart_left (by omega) (by omega) (by rw [hl, hs]; exact Nat.le_refl _) true, hl, hs, cpart_all (by omega) (by rw [List.length_take]; omega) true]
  rfl
theorem op_quo2 {P : Program} {Γ : Env} {Δ : List Res} {d : Option Nat} {ty : Nat} {pos : String} {af : Array Edge} {g : Option (Nat × Bool)} {x y : Operand} {t yt m c : Nat} (h1 : opd Γ x = some (is (.int .i64 (m : Int)))) (h2 : opd Γ y = some (is (.int .i64 ((2 : Nat) : Int)))) (hc : m / 2 = c) (hm : m ≤ 9223372036854775807) : OpP P Γ Δ ⟨d, .binOp .quo t x y yt, ty, pos, af, g⟩ (is (.int .i64 (c : Int))) := hc ▸ op_quon h1 h2 (by decide) hm
set_option linter.unusedVariables false
set_option linter.unusedSimpArgs false
attribute [local irreducible] J Lq E OpP PRun is any agg tup ptr sl PRunW OpE
attribute [local irreducible] up2 mroot nodeH leafH emptyH shaH ownAt row someL leafOf splitZ split rv ways pairT cpart leadsR okC chkC

set_option maxHeartbeats 2000000 in
theorem consistOn (x : Arr UInt8 3) (s : Nat) (_h0 : ∀ y ∈ x.1, True) (hs : s < 4294967296) : Fn Tryd.prog 7 [(arrT 3 u8T (by decide)).val x, is (.int .u32 (s : Int))] (is (.bool true)) := by
  obtain ⟨xs, hxs⟩ := x
  match xs, hxs with
  | [n0, n1, n2], hxs =>
  have h0 := n0.toNat_lt
  have h1 := n1.toNat_lt
  have h2 := n2.toNat_lt
  obtain ⟨n, hn⟩ : ∃ n, n = 1 + n0.toNat % 32 := ⟨_, rfl⟩
  have m1 : n1.toNat % n < n := Nat.mod_lt _ (by omega)
  obtain ⟨k, hk⟩ : ∃ k, k = 1 + n1.toNat % n := ⟨_, rfl⟩
  have m2 : n2.toNat % k < k := Nat.mod_lt _ (by omega)
  obtain ⟨m, hm⟩ : ∃ m, m = 1 + n2.toNat % k := ⟨_, rfl⟩
  have hlen := someL_len n s
  have hsome := some_fn n s (by omega) hs
  generalize someL n s = l at *
  have hlk : (l.take k).length = k := by rw [List.length_take]; omega
  have htt : (l.take k).take m = l.take m := by rw [List.take_take, Nat.min_eq_left (by omega)]
  have r1 := root_fn (l.take m) (by rw [List.length_take]; omega)
  have r2 := root_fn (l.take k) (by omega)
  have r3 := root_fn l (by omega)
  have p1 := cprove_fn (l.take k) m (by omega) (by omega) (by omega)
  have p2 := cprove_fn l k (by omega) (by omega) (by omega)
  have p3 := cprove_fn l m (by omega) (by omega) (by omega)
  have c1 := check_part (l := l.take k) (m := m) (n := k) (u := mroot (l.take m)) (v := mroot (l.take k)) (by omega) hlk (by omega) (by omega) (by rw [htt]) rfl rfl
  have c2 := check_part (l := l) (m := k) (n := n) (u := mroot (l.take k)) (v := mroot l) (by omega) hlen (by omega) (by omega) rfl rfl rfl
  have c3 := check_part (l := l) (m := m) (n := n) (u := mroot (l.take m)) (v := mroot l) (by omega) hlen (by omega) (by omega) rfl rfl rfl
  generalize mroot (l.take m) = A1 at *
  generalize mroot (l.take k) = B1 at *
  generalize mroot l = C1 at *
  generalize cpart (l.take k) m true = P1 at *
  generalize cpart l k true = P2 at *
  generalize cpart l m true = P3 at *
  refine Fn.mk' 108 Tryd.func7 rfl rfl rfl rfl fun w0 H0 => ?_
  repeat (first | ((first | (apply Lq.s; rfl) | apply PRun.s | (apply Lq.run; rfl; rfl; rfl; exact bsB) | (apply PRun.run; rfl; rfl; exact bsB)); first | (apply op_box (arrT 3 u8T (by decide)); rfl) | (apply op_paddr u8T.toTy (xs := [n0, n1, n2]) (x := n0); rfl; rfl; decide; decide; rfl) | (apply op_paddr u8T.toTy (xs := [n0, n1, n2]) (x := n1); rfl; rfl; decide; decide; rfl) | (apply op_paddr u8T.toTy (xs := [n0, n1, n2]) (x := n2); rfl; rfl; decide; decide; rfl) | (apply op_load u8T; rfl) | (apply op_conv (c := (n0.toNat : Int)); rfl; (apply wrapi <;> omega)) | (apply op_conv (c := (n1.toNat : Int)); rfl; (apply wrapi <;> omega)) | (apply op_conv (c := (n2.toNat : Int)); rfl; (apply wrapi <;> omega)) | (apply op_remn (m := n0.toNat) (n := 32); rfl; rfl; decide) | (apply op_remn (m := n1.toNat) (n := n); rfl; rfl; omega) | (apply op_remn (m := n2.toNat) (n := k); rfl; rfl; omega) | (apply op_add (c := (n : Int)); rfl; rfl; (rw [show (1 : Int) + ((n0.toNat % 32 : Nat) : Int) = (n : Int) by omega]; apply wrapi <;> omega)) | (apply op_add (c := (k : Int)); rfl; rfl; (rw [show (1 : Int) + ((n1.toNat % n : Nat) : Int) = (k : Int) by omega]; apply wrapi <;> omega)) | (apply op_add (c := (m : Int)); rfl; rfl; (rw [show (1 : Int) + ((n2.toNat % k : Nat) : Int) = (m : Int) by omega]; apply wrapi <;> omega)) | (apply op_call (d := some 37) hsome; exact bsD) | (exact bsO)) | apply J.seq | apply E.next | apply J.lq | apply Lq.nil | apply PRun.nil | apply J.block | apply E.in_normal | apply J.skip | (apply Lq.store; rfl; rfl; exact bsP; exact bsS; rfl; rfl) | (apply PRun.al; rfl) | (apply Lq.al; rfl; rfl; intro b) | (apply Open.cons; intro b) | apply Open.nil | (apply Lq.pass; rfl; rfl; rfl) | (apply PRun.pass; rfl; rfl) | (apply Lq.skip; rfl; rfl; rfl; exact bsB) | (apply PRun.skip; rfl; rfl; exact bsB) | (apply J.cond_t; rfl) | (apply J.cond_f; rfl) | apply J.exit | apply E.then_exit | apply E.in_exit | (apply E.in_other; rfl))
  refine J.drawW 13 [(none, none), (none, none), (none, none), (none, none), (none, none), (none, none), (none, none), (none, none), (none, none), (none, none), (none, some 9), (none, some 10), (none, some 11)] mixed (by kernel_rfl) ?_
  repeat (first | ((first | apply PRunW.s | (apply PRunW.run; rfl; rfl; exact bsB) | (apply Lq.s; rfl) | apply PRun.s | (apply Lq.run; rfl; rfl; rfl; exact bsB) | (apply PRun.run; rfl; rfl; exact bsB)); first | (apply op_ksl_hi (T := hashT.toTy) (hi := m); rfl; rfl; omega) | (apply op_ksl_hi (T := hashT.toTy) (hi := k); rfl; rfl; omega) | (apply op_call r1; exact bsD) | (apply op_call r2; exact bsD) | (apply op_call r3; exact bsD) | (exact bsO)) | apply J.seq | apply E.next | apply J.lq | apply Lq.nil | apply PRun.nil | apply J.block | apply E.in_normal | apply J.skip | (apply Lq.store; rfl; rfl; exact bsP; exact bsS; rfl; rfl) | (apply PRun.al; rfl) | (apply Lq.al; rfl; rfl; intro b) | (apply Open.cons; intro b) | apply Open.nil | (apply Lq.pass; rfl; rfl; rfl) | (apply PRun.pass; rfl; rfl) | (apply Lq.skip; rfl; rfl; rfl; exact bsB) | (apply PRun.skip; rfl; rfl; exact bsB) | (apply J.cond_t; rfl) | (apply J.cond_f; rfl) | apply J.exit | apply E.then_exit | apply E.in_exit | (apply E.in_other; rfl) | apply PRunW.nil | (apply PRunW.al; rfl) | (apply PRunW.pass; rfl; rfl) | (apply PRunW.skip; rfl; rfl; exact bsB) | (apply Open.pv; intro b) | apply Open.av | (apply Open.rv; intro A c))
  (apply Lq.storeE (φs' := hashT.cells A1); rfl; rfl; exact List.Perm.refl _; exact Seg.val _ _; exact hashT.len _; exact Nat.le_refl 32; exact splice_all (by rw [hashT.len]; rfl))
  (apply Lq.storeE (φs' := hashT.cells B1); rfl; rfl; exact List.Perm.swap _ _ _; exact Seg.val _ _; exact hashT.len _; exact Nat.le_refl 32; exact splice_all (by rw [hashT.len]; rfl))
  (apply Lq.storeE (φs' := hashT.cells C1); rfl; rfl; exact List.perm_append_comm (l₁ := [_, _]) (l₂ := [_]); exact Seg.val _ _; exact hashT.len _; exact Nat.le_refl 32; exact splice_all (by rw [hashT.len]; rfl))
  repeat (first | ((first | (apply Lq.s; rfl) | apply PRun.s | (apply Lq.run; rfl; rfl; rfl; exact bsB) | (apply PRun.run; rfl; rfl; exact bsB)); first | (apply op_ksl_hi (T := hashT.toTy) (hi := k); rfl; rfl; omega) | (apply op_call p1; exact bsD) | (apply op_call p2; exact bsD) | (apply op_call p3; exact bsD) | (apply op_oload hashT (x := A1); rfl; exact bsM; exact at_hash A1) | (apply op_oload hashT (x := B1); rfl; exact bsM; exact at_hash B1) | (apply op_oload hashT (x := C1); rfl; exact bsM; exact at_hash C1) | (apply op_call c1; exact bsD) | (apply op_call c2; exact bsD) | (apply op_call c3; exact bsD) | (apply op_call does12_fn; exact bsD) | (exact bsO)) | apply J.seq | apply E.next | apply J.lq | apply Lq.nil | apply PRun.nil | apply J.block | apply E.in_normal | apply J.skip | (apply Lq.store; rfl; rfl; exact bsP; exact bsS; rfl; rfl) | (apply PRun.al; rfl) | (apply Lq.al; rfl; rfl; intro b) | (apply Open.cons; intro b) | apply Open.nil | (apply Lq.pass; rfl; rfl; rfl) | (apply PRun.pass; rfl; rfl) | (apply Lq.skip; rfl; rfl; rfl; exact bsB) | (apply PRun.skip; rfl; rfl; exact bsB) | (apply J.cond_t; rfl) | (apply J.cond_f; rfl) | apply J.exit | apply E.then_exit | apply E.in_exit | (apply E.in_other; rfl))
  (refine J.ret ?_; (repeat (first | refine E.then_ret ?_ | refine E.in_ret ?_)))
  exact E.ret1 rfl rfl
set_option maxHeartbeats 2000000 in
theorem consistHalf (power : UInt8) (s : Nat) (_h0 : True) (hs : s < 4294967296) : Fn Tryd.prog 8 [is (.int .u8 (power.toNat : Int)), is (.int .u32 (s : Int))] (is (.bool true)) := by
  have h5 : power.toNat % 6 ≤ 5 := by omega
  have hpow : 2 ^ (power.toNat % 6) ≤ 2 ^ 5 := Nat.pow_le_pow_right (by decide) h5
  have hpow1 : 1 ≤ 2 ^ (power.toNat % 6) := Nat.one_le_two_pow
  obtain ⟨h, hh⟩ : ∃ h, h = 2 ^ (power.toNat % 6) := ⟨_, rfl⟩
  obtain ⟨n, hn⟩ : ∃ n, n = 2 * h := ⟨_, rfl⟩
  have hsh : 2 * 2 ^ (power.toNat % 6) = n := by rw [hn, hh]
  rw [← hh] at hpow hpow1
  have hn2 : n / 2 = h := by omega
  have hlen := someL_len n s
  have hsome := some_fn n s (by omega) hs
  generalize someL n s = l at *
  have hhalf := cpart_half hlen hn hh
  have r1 := root_fn (l.drop h) (by rw [List.length_drop]; omega)
  have p1 := (cprove_fn l h (by omega) (by omega) (by omega)).to (by rw [hhalf])
  have p2 := (cprove_fn l n (by omega) (by omega) (by omega)).to (by rw [cpart_all (by omega) hlen.symm true, if_pos rfl])
  have p3 := cprove_bad l ((n : Int) + 1) (by omega) (.inr (by omega))
  have hp0 : ([] : List Hash).length = 0 := rfl
  generalize mroot (l.drop h) = r at *
  refine Fn.mk' 73 Tryd.func8 rfl rfl rfl rfl fun w0 H0 => ?_
  repeat (first | ((first | (apply Lq.s; rfl) | apply PRun.s | (apply Lq.run; rfl; rfl; rfl; exact bsB) | (apply PRun.run; rfl; rfl; exact bsB)); first | (apply op_remn (m := power.toNat) (n := 6); rfl; rfl; decide) | (apply op_shln (m := 2) (n := power.toNat % 6) (c := (n : Int)); rfl; rfl; (show power.toNat % 6 ≤ 64; omega); (rw [hsh]; apply wrapi <;> omega)) | (apply op_call hsome; exact bsD) | (apply op_call p1; exact bsD) | (apply op_call p2; exact bsD) | (apply op_call p3; exact bsD) | (apply op_quo2 (m := n) (c := h); rfl; rfl; exact hn2; omega) | (apply op_ksl_lo (T := hashT.toTy) (lo := h); rfl; rfl; omega) | (apply op_call r1; exact bsD) | (apply op_bslice hashT (xs := [r]); (repeat (first | exact PO.nil _ | (apply PO.cons; rfl))); rfl; rfl; rfl) | (apply op_call (same_fn [r] (show 1 ≤ 1000000 by decide)); exact bsD) | (apply op_len (xs := l); rfl) | (apply op_len (xs := ([] : List Hash)); rfl) | (apply op_call does12_fn; exact bsD) | (exact bsO)) | apply J.seq | apply E.next | apply J.lq | apply Lq.nil | apply PRun.nil | apply J.block | apply E.in_normal | apply J.skip | (apply Lq.store; rfl; rfl; exact bsP; exact bsS; rfl; rfl) | (apply PRun.al; rfl) | (apply Lq.al; rfl; rfl; intro b) | (apply Open.cons; intro b) | apply Open.nil | (apply Lq.pass; rfl; rfl; rfl) | (apply PRun.pass; rfl; rfl) | (apply Lq.skip; rfl; rfl; rfl; exact bsB) | (apply PRun.skip; rfl; rfl; exact bsB) | (apply J.drawN; exact mixed; kernel_rfl) | (apply J.cond_t; rfl) | (apply J.cond_f; rfl) | apply J.exit | apply E.then_exit | apply E.in_exit | (apply E.in_other; rfl))
  (refine J.ret ?_; (repeat (first | refine E.then_ret ?_ | refine E.in_ret ?_)))
  exact E.ret1 rfl rfl
end Go.Proofs.YtbnnobkmbkgmpaaDoor.L
