/-
  Laws of layer 12: ConsistRoots, ConsistAll.
-/
import Derived.Test.YtbnnobkmbkgmpaaDoorWh
namespace Go.Proofs.YtbnnobkmbkgmpaaDoor.L
open Go
set_option linter.unusedSectionVars false
variable [Globs] [Has_sha_table] [Has_sha_begin]
set_option linter.unusedVariables false
theorem startC_len (yes : Bool) (m : Nat) (a : Hash) (pr : List Hash) : (startC yes m a pr).length = pr.length + (if (yes && pw m) = true then 1 else 0) := by
  unfold startC
  split <;> simp
theorem okC_len {m n : Nat} {u v : Hash} {p : List Hash} (h : m ≠ n) (hok : okC m n u v p = true) : (startC true m u p).length = (ways m n).length + 1 := by
  rw [okC_st h] at hok
  cases hs : startC true m u p with
  | nil => rw [hs] at hok; cases hok
  | cons x t =>
    rw [hs] at hok
    unfold okS at hok
    rw [Bool.and_eq_true] at hok
    have := of_decide_eq_true hok.1
    simp [this]
theorem okC_more {m n : Nat} {u v u' v' : Hash} {p p' : List Hash} (hok : okC m n u v p = true) (hl : p'.length ≠ p.length) : okC m n u' v' p' = false := by
  cases h : okC m n u' v' p' with
  | false => rfl
  | true =>
    exfalso
    by_cases he : m = n
    · subst he
      unfold okC at h hok
      rw [if_pos rfl, Bool.and_eq_true] at h hok
      rw [List.isEmpty_iff] at h hok
      exact hl (by rw [h.1, hok.1])
    · have h1 := okC_len he h
      have h2 := okC_len he hok
      rw [startC_len] at h1 h2
      omega
theorem okC_other {m n : Nat} {a b o : Hash} {p : List Hash} (hm : m ≠ n) (hp : pw m = false) (h : okC m n a b p = true) (hne : o ≠ a) : okC m n o b p = false := by
  have hs : ∀ u, startC true m u p = p := fun u => by unfold startC; rw [hp]; rfl
  rw [okC_st hm, hs] at h ⊢
  cases p with
  | nil => rfl
  | cons x t =>
    unfold okS at h ⊢
    rw [Bool.and_eq_true] at h
    have hf := of_decide_eq_true h.2
    show (decide (t.length = (ways m n).length) && decide (foldC (x, x) ((ways m n).zip t) = (o, b))) = false
    rw [hf, Bool.and_eq_false_iff]
    exact .inr (decide_eq_false fun he => hne (Prod.mk.inj he).1.symm)
theorem check110 {m n : Nat} {u v : Hash} {p : List Hash} (h1 : 1 ≤ m) (hm : m ≤ n) (hn : n ≤ 100000) (hl : p.length ≤ 80000) (h : okC m n u v p = false) : Fn Tryd.prog 14 [is (.int .i64 (m : Int)), is (.int .i64 (n : Int)), hashT.val u, hashT.val v, sl hashT.toTy p] (is (.int .i64 110)) :=
  (check_fn (m : Int) (n : Int) u v p (by omega) hl).to (by rw [chkC_ok h1 hm, if_neg (by rw [h]; decide)])
theorem pw_iff (m : Nat) : pw m = true ↔ m &&& (m - 1) = 0 := by
  unfold pw
  exact beq_iff_eq
set_option linter.unusedVariables false
set_option linter.unusedSimpArgs false
attribute [local irreducible] J Lq E OpP PRun is any agg tup ptr sl PRunW OpE
attribute [local irreducible] up2 mroot nodeH leafH emptyH shaH ownAt row someL leafOf splitZ split rv ways pairT cpart leadsR okC chkC
set_option maxHeartbeats 4000000 in
theorem consistRoots (x : Arr UInt8 2) (s : Nat) (o : Hash) (_h0 : ∀ y ∈ x.1, True) (hs : s < 4294967296) (_h2 : True) : Fn Tryd.prog 6 [(arrT 2 u8T (by decide)).val x, is (.int .u32 (s : Int)), hashT.val o] (is (.bool true)) := by
  obtain ⟨xs, hxs⟩ := x
  match xs, hxs with
  | [n0, n1], hxs =>
  have h0 := n0.toNat_lt
  have h1 := n1.toNat_lt
  obtain ⟨n, hn⟩ : ∃ n, n = 1 + n0.toNat % 32 := ⟨_, rfl⟩
  have m1 : n1.toNat % n < n := Nat.mod_lt _ (by omega)
  obtain ⟨m, hm⟩ : ∃ m, m = 1 + n1.toNat % n := ⟨_, rfl⟩
  have hlen := someL_len n s
  have hsome := some_fn n s (by omega) hs
  generalize someL n s = l at *
  have r1 := root_fn (l.take m) (by rw [List.length_take]; omega)
  have r2 := root_fn l (by omega)
  have p1 := cprove_fn l m (by omega) (by omega) (by omega)
  have c1 := check_part (l := l) (m := m) (n := n) (u := mroot (l.take m)) (v := mroot l) (by omega) hlen (by omega) (by omega) rfl rfl rfl
  have hpl := cpart_len n l m true hlen (by omega) (by omega)
  have hok : ∀ v, okC m n (mroot (l.take m)) v (cpart l m true) = decide (mroot l = v) := fun v => okC_part hlen (by omega) (by omega) rfl
  have hsame : m = n → mroot (l.take m) = mroot l := fun h => by rw [List.take_of_length_le (by omega)]
  generalize mroot (l.take m) = A1 at *
  generalize mroot l = B1 at *
  generalize cpart l m true = P1 at *
  have c2 : o ≠ B1 → _ := fun h => check110 (u := A1) (v := o) (p := P1) (m := m) (n := n) (by omega) (by omega) (by omega) (by omega) (by rw [hok]; exact decide_eq_false fun h' => h h'.symm)
  have c3 : o ≠ A1 → (m = n ∨ m &&& (m - 1) ≠ 0) → _ := fun h hor => check110 (u := o) (v := B1) (p := P1) (m := m) (n := n) (by omega) (by omega) (by omega) (by omega) (by
    by_cases he : m = n
    · have hA := hsame he
      subst he
      unfold okC
      rw [if_pos rfl, decide_eq_false (by rw [← hA]; exact h), Bool.and_false]
    · have hp : pw m = false := by
        cases hp : pw m with
        | false => rfl
        | true => rw [pw_iff] at hp; omega
      exact okC_other he hp (by rw [hok]; exact decide_eq_true rfl) h)
  have hA : o = A1 ∨ (o ≠ A1 ∧ m &&& (m - 1) = 0 ∧ m < n) ∨ (o ≠ A1 ∧ m &&& (m - 1) = 0 ∧ m = n) ∨ (o ≠ A1 ∧ m &&& (m - 1) ≠ 0) := by
    by_cases k1 : o = A1
    · exact .inl k1
    · by_cases k2 : m &&& (m - 1) = 0
      · by_cases k3 : m < n
        · exact .inr (.inl ⟨k1, k2, k3⟩)
        · exact .inr (.inr (.inl ⟨k1, k2, by omega⟩))
      · exact .inr (.inr (.inr ⟨k1, k2⟩))
  clear hok hsame
  refine Fn.mk' 92 Tryd.func6 rfl rfl rfl rfl fun w0 H0 => ?_
  repeat (first | ((first | (apply Lq.s; rfl) | apply PRun.s | (apply Lq.run; rfl; rfl; rfl; exact bsB) | (apply PRun.run; rfl; rfl; exact bsB)); first | (apply op_box (arrT 2 u8T (by decide)); rfl) | (apply op_box hashT; rfl) | (apply op_paddr u8T.toTy (xs := [n0, n1]) (x := n0); rfl; rfl; decide; decide; rfl) | (apply op_paddr u8T.toTy (xs := [n0, n1]) (x := n1); rfl; rfl; decide; decide; rfl) | (apply op_load u8T; rfl) | (apply op_conv (c := (n0.toNat : Int)); rfl; (apply wrapi <;> omega)) | (apply op_conv (c := (n1.toNat : Int)); rfl; (apply wrapi <;> omega)) | (apply op_remn (m := n0.toNat) (n := 32); rfl; rfl; decide) | (apply op_remn (m := n1.toNat) (n := n); rfl; rfl; omega) | (apply op_add (c := (n : Int)); rfl; rfl; (rw [show (1 : Int) + ((n0.toNat % 32 : Nat) : Int) = (n : Int) by omega]; apply wrapi <;> omega)) | (apply op_add (c := (m : Int)); rfl; rfl; (rw [show (1 : Int) + ((n1.toNat % n : Nat) : Int) = (m : Int) by omega]; apply wrapi <;> omega)) | (apply op_call (d := some 27) hsome; exact bsD) | (apply op_ksl_hi (T := hashT.toTy) (hi := m); rfl; rfl; omega) | (apply op_call r1; exact bsD) | (apply op_call r2; exact bsD) | (exact bsO)) | apply J.seq | apply E.next | apply J.lq | apply Lq.nil | apply PRun.nil | apply J.block | apply E.in_normal | apply J.skip | (apply Lq.store; rfl; rfl; exact bsP; exact bsS; rfl; rfl) | (apply PRun.al; rfl) | (apply Lq.al; rfl; rfl; intro b) | (apply Open.cons; intro b) | apply Open.nil | (apply Lq.pass; rfl; rfl; rfl) | (apply PRun.pass; rfl; rfl) | (apply Lq.skip; rfl; rfl; rfl; exact bsB) | (apply PRun.skip; rfl; rfl; exact bsB) | (apply J.cond_t; rfl) | (apply J.cond_f; rfl) | apply J.exit | apply E.then_exit | apply E.in_exit | (apply E.in_other; rfl))
  (apply Lq.storeE (φs' := hashT.cells A1); rfl; rfl; exact List.Perm.swap _ _ _; exact Seg.val _ _; exact hashT.len _; exact Nat.le_refl 32; exact splice_all (by rw [hashT.len]; rfl))
  (apply Lq.storeE (φs' := hashT.cells B1); rfl; rfl; exact List.Perm.swap _ _ _; exact Seg.val _ _; exact hashT.len _; exact Nat.le_refl 32; exact splice_all (by rw [hashT.len]; rfl))
  repeat (first | ((first | (apply Lq.s; rfl) | apply PRun.s | (apply Lq.run; rfl; rfl; rfl; exact bsB) | (apply PRun.run; rfl; rfl; exact bsB)); first | (apply op_call p1; exact bsD) | (apply op_oload hashT (x := A1); rfl; exact bsM; exact at_hash A1) | (apply op_oload hashT (x := B1); rfl; exact bsM; exact at_hash B1) | (apply op_call c1; exact bsD) | (exact bsO)) | apply J.seq | apply E.next | apply J.lq | apply Lq.nil | apply PRun.nil | apply J.block | apply E.in_normal | apply J.skip | (apply Lq.store; rfl; rfl; exact bsP; exact bsS; rfl; rfl) | (apply PRun.al; rfl) | (apply Lq.al; rfl; rfl; intro b) | (apply Open.cons; intro b) | apply Open.nil | (apply Lq.pass; rfl; rfl; rfl) | (apply PRun.pass; rfl; rfl) | (apply Lq.skip; rfl; rfl; rfl; exact bsB) | (apply PRun.skip; rfl; rfl; exact bsB) | (apply J.cond_t; rfl) | (apply J.cond_f; rfl) | apply J.exit | apply E.then_exit | apply E.in_exit | (apply E.in_other; rfl))
  by_cases hB : o = B1
  · rcases hA with hA | ⟨hA, k2, k3⟩ | ⟨hA, k2, k3⟩ | ⟨hA, k2⟩
    · repeat (first | ((first | (apply Lq.s; rfl) | apply PRun.s | (apply Lq.run; rfl; rfl; rfl; exact bsB) | (apply PRun.run; rfl; rfl; exact bsB)); first | (apply op_oload hashT (x := A1); rfl; exact bsM; exact at_hash A1) | (apply op_oload hashT (x := B1); rfl; exact bsM; exact at_hash B1) | (apply op_load hashT; rfl) | (apply op_eqA_t (T := hashT) (m := 2) (eqd_arr eqd_u8) rfl rfl; rfl; rfl; first | exact hA | exact hB) | (apply op_eqA_f (T := hashT) (m := 2) (eqd_arr eqd_u8) rfl rfl; rfl; rfl; first | exact hA | exact hB) | (apply op_sub (c := ((m - 1 : Nat) : Int)); rfl; rfl; (rw [show (m : Int) - 1 = ((m - 1 : Nat) : Int) by omega]; apply wrapi <;> omega)) | (apply op_andn (m := m) (n := m - 1); rfl; rfl; omega; omega) | (apply op_call does12_fn; exact bsD) | (exact bsO)) | apply J.seq | apply E.next | apply J.lq | apply Lq.nil | apply PRun.nil | apply J.block | apply E.in_normal | apply J.skip | (apply Lq.store; rfl; rfl; exact bsP; exact bsS; rfl; rfl) | (apply PRun.al; rfl) | (apply Lq.al; rfl; rfl; intro b) | (apply Open.cons; intro b) | apply Open.nil | (apply Lq.pass; rfl; rfl; rfl) | (apply PRun.pass; rfl; rfl) | (apply Lq.skip; rfl; rfl; rfl; exact bsB) | (apply PRun.skip; rfl; rfl; exact bsB) | (apply J.cond_t; rfl) | (apply J.cond_f; rfl) | apply J.exit | apply E.then_exit | apply E.in_exit | (apply E.in_other; rfl))
      (refine J.ret ?_; (repeat (first | refine E.then_ret ?_ | refine E.in_ret ?_)))
      exact E.ret1 rfl rfl
    · repeat (first | ((first | (apply Lq.s; rfl) | apply PRun.s | (apply Lq.run; rfl; rfl; rfl; exact bsB) | (apply PRun.run; rfl; rfl; exact bsB)); first | (apply op_oload hashT (x := A1); rfl; exact bsM; exact at_hash A1) | (apply op_oload hashT (x := B1); rfl; exact bsM; exact at_hash B1) | (apply op_load hashT; rfl) | (apply op_eqA_t (T := hashT) (m := 2) (eqd_arr eqd_u8) rfl rfl; rfl; rfl; first | exact hA | exact hB) | (apply op_eqA_f (T := hashT) (m := 2) (eqd_arr eqd_u8) rfl rfl; rfl; rfl; first | exact hA | exact hB) | (apply op_sub (c := ((m - 1 : Nat) : Int)); rfl; rfl; (rw [show (m : Int) - 1 = ((m - 1 : Nat) : Int) by omega]; apply wrapi <;> omega)) | (apply op_andn (m := m) (n := m - 1); rfl; rfl; omega; omega) | (apply op_call does12_fn; exact bsD) | (exact bsO)) | apply J.seq | apply E.next | apply J.lq | apply Lq.nil | apply PRun.nil | apply J.block | apply E.in_normal | apply J.skip | (apply Lq.store; rfl; rfl; exact bsP; exact bsS; rfl; rfl) | (apply PRun.al; rfl) | (apply Lq.al; rfl; rfl; intro b) | (apply Open.cons; intro b) | apply Open.nil | (apply Lq.pass; rfl; rfl; rfl) | (apply PRun.pass; rfl; rfl) | (apply Lq.skip; rfl; rfl; rfl; exact bsB) | (apply PRun.skip; rfl; rfl; exact bsB) | (apply J.cond_t; rfl) | (apply J.cond_f; rfl) | apply J.exit | apply E.then_exit | apply E.in_exit | (apply E.in_other; rfl))
      (refine J.ret ?_; (repeat (first | refine E.then_ret ?_ | refine E.in_ret ?_)))
      exact E.ret1 rfl rfl
    · have c3 := c3 hA (.inl k3)
      repeat (first | ((first | (apply Lq.s; rfl) | apply PRun.s | (apply Lq.run; rfl; rfl; rfl; exact bsB) | (apply PRun.run; rfl; rfl; exact bsB)); first | (apply op_oload hashT (x := A1); rfl; exact bsM; exact at_hash A1) | (apply op_oload hashT (x := B1); rfl; exact bsM; exact at_hash B1) | (apply op_load hashT; rfl) | (apply op_eqA_t (T := hashT) (m := 2) (eqd_arr eqd_u8) rfl rfl; rfl; rfl; first | exact hA | exact hB) | (apply op_eqA_f (T := hashT) (m := 2) (eqd_arr eqd_u8) rfl rfl; rfl; rfl; first | exact hA | exact hB) | (apply op_sub (c := ((m - 1 : Nat) : Int)); rfl; rfl; (rw [show (m : Int) - 1 = ((m - 1 : Nat) : Int) by omega]; apply wrapi <;> omega)) | (apply op_andn (m := m) (n := m - 1); rfl; rfl; omega; omega) | (apply op_call does12_fn; exact bsD) | (apply op_call c3; exact bsD) | (exact bsO)) | apply J.seq | apply E.next | apply J.lq | apply Lq.nil | apply PRun.nil | apply J.block | apply E.in_normal | apply J.skip | (apply Lq.store; rfl; rfl; exact bsP; exact bsS; rfl; rfl) | (apply PRun.al; rfl) | (apply Lq.al; rfl; rfl; intro b) | (apply Open.cons; intro b) | apply Open.nil | (apply Lq.pass; rfl; rfl; rfl) | (apply PRun.pass; rfl; rfl) | (apply Lq.skip; rfl; rfl; rfl; exact bsB) | (apply PRun.skip; rfl; rfl; exact bsB) | (apply J.cond_t; rfl) | (apply J.cond_f; rfl) | apply J.exit | apply E.then_exit | apply E.in_exit | (apply E.in_other; rfl))
      (refine J.ret ?_; (repeat (first | refine E.then_ret ?_ | refine E.in_ret ?_)))
      exact E.ret1 rfl rfl
    · have c3 := c3 hA (.inr k2)
      repeat (first | ((first | (apply Lq.s; rfl) | apply PRun.s | (apply Lq.run; rfl; rfl; rfl; exact bsB) | (apply PRun.run; rfl; rfl; exact bsB)); first | (apply op_oload hashT (x := A1); rfl; exact bsM; exact at_hash A1) | (apply op_oload hashT (x := B1); rfl; exact bsM; exact at_hash B1) | (apply op_load hashT; rfl) | (apply op_eqA_t (T := hashT) (m := 2) (eqd_arr eqd_u8) rfl rfl; rfl; rfl; first | exact hA | exact hB) | (apply op_eqA_f (T := hashT) (m := 2) (eqd_arr eqd_u8) rfl rfl; rfl; rfl; first | exact hA | exact hB) | (apply op_sub (c := ((m - 1 : Nat) : Int)); rfl; rfl; (rw [show (m : Int) - 1 = ((m - 1 : Nat) : Int) by omega]; apply wrapi <;> omega)) | (apply op_andn (m := m) (n := m - 1); rfl; rfl; omega; omega) | (apply op_call does12_fn; exact bsD) | (apply op_call c3; exact bsD) | (exact bsO)) | apply J.seq | apply E.next | apply J.lq | apply Lq.nil | apply PRun.nil | apply J.block | apply E.in_normal | apply J.skip | (apply Lq.store; rfl; rfl; exact bsP; exact bsS; rfl; rfl) | (apply PRun.al; rfl) | (apply Lq.al; rfl; rfl; intro b) | (apply Open.cons; intro b) | apply Open.nil | (apply Lq.pass; rfl; rfl; rfl) | (apply PRun.pass; rfl; rfl) | (apply Lq.skip; rfl; rfl; rfl; exact bsB) | (apply PRun.skip; rfl; rfl; exact bsB) | (apply J.cond_t; rfl) | (apply J.cond_f; rfl) | apply J.exit | apply E.then_exit | apply E.in_exit | (apply E.in_other; rfl))
      (refine J.ret ?_; (repeat (first | refine E.then_ret ?_ | refine E.in_ret ?_)))
      exact E.ret1 rfl rfl
  · have c2 := c2 hB
    rcases hA with hA | ⟨hA, k2, k3⟩ | ⟨hA, k2, k3⟩ | ⟨hA, k2⟩
    · repeat (first | ((first | (apply Lq.s; rfl) | apply PRun.s | (apply Lq.run; rfl; rfl; rfl; exact bsB) | (apply PRun.run; rfl; rfl; exact bsB)); first | (apply op_oload hashT (x := A1); rfl; exact bsM; exact at_hash A1) | (apply op_oload hashT (x := B1); rfl; exact bsM; exact at_hash B1) | (apply op_load hashT; rfl) | (apply op_eqA_t (T := hashT) (m := 2) (eqd_arr eqd_u8) rfl rfl; rfl; rfl; first | exact hA | exact hB) | (apply op_eqA_f (T := hashT) (m := 2) (eqd_arr eqd_u8) rfl rfl; rfl; rfl; first | exact hA | exact hB) | (apply op_sub (c := ((m - 1 : Nat) : Int)); rfl; rfl; (rw [show (m : Int) - 1 = ((m - 1 : Nat) : Int) by omega]; apply wrapi <;> omega)) | (apply op_andn (m := m) (n := m - 1); rfl; rfl; omega; omega) | (apply op_call does12_fn; exact bsD) | (apply op_call c2; exact bsD) | (exact bsO)) | apply J.seq | apply E.next | apply J.lq | apply Lq.nil | apply PRun.nil | apply J.block | apply E.in_normal | apply J.skip | (apply Lq.store; rfl; rfl; exact bsP; exact bsS; rfl; rfl) | (apply PRun.al; rfl) | (apply Lq.al; rfl; rfl; intro b) | (apply Open.cons; intro b) | apply Open.nil | (apply Lq.pass; rfl; rfl; rfl) | (apply PRun.pass; rfl; rfl) | (apply Lq.skip; rfl; rfl; rfl; exact bsB) | (apply PRun.skip; rfl; rfl; exact bsB) | (apply J.cond_t; rfl) | (apply J.cond_f; rfl) | apply J.exit | apply E.then_exit | apply E.in_exit | (apply E.in_other; rfl))
      (refine J.ret ?_; (repeat (first | refine E.then_ret ?_ | refine E.in_ret ?_)))
      exact E.ret1 rfl rfl
    · repeat (first | ((first | (apply Lq.s; rfl) | apply PRun.s | (apply Lq.run; rfl; rfl; rfl; exact bsB) | (apply PRun.run; rfl; rfl; exact bsB)); first | (apply op_oload hashT (x := A1); rfl; exact bsM; exact at_hash A1) | (apply op_oload hashT (x := B1); rfl; exact bsM; exact at_hash B1) | (apply op_load hashT; rfl) | (apply op_eqA_t (T := hashT) (m := 2) (eqd_arr eqd_u8) rfl rfl; rfl; rfl; first | exact hA | exact hB) | (apply op_eqA_f (T := hashT) (m := 2) (eqd_arr eqd_u8) rfl rfl; rfl; rfl; first | exact hA | exact hB) | (apply op_sub (c := ((m - 1 : Nat) : Int)); rfl; rfl; (rw [show (m : Int) - 1 = ((m - 1 : Nat) : Int) by omega]; apply wrapi <;> omega)) | (apply op_andn (m := m) (n := m - 1); rfl; rfl; omega; omega) | (apply op_call does12_fn; exact bsD) | (apply op_call c2; exact bsD) | (exact bsO)) | apply J.seq | apply E.next | apply J.lq | apply Lq.nil | apply PRun.nil | apply J.block | apply E.in_normal | apply J.skip | (apply Lq.store; rfl; rfl; exact bsP; exact bsS; rfl; rfl) | (apply PRun.al; rfl) | (apply Lq.al; rfl; rfl; intro b) | (apply Open.cons; intro b) | apply Open.nil | (apply Lq.pass; rfl; rfl; rfl) | (apply PRun.pass; rfl; rfl) | (apply Lq.skip; rfl; rfl; rfl; exact bsB) | (apply PRun.skip; rfl; rfl; exact bsB) | (apply J.cond_t; rfl) | (apply J.cond_f; rfl) | apply J.exit | apply E.then_exit | apply E.in_exit | (apply E.in_other; rfl))
      (refine J.ret ?_; (repeat (first | refine E.then_ret ?_ | refine E.in_ret ?_)))
      exact E.ret1 rfl rfl
    · have c3 := c3 hA (.inl k3)
      repeat (first | ((first | (apply Lq.s; rfl) | apply PRun.s | (apply Lq.run; rfl; rfl; rfl; exact bsB) | (apply PRun.run; rfl; rfl; exact bsB)); first | (apply op_oload hashT (x := A1); rfl; exact bsM; exact at_hash A1) | (apply op_oload hashT (x := B1); rfl; exact bsM; exact at_hash B1) | (apply op_load hashT; rfl) | (apply op_eqA_t (T := hashT) (m := 2) (eqd_arr eqd_u8) rfl rfl; rfl; rfl; first | exact hA | exact hB) | (apply op_eqA_f (T := hashT) (m := 2) (eqd_arr eqd_u8) rfl rfl; rfl; rfl; first | exact hA | exact hB) | (apply op_sub (c := ((m - 1 : Nat) : Int)); rfl; rfl; (rw [show (m : Int) - 1 = ((m - 1 : Nat) : Int) by omega]; apply wrapi <;> omega)) | (apply op_andn (m := m) (n := m - 1); rfl; rfl; omega; omega) | (apply op_call does12_fn; exact bsD) | (apply op_call c2; exact bsD) | (apply op_call c3; exact bsD) | (exact bsO)) | apply J.seq | apply E.next | apply J.lq | apply Lq.nil | apply PRun.nil | apply J.block | apply E.in_normal | apply J.skip | (apply Lq.store; rfl; rfl; exact bsP; exact bsS; rfl; rfl) | (apply PRun.al; rfl) | (apply Lq.al; rfl; rfl; intro b) | (apply Open.cons; intro b) | apply Open.nil | (apply Lq.pass; rfl; rfl; rfl) | (apply PRun.pass; rfl; rfl) | (apply Lq.skip; rfl; rfl; rfl; exact bsB) | (apply PRun.skip; rfl; rfl; exact bsB) | (apply J.cond_t; rfl) | (apply J.cond_f; rfl) | apply J.exit | apply E.then_exit | apply E.in_exit | (apply E.in_other; rfl))
      (refine J.ret ?_; (repeat (first | refine E.then_ret ?_ | refine E.in_ret ?_)))
      exact E.ret1 rfl rfl
    · have c3 := c3 hA (.inr k2)
      repeat (first | ((first | (apply Lq.s; rfl) | apply PRun.s | (apply Lq.run; rfl; rfl; rfl; exact bsB) | (apply PRun.run; rfl; rfl; exact bsB)); first | (apply op_oload hashT (x := A1); rfl; exact bsM; exact at_hash A1) | (apply op_oload hashT (x := B1); rfl; exact bsM; exact at_hash B1) | (apply op_load hashT; rfl) | (apply op_eqA_t (T := hashT) (m := 2) (eqd_arr eqd_u8) rfl rfl; rfl; rfl; first | exact hA | exact hB) | (apply op_eqA_f (T := hashT) (m := 2) (eqd_arr eqd_u8) rfl rfl; rfl; rfl; first | exact hA | exact hB) | (apply op_sub (c := ((m - 1 : Nat) : Int)); rfl; rfl; (rw [show (m : Int) - 1 = ((m - 1 : Nat) : Int) by omega]; apply wrapi <;> omega)) | (apply op_andn (m := m) (n := m - 1); rfl; rfl; omega; omega) | (apply op_call does12_fn; exact bsD) | (apply op_call c2; exact bsD) | (apply op_call c3; exact bsD) | (exact bsO)) | apply J.seq | apply E.next | apply J.lq | apply Lq.nil | apply PRun.nil | apply J.block | apply E.in_normal | apply J.skip | (apply Lq.store; rfl; rfl; exact bsP; exact bsS; rfl; rfl) | (apply PRun.al; rfl) | (apply Lq.al; rfl; rfl; intro b) | (apply Open.cons; intro b) | apply Open.nil | (apply Lq.pass; rfl; rfl; rfl) | (apply PRun.pass; rfl; rfl) | (apply Lq.skip; rfl; rfl; rfl; exact bsB) | (apply PRun.skip; rfl; rfl; exact bsB) | (apply J.cond_t; rfl) | (apply J.cond_f; rfl) | apply J.exit | apply E.then_exit | apply E.in_exit | (apply E.in_other; rfl))
      (refine J.ret ?_; (repeat (first | refine E.then_ret ?_ | refine E.in_ret ?_)))
      exact E.ret1 rfl rfl
set_option maxHeartbeats 4000000 in
theorem consistAll (many : UInt8) (s : Nat) (o : Hash) (_h0 : True) (hs : s < 4294967296) (_h2 : True) : Fn Tryd.prog 5 [is (.int .u8 (many.toNat : Int)), is (.int .u32 (s : Int)), hashT.val o] (is (.bool true)) := by
  have h0 := many.toNat_lt
  obtain ⟨n, hn⟩ : ∃ n, n = 1 + many.toNat % 32 := ⟨_, rfl⟩
  have hlen := someL_len n s
  have hsome := some_fn n s (by omega) hs
  generalize someL n s = l at *
  have r2 := root_fn l (by omega)
  obtain ⟨B1, hB1⟩ : ∃ B1, B1 = mroot l := ⟨_, rfl⟩
  rw [← hB1] at r2
  refine Fn.mk' 92 Tryd.func5 rfl rfl rfl rfl fun w0 H0 => ?_
  repeat (first | ((first | (apply Lq.s; rfl) | apply PRun.s | (apply Lq.run; rfl; rfl; rfl; exact bsB) | (apply PRun.run; rfl; rfl; exact bsB)); first | (apply op_box hashT; rfl) | (apply op_conv (c := (many.toNat : Int)); rfl; (apply wrapi <;> omega)) | (apply op_remn (m := many.toNat) (n := 32); rfl; rfl; decide) | (apply op_add (c := (n : Int)); rfl; rfl; (rw [show (1 : Int) + ((many.toNat % 32 : Nat) : Int) = (n : Int) by omega]; apply wrapi <;> omega)) | (apply op_call (d := some 21) hsome; exact bsD) | (apply op_call r2; exact bsD) | (exact bsO)) | apply J.seq | apply E.next | apply J.lq | apply Lq.nil | apply PRun.nil | apply J.block | apply E.in_normal | apply J.skip | (apply Lq.store; rfl; rfl; exact bsP; exact bsS; rfl; rfl) | (apply PRun.al; rfl) | (apply Lq.al; rfl; rfl; intro b) | (apply Open.cons; intro b) | apply Open.nil | (apply Lq.pass; rfl; rfl; rfl) | (apply PRun.pass; rfl; rfl) | (apply Lq.skip; rfl; rfl; rfl; exact bsB) | (apply PRun.skip; rfl; rfl; exact bsB) | (apply J.cond_t; rfl) | (apply J.cond_f; rfl) | apply J.exit | apply E.then_exit | apply E.in_exit | (apply E.in_other; rfl))
  (apply Lq.storeE (φs' := hashT.cells B1); rfl; rfl; exact List.Perm.refl _; exact Seg.val _ _; exact hashT.len _; exact Nat.le_refl 32; exact splice_all (by rw [hashT.len]; rfl))
  revert b
  intro b9
  repeat (first | ((first | (apply Lq.s; rfl) | apply PRun.s | (apply Lq.run; rfl; rfl; rfl; exact bsB) | (apply PRun.run; rfl; rfl; exact bsB)); first | (exact bsO)) | apply J.seq | apply E.next | apply J.lq | apply Lq.nil | apply PRun.nil | apply J.block | apply E.in_normal | apply J.skip | (apply Lq.store; rfl; rfl; exact bsP; exact bsS; rfl; rfl) | (apply PRun.al; rfl) | (apply Lq.al; rfl; rfl; intro b) | (apply Open.cons; intro b) | apply Open.nil | (apply Lq.pass; rfl; rfl; rfl) | (apply PRun.pass; rfl; rfl) | (apply Lq.skip; rfl; rfl; rfl; exact bsB) | (apply PRun.skip; rfl; rfl; exact bsB) | (apply J.cond_t; rfl) | (apply J.cond_f; rfl) | apply J.exit | apply E.then_exit | apply E.in_exit | (apply E.in_other; rfl))
  refine J.loop (fun m : Nat => 1 ≤ m ∧ m ≤ n + 1) (fun m => [(5, ptr (hashT.cells o)), (6, is (.bool false)), (7, is (.int .i64 (n : Int))), (8, sl hashT.toTy l), (9, is (.pointer (some ⟨b9, 0, none⟩))), (10, is (.int .i64 (m : Int)))]) (fun _ => [own b9 23 (hashT.cells B1)]) (fun m => n + 1 - m) 1 ⟨by omega, by omega⟩ (Sub.same (by repeat' (first | exact trivial | refine ⟨rfl, ?_⟩))) ?_
  rintro m ⟨m1, m2⟩
  by_cases hlt : m ≤ n
  · have r1 := root_fn (l.take m) (by rw [List.length_take]; omega)
    have p1 := cprove_fn l m (by omega) (by omega) (by omega)
    have c1 := check_part (l := l) (m := m) (n := n) (u := mroot (l.take m)) (v := B1) (by omega) hlen (by omega) (by omega) rfl hB1 rfl
    have hpl := cpart_len n l m true hlen (by omega) (by omega)
    have hok : okC m n (mroot (l.take m)) B1 (cpart l m true) = true := by rw [okC_part hlen (by omega) (by omega) rfl]; exact decide_eq_true hB1.symm
    generalize mroot (l.take m) = A1 at *
    generalize cpart l m true = P at *
    have hml : ([] ++ P ++ [o]).length = P.length + 1 := by simp
    have c2 := check110 (p := [] ++ P ++ [o]) (m1) hlt (by omega) (by omega) (okC_more (u' := A1) (v' := B1) hok (by omega))
    repeat (first | ((first | (apply Lq.s; rfl) | apply PRun.s | (apply Lq.run; rfl; rfl; rfl; exact bsB) | (apply PRun.run; rfl; rfl; exact bsB)); first | (apply op_ksl_hi (T := hashT.toTy) (hi := m); rfl; rfl; omega) | (apply op_call r1; exact bsD) | (exact bsO)) | apply J.seq | apply E.next | apply J.lq | apply Lq.nil | apply PRun.nil | apply J.block | apply E.in_normal | apply J.skip | (apply Lq.store; rfl; rfl; exact bsP; exact bsS; rfl; rfl) | (apply PRun.al; rfl) | (apply Lq.al; rfl; rfl; intro b) | (apply Open.cons; intro b) | apply Open.nil | (apply Lq.pass; rfl; rfl; rfl) | (apply PRun.pass; rfl; rfl) | (apply Lq.skip; rfl; rfl; rfl; exact bsB) | (apply PRun.skip; rfl; rfl; exact bsB) | (apply J.cond_t; rfl) | (apply J.cond_f; rfl) | apply J.exit | apply E.then_exit | apply E.in_exit | (apply E.in_other; rfl))
    (apply Lq.storeE (φs' := hashT.cells A1); rfl; rfl; exact List.Perm.refl _; exact Seg.val _ _; exact hashT.len _; exact Nat.le_refl 32; exact splice_all (by rw [hashT.len]; rfl))
    repeat (first | ((first | (apply Lq.s; rfl) | apply PRun.s | (apply Lq.run; rfl; rfl; rfl; exact bsB) | (apply PRun.run; rfl; rfl; exact bsB)); first | (apply op_call p1; exact bsD) | (exact bsO)) | apply J.seq | apply E.next | apply J.lq | apply Lq.nil | apply PRun.nil | apply J.block | apply E.in_normal | apply J.skip | (apply Lq.store; rfl; rfl; exact bsP; exact bsS; rfl; rfl) | (apply PRun.al; rfl) | (apply Lq.al; rfl; rfl; intro b) | (apply Open.cons; intro b) | apply Open.nil | (apply Lq.pass; rfl; rfl; rfl) | (apply PRun.pass; rfl; rfl) | (apply Lq.skip; rfl; rfl; rfl; exact bsB) | (apply PRun.skip; rfl; rfl; exact bsB) | (apply J.cond_t; rfl) | (apply J.cond_f; rfl) | apply J.exit | apply E.then_exit | apply E.in_exit | (apply E.in_other; rfl))
    refine J.drawW 6 [(none, some 39), (none, none), (some 39, some 41), (none, none), (none, none), (some 41, none)] mixed (by kernel_rfl) ?_
    (apply PRunW.bsl (T := hashT) (xs := []); (repeat (first | exact PO.nil _ | (apply PO.cons; rfl))); rfl; rfl; rfl)
    repeat (first | ((first | apply PRunW.s | (apply PRunW.run; rfl; rfl; exact bsB) | (apply Lq.s; rfl) | apply PRun.s | (apply Lq.run; rfl; rfl; rfl; exact bsB) | (apply PRun.run; rfl; rfl; exact bsB)); first | (exact bsO)) | apply J.seq | apply E.next | apply J.lq | apply Lq.nil | apply PRun.nil | apply J.block | apply E.in_normal | apply J.skip | (apply Lq.store; rfl; rfl; exact bsP; exact bsS; rfl; rfl) | (apply PRun.al; rfl) | (apply Lq.al; rfl; rfl; intro b) | (apply Open.cons; intro b) | apply Open.nil | (apply Lq.pass; rfl; rfl; rfl) | (apply PRun.pass; rfl; rfl) | (apply Lq.skip; rfl; rfl; rfl; exact bsB) | (apply PRun.skip; rfl; rfl; exact bsB) | (apply J.cond_t; rfl) | (apply J.cond_f; rfl) | apply J.exit | apply E.then_exit | apply E.in_exit | (apply E.in_other; rfl) | apply PRunW.nil | (apply PRunW.al; rfl) | (apply PRunW.pass; rfl; rfl) | (apply PRunW.skip; rfl; rfl; exact bsB) | (apply Open.pv; intro b) | apply Open.av | (apply Open.rv; intro A c))
    (apply PRunW.ap (T := hashT) (xs := []) (ys := P); rfl; rfl; (apply From.sl; rfl); rfl; rfl; (show 0 + _ ≤ maxLen; unfold maxLen; omega); (show (0 + _) * 32 ≤ _; omega))
    repeat (first | ((first | apply PRunW.s | (apply PRunW.run; rfl; rfl; exact bsB) | (apply Lq.s; rfl) | apply PRun.s | (apply Lq.run; rfl; rfl; rfl; exact bsB) | (apply PRun.run; rfl; rfl; exact bsB)); first | (apply op_load hashT; rfl) | (apply op_bslice hashT (xs := [o]); (repeat (first | exact PO.nil _ | (apply PO.cons; rfl))); rfl; rfl; rfl) | (exact bsO)) | apply J.seq | apply E.next | apply J.lq | apply Lq.nil | apply PRun.nil | apply J.block | apply E.in_normal | apply J.skip | (apply Lq.store; rfl; rfl; exact bsP; exact bsS; rfl; rfl) | (apply PRun.al; rfl) | (apply Lq.al; rfl; rfl; intro b) | (apply Open.cons; intro b) | apply Open.nil | (apply Lq.pass; rfl; rfl; rfl) | (apply PRun.pass; rfl; rfl) | (apply Lq.skip; rfl; rfl; rfl; exact bsB) | (apply PRun.skip; rfl; rfl; exact bsB) | (apply J.cond_t; rfl) | (apply J.cond_f; rfl) | apply J.exit | apply E.then_exit | apply E.in_exit | (apply E.in_other; rfl) | apply PRunW.nil | (apply PRunW.al; rfl) | (apply PRunW.pass; rfl; rfl) | (apply PRunW.skip; rfl; rfl; exact bsB) | (apply Open.pv; intro b) | apply Open.av | (apply Open.rv; intro A c))
    (apply PRunW.apF (T := hashT) (xs := [] ++ P) (ys := [o]); rfl; (apply From.sl; rfl); rfl; rfl; (rw [List.nil_append]; show _ + 1 ≤ maxLen; unfold maxLen; omega); (rw [List.nil_append]; show (_ + 1) * 32 ≤ _; omega))
    repeat (first | ((first | apply PRunW.s | (apply PRunW.run; rfl; rfl; exact bsB) | (apply Lq.s; rfl) | apply PRun.s | (apply Lq.run; rfl; rfl; rfl; exact bsB) | (apply PRun.run; rfl; rfl; exact bsB)); first | (apply op_oload hashT (x := A1); rfl; exact bsM; exact at_hash A1) | (apply op_oload hashT (x := B1); rfl; exact bsM; exact at_hash B1) | (apply op_call c1; exact bsD) | (apply op_call c2; exact bsD) | (exact bsO)) | apply J.seq | apply E.next | apply J.lq | apply Lq.nil | apply PRun.nil | apply J.block | apply E.in_normal | apply J.skip | (apply Lq.store; rfl; rfl; exact bsP; exact bsS; rfl; rfl) | (apply PRun.al; rfl) | (apply Lq.al; rfl; rfl; intro b) | (apply Open.cons; intro b) | apply Open.nil | (apply Lq.pass; rfl; rfl; rfl) | (apply PRun.pass; rfl; rfl) | (apply Lq.skip; rfl; rfl; rfl; exact bsB) | (apply PRun.skip; rfl; rfl; exact bsB) | (apply J.cond_t; rfl) | (apply J.cond_f; rfl) | apply J.exit | apply E.then_exit | apply E.in_exit | (apply E.in_other; rfl) | apply PRunW.nil | (apply PRunW.al; rfl) | (apply PRunW.pass; rfl; rfl) | (apply PRunW.skip; rfl; rfl; exact bsB) | (apply Open.pv; intro b) | apply Open.av | (apply Open.rv; intro A c))
    refine J.drawW 26 [(none, none), (none, none), (none, none), (none, none), (none, none), (none, none), (none, none), (none, none), (none, none), (none, none), (none, none), (none, none), (none, none), (none, none), (none, none), (none, none), (none, none), (none, none), (none, none), (none, none), (none, none), (none, none), (none, none), (none, none), (none, none), (none, none)] mixed (by kernel_rfl) ?_
    by_cases hP : P.length = 0
    · repeat (first | ((first | apply PRunW.s | (apply PRunW.run; rfl; rfl; exact bsB) | (apply Lq.s; rfl) | apply PRun.s | (apply Lq.run; rfl; rfl; rfl; exact bsB) | (apply PRun.run; rfl; rfl; exact bsB)); first | (apply op_len (xs := P); rfl) | (exact bsO)) | apply J.seq | apply E.next | apply J.lq | apply Lq.nil | apply PRun.nil | apply J.block | apply E.in_normal | apply J.skip | (apply Lq.store; rfl; rfl; exact bsP; exact bsS; rfl; rfl) | (apply PRun.al; rfl) | (apply Lq.al; rfl; rfl; intro b) | (apply Open.cons; intro b) | apply Open.nil | (apply Lq.pass; rfl; rfl; rfl) | (apply PRun.pass; rfl; rfl) | (apply Lq.skip; rfl; rfl; rfl; exact bsB) | (apply PRun.skip; rfl; rfl; exact bsB) | (apply J.cond_t; rfl) | (apply J.cond_f; rfl) | apply J.exit | apply E.then_exit | apply E.in_exit | (apply E.in_other; rfl) | apply PRunW.nil | (apply PRunW.al; rfl) | (apply PRunW.pass; rfl; rfl) | (apply PRunW.skip; rfl; rfl; exact bsB) | (apply Open.pv; intro b) | apply Open.av | (apply Open.rv; intro A c))
      exact E.again (m + 1) (by omega) ⟨by omega, by omega⟩ ⟨(by repeat' (first | exact trivial | refine ⟨rfl, ?_⟩)), [_], List.Perm.swap _ _ _⟩
    · have c3 := check110 (p := P.drop 1) m1 hlt (by omega) (by rw [List.length_drop]; omega) (okC_more (u' := A1) (v' := B1) hok (by rw [List.length_drop]; omega))
      have c4 := check110 (p := P.take (P.length - 1)) m1 hlt (by omega) (by rw [List.length_take]; omega) (okC_more (u' := A1) (v' := B1) hok (by rw [List.length_take]; omega))
      repeat (first | ((first | apply PRunW.s | (apply PRunW.run; rfl; rfl; exact bsB) | (apply Lq.s; rfl) | apply PRun.s | (apply Lq.run; rfl; rfl; rfl; exact bsB) | (apply PRun.run; rfl; rfl; exact bsB)); first | (apply op_len (xs := P); rfl) | (apply op_oload hashT (x := A1); rfl; exact bsM; exact at_hash A1) | (apply op_oload hashT (x := B1); rfl; exact bsM; exact at_hash B1) | (apply op_ksl_lo (T := hashT.toTy) (lo := 1); rfl; rfl; omega) | (apply op_sub (c := ((P.length - 1 : Nat) : Int)); rfl; rfl; (rw [show (P.length : Int) - 1 = ((P.length - 1 : Nat) : Int) by omega]; apply wrapi <;> omega)) | (apply op_ksl_hi (T := hashT.toTy) (hi := P.length - 1); rfl; rfl; omega) | (apply op_call c3; exact bsD) | (apply op_call c4; exact bsD) | (exact bsO)) | apply J.seq | apply E.next | apply J.lq | apply Lq.nil | apply PRun.nil | apply J.block | apply E.in_normal | apply J.skip | (apply Lq.store; rfl; rfl; exact bsP; exact bsS; rfl; rfl) | (apply PRun.al; rfl) | (apply Lq.al; rfl; rfl; intro b) | (apply Open.cons; intro b) | apply Open.nil | (apply Lq.pass; rfl; rfl; rfl) | (apply PRun.pass; rfl; rfl) | (apply Lq.skip; rfl; rfl; rfl; exact bsB) | (apply PRun.skip; rfl; rfl; exact bsB) | (apply J.cond_t; rfl) | (apply J.cond_f; rfl) | apply J.exit | apply E.then_exit | apply E.in_exit | (apply E.in_other; rfl) | apply PRunW.nil | (apply PRunW.al; rfl) | (apply PRunW.pass; rfl; rfl) | (apply PRunW.skip; rfl; rfl; exact bsB) | (apply Open.pv; intro b) | apply Open.av | (apply Open.rv; intro A c))
      exact E.again (m + 1) (by omega) ⟨by omega, by omega⟩ ⟨(by repeat' (first | exact trivial | refine ⟨rfl, ?_⟩)), [_], List.Perm.swap _ _ _⟩
  · obtain rfl : m = n + 1 := by omega
    repeat (first | ((first | (apply Lq.s; rfl) | apply PRun.s | (apply Lq.run; rfl; rfl; rfl; exact bsB) | (apply PRun.run; rfl; rfl; exact bsB)); first | (apply op_call does12_fn; exact bsD) | (exact bsO)) | apply J.seq | apply E.next | apply J.lq | apply Lq.nil | apply PRun.nil | apply J.block | apply E.in_normal | apply J.skip | (apply Lq.store; rfl; rfl; exact bsP; exact bsS; rfl; rfl) | (apply PRun.al; rfl) | (apply Lq.al; rfl; rfl; intro b) | (apply Open.cons; intro b) | apply Open.nil | (apply Lq.pass; rfl; rfl; rfl) | (apply PRun.pass; rfl; rfl) | (apply Lq.skip; rfl; rfl; rfl; exact bsB) | (apply PRun.skip; rfl; rfl; exact bsB) | (apply J.cond_t; rfl) | (apply J.cond_f; rfl) | apply J.exit | apply E.then_exit | apply E.in_exit | (apply E.in_other; rfl))
    (refine J.ret ?_; (repeat (first | refine E.then_ret ?_ | refine E.in_ret ?_)))
    exact E.ret1 rfl rfl
end Go.Proofs.YtbnnobkmbkgmpaaDoor.L
