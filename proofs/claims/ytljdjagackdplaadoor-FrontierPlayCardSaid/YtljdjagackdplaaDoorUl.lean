/-
  The law FrontierRoot.
-/
import Derived.Test.YtljdjagackdplaaDoorUj
namespace Go.Proofs.YtljdjagackdplaaDoor.L
open Go
set_option linter.unusedSectionVars false
variable [Globs] [Has_sha_table] [Has_sha_begin]
set_option linter.unusedVariables false
section
variable {P : Program} {Γ : Env} {Δ : List Res} {d : Option Nat} {ty : Nat} {pos : String} {af : Array Edge} {g : Option (Nat × Bool)} {x y z : Operand} {t : Nat} {α : Type}
/-- l[lo:hi] of a row that is known for good. -/
theorem op_ksl_lh {T : Ty α} {xs ys : List α} {e lo hi : Nat} {k k' : IntKind} (h : opd Γ x = some (sl T xs)) (hh : opd Γ y = some (is (.int k (lo : Int)))) (hz : opd Γ z = some (is (.int k' (hi : Int)))) [ht : TSl P t e] [TSz P e T.sz] (h0 : lo < hi) (h1 : hi ≤ xs.length) (he : (xs.take hi).drop lo = ys) : OpP P Γ Δ ⟨d, .slice t x (some y) (some z) none, ty, pos, af, g⟩ (sl T ys) :=
  OpP.same fun H A w hxx hs => by
    subst he
    obtain ⟨ad, cap, hv, c1, c2, c3, hel⟩ := hxx x (by simp [Op.operands]) _ h
    have lo' : A.eval y = .int k (lo : Int) := hxx y (by simp [Op.operands]) _ hh
    have hi' : A.eval z = .int k' (hi : Int) := hxx z (by simp [Op.operands]) _ hz
    have hl : ((xs.take hi).drop lo).length = hi - lo := by rw [List.length_drop, List.length_take]; omega
    refine ⟨.slice (if cap = lo then ad else ad.map (·.add (lo * T.sz))) (hi - lo) (cap - lo), ?_, _, cap - lo, by rw [hl], by rw [hl]; omega, by omega, fun h => ?_, fun hp => ?_⟩
    · simp only [execOp, hv]
      refine run_value ?_
      rw [run_sliceAt_sl ht.h]
      unfold Instr.slice
      refine (run_bind (underlying t) _ w (run_underlying' ht.h)).trans ?_
      simp only [Option.map_some, Option.map_none, hi', lo']
      refine (run_bind (Instr.sliceBounds true xs.length cap (some (.int k (lo : Int))) (some (.int k' (hi : Int))) none) _ w (a := (lo, hi, cap)) (w' := w) ?_).trans ?_
      · unfold Instr.sliceBounds
        simp only [Sem.run_bind, Sem.run_pure, Result.andThen_ok, run_bound (show hi ≤ cap by omega), run_bound (show lo ≤ hi by omega)]
      · exact (run_bind (sizeOf e) _ w (run_sizeOf (t := e) (n := T.sz))).trans rfl
    · by_cases hc : cap = lo
      · omega
      · rw [if_neg hc] at h
        cases ad with
        | none => have := c3 rfl; omega
        | some a => cases h
    · obtain ⟨b, o, rfl, hc⟩ := hel (by omega)
      rw [if_neg (by omega)]
      refine ⟨b, o + lo * T.sz, by simp [add_at], fun i φ hi => ?_⟩
      rw [Nat.add_assoc]
      exact hc _ φ (flat_take T xs _ _ φ (flat_drop T (xs.take _) lo (by rw [List.length_take]; omega) i φ hi))
end
theorem and_bit : ∀ i < 7, ∀ n < 65, (n &&& 2 ^ i = 0) = (n % 2 ^ (i + 1) < 2 ^ i) := by decide +kernel
theorem Lq.cut {C : Cx} {Γ : Env} {Δ : List Res} {Q : Exit → Act → World → Prop} {ops : Array Oper} {rest : List Oper} {V : VS} (h : star V top Δ) (k : ∀ Δ', V Δ' → Lq C Γ Δ' ops rest Q) : Lq C Γ Δ ops rest Q := let ⟨D1, D2, h1, _, hp⟩ := h; Lq.sub hp (k D1 h1)
/-- Each size down from 64: behind it what is left is shorter. -/
theorem bit_off {n a i : Nat} (h7 : i < 7) (hn : n < 65) (h : n &&& 2 ^ i = 0) (ha : a ≤ n) (hr : n - a = n % 2 ^ (i + 1)) : n - a = n % 2 ^ i := by
  have h1 := (and_bit i h7 n hn).mp h
  have h2 : n % 2 ^ (i + 1) = n % 2 ^ i + 2 ^ i * (n / 2 ^ i % 2) := Nat.mod_pow_succ
  have hp : 1 ≤ 2 ^ i := Nat.one_le_two_pow
  generalize 2 ^ (i + 1) = q at *
  generalize hpp : 2 ^ i = p at *
  rcases Nat.mod_two_eq_zero_or_one (n / p) with h3 | h3
  · rw [h3] at h2; omega
  · rw [h3] at h2; omega
theorem bit_on {n a i : Nat} (h7 : i < 7) (hn : n < 65) (h : n &&& 2 ^ i ≠ 0) (ha : a ≤ n) (hr : n - a = n % 2 ^ (i + 1)) : a + 2 ^ i ≤ n ∧ n - a < 2 ^ (i + 1) ∧ n - (a + 2 ^ i) = n % 2 ^ i := by
  have h1 : ¬ n % 2 ^ (i + 1) < 2 ^ i := fun h' => h ((and_bit i h7 n hn).mpr h')
  have h2 : n % 2 ^ (i + 1) = n % 2 ^ i + 2 ^ i * (n / 2 ^ i % 2) := Nat.mod_pow_succ
  have hp : 1 ≤ 2 ^ i := Nat.one_le_two_pow
  have hlt : n % 2 ^ (i + 1) < 2 ^ (i + 1) := Nat.mod_lt _ (Nat.two_pow_pos _)
  have hm : n % 2 ^ i < 2 ^ i := Nat.mod_lt _ (Nat.two_pow_pos _)
  generalize 2 ^ (i + 1) = q at *
  generalize hpp : 2 ^ i = p at *
  rcases Nat.mod_two_eq_zero_or_one (n / p) with h3 | h3
  · rw [h3] at h2; omega
  · rw [h3] at h2; omega
theorem edge_step {l : List Hash} {a i : Nat} (h1 : a + 2 ^ i ≤ l.length) (h2 : l.length - a < 2 ^ (i + 1)) : edge (l.drop a) = mroot ((l.take (a + 2 ^ i)).drop a) :: edge (l.drop (a + 2 ^ i)) := by
  rw [edge_at (l := l.drop a) (j := i) (by rw [List.length_drop]; omega) (by rw [List.length_drop]; omega), List.drop_drop, List.drop_take, show a + 2 ^ i - a = 2 ^ i by omega]
set_option linter.unusedVariables false
set_option linter.unusedSimpArgs false
attribute [local irreducible] J Lq E OpP PRun is any agg tup ptr sl PRunW OpE PRunV OpV star
attribute [local irreducible] up2 mroot nodeH leafH emptyH shaH ownAt row someL leafOf splitZ split rv join2 edge rootE o1 o2 o3 frV fre
set_option maxRecDepth 100000 in
set_option maxHeartbeats 4000000 in
theorem frontierRoot (l : List Hash) (_h : l.length ≤ maxLen ∧ ∀ x ∈ l, True) : Fn Tryd.prog 11 [sl hashT.toTy l] (is (.bool true)) := by
  refine Fn.mk' 107 Tryd.func11 rfl rfl rfl rfl fun w0 H0 => ?_
  by_cases hbig : 64 < l.length
  · repeat (first | ((first | (apply Lq.s; rfl) | apply PRun.s | (apply Lq.run; rfl; rfl; rfl; exact bsB) | (apply PRun.run; rfl; rfl; exact bsB)); first | (apply op_len (xs := l); rfl) | (exact bsO)) | apply J.seq | apply E.next | apply J.lq | apply Lq.nil | apply PRun.nil | apply J.block | apply E.in_normal | apply J.skip | (apply Lq.store; rfl; rfl; exact bsP; exact bsS; rfl; rfl) | (apply PRun.al; rfl) | (apply Lq.al; rfl; rfl; intro b) | (apply Open.cons; intro b) | apply Open.nil | (apply Lq.pass; rfl; rfl; rfl) | (apply PRun.pass; rfl; rfl) | (apply Lq.skip; rfl; rfl; rfl; exact bsB) | (apply PRun.skip; rfl; rfl; exact bsB) | (apply J.cond_t; rfl) | (apply J.cond_f; rfl) | apply J.exit | apply E.then_exit | apply E.in_exit | (apply E.in_other; rfl))
    (refine J.ret ?_; (repeat (first | refine E.then_ret ?_ | refine E.in_ret ?_)))
    exact E.ret1 rfl rfl
  have hl : l.length ≤ 64 := by omega
  have hele := edge_le l
  repeat (first | ((first | (apply Lq.s; rfl) | apply PRun.s | (apply Lq.run; rfl; rfl; rfl; exact bsB) | (apply PRun.run; rfl; rfl; exact bsB)); first | (apply op_len (xs := l); rfl) | (exact bsO)) | apply J.seq | apply E.next | apply J.lq | apply Lq.nil | apply PRun.nil | apply J.block | apply E.in_normal | apply J.skip | (apply Lq.store; rfl; rfl; exact bsP; exact bsS; rfl; rfl) | (apply PRun.al; rfl) | (apply Lq.al; rfl; rfl; intro b) | (apply Open.cons; intro b) | apply Open.nil | (apply Lq.pass; rfl; rfl; rfl) | (apply PRun.pass; rfl; rfl) | (apply Lq.skip; rfl; rfl; rfl; exact bsB) | (apply PRun.skip; rfl; rfl; exact bsB) | (apply J.cond_t; rfl) | (apply J.cond_f; rfl) | apply J.exit | apply E.then_exit | apply E.in_exit | (apply E.in_other; rfl))
  refine Lq.callS (Δ0 := []) (Δf := []) fnew_fnR rfl bsD (List.Perm.refl _) ?_
  rintro _ _ ⟨fb, rfl, rfl⟩
  rw [List.append_nil]
  repeat (first | ((first | (apply Lq.s; rfl) | apply PRun.s | (apply Lq.run; rfl; rfl; rfl; exact bsB) | (apply PRun.run; rfl; rfl; exact bsB)); first | (exact bsO)) | apply J.seq | apply E.next | apply J.lq | apply Lq.nil | apply PRun.nil | apply J.block | apply E.in_normal | apply J.skip | (apply Lq.store; rfl; rfl; exact bsP; exact bsS; rfl; rfl) | (apply PRun.al; rfl) | (apply Lq.al; rfl; rfl; intro b) | (apply Open.cons; intro b) | apply Open.nil | (apply Lq.pass; rfl; rfl; rfl) | (apply PRun.pass; rfl; rfl) | (apply Lq.skip; rfl; rfl; rfl; exact bsB) | (apply PRun.skip; rfl; rfl; exact bsB) | (apply J.cond_t; rfl) | (apply J.cond_f; rfl) | apply J.exit | apply E.then_exit | apply E.in_exit | (apply E.in_other; rfl))
  refine J.loop (fun p : Nat × List Res => p.1 ≤ l.length ∧ star (fre fb (l.take p.1)) top p.2)
    (fun p => [(0, sl hashT.toTy l), (3, is (.pointer (some ⟨fb, 0, none⟩))), (4, is (.int .i64 (p.1 : Int)))]) (fun p => p.2) (fun p => l.length - p.1) (0, frL fb [] 0 none 0) ⟨Nat.zero_le _, star_top (fre_nil fb none 0)⟩ (Sub.same (by repeat' (first | exact trivial | refine ⟨rfl, ?_⟩))) ?_
  rintro ⟨i, D⟩ ⟨hi, hV⟩
  dsimp only at hi hV ⊢
  by_cases hlt : i < l.length
  · obtain ⟨x, hx⟩ : ∃ x, l[i]? = some x := ⟨_, List.getElem?_eq_getElem hlt⟩
    have htl : (l.take i).length = i := by rw [List.length_take]; omega
    have htl' : (l.take (i + 1)).length = i + 1 := by rw [List.length_take]; omega
    have hts : l.take i ++ [x] = l.take (i + 1) := by rw [List.take_add_one, hx]; rfl
    have R1 := eRoot fb (l.take i) (by omega)
    have A1 := eAppend fb (l.take i) x (by omega)
    rw [hts] at A1
    have N1 := eLen fb (l.take (i + 1))
    rw [htl'] at N1
    have r1 := root_fn (l.take i) (by omega)
    generalize mroot (l.take i) = r at *
    repeat (first | ((first | (apply Lq.s; rfl) | apply PRun.s | (apply Lq.run; rfl; rfl; rfl; exact bsB) | (apply PRun.run; rfl; rfl; exact bsB)); first | (apply op_len (xs := l); rfl) | (exact bsO)) | apply J.seq | apply E.next | apply J.lq | apply Lq.nil | apply PRun.nil | apply J.block | apply E.in_normal | apply J.skip | (apply Lq.store; rfl; rfl; exact bsP; exact bsS; rfl; rfl) | (apply PRun.al; rfl) | (apply Lq.al; rfl; rfl; intro b) | (apply Open.cons; intro b) | apply Open.nil | (apply Lq.pass; rfl; rfl; rfl) | (apply PRun.pass; rfl; rfl) | (apply Lq.skip; rfl; rfl; rfl; exact bsB) | (apply PRun.skip; rfl; rfl; exact bsB) | (apply J.cond_t; rfl) | (apply J.cond_f; rfl) | apply J.exit | apply E.then_exit | apply E.in_exit | (apply E.in_other; rfl))
    refine J.drawV 23 [false, true, false, false, false, false, false, false, false, false, false, false, false, true, false, false, false, false, true, false, false, false, false] _ hV mixed (by kernel_rfl) ?_
    repeat (first | ((first | apply PRunV.s | (apply PRunV.run; rfl; rfl; exact bsB) | (apply Lq.s; rfl) | apply PRun.s | (apply Lq.run; rfl; rfl; rfl; exact bsB) | (apply PRun.run; rfl; rfl; exact bsB)); first | (exact bsO)) | apply J.seq | apply E.next | apply J.lq | apply Lq.nil | apply PRun.nil | apply J.block | apply E.in_normal | apply J.skip | (apply Lq.store; rfl; rfl; exact bsP; exact bsS; rfl; rfl) | (apply PRun.al; rfl) | (apply Lq.al; rfl; rfl; intro b) | (apply Open.cons; intro b) | apply Open.nil | (apply Lq.pass; rfl; rfl; rfl) | (apply PRun.pass; rfl; rfl) | (apply Lq.skip; rfl; rfl; rfl; exact bsB) | (apply PRun.skip; rfl; rfl; exact bsB) | (apply J.cond_t; rfl) | (apply J.cond_f; rfl) | apply J.exit | apply E.then_exit | apply E.in_exit | (apply E.in_other; rfl) | (apply PRunV.pass; rfl; rfl) | (apply PRunV.skip; rfl; rfl; exact bsB))
    refine PRunV.e (opV_call R1 bsD) ?_
    repeat (first | ((first | apply PRunV.s | (apply PRunV.run; rfl; rfl; exact bsB) | (apply Lq.s; rfl) | apply PRun.s | (apply Lq.run; rfl; rfl; rfl; exact bsB) | (apply PRun.run; rfl; rfl; exact bsB)); first | (apply op_ksl_hi (T := hashT.toTy) (hi := i); rfl; rfl; omega) | (apply op_call r1; exact bsD) | (apply op_neA_f (T := hashT) (m := 2) (eqd_arr eqd_u8) rfl rfl; rfl; rfl; rfl) | (apply op_iaddr hashT.toTy (x := x); rfl; rfl; exact Int.natCast_nonneg _; (rw [Int.toNat_natCast]; exact hx)) | (apply op_load hashT; rfl) | (exact bsO)) | apply J.seq | apply E.next | apply J.lq | apply Lq.nil | apply PRun.nil | apply J.block | apply E.in_normal | apply J.skip | (apply Lq.store; rfl; rfl; exact bsP; exact bsS; rfl; rfl) | (apply PRun.al; rfl) | (apply Lq.al; rfl; rfl; intro b) | (apply Open.cons; intro b) | apply Open.nil | (apply Lq.pass; rfl; rfl; rfl) | (apply PRun.pass; rfl; rfl) | (apply Lq.skip; rfl; rfl; rfl; exact bsB) | (apply PRun.skip; rfl; rfl; exact bsB) | (apply J.cond_t; rfl) | (apply J.cond_f; rfl) | apply J.exit | apply E.then_exit | apply E.in_exit | (apply E.in_other; rfl) | (apply PRunV.pass; rfl; rfl) | (apply PRunV.skip; rfl; rfl; exact bsB))
    refine PRunV.er rfl rfl rfl (opV_call A1 bsD) ?_
    repeat (first | ((first | apply PRunV.s | (apply PRunV.run; rfl; rfl; exact bsB) | (apply Lq.s; rfl) | apply PRun.s | (apply Lq.run; rfl; rfl; rfl; exact bsB) | (apply PRun.run; rfl; rfl; exact bsB)); first | (exact bsO)) | apply J.seq | apply E.next | apply J.lq | apply Lq.nil | apply PRun.nil | apply J.block | apply E.in_normal | apply J.skip | (apply Lq.store; rfl; rfl; exact bsP; exact bsS; rfl; rfl) | (apply PRun.al; rfl) | (apply Lq.al; rfl; rfl; intro b) | (apply Open.cons; intro b) | apply Open.nil | (apply Lq.pass; rfl; rfl; rfl) | (apply PRun.pass; rfl; rfl) | (apply Lq.skip; rfl; rfl; rfl; exact bsB) | (apply PRun.skip; rfl; rfl; exact bsB) | (apply J.cond_t; rfl) | (apply J.cond_f; rfl) | apply J.exit | apply E.then_exit | apply E.in_exit | (apply E.in_other; rfl) | (apply PRunV.pass; rfl; rfl) | (apply PRunV.skip; rfl; rfl; exact bsB))
    refine PRunV.er rfl rfl rfl (opV_call N1 bsD) ?_
    repeat (first | ((first | apply PRunV.s | (apply PRunV.run; rfl; rfl; exact bsB) | (apply Lq.s; rfl) | apply PRun.s | (apply Lq.run; rfl; rfl; rfl; exact bsB) | (apply PRun.run; rfl; rfl; exact bsB)); first | (apply op_add (c := ((i + 1 : Nat) : Int)); rfl; rfl; (rw [show (i : Int) + 1 = ((i + 1 : Nat) : Int) by omega]; apply wrapi <;> omega)) | (exact bsO)) | apply J.seq | apply E.next | apply J.lq | apply Lq.nil | apply PRun.nil | apply J.block | apply E.in_normal | apply J.skip | (apply Lq.store; rfl; rfl; exact bsP; exact bsS; rfl; rfl) | (apply PRun.al; rfl) | (apply Lq.al; rfl; rfl; intro b) | (apply Open.cons; intro b) | apply Open.nil | (apply Lq.pass; rfl; rfl; rfl) | (apply PRun.pass; rfl; rfl) | (apply Lq.skip; rfl; rfl; rfl; exact bsB) | (apply PRun.skip; rfl; rfl; exact bsB) | (apply J.cond_t; rfl) | (apply J.cond_f; rfl) | apply J.exit | apply E.then_exit | apply E.in_exit | (apply E.in_other; rfl) | (apply PRunV.pass; rfl; rfl) | (apply PRunV.skip; rfl; rfl; exact bsB))
    refine PRunV.nil ?_
    intro D2 hV2
    repeat (first | ((first | (apply Lq.s; rfl) | apply PRun.s | (apply Lq.run; rfl; rfl; rfl; exact bsB) | (apply PRun.run; rfl; rfl; exact bsB)); first | (apply op_add (c := ((i + 1 : Nat) : Int)); rfl; rfl; (rw [show (i : Int) + 1 = ((i + 1 : Nat) : Int) by omega]; apply wrapi <;> omega)) | (exact bsO)) | apply J.seq | apply E.next | apply J.lq | apply Lq.nil | apply PRun.nil | apply J.block | apply E.in_normal | apply J.skip | (apply Lq.store; rfl; rfl; exact bsP; exact bsS; rfl; rfl) | (apply PRun.al; rfl) | (apply Lq.al; rfl; rfl; intro b) | (apply Open.cons; intro b) | apply Open.nil | (apply Lq.pass; rfl; rfl; rfl) | (apply PRun.pass; rfl; rfl) | (apply Lq.skip; rfl; rfl; rfl; exact bsB) | (apply PRun.skip; rfl; rfl; exact bsB) | (apply J.cond_t; rfl) | (apply J.cond_f; rfl) | apply J.exit | apply E.then_exit | apply E.in_exit | (apply E.in_other; rfl))
    exact E.again (i + 1, D2) (by dsimp only; omega) ⟨by dsimp only; omega, hV2⟩ (Sub.same (by repeat' (first | exact trivial | refine ⟨rfl, ?_⟩)))
  obtain rfl : i = l.length := by omega
  rw [List.take_length] at hV
  repeat (first | ((first | (apply Lq.s; rfl) | apply PRun.s | (apply Lq.run; rfl; rfl; rfl; exact bsB) | (apply PRun.run; rfl; rfl; exact bsB)); first | (apply op_len (xs := l); rfl) | (exact bsO)) | apply J.seq | apply E.next | apply J.lq | apply Lq.nil | apply PRun.nil | apply J.block | apply E.in_normal | apply J.skip | (apply Lq.store; rfl; rfl; exact bsP; exact bsS; rfl; rfl) | (apply PRun.al; rfl) | (apply Lq.al; rfl; rfl; intro b) | (apply Open.cons; intro b) | apply Open.nil | (apply Lq.pass; rfl; rfl; rfl) | (apply PRun.pass; rfl; rfl) | (apply Lq.skip; rfl; rfl; rfl; exact bsB) | (apply PRun.skip; rfl; rfl; exact bsB) | (apply J.cond_t; rfl) | (apply J.cond_f; rfl) | apply J.exit | apply E.then_exit | apply E.in_exit | (apply E.in_other; rfl))
  refine Lq.v rfl hV (opV_call (eHashes fb l (by omega)) bsD) ?_
  intro D1 hV1
  refine Lq.cut hV1 ?_
  intro D2 hV2
  repeat (first | ((first | (apply Lq.s; rfl) | apply PRun.s | (apply Lq.run; rfl; rfl; rfl; exact bsB) | (apply PRun.run; rfl; rfl; exact bsB)); first | (exact bsO)) | apply J.seq | apply E.next | apply J.lq | apply Lq.nil | apply PRun.nil | apply J.block | apply E.in_normal | apply J.skip | (apply Lq.store; rfl; rfl; exact bsP; exact bsS; rfl; rfl) | (apply PRun.al; rfl) | (apply Lq.al; rfl; rfl; intro b) | (apply Open.cons; intro b) | apply Open.nil | (apply Lq.pass; rfl; rfl; rfl) | (apply PRun.pass; rfl; rfl) | (apply Lq.skip; rfl; rfl; rfl; exact bsB) | (apply PRun.skip; rfl; rfl; exact bsB) | (apply J.cond_t; rfl) | (apply J.cond_f; rfl) | apply J.exit | apply E.then_exit | apply E.in_exit | (apply E.in_other; rfl))
  refine J.loop (fun p : Nat × Nat × Nat => p.1 ≤ 7 ∧ p.2.1 ≤ l.length ∧ l.length - p.2.1 = l.length % 2 ^ p.1 ∧ p.2.2 ≤ (edge l).length ∧ (edge l).drop p.2.2 = edge (l.drop p.2.1))
    (fun p => [(0, sl hashT.toTy l), (3, is (.pointer (some ⟨fb, 0, none⟩))), (5, sl hashT.toTy (edge l)), (6, is (.int .i64 (p.2.1 : Int))), (7, is (.int .i64 (p.2.2 : Int))), (8, is (.int .i64 ((2 ^ p.1 / 2 : Nat) : Int)))]) (fun p => D2) (fun p => p.1) (7, 0, 0) ⟨Nat.le_refl _, Nat.zero_le _, by dsimp only; omega, Nat.zero_le _, rfl⟩ (Sub.same (by repeat' (first | exact trivial | refine ⟨rfl, ?_⟩))) ?_
  rintro ⟨m, a, k⟩ ⟨hm, ha, hr, hk, hd⟩
  dsimp only at hm ha hr hk hd ⊢
  cases m with
  | zero =>
    have hal : a = l.length := by omega
    rw [hal, List.drop_length, edge_nil] at hd
    have hkl : k = (edge l).length := by
      have := congrArg List.length hd
      rw [List.length_drop] at this
      have h0 : ([] : List Hash).length = 0 := rfl
      omega
    have R3 := eRoot fb l (by omega)
    have F3 := fof_fnR l (by omega)
    have r3 := root_fn l (by omega)
    have R4 := fun gb => eRoot gb l (by omega)
    have N4 := fun gb => eLen gb l
    have hV4 := fun gb (Δ : List Res) (h : frV gb (edge l) l.length Δ) => star_mk (fre_mk h) hV2
    generalize mroot l = r at *
    generalize edge l = es at *
    rw [show 2 ^ 0 / 2 = 0 from rfl]
    repeat (first | ((first | (apply Lq.s; rfl) | apply PRun.s | (apply Lq.run; rfl; rfl; rfl; exact bsB) | (apply PRun.run; rfl; rfl; exact bsB)); first | (exact bsO)) | apply J.seq | apply E.next | apply J.lq | apply Lq.nil | apply PRun.nil | apply J.block | apply E.in_normal | apply J.skip | (apply Lq.store; rfl; rfl; exact bsP; exact bsS; rfl; rfl) | (apply PRun.al; rfl) | (apply Lq.al; rfl; rfl; intro b) | (apply Open.cons; intro b) | apply Open.nil | (apply Lq.pass; rfl; rfl; rfl) | (apply PRun.pass; rfl; rfl) | (apply Lq.skip; rfl; rfl; rfl; exact bsB) | (apply PRun.skip; rfl; rfl; exact bsB) | (apply J.cond_t; rfl) | (apply J.cond_f; rfl) | apply J.exit | apply E.then_exit | apply E.in_exit | (apply E.in_other; rfl))
    refine Lq.callS (Δ0 := []) (Δf := D2) F3 rfl bsD (List.Perm.refl _) ?_
    rintro _ D3 ⟨gb, rfl, hV3⟩
    repeat (first | ((first | (apply Lq.s; rfl) | apply PRun.s | (apply Lq.run; rfl; rfl; rfl; exact bsB) | (apply PRun.run; rfl; rfl; exact bsB)); first | (apply op_len (xs := es); rfl) | (exact bsO)) | apply J.seq | apply E.next | apply J.lq | apply Lq.nil | apply PRun.nil | apply J.block | apply E.in_normal | apply J.skip | (apply Lq.store; rfl; rfl; exact bsP; exact bsS; rfl; rfl) | (apply PRun.al; rfl) | (apply Lq.al; rfl; rfl; intro b) | (apply Open.cons; intro b) | apply Open.nil | (apply Lq.pass; rfl; rfl; rfl) | (apply PRun.pass; rfl; rfl) | (apply Lq.skip; rfl; rfl; rfl; exact bsB) | (apply PRun.skip; rfl; rfl; exact bsB) | (apply J.cond_t; rfl) | (apply J.cond_f; rfl) | apply J.exit | apply E.then_exit | apply E.in_exit | (apply E.in_other; rfl))
    refine Lq.vr rfl rfl rfl rfl (hV4 gb _ hV3) (opV_call2 R3 bsD) ?_
    intro D5 hV5
    repeat (first | ((first | (apply Lq.s; rfl) | apply PRun.s | (apply Lq.run; rfl; rfl; rfl; exact bsB) | (apply PRun.run; rfl; rfl; exact bsB)); first | (apply op_call r3; exact bsD) | (apply op_eqA_t (T := hashT) (m := 2) (eqd_arr eqd_u8) rfl rfl; rfl; rfl; rfl) | (exact bsO)) | apply J.seq | apply E.next | apply J.lq | apply Lq.nil | apply PRun.nil | apply J.block | apply E.in_normal | apply J.skip | (apply Lq.store; rfl; rfl; exact bsP; exact bsS; rfl; rfl) | (apply PRun.al; rfl) | (apply Lq.al; rfl; rfl; intro b) | (apply Open.cons; intro b) | apply Open.nil | (apply Lq.pass; rfl; rfl; rfl) | (apply PRun.pass; rfl; rfl) | (apply Lq.skip; rfl; rfl; rfl; exact bsB) | (apply PRun.skip; rfl; rfl; exact bsB) | (apply J.cond_t; rfl) | (apply J.cond_f; rfl) | apply J.exit | apply E.then_exit | apply E.in_exit | (apply E.in_other; rfl))
    refine Lq.vr rfl rfl rfl rfl hV5 (opV_call (R4 gb) bsD) ?_
    intro D6 hV6
    repeat (first | ((first | (apply Lq.s; rfl) | apply PRun.s | (apply Lq.run; rfl; rfl; rfl; exact bsB) | (apply PRun.run; rfl; rfl; exact bsB)); first | (exact bsO)) | apply J.seq | apply E.next | apply J.lq | apply Lq.nil | apply PRun.nil | apply J.block | apply E.in_normal | apply J.skip | (apply Lq.store; rfl; rfl; exact bsP; exact bsS; rfl; rfl) | (apply PRun.al; rfl) | (apply Lq.al; rfl; rfl; intro b) | (apply Open.cons; intro b) | apply Open.nil | (apply Lq.pass; rfl; rfl; rfl) | (apply PRun.pass; rfl; rfl) | (apply Lq.skip; rfl; rfl; rfl; exact bsB) | (apply PRun.skip; rfl; rfl; exact bsB) | (apply J.cond_t; rfl) | (apply J.cond_f; rfl) | apply J.exit | apply E.then_exit | apply E.in_exit | (apply E.in_other; rfl))
    refine Lq.vr rfl rfl rfl rfl hV6 (opV_call2 R3 bsD) ?_
    intro D7 hV7
    repeat (first | ((first | (apply Lq.s; rfl) | apply PRun.s | (apply Lq.run; rfl; rfl; rfl; exact bsB) | (apply PRun.run; rfl; rfl; exact bsB)); first | (apply op_eqA_t (T := hashT) (m := 2) (eqd_arr eqd_u8) rfl rfl; rfl; rfl; rfl) | (exact bsO)) | apply J.seq | apply E.next | apply J.lq | apply Lq.nil | apply PRun.nil | apply J.block | apply E.in_normal | apply J.skip | (apply Lq.store; rfl; rfl; exact bsP; exact bsS; rfl; rfl) | (apply PRun.al; rfl) | (apply Lq.al; rfl; rfl; intro b) | (apply Open.cons; intro b) | apply Open.nil | (apply Lq.pass; rfl; rfl; rfl) | (apply PRun.pass; rfl; rfl) | (apply Lq.skip; rfl; rfl; rfl; exact bsB) | (apply PRun.skip; rfl; rfl; exact bsB) | (apply J.cond_t; rfl) | (apply J.cond_f; rfl) | apply J.exit | apply E.then_exit | apply E.in_exit | (apply E.in_other; rfl))
    refine Lq.vr rfl rfl rfl rfl hV7 (opV_call (N4 gb) bsD) ?_
    intro D8 hV8
    repeat (first | ((first | (apply Lq.s; rfl) | apply PRun.s | (apply Lq.run; rfl; rfl; rfl; exact bsB) | (apply PRun.run; rfl; rfl; exact bsB)); first | (apply op_len (xs := l); rfl) | (apply op_call does10_fn; exact bsD) | (exact bsO)) | apply J.seq | apply E.next | apply J.lq | apply Lq.nil | apply PRun.nil | apply J.block | apply E.in_normal | apply J.skip | (apply Lq.store; rfl; rfl; exact bsP; exact bsS; rfl; rfl) | (apply PRun.al; rfl) | (apply Lq.al; rfl; rfl; intro b) | (apply Open.cons; intro b) | apply Open.nil | (apply Lq.pass; rfl; rfl; rfl) | (apply PRun.pass; rfl; rfl) | (apply Lq.skip; rfl; rfl; rfl; exact bsB) | (apply PRun.skip; rfl; rfl; exact bsB) | (apply J.cond_t; rfl) | (apply J.cond_f; rfl) | apply J.exit | apply E.then_exit | apply E.in_exit | (apply E.in_other; rfl))
    (refine J.ret ?_; (repeat (first | refine E.then_ret ?_ | refine E.in_ret ?_)))
    exact E.ret1 rfl rfl
  | succ j =>
    have hpj : 2 ^ (j + 1) / 2 = 2 ^ j := by rw [Nat.pow_succ]; omega
    have hp1 : 1 ≤ 2 ^ j := Nat.one_le_two_pow
    have hp2 : 2 ^ j ≤ 2 ^ 6 := Nat.pow_le_pow_right (by decide) (by omega)
    have hp2 : 2 ^ j ≤ 64 := hp2
    rw [hpj]
    by_cases hb : l.length &&& 2 ^ j = 0
    · have hoff := bit_off (by omega) (by omega) hb ha hr
      generalize hq : 2 ^ j = q at *
      repeat (first | ((first | (apply Lq.s; rfl) | apply PRun.s | (apply Lq.run; rfl; rfl; rfl; exact bsB) | (apply PRun.run; rfl; rfl; exact bsB)); first | (apply op_len (xs := l); rfl) | (apply op_andn (m := l.length) (n := q); rfl; rfl; omega; omega) | (apply op_quon (m := q) (n := 2); rfl; rfl; decide; omega) | (exact bsO)) | apply J.seq | apply E.next | apply J.lq | apply Lq.nil | apply PRun.nil | apply J.block | apply E.in_normal | apply J.skip | (apply Lq.store; rfl; rfl; exact bsP; exact bsS; rfl; rfl) | (apply PRun.al; rfl) | (apply Lq.al; rfl; rfl; intro b) | (apply Open.cons; intro b) | apply Open.nil | (apply Lq.pass; rfl; rfl; rfl) | (apply PRun.pass; rfl; rfl) | (apply Lq.skip; rfl; rfl; rfl; exact bsB) | (apply PRun.skip; rfl; rfl; exact bsB) | (apply J.cond_t; rfl) | (apply J.cond_f; rfl) | apply J.exit | apply E.then_exit | apply E.in_exit | (apply E.in_other; rfl))
      exact E.again (j, a, k) (by dsimp only; omega) ⟨by dsimp only; omega, ha, by dsimp only; rw [hq]; exact hoff, hk, hd⟩ (by dsimp only; rw [hq]; exact (Sub.same (by repeat' (first | exact trivial | refine ⟨rfl, ?_⟩))))
    · obtain ⟨k1, k2, k3⟩ := bit_on (by omega) (by omega) hb ha hr
      have hst := edge_step k1 k2
      generalize hq : 2 ^ j = q at *
      have hnd : l.length &&& q ≤ 64 := Nat.le_trans Nat.and_le_right hp2
      rw [hst] at hd
      have hkk : k < (edge l).length := by
        have := congrArg List.length hd
        rw [List.length_drop, List.length_cons] at this
        omega
      have hx : (edge l)[k]? = some (mroot ((l.take (a + q)).drop a)) := by
        have := congrArg (fun t : List Hash => t[0]?) hd
        rw [List.getElem?_drop] at this
        exact this
      have hd2 : (edge l).drop (k + 1) = edge (l.drop (a + q)) := by
        rw [← List.drop_drop, hd]; rfl
      have r4 := root_fn ((l.take (a + q)).drop a) (by rw [List.length_drop, List.length_take]; omega)
      generalize hs : (l.take (a + q)).drop a = s at *
      generalize mroot s = x at *
      repeat (first | ((first | (apply Lq.s; rfl) | apply PRun.s | (apply Lq.run; rfl; rfl; rfl; exact bsB) | (apply PRun.run; rfl; rfl; exact bsB)); first | (apply op_len (xs := l); rfl) | (apply op_andn (m := l.length) (n := q); rfl; rfl; omega; omega) | (exact bsO)) | apply J.seq | apply E.next | apply J.lq | apply Lq.nil | apply PRun.nil | apply J.block | apply E.in_normal | apply J.skip | (apply Lq.store; rfl; rfl; exact bsP; exact bsS; rfl; rfl) | (apply PRun.al; rfl) | (apply Lq.al; rfl; rfl; intro b) | (apply Open.cons; intro b) | apply Open.nil | (apply Lq.pass; rfl; rfl; rfl) | (apply PRun.pass; rfl; rfl) | (apply Lq.skip; rfl; rfl; rfl; exact bsB) | (apply PRun.skip; rfl; rfl; exact bsB) | (apply J.cond_t; rfl) | (apply J.cond_f; rfl) | apply J.exit | apply E.then_exit | apply E.in_exit | (apply E.in_other; rfl))
      refine J.drawW 18 [(none, none), (none, none), (none, none), (none, none), (none, none), (none, none), (none, none), (none, none), (none, none), (none, none), (none, none), (none, none), (none, none), (none, none), (none, none), (none, none), (none, none), (none, none)] mixed (by kernel_rfl) ?_
      repeat (first | ((first | apply PRunW.s | (apply PRunW.run; rfl; rfl; exact bsB) | (apply Lq.s; rfl) | apply PRun.s | (apply Lq.run; rfl; rfl; rfl; exact bsB) | (apply PRun.run; rfl; rfl; exact bsB)); first | (apply op_len (xs := edge l); rfl) | (apply op_iaddr hashT.toTy (x := x); rfl; rfl; exact Int.natCast_nonneg _; (rw [Int.toNat_natCast]; exact hx)) | (apply op_load hashT; rfl) | (apply op_add (c := ((a + q : Nat) : Int)); rfl; rfl; (rw [show (a : Int) + (q : Int) = ((a + q : Nat) : Int) by omega]; apply wrapi <;> omega)) | (apply op_ksl_lh (T := hashT.toTy) (lo := a) (hi := a + q) (ys := s); rfl; rfl; rfl; omega; omega; exact hs) | (apply op_call r4; exact bsD) | (apply op_neA_f (T := hashT) (m := 2) (eqd_arr eqd_u8) rfl rfl; rfl; rfl; rfl) | (exact bsO)) | apply J.seq | apply E.next | apply J.lq | apply Lq.nil | apply PRun.nil | apply J.block | apply E.in_normal | apply J.skip | (apply Lq.store; rfl; rfl; exact bsP; exact bsS; rfl; rfl) | (apply PRun.al; rfl) | (apply Lq.al; rfl; rfl; intro b) | (apply Open.cons; intro b) | apply Open.nil | (apply Lq.pass; rfl; rfl; rfl) | (apply PRun.pass; rfl; rfl) | (apply Lq.skip; rfl; rfl; rfl; exact bsB) | (apply PRun.skip; rfl; rfl; exact bsB) | (apply J.cond_t; rfl) | (apply J.cond_f; rfl) | apply J.exit | apply E.then_exit | apply E.in_exit | (apply E.in_other; rfl) | apply PRunW.nil | (apply PRunW.al; rfl) | (apply PRunW.pass; rfl; rfl) | (apply PRunW.skip; rfl; rfl; exact bsB) | (apply Open.pv; intro b) | apply Open.av | (apply Open.rv; intro A c))
      repeat (first | ((first | (apply Lq.s; rfl) | apply PRun.s | (apply Lq.run; rfl; rfl; rfl; exact bsB) | (apply PRun.run; rfl; rfl; exact bsB)); first | (apply op_add (c := ((a + q : Nat) : Int)); rfl; rfl; (rw [show (a : Int) + (q : Int) = ((a + q : Nat) : Int) by omega]; apply wrapi <;> omega)) | (apply op_add (c := ((k + 1 : Nat) : Int)); rfl; rfl; (rw [show (k : Int) + 1 = ((k + 1 : Nat) : Int) by omega]; apply wrapi <;> omega)) | (apply op_quon (m := q) (n := 2); rfl; rfl; decide; omega) | (exact bsO)) | apply J.seq | apply E.next | apply J.lq | apply Lq.nil | apply PRun.nil | apply J.block | apply E.in_normal | apply J.skip | (apply Lq.store; rfl; rfl; exact bsP; exact bsS; rfl; rfl) | (apply PRun.al; rfl) | (apply Lq.al; rfl; rfl; intro b) | (apply Open.cons; intro b) | apply Open.nil | (apply Lq.pass; rfl; rfl; rfl) | (apply PRun.pass; rfl; rfl) | (apply Lq.skip; rfl; rfl; rfl; exact bsB) | (apply PRun.skip; rfl; rfl; exact bsB) | (apply J.cond_t; rfl) | (apply J.cond_f; rfl) | apply J.exit | apply E.then_exit | apply E.in_exit | (apply E.in_other; rfl))
      exact E.again (j, a + q, k + 1) (by dsimp only; omega) ⟨by dsimp only; omega, k1, by dsimp only; rw [hq]; exact k3, hkk, hd2⟩ (by dsimp only; rw [hq]; exact (Sub.same (by repeat' (first | exact trivial | refine ⟨rfl, ?_⟩))))
end Go.Proofs.YtljdjagackdplaaDoor.L
