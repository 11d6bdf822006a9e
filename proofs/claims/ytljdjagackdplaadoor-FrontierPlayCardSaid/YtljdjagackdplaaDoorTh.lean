/-
  The document's root, and the law RootsTell, walked.
-/
import Derived.Test.YtljdjagackdplaaDoorTg
import Derived.Test.YtljdjagackdplaaDoorVd
namespace Go.Proofs.YtljdjagackdplaaDoor.L
open Go
set_option linter.unusedSectionVars false
variable [Globs] [Has_sha_table] [Has_sha_begin]
theorem Fn.weak {P : Program} {f : Nat} {φs φs' : List Pr} {ψ : Pr} (F : Fn P f φs ψ) (h : ∀ H vs, All2 (fun φ v => φ.h H v) φs' vs → All2 (fun φ v => φ.h H v) φs vs) : Fn P f φs' ψ :=
  ⟨F.ent, fun H w vs hs hv => F.run H w vs hs (h H vs hv)⟩
/-- A slice of the first hi elements of a row that is known for good. -/
def slw {α : Type} (T : Ty α) (xs : List α) (hi : Nat) : Pr := ⟨fun H v => ∃ a cap, v = .slice a hi cap ∧ hi ≤ xs.length ∧ xs.length ≤ cap ∧ cap ≤ maxLen ∧ (a = none → cap = 0) ∧ (0 < xs.length → ∃ b o, a = some ⟨b, o, none⟩ ∧ ∀ i φ, (flat T xs)[i]? = some φ → ∃ c, H b (o + i) = some c ∧ φ.c H c),
  fun hle ⟨a, cap, hv, h0, h1, h2, h3, h⟩ => ⟨a, cap, hv, h0, h1, h2, h3, fun hn => let ⟨b, o, ha, hc⟩ := h hn; ⟨b, o, ha, fun i φ hi => let ⟨c, hc, hφ⟩ := hc i φ hi; ⟨c, hle _ _ _ hc, Pr.c_mono hle hφ⟩⟩⟩⟩
theorem slw_sl {α : Type} {T : Ty α} {xs ys : List α} {hi : Nat} (he : xs.take hi = ys) (H : IH) (v : Value) (h : (slw T xs hi).h H v) : (sl T ys).h H v := by
  obtain ⟨a, cap, rfl, h0, h1, h2, h3, h4⟩ := h
  subst he
  have hl : (xs.take hi).length = hi := by rw [List.length_take]; omega
  refine ⟨a, cap, by rw [hl], by omega, h2, h3, fun hp => ?_⟩
  obtain ⟨b, o, ha, hc⟩ := h4 (by omega)
  exact ⟨b, o, ha, fun i φ hi => hc i φ (flat_take T xs _ i φ hi)⟩
section
variable {P : Program} {Γ : Env} {Δ : List Res} {d : Option Nat} {ty : Nat} {pos : String} {af : Array Edge} {g : Option (Nat × Bool)} {x y : Operand} {t yt : Nat} {α : Type}
theorem op_ksl_w {T : Ty α} {xs : List α} {e sz hi : Nat} {k : IntKind} (h : opd Γ x = some (sl T xs)) (hh : opd Γ y = some (is (.int k (hi : Int)))) [ht : TSl P t e] [TSz P e sz] (h1 : hi ≤ xs.length) : OpP P Γ Δ ⟨d, .slice t x none (some y) none, ty, pos, af, g⟩ (slw T xs hi) :=
  OpP.same fun H A w hxx hs => by
    obtain ⟨ad, cap, hv, c1, c2, c3, hel⟩ := hxx x (by simp [Op.operands]) _ h
    have hi' : A.eval y = .int k (hi : Int) := hxx y (by simp [Op.operands]) _ hh
    refine ⟨.slice ad hi cap, ?_, ad, cap, rfl, h1, c1, c2, c3, hel⟩
    simp only [execOp, hv]
    refine run_value ?_
    rw [run_sliceAt_sl ht.h]
    unfold Instr.slice
    refine (run_bind (underlying t) _ w (run_underlying' ht.h)).trans ?_
    simp only [Option.map_some, Option.map_none, hi']
    refine (run_bind (Instr.sliceBounds true xs.length cap none (some (.int k (hi : Int))) none) _ w (a := (0, hi, cap)) (w' := w) ?_).trans ?_
    · unfold Instr.sliceBounds
      simp only [Sem.run_bind, Sem.run_pure, Result.andThen_ok, run_bound (show hi ≤ cap by omega)]
    · refine (run_bind (sizeOf e) _ w (run_sizeOf (t := e) (n := sz))).trans ?_
      show Result.ok (Value.slice (if cap = 0 then ad else ad.map (·.add (0 * sz))) (hi - 0) (cap - 0)) w = _
      rw [Nat.zero_mul, Addr.map_add0, ite_self]
      rfl
/-- Its first hi elements, though it is shorter. -/
theorem op_slw_hi {T : Ty α} {xs : List α} {e sz m hi : Nat} {k : IntKind} (h : opd Γ x = some (slw T xs m)) (hh : opd Γ y = some (is (.int k (hi : Int)))) [ht : TSl P t e] [TSz P e sz] (h1 : hi ≤ xs.length) : OpP P Γ Δ ⟨d, .slice t x none (some y) none, ty, pos, af, g⟩ (sl T (xs.take hi)) :=
  OpP.same fun H A w hxx hs => by
    obtain ⟨ad, cap, hv, c0, c1, c2, c3, hel⟩ := hxx x (by simp [Op.operands]) _ h
    have hi' : A.eval y = .int k (hi : Int) := hxx y (by simp [Op.operands]) _ hh
    refine ⟨.slice ad hi cap, ?_, slw_sl rfl H _ ⟨ad, cap, rfl, h1, c1, c2, c3, hel⟩⟩
    simp only [execOp, hv]
    refine run_value ?_
    rw [run_sliceAt_sl ht.h]
    unfold Instr.slice
    refine (run_bind (underlying t) _ w (run_underlying' ht.h)).trans ?_
    simp only [Option.map_some, Option.map_none, hi']
    refine (run_bind (Instr.sliceBounds true m cap none (some (.int k (hi : Int))) none) _ w (a := (0, hi, cap)) (w' := w) ?_).trans ?_
    · unfold Instr.sliceBounds
      simp only [Sem.run_bind, Sem.run_pure, Result.andThen_ok, run_bound (show hi ≤ cap by omega)]
    · refine (run_bind (sizeOf e) _ w (run_sizeOf (t := e) (n := sz))).trans ?_
      show Result.ok (Value.slice (if cap = 0 then ad else ad.map (·.add (0 * sz))) (hi - 0) (cap - 0)) w = _
      rw [Nat.zero_mul, Addr.map_add0, ite_self]
      rfl
theorem op_slwlen {T : Ty α} {xs : List α} {m e : Nat} (h : opd Γ x = some (slw T xs m)) [ht : TSl P t e] : OpP P Γ Δ ⟨d, .call ⟨.builtin .len, #[x], #[t]⟩, ty, pos, af, g⟩ (is (.int .i64 (m : Int))) :=
  OpP.same fun H a w hx hs => by
    obtain ⟨ad, cap, hv, _⟩ := hx x (by simp [Op.operands, Call.operands]) _ h
    refine ⟨_, run_builtin fun c => ?_, rfl⟩
    refine run_value (x := Builtin.len_ #[t] ty #[a.eval x]) ?_
    rw [hv]
    exact (run_bind (underlying t) _ w (run_underlying' ht.h)).trans rfl
end
def seven : Hash := ⟨7 :: List.replicate 31 0, rfl⟩
set_option linter.unusedVariables false
set_option linter.unusedSimpArgs false
attribute [local irreducible] J Lq E OpP PRun is any agg tup ptr sl PRunW OpE
attribute [local irreducible] up2 mroot nodeH leafH emptyH shaH ownAt row someL leafOf splitZ split slw
section
variable [Has_ref02_k]
theorem refnodeH_fn (p q : Hash) : Fn Tryd.prog 37 [hashT.val p, hashT.val q] (hashT.val (nodeH p q)) := (refnode_fn p q).to (by unfold nodeH; rfl)
theorem refemptyH_fn : Fn Tryd.prog 36 [] (hashT.val emptyH) := refempty_fn.to (by unfold emptyH; rfl)
theorem refsplitN_fn (n : Nat) (h : n ≤ 9223372036854775807) : Fn Tryd.prog 19 [is (.int .i64 (n : Int))] (is (.int .i64 ((split n : Nat) : Int))) :=
  (refsplit_fn (n : Int) (by omega) (by omega)).to (by rw [splitZ_nat])
theorem refroot_fn : ∀ (n : Nat) (l : List Hash), l.length = n → l.length ≤ 100000 → Fn Tryd.prog 15 [sl hashT.toTy l] (hashT.val (mroot l)) := by
  intro n
  induction n using Nat.strongRecOn with
  | _ n ih =>
    intro l hn hl
    by_cases h0 : l.length = 0
    · obtain rfl := List.eq_nil_of_length_eq_zero h0
      rw [mroot_nil]
      refine Fn.mk' 26 Tryd.func15 rfl rfl rfl rfl fun w0 H0 => ?_
      repeat (first | ((first | (apply Lq.s; rfl) | apply PRun.s | (apply Lq.run; rfl; rfl; rfl; exact bsB) | (apply PRun.run; rfl; rfl; exact bsB)); first | (apply op_call refemptyH_fn; exact bsD) | (exact bsO)) | apply J.seq | apply E.next | apply J.lq | apply Lq.nil | apply PRun.nil | apply J.block | apply E.in_normal | apply J.skip | (apply Lq.store; rfl; rfl; exact bsP; exact bsS; rfl; rfl) | (apply PRun.al; rfl) | (apply Lq.al; rfl; rfl; intro b) | (apply Open.cons; intro b) | apply Open.nil | (apply Lq.pass; rfl; rfl; rfl) | (apply PRun.pass; rfl; rfl) | (apply Lq.skip; rfl; rfl; rfl; exact bsB) | (apply PRun.skip; rfl; rfl; exact bsB) | (apply J.drawN; exact mixed; kernel_rfl) | (apply J.cond_t; rfl) | (apply J.cond_f; rfl) | apply J.exit | apply E.then_exit | apply E.in_exit | (apply E.in_other; rfl))
      (apply Lq.store; rfl; rfl; exact List.Perm.refl _; exact Seg.val _ _; exact hashT.len _; rfl)
      repeat (first | ((first | (apply Lq.s; rfl) | apply PRun.s | (apply Lq.run; rfl; rfl; rfl; exact bsB) | (apply PRun.run; rfl; rfl; exact bsB)); first | (exact bsO)) | apply J.seq | apply E.next | apply J.lq | apply Lq.nil | apply PRun.nil | apply J.block | apply E.in_normal | apply J.skip | (apply Lq.store; rfl; rfl; exact bsP; exact bsS; rfl; rfl) | (apply PRun.al; rfl) | (apply Lq.al; rfl; rfl; intro b) | (apply Open.cons; intro b) | apply Open.nil | (apply Lq.pass; rfl; rfl; rfl) | (apply PRun.pass; rfl; rfl) | (apply Lq.skip; rfl; rfl; rfl; exact bsB) | (apply PRun.skip; rfl; rfl; exact bsB) | (apply J.drawN; exact mixed; kernel_rfl) | (apply J.cond_t; rfl) | (apply J.cond_f; rfl) | apply J.exit | apply E.then_exit | apply E.in_exit | (apply E.in_other; rfl))
      (refine J.ret ?_; (repeat (first | refine E.then_ret ?_ | refine E.in_ret ?_)))
      exact E.retc hashT (x := emptyH) rfl rfl List.mem_cons_self (show (List.take 0 _ ++ hashT.cells _ ++ List.drop _ _).take 32 = _ from by rw [List.take_zero, List.nil_append]; exact List.take_left' (hashT.len _)) rfl
    · by_cases h1 : l.length = 1
      · obtain ⟨a, rfl⟩ := List.length_eq_one_iff.1 h1
        rw [mroot_one]
        refine Fn.mk' 26 Tryd.func15 rfl rfl rfl rfl fun w0 H0 => ?_
        repeat (first | ((first | (apply Lq.s; rfl) | apply PRun.s | (apply Lq.run; rfl; rfl; rfl; exact bsB) | (apply PRun.run; rfl; rfl; exact bsB)); first | (apply op_iaddr hashT.toTy (x := a); rfl; rfl; decide; rfl) | (apply op_load hashT; rfl) | (exact bsO)) | apply J.seq | apply E.next | apply J.lq | apply Lq.nil | apply PRun.nil | apply J.block | apply E.in_normal | apply J.skip | (apply Lq.store; rfl; rfl; exact bsP; exact bsS; rfl; rfl) | (apply PRun.al; rfl) | (apply Lq.al; rfl; rfl; intro b) | (apply Open.cons; intro b) | apply Open.nil | (apply Lq.pass; rfl; rfl; rfl) | (apply PRun.pass; rfl; rfl) | (apply Lq.skip; rfl; rfl; rfl; exact bsB) | (apply PRun.skip; rfl; rfl; exact bsB) | (apply J.drawN; exact mixed; kernel_rfl) | (apply J.cond_t; rfl) | (apply J.cond_f; rfl) | apply J.exit | apply E.then_exit | apply E.in_exit | (apply E.in_other; rfl))
        (apply Lq.store; rfl; rfl; exact List.Perm.refl _; exact Seg.val _ _; exact hashT.len _; rfl)
        repeat (first | ((first | (apply Lq.s; rfl) | apply PRun.s | (apply Lq.run; rfl; rfl; rfl; exact bsB) | (apply PRun.run; rfl; rfl; exact bsB)); first | (exact bsO)) | apply J.seq | apply E.next | apply J.lq | apply Lq.nil | apply PRun.nil | apply J.block | apply E.in_normal | apply J.skip | (apply Lq.store; rfl; rfl; exact bsP; exact bsS; rfl; rfl) | (apply PRun.al; rfl) | (apply Lq.al; rfl; rfl; intro b) | (apply Open.cons; intro b) | apply Open.nil | (apply Lq.pass; rfl; rfl; rfl) | (apply PRun.pass; rfl; rfl) | (apply Lq.skip; rfl; rfl; rfl; exact bsB) | (apply PRun.skip; rfl; rfl; exact bsB) | (apply J.drawN; exact mixed; kernel_rfl) | (apply J.cond_t; rfl) | (apply J.cond_f; rfl) | apply J.exit | apply E.then_exit | apply E.in_exit | (apply E.in_other; rfl))
        (refine J.ret ?_; (repeat (first | refine E.then_ret ?_ | refine E.in_ret ?_)))
        exact E.retc hashT (x := a) rfl rfl List.mem_cons_self (show (List.take 0 _ ++ hashT.cells _ ++ List.drop _ _).take 32 = _ from by rw [List.take_zero, List.nil_append]; exact List.take_left' (hashT.len _)) rfl
      · have hsp := refsplitN_fn l.length (by omega)
        have hroot := mroot_split (l := l) (by omega)
        obtain ⟨k1, k2, k3⟩ := split_lt (n := l.length) (by omega)
        generalize split l.length = k at *
        have hk1 : (l.take k).length = k := by rw [List.length_take]; omega
        have hk2 : (l.drop k).length = l.length - k := List.length_drop
        have c1 := ih k (by omega) (l.take k) hk1 (by omega)
        have c2 := ih (l.length - k) (by omega) (l.drop k) hk2 (by omega)
        rw [hroot]
        refine Fn.mk' 26 Tryd.func15 rfl rfl rfl rfl fun w0 H0 => ?_
        repeat (first | ((first | (apply Lq.s; rfl) | apply PRun.s | (apply Lq.run; rfl; rfl; rfl; exact bsB) | (apply PRun.run; rfl; rfl; exact bsB)); first | (apply op_call hsp; exact bsD) | (apply op_ksl_hi (T := hashT.toTy) (hi := k); rfl; rfl; omega) | (apply op_ksl_lo (T := hashT.toTy) (lo := k); rfl; rfl; omega) | (apply op_call c1; exact bsD) | (apply op_call c2; exact bsD) | (apply op_call (refnodeH_fn (mroot (l.take k)) (mroot (l.drop k))); exact bsD) | (exact bsO)) | apply J.seq | apply E.next | apply J.lq | apply Lq.nil | apply PRun.nil | apply J.block | apply E.in_normal | apply J.skip | (apply Lq.store; rfl; rfl; exact bsP; exact bsS; rfl; rfl) | (apply PRun.al; rfl) | (apply Lq.al; rfl; rfl; intro b) | (apply Open.cons; intro b) | apply Open.nil | (apply Lq.pass; rfl; rfl; rfl) | (apply PRun.pass; rfl; rfl) | (apply Lq.skip; rfl; rfl; rfl; exact bsB) | (apply PRun.skip; rfl; rfl; exact bsB) | (apply J.drawN; exact mixed; kernel_rfl) | (apply J.cond_t; rfl) | (apply J.cond_f; rfl) | apply J.exit | apply E.then_exit | apply E.in_exit | (apply E.in_other; rfl))
        (apply Lq.store; rfl; rfl; exact List.Perm.refl _; exact Seg.val _ _; exact hashT.len _; rfl)
        repeat (first | ((first | (apply Lq.s; rfl) | apply PRun.s | (apply Lq.run; rfl; rfl; rfl; exact bsB) | (apply PRun.run; rfl; rfl; exact bsB)); first | (exact bsO)) | apply J.seq | apply E.next | apply J.lq | apply Lq.nil | apply PRun.nil | apply J.block | apply E.in_normal | apply J.skip | (apply Lq.store; rfl; rfl; exact bsP; exact bsS; rfl; rfl) | (apply PRun.al; rfl) | (apply Lq.al; rfl; rfl; intro b) | (apply Open.cons; intro b) | apply Open.nil | (apply Lq.pass; rfl; rfl; rfl) | (apply PRun.pass; rfl; rfl) | (apply Lq.skip; rfl; rfl; rfl; exact bsB) | (apply PRun.skip; rfl; rfl; exact bsB) | (apply J.drawN; exact mixed; kernel_rfl) | (apply J.cond_t; rfl) | (apply J.cond_f; rfl) | apply J.exit | apply E.then_exit | apply E.in_exit | (apply E.in_other; rfl))
        (refine J.ret ?_; (repeat (first | refine E.then_ret ?_ | refine E.in_ret ?_)))
        exact E.retc hashT (x := nodeH (mroot (l.take k)) (mroot (l.drop k))) rfl rfl List.mem_cons_self (show (List.take 0 _ ++ hashT.cells _ ++ List.drop _ _).take 32 = _ from by rw [List.take_zero, List.nil_append]; exact List.take_left' (hashT.len _)) rfl
end
theorem same_fn (l : List Hash) (hl : l.length ≤ 1000000) : Fn Tryd.prog 16 [sl hashT.toTy l, sl hashT.toTy l] (is (.bool true)) := by
  refine Fn.mk' 26 Tryd.func16 rfl rfl rfl rfl fun w0 H0 => ?_
  repeat (first | ((first | (apply Lq.s; rfl) | apply PRun.s | (apply Lq.run; rfl; rfl; rfl; exact bsB) | (apply PRun.run; rfl; rfl; exact bsB)); first | (exact bsO)) | apply J.seq | apply E.next | apply J.lq | apply Lq.nil | apply PRun.nil | apply J.block | apply E.in_normal | apply J.skip | (apply Lq.store; rfl; rfl; exact bsP; exact bsS; rfl; rfl) | (apply PRun.al; rfl) | (apply Lq.al; rfl; rfl; intro b) | (apply Open.cons; intro b) | apply Open.nil | (apply Lq.pass; rfl; rfl; rfl) | (apply PRun.pass; rfl; rfl) | (apply Lq.skip; rfl; rfl; rfl; exact bsB) | (apply PRun.skip; rfl; rfl; exact bsB) | (apply J.drawN; exact mixed; kernel_rfl) | (apply J.cond_t; rfl) | (apply J.cond_f; rfl) | apply J.exit | apply E.then_exit | apply E.in_exit | (apply E.in_other; rfl))
  refine J.loop (fun i : Nat => i ≤ l.length) (fun i => [(0, sl hashT.toTy l), (1, sl hashT.toTy l), (5, is (.int .i64 (i : Int)))]) (fun _ => []) (fun i => l.length - i) 0 (Nat.zero_le _) (Sub.same (by repeat' (first | exact trivial | refine ⟨rfl, ?_⟩))) ?_
  rintro i hi
  by_cases hlt : i < l.length
  · obtain ⟨p, hp⟩ : ∃ p, l[i]? = some p := ⟨_, List.getElem?_eq_getElem hlt⟩
    repeat (first | ((first | (apply Lq.s; rfl) | apply PRun.s | (apply Lq.run; rfl; rfl; rfl; exact bsB) | (apply PRun.run; rfl; rfl; exact bsB)); first | (apply op_iaddr hashT.toTy (x := p); rfl; rfl; exact Int.natCast_nonneg _; (rw [Int.toNat_natCast]; exact hp)) | (apply op_load hashT; rfl) | (apply op_neA_f (T := hashT) (m := 2) (eqd_arr eqd_u8) rfl rfl; rfl; rfl; rfl) | (exact bsO)) | apply J.seq | apply E.next | apply J.lq | apply Lq.nil | apply PRun.nil | apply J.block | apply E.in_normal | apply J.skip | (apply Lq.store; rfl; rfl; exact bsP; exact bsS; rfl; rfl) | (apply PRun.al; rfl) | (apply Lq.al; rfl; rfl; intro b) | (apply Open.cons; intro b) | apply Open.nil | (apply Lq.pass; rfl; rfl; rfl) | (apply PRun.pass; rfl; rfl) | (apply Lq.skip; rfl; rfl; rfl; exact bsB) | (apply PRun.skip; rfl; rfl; exact bsB) | (apply J.drawN; exact mixed; kernel_rfl) | (apply J.cond_t; rfl) | (apply J.cond_f; rfl) | apply J.exit | apply E.then_exit | apply E.in_exit | (apply E.in_other; rfl))
    exact E.again (i + 1) (by omega) (by omega) (Sub.same (by repeat' (first | exact trivial | refine ⟨rfl, ?_⟩)))
  · obtain rfl : i = l.length := by omega
    repeat (first | ((first | (apply Lq.s; rfl) | apply PRun.s | (apply Lq.run; rfl; rfl; rfl; exact bsB) | (apply PRun.run; rfl; rfl; exact bsB)); first | (exact bsO)) | apply J.seq | apply E.next | apply J.lq | apply Lq.nil | apply PRun.nil | apply J.block | apply E.in_normal | apply J.skip | (apply Lq.store; rfl; rfl; exact bsP; exact bsS; rfl; rfl) | (apply PRun.al; rfl) | (apply Lq.al; rfl; rfl; intro b) | (apply Open.cons; intro b) | apply Open.nil | (apply Lq.pass; rfl; rfl; rfl) | (apply PRun.pass; rfl; rfl) | (apply Lq.skip; rfl; rfl; rfl; exact bsB) | (apply PRun.skip; rfl; rfl; exact bsB) | (apply J.drawN; exact mixed; kernel_rfl) | (apply J.cond_t; rfl) | (apply J.cond_f; rfl) | apply J.exit | apply E.then_exit | apply E.in_exit | (apply E.in_other; rfl))
    (refine J.ret ?_; (repeat (first | refine E.then_ret ?_ | refine E.in_ret ?_)))
    exact E.ret1 rfl rfl
theorem weak2 {φ φ' χ : Pr} (h : ∀ H v, φ'.h H v → φ.h H v) : ∀ H vs, All2 (fun (φ : Pr) v => φ.h H v) [φ', χ] vs → All2 (fun (φ : Pr) v => φ.h H v) [φ, χ] vs
  | H, [v, u], ⟨h1, h2⟩ => ⟨h H v h1, h2⟩
  | _, [], h => h.elim
  | _, [_], ⟨_, h⟩ => h.elim
  | _, _ :: _ :: _ :: _, ⟨_, _, h⟩ => h.elim
theorem rootsTell [Has_ref02_k] (l : List Hash) (_h : l.length ≤ maxLen ∧ ∀ x ∈ l, True) : Fn Tryd.prog 3 [sl hashT.toTy l] (is (.bool true)) := by
  by_cases hbig : 100 < l.length
  · refine Fn.mk' 45 Tryd.func3 rfl rfl rfl rfl fun w0 H0 => ?_
    repeat (first | ((first | (apply Lq.s; rfl) | apply PRun.s | (apply Lq.run; rfl; rfl; rfl; exact bsB) | (apply PRun.run; rfl; rfl; exact bsB)); first | (exact bsO)) | apply J.seq | apply E.next | apply J.lq | apply Lq.nil | apply PRun.nil | apply J.block | apply E.in_normal | apply J.skip | (apply Lq.store; rfl; rfl; exact bsP; exact bsS; rfl; rfl) | (apply PRun.al; rfl) | (apply Lq.al; rfl; rfl; intro b) | (apply Open.cons; intro b) | apply Open.nil | (apply Lq.pass; rfl; rfl; rfl) | (apply PRun.pass; rfl; rfl) | (apply Lq.skip; rfl; rfl; rfl; exact bsB) | (apply PRun.skip; rfl; rfl; exact bsB) | (apply J.drawN; exact mixed; kernel_rfl) | (apply J.cond_t; rfl) | (apply J.cond_f; rfl) | apply J.exit | apply E.then_exit | apply E.in_exit | (apply E.in_other; rfl))
    (refine J.ret ?_; (repeat (first | refine E.then_ret ?_ | refine E.in_ret ?_)))
    exact E.ret1 rfl rfl
  · have htk : (l ++ [seven]).take l.length = l := List.take_left' rfl
    have hll : (l ++ [seven]).length = l.length + 1 := by rw [List.length_append]; rfl
    have htk2 : (l ++ [seven]).take (l.length + 1) = l ++ [seven] := List.take_of_length_le (by omega)
    have hat : ((l ++ [seven]).take (l.length + 1))[l.length]? = some seven := by rw [htk2, List.getElem?_append_right (Nat.le_refl _), Nat.sub_self]; rfl
    refine Fn.mk' 45 Tryd.func3 rfl rfl rfl rfl fun w0 H0 => ?_
    repeat (first | ((first | (apply Lq.s; rfl) | apply PRun.s | (apply Lq.run; rfl; rfl; rfl; exact bsB) | (apply PRun.run; rfl; rfl; exact bsB)); first | (exact bsO)) | apply J.seq | apply E.next | apply J.lq | apply Lq.nil | apply PRun.nil | apply J.block | apply E.in_normal | apply J.skip | (apply Lq.store; rfl; rfl; exact bsP; exact bsS; rfl; rfl) | (apply PRun.al; rfl) | (apply Lq.al; rfl; rfl; intro b) | (apply Open.cons; intro b) | apply Open.nil | (apply Lq.pass; rfl; rfl; rfl) | (apply PRun.pass; rfl; rfl) | (apply Lq.skip; rfl; rfl; rfl; exact bsB) | (apply PRun.skip; rfl; rfl; exact bsB) | (apply J.drawN; exact mixed; kernel_rfl) | (apply J.cond_t; rfl) | (apply J.cond_f; rfl) | apply J.exit | apply E.then_exit | apply E.in_exit | (apply E.in_other; rfl))
    (apply Lq.makeRow (T := hashT.toTy) (n := l.length + 1); rfl; rfl; rfl; rfl; rfl; (show 32 ≠ 0; decide); omega; (unfold maxLen; omega))
    intro bm
    repeat (first | ((first | (apply Lq.s; rfl) | apply PRun.s | (apply Lq.run; rfl; rfl; rfl; exact bsB) | (apply PRun.run; rfl; rfl; exact bsB)); first | (exact bsO)) | apply J.seq | apply E.next | apply J.lq | apply Lq.nil | apply PRun.nil | apply J.block | apply E.in_normal | apply J.skip | (apply Lq.store; rfl; rfl; exact bsP; exact bsS; rfl; rfl) | (apply PRun.al; rfl) | (apply Lq.al; rfl; rfl; intro b) | (apply Open.cons; intro b) | apply Open.nil | (apply Lq.pass; rfl; rfl; rfl) | (apply PRun.pass; rfl; rfl) | (apply Lq.skip; rfl; rfl; rfl; exact bsB) | (apply PRun.skip; rfl; rfl; exact bsB) | (apply J.drawN; exact mixed; kernel_rfl) | (apply J.cond_t; rfl) | (apply J.cond_f; rfl) | apply J.exit | apply E.then_exit | apply E.in_exit | (apply E.in_other; rfl))
    (apply Lq.append (T := hashT) (xs := []) (ys := l); rfl; exact List.Perm.refl _; (apply From.sl; rfl); rfl; rfl; rfl; (show 0 + _ ≤ maxLen; unfold maxLen; omega); (show (0 + _) * 32 ≤ _; omega))
    intro A1 c1
    rw [List.nil_append]
    repeat (first | ((first | (apply Lq.s; rfl) | apply PRun.s | (apply Lq.run; rfl; rfl; rfl; exact bsB) | (apply PRun.run; rfl; rfl; exact bsB)); first | (apply op_buildT hashT seven; rfl; rfl; (repeat (first | exact BP.nil _ | (apply BP.cons; rfl; rfl; exact bsS; rfl; rfl))); rfl) | (apply op_bslice hashT (xs := [seven]); (repeat (first | exact PO.nil _ | (apply PO.cons; rfl))); rfl; rfl; rfl) | (exact bsO)) | apply J.seq | apply E.next | apply J.lq | apply Lq.nil | apply PRun.nil | apply J.block | apply E.in_normal | apply J.skip | (apply Lq.store; rfl; rfl; exact bsP; exact bsS; rfl; rfl) | (apply PRun.al; rfl) | (apply Lq.al; rfl; rfl; intro b) | (apply Open.cons; intro b) | apply Open.nil | (apply Lq.pass; rfl; rfl; rfl) | (apply PRun.pass; rfl; rfl) | (apply Lq.skip; rfl; rfl; rfl; exact bsB) | (apply PRun.skip; rfl; rfl; exact bsB) | (apply J.drawN; exact mixed; kernel_rfl) | (apply J.cond_t; rfl) | (apply J.cond_f; rfl) | apply J.exit | apply E.then_exit | apply E.in_exit | (apply E.in_other; rfl))
    (apply Lq.append (T := hashT) (xs := l) (ys := [seven]); rfl; exact List.Perm.refl _; (apply From.sl; rfl); rfl; rfl; rfl; (show _ + 1 ≤ maxLen; unfold maxLen; omega); (show (_ + 1) * 32 ≤ _; omega))
    intro A2 c2
    refine Lq.freeze 15 rfl (List.Perm.refl _) ?_
    repeat (first | ((first | (apply Lq.s; rfl) | apply PRun.s | (apply Lq.run; rfl; rfl; rfl; exact bsB) | (apply PRun.run; rfl; rfl; exact bsB)); first | (apply op_ksl_w (T := hashT.toTy) (hi := l.length); rfl; rfl; omega) | (apply op_call ((root_fn l (by omega)).weak1 (slw_sl htk)); exact bsD) | (apply op_call (refroot_fn _ l rfl (by omega)); exact bsD) | (apply op_eqA_t (T := hashT) (m := 2) (eqd_arr eqd_u8) rfl rfl; rfl; rfl; rfl) | (apply op_call ((same_fn l (by omega)).weak (weak2 (slw_sl htk))); exact bsD) | (apply op_slwlen; rfl) | (apply op_slw_hi (T := hashT.toTy) (hi := l.length + 1); rfl; rfl; omega) | (apply op_iaddr hashT.toTy (x := seven); rfl; rfl; exact Int.natCast_nonneg _; (rw [Int.toNat_natCast]; exact hat)) | (apply op_load hashT; rfl) | (apply op_buildT hashT seven; rfl; rfl; (repeat (first | exact BP.nil _ | (apply BP.cons; rfl; rfl; exact bsS; rfl; rfl))); rfl) | (apply op_call does09_fn; exact bsD) | (exact bsO)) | apply J.seq | apply E.next | apply J.lq | apply Lq.nil | apply PRun.nil | apply J.block | apply E.in_normal | apply J.skip | (apply Lq.store; rfl; rfl; exact bsP; exact bsS; rfl; rfl) | (apply PRun.al; rfl) | (apply Lq.al; rfl; rfl; intro b) | (apply Open.cons; intro b) | apply Open.nil | (apply Lq.pass; rfl; rfl; rfl) | (apply PRun.pass; rfl; rfl) | (apply Lq.skip; rfl; rfl; rfl; exact bsB) | (apply PRun.skip; rfl; rfl; exact bsB) | (apply J.drawN; exact mixed; kernel_rfl) | (apply J.cond_t; rfl) | (apply J.cond_f; rfl) | apply J.exit | apply E.then_exit | apply E.in_exit | (apply E.in_other; rfl))
    (refine J.ret ?_; (repeat (first | refine E.then_ret ?_ | refine E.in_ret ?_)))
    exact E.ret1 rfl rfl
end Go.Proofs.YtljdjagackdplaaDoor.L
