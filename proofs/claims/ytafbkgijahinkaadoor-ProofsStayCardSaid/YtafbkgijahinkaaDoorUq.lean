/-
  Proofs of inclusion and of consistency from streams; the chapter's stream; the law ProofsEnds.
-/
import Derived.Test.YtafbkgijahinkaaDoorUp
namespace Go.Proofs.YtafbkgijahinkaaDoor.L
open Go
set_option linter.unusedSectionVars false
variable [Globs] [Has_sha_table] [Has_sha_begin]
set_option linter.unusedVariables false
theorem rec_key (p : Hash) : splice (recT.cells zeroRec) 2 (hashT.cells p) = recT.cells { zeroRec with hash := p } := by
  unfold splice
  rw [hashT.len]
  rfl
theorem op_recH {P : Program} {Γ : Env} {Δ : List Res} {d : Option Nat} {ty t : Nat} {pos : String} {af : Array Edge} {g : Option (Nat × Bool)} {x : Operand} {p : Hash} {z : Value} {pl : Nat → Option (Nat × Nat)} [hz : TZero P t z] [hp : TPl P t pl] (h1 : opd Γ x = some (hashT.val p)) (hl : z.cells.toList.map is = recT.cells zeroRec) (ho : z.cells.toList.all (fun v => v.oneCell') = true) (e0 : pl 2 = some (2, 32)) :
    OpP P Γ Δ ⟨d, .build t #[(2, x)], ty, pos, af, g⟩ (recT.val { zeroRec with hash := p }) := by
  have hb := op_build (P := P) (Γ := Γ) (Δ := Δ) (d := d) (ty := ty) (pos := pos) (af := af) (g := g) (t := t) (z := z) (pl := pl) (ps := [(2, x)]) (φs := recT.cells { zeroRec with hash := p }) ho
    (BP.cons e0 h1 (Seg.val hashT p) (hashT.len p) (by rw [hl]; rfl) (by rw [hl, rec_key]; exact BP.nil _))
  exact hb
def life (x y z : Hash) : StreamS := ⟨[97], 0, [], [{ zeroRec with hash := x }, { zeroRec with hash := y }, { zeroRec with hash := z }]⟩
theorem life_lvs (x y z : Hash) : lvs (life x y z) = [x, y, z] := rfl
theorem life_conv (x y z : Hash) : ∀ H v, (ptr [is (str [97]), is (.int .i64 0), is (.slice none 0 0), sl recT.toTy (life x y z).recs]).h H v → (ptr (streamT.cells (life x y z))).h H v := ptr_conv fun i ψ hi => by
  match i, hi with
  | 0, hi => injection hi with hi; subst hi; exact ⟨_, rfl, fun H c k => k⟩
  | 1, hi => injection hi with hi; subst hi; exact ⟨_, rfl, fun H c k => k⟩
  | 2, hi => injection hi with hi; subst hi; exact ⟨_, rfl, fun H c k => sl_nil H c k⟩
  | 3, hi => injection hi with hi; subst hi; exact ⟨_, rfl, fun H c k => k⟩
  | n + 4, hi => cases hi
set_option linter.unusedVariables false
set_option linter.unusedSimpArgs false
attribute [local irreducible] J Lq E OpP PRun is any agg tup ptr sl PRunW OpE
attribute [local irreducible] up2 mroot nodeH leafH emptyH shaH ownAt row someL leafOf splitZ split rv join2 edge rootE frV inc cpart lvs
theorem pinc_bad (s : StreamS) (i n : Int) (hl : s.recs.length ≤ 70000) (h : n < 0 ∨ (s.recs.length : Int) < n ∨ i < 0 ∨ n ≤ i) : Fn Tryd.prog 8 [streamT.val s, is (.int .i64 i), is (.int .i64 n)] (tup [is (.slice none 0 0), is (.int .i64 161)]) := by
  by_cases h0 : n < 0 ∨ (s.recs.length : Int) < n
  · have hf := first_bad s n (by omega) h0
    refine Fn.mk' 32 Tryd.func8 rfl rfl rfl rfl fun w0 H0 => ?_
    repeat (first | ((first | (apply Lq.s; rfl) | apply PRun.s | (apply Lq.run; rfl; rfl; rfl; exact bsB) | (apply PRun.run; rfl; rfl; exact bsB)); first | (apply op_box streamT; rfl) | (apply op_faddr stream_recs; rfl; decide) | (apply op_load (slT recT); rfl) | (apply op_load streamT; rfl) | (apply op_len (xs := s.recs); rfl) | (apply op_call hf; exact bsD) | (exact bsO)) | apply J.seq | apply E.next | apply J.lq | apply Lq.nil | apply PRun.nil | apply J.block | apply E.in_normal | apply J.skip | (apply Lq.store; rfl; rfl; exact bsP; exact bsS; rfl; rfl) | (apply PRun.al; rfl) | (apply Lq.al; rfl; rfl; intro b) | (apply Open.cons; intro b) | apply Open.nil | (apply Lq.pass; rfl; rfl; rfl) | (apply PRun.pass; rfl; rfl) | (apply Lq.skip; rfl; rfl; rfl; exact bsB) | (apply PRun.skip; rfl; rfl; exact bsB) | (apply J.cond_t; rfl) | (apply J.cond_f; rfl) | apply J.exit | apply E.then_exit | apply E.in_exit | (apply E.in_other; rfl))
    (refine J.ret ?_; (repeat (first | refine E.then_ret ?_ | refine E.in_ret ?_)))
    exact E.ret2 rfl rfl rfl
  · obtain ⟨k, rfl⟩ : ∃ k : Nat, n = k := ⟨n.toNat, by omega⟩
    have hf := first_ok s k (by omega) (by omega)
    by_cases h1 : i < 0
    · refine Fn.mk' 32 Tryd.func8 rfl rfl rfl rfl fun w0 H0 => ?_
      repeat (first | ((first | (apply Lq.s; rfl) | apply PRun.s | (apply Lq.run; rfl; rfl; rfl; exact bsB) | (apply PRun.run; rfl; rfl; exact bsB)); first | (apply op_box streamT; rfl) | (apply op_faddr stream_recs; rfl; decide) | (apply op_load (slT recT); rfl) | (apply op_load streamT; rfl) | (apply op_len (xs := s.recs); rfl) | (apply op_call hf; exact bsD) | (exact bsO)) | apply J.seq | apply E.next | apply J.lq | apply Lq.nil | apply PRun.nil | apply J.block | apply E.in_normal | apply J.skip | (apply Lq.store; rfl; rfl; exact bsP; exact bsS; rfl; rfl) | (apply PRun.al; rfl) | (apply Lq.al; rfl; rfl; intro b) | (apply Open.cons; intro b) | apply Open.nil | (apply Lq.pass; rfl; rfl; rfl) | (apply PRun.pass; rfl; rfl) | (apply Lq.skip; rfl; rfl; rfl; exact bsB) | (apply PRun.skip; rfl; rfl; exact bsB) | (apply J.cond_t; rfl) | (apply J.cond_f; rfl) | apply J.exit | apply E.then_exit | apply E.in_exit | (apply E.in_other; rfl))
      (refine J.ret ?_; (repeat (first | refine E.then_ret ?_ | refine E.in_ret ?_)))
      exact E.ret2 rfl rfl rfl
    · have h2 : (k : Int) ≤ i := by omega
      refine Fn.mk' 32 Tryd.func8 rfl rfl rfl rfl fun w0 H0 => ?_
      repeat (first | ((first | (apply Lq.s; rfl) | apply PRun.s | (apply Lq.run; rfl; rfl; rfl; exact bsB) | (apply PRun.run; rfl; rfl; exact bsB)); first | (apply op_box streamT; rfl) | (apply op_faddr stream_recs; rfl; decide) | (apply op_load (slT recT); rfl) | (apply op_load streamT; rfl) | (apply op_len (xs := s.recs); rfl) | (apply op_call hf; exact bsD) | (exact bsO)) | apply J.seq | apply E.next | apply J.lq | apply Lq.nil | apply PRun.nil | apply J.block | apply E.in_normal | apply J.skip | (apply Lq.store; rfl; rfl; exact bsP; exact bsS; rfl; rfl) | (apply PRun.al; rfl) | (apply Lq.al; rfl; rfl; intro b) | (apply Open.cons; intro b) | apply Open.nil | (apply Lq.pass; rfl; rfl; rfl) | (apply PRun.pass; rfl; rfl) | (apply Lq.skip; rfl; rfl; rfl; exact bsB) | (apply PRun.skip; rfl; rfl; exact bsB) | (apply J.cond_t; rfl) | (apply J.cond_f; rfl) | apply J.exit | apply E.then_exit | apply E.in_exit | (apply E.in_other; rfl))
      (refine J.ret ?_; (repeat (first | refine E.then_ret ?_ | refine E.in_ret ?_)))
      exact E.ret2 rfl rfl rfl
theorem pinc_ok (s : StreamS) (i n : Nat) (hl : s.recs.length ≤ 70000) (hn : n ≤ s.recs.length) (hi : i < n) : Fn Tryd.prog 8 [streamT.val s, is (.int .i64 (i : Int)), is (.int .i64 (n : Int))] (tup [sl hashT.toTy (inc ((lvs s).take n) i), is (.int .i64 0)]) := by
  have hll := lvs_len s
  have htl : ((lvs s).take n).length = n := by rw [List.length_take]; omega
  have hf := first_ok s n (by omega) hn
  have hp := (iprove_fnR ((lvs s).take n) i (by omega) (by omega)).frz2
  generalize inc ((lvs s).take n) i = p at *
  refine Fn.mk' 32 Tryd.func8 rfl rfl rfl rfl fun w0 H0 => ?_
  repeat (first | ((first | (apply Lq.s; rfl) | apply PRun.s | (apply Lq.run; rfl; rfl; rfl; exact bsB) | (apply PRun.run; rfl; rfl; exact bsB)); first | (apply op_box streamT; rfl) | (apply op_faddr stream_recs; rfl; decide) | (apply op_load (slT recT); rfl) | (apply op_load streamT; rfl) | (apply op_len (xs := s.recs); rfl) | (apply op_call hf; exact bsD) | (apply op_call hp; exact bsD) | (exact bsO)) | apply J.seq | apply E.next | apply J.lq | apply Lq.nil | apply PRun.nil | apply J.block | apply E.in_normal | apply J.skip | (apply Lq.store; rfl; rfl; exact bsP; exact bsS; rfl; rfl) | (apply PRun.al; rfl) | (apply Lq.al; rfl; rfl; intro b) | (apply Open.cons; intro b) | apply Open.nil | (apply Lq.pass; rfl; rfl; rfl) | (apply PRun.pass; rfl; rfl) | (apply Lq.skip; rfl; rfl; rfl; exact bsB) | (apply PRun.skip; rfl; rfl; exact bsB) | (apply J.cond_t; rfl) | (apply J.cond_f; rfl) | apply J.exit | apply E.then_exit | apply E.in_exit | (apply E.in_other; rfl))
  (refine J.ret ?_; (repeat (first | refine E.then_ret ?_ | refine E.in_ret ?_)))
  exact E.ret2 rfl rfl rfl
theorem pcon_bad (s : StreamS) (m n : Int) (hl : s.recs.length ≤ 70000) (h : n < 0 ∨ (s.recs.length : Int) < n ∨ m < 1 ∨ n < m) : Fn Tryd.prog 14 [streamT.val s, is (.int .i64 m), is (.int .i64 n)] (tup [is (.slice none 0 0), is (.int .i64 161)]) := by
  by_cases h0 : n < 0 ∨ (s.recs.length : Int) < n
  · have hf := first_bad s n (by omega) h0
    refine Fn.mk' 32 Tryd.func14 rfl rfl rfl rfl fun w0 H0 => ?_
    repeat (first | ((first | (apply Lq.s; rfl) | apply PRun.s | (apply Lq.run; rfl; rfl; rfl; exact bsB) | (apply PRun.run; rfl; rfl; exact bsB)); first | (apply op_box streamT; rfl) | (apply op_faddr stream_recs; rfl; decide) | (apply op_load (slT recT); rfl) | (apply op_load streamT; rfl) | (apply op_len (xs := s.recs); rfl) | (apply op_call hf; exact bsD) | (exact bsO)) | apply J.seq | apply E.next | apply J.lq | apply Lq.nil | apply PRun.nil | apply J.block | apply E.in_normal | apply J.skip | (apply Lq.store; rfl; rfl; exact bsP; exact bsS; rfl; rfl) | (apply PRun.al; rfl) | (apply Lq.al; rfl; rfl; intro b) | (apply Open.cons; intro b) | apply Open.nil | (apply Lq.pass; rfl; rfl; rfl) | (apply PRun.pass; rfl; rfl) | (apply Lq.skip; rfl; rfl; rfl; exact bsB) | (apply PRun.skip; rfl; rfl; exact bsB) | (apply J.cond_t; rfl) | (apply J.cond_f; rfl) | apply J.exit | apply E.then_exit | apply E.in_exit | (apply E.in_other; rfl))
    (refine J.ret ?_; (repeat (first | refine E.then_ret ?_ | refine E.in_ret ?_)))
    exact E.ret2 rfl rfl rfl
  · obtain ⟨k, rfl⟩ : ∃ k : Nat, n = k := ⟨n.toNat, by omega⟩
    have hf := first_ok s k (by omega) (by omega)
    by_cases h1 : m < 1
    · refine Fn.mk' 32 Tryd.func14 rfl rfl rfl rfl fun w0 H0 => ?_
      repeat (first | ((first | (apply Lq.s; rfl) | apply PRun.s | (apply Lq.run; rfl; rfl; rfl; exact bsB) | (apply PRun.run; rfl; rfl; exact bsB)); first | (apply op_box streamT; rfl) | (apply op_faddr stream_recs; rfl; decide) | (apply op_load (slT recT); rfl) | (apply op_load streamT; rfl) | (apply op_len (xs := s.recs); rfl) | (apply op_call hf; exact bsD) | (exact bsO)) | apply J.seq | apply E.next | apply J.lq | apply Lq.nil | apply PRun.nil | apply J.block | apply E.in_normal | apply J.skip | (apply Lq.store; rfl; rfl; exact bsP; exact bsS; rfl; rfl) | (apply PRun.al; rfl) | (apply Lq.al; rfl; rfl; intro b) | (apply Open.cons; intro b) | apply Open.nil | (apply Lq.pass; rfl; rfl; rfl) | (apply PRun.pass; rfl; rfl) | (apply Lq.skip; rfl; rfl; rfl; exact bsB) | (apply PRun.skip; rfl; rfl; exact bsB) | (apply J.cond_t; rfl) | (apply J.cond_f; rfl) | apply J.exit | apply E.then_exit | apply E.in_exit | (apply E.in_other; rfl))
      (refine J.ret ?_; (repeat (first | refine E.then_ret ?_ | refine E.in_ret ?_)))
      exact E.ret2 rfl rfl rfl
    · have h2 : (k : Int) < m := by omega
      refine Fn.mk' 32 Tryd.func14 rfl rfl rfl rfl fun w0 H0 => ?_
      repeat (first | ((first | (apply Lq.s; rfl) | apply PRun.s | (apply Lq.run; rfl; rfl; rfl; exact bsB) | (apply PRun.run; rfl; rfl; exact bsB)); first | (apply op_box streamT; rfl) | (apply op_faddr stream_recs; rfl; decide) | (apply op_load (slT recT); rfl) | (apply op_load streamT; rfl) | (apply op_len (xs := s.recs); rfl) | (apply op_call hf; exact bsD) | (exact bsO)) | apply J.seq | apply E.next | apply J.lq | apply Lq.nil | apply PRun.nil | apply J.block | apply E.in_normal | apply J.skip | (apply Lq.store; rfl; rfl; exact bsP; exact bsS; rfl; rfl) | (apply PRun.al; rfl) | (apply Lq.al; rfl; rfl; intro b) | (apply Open.cons; intro b) | apply Open.nil | (apply Lq.pass; rfl; rfl; rfl) | (apply PRun.pass; rfl; rfl) | (apply Lq.skip; rfl; rfl; rfl; exact bsB) | (apply PRun.skip; rfl; rfl; exact bsB) | (apply J.cond_t; rfl) | (apply J.cond_f; rfl) | apply J.exit | apply E.then_exit | apply E.in_exit | (apply E.in_other; rfl))
      (refine J.ret ?_; (repeat (first | refine E.then_ret ?_ | refine E.in_ret ?_)))
      exact E.ret2 rfl rfl rfl
theorem pcon_ok (s : StreamS) (m n : Nat) (hl : s.recs.length ≤ 70000) (hn : n ≤ s.recs.length) (h1 : 1 ≤ m) (hm : m ≤ n) : Fn Tryd.prog 14 [streamT.val s, is (.int .i64 (m : Int)), is (.int .i64 (n : Int))] (tup [sl hashT.toTy (cpart ((lvs s).take n) m true), is (.int .i64 0)]) := by
  have hll := lvs_len s
  have htl : ((lvs s).take n).length = n := by rw [List.length_take]; omega
  have hf := first_ok s n (by omega) hn
  have hp := cprove_fn ((lvs s).take n) m (by omega) h1 (by omega)
  generalize cpart ((lvs s).take n) m true = p at *
  refine Fn.mk' 32 Tryd.func14 rfl rfl rfl rfl fun w0 H0 => ?_
  repeat (first | ((first | (apply Lq.s; rfl) | apply PRun.s | (apply Lq.run; rfl; rfl; rfl; exact bsB) | (apply PRun.run; rfl; rfl; exact bsB)); first | (apply op_box streamT; rfl) | (apply op_faddr stream_recs; rfl; decide) | (apply op_load (slT recT); rfl) | (apply op_load streamT; rfl) | (apply op_len (xs := s.recs); rfl) | (apply op_call hf; exact bsD) | (apply op_call hp; exact bsD) | (exact bsO)) | apply J.seq | apply E.next | apply J.lq | apply Lq.nil | apply PRun.nil | apply J.block | apply E.in_normal | apply J.skip | (apply Lq.store; rfl; rfl; exact bsP; exact bsS; rfl; rfl) | (apply PRun.al; rfl) | (apply Lq.al; rfl; rfl; intro b) | (apply Open.cons; intro b) | apply Open.nil | (apply Lq.pass; rfl; rfl; rfl) | (apply PRun.pass; rfl; rfl) | (apply Lq.skip; rfl; rfl; rfl; exact bsB) | (apply PRun.skip; rfl; rfl; exact bsB) | (apply J.cond_t; rfl) | (apply J.cond_f; rfl) | apply J.exit | apply E.then_exit | apply E.in_exit | (apply E.in_other; rfl))
  (refine J.ret ?_; (repeat (first | refine E.then_ret ?_ | refine E.in_ret ?_)))
  exact E.ret2 rfl rfl rfl
theorem same25_fn (l : List Hash) (hl : l.length ≤ 1000000) : Fn Tryd.prog 9 [sl hashT.toTy l, sl hashT.toTy l] (is (.bool true)) := by
  refine Fn.mk' 26 Tryd.func9 rfl rfl rfl rfl fun w0 H0 => ?_
  repeat (first | ((first | (apply Lq.s; rfl) | apply PRun.s | (apply Lq.run; rfl; rfl; rfl; exact bsB) | (apply PRun.run; rfl; rfl; exact bsB)); first | (exact bsO)) | apply J.seq | apply E.next | apply J.lq | apply Lq.nil | apply PRun.nil | apply J.block | apply E.in_normal | apply J.skip | (apply Lq.store; rfl; rfl; exact bsP; exact bsS; rfl; rfl) | (apply PRun.al; rfl) | (apply Lq.al; rfl; rfl; intro b) | (apply Open.cons; intro b) | apply Open.nil | (apply Lq.pass; rfl; rfl; rfl) | (apply PRun.pass; rfl; rfl) | (apply Lq.skip; rfl; rfl; rfl; exact bsB) | (apply PRun.skip; rfl; rfl; exact bsB) | (apply J.drawN; exact mixed; kernel_rfl) | (apply J.cond_t; rfl) | (apply J.cond_f; rfl) | apply J.exit | apply E.then_exit | apply E.in_exit | (apply E.in_other; rfl))
  refine J.loop (fun i : Nat => i ≤ l.length) (fun i => [(0, sl hashT.toTy l), (1, sl hashT.toTy l), (5, is (.int .i64 (i : Int)))]) (fun _ => []) (fun i => l.length - i) 0 (Nat.zero_le _) (Sub.same (by repeat' (first | exact trivial | refine ⟨rfl, ?_⟩))) ?_
  rintro i hi
  by_cases hlt : i < l.length
  · obtain ⟨p, hp⟩ : ∃ p, l[i]? = some p := ⟨_, List.getElem?_eq_getElem hlt⟩
    repeat (first | ((first | (apply Lq.s; rfl) | apply PRun.s | (apply Lq.run; rfl; rfl; rfl; exact bsB) | (apply PRun.run; rfl; rfl; exact bsB)); first | (apply op_iaddr hashT.toTy (x := p); rfl; rfl; exact Int.natCast_nonneg _; (rw [Int.toNat_natCast]; exact hp)) | (apply op_load hashT; rfl) | (apply op_neA_f (T := hashT) (m := 2) (eqd_arr eqd_u8) rfl rfl; rfl; rfl; rfl) | (exact bsO)) | apply J.seq | apply E.next | apply J.lq | apply Lq.nil | apply PRun.nil | apply J.block | apply E.in_normal | apply J.skip | (apply Lq.store; rfl; rfl; exact bsP; exact bsS; rfl; rfl) | (apply PRun.al; rfl) | (apply Lq.al; rfl; rfl; intro b) | (apply Open.cons; intro b) | apply Open.nil | (apply Lq.pass; rfl; rfl; rfl) | (apply PRun.pass; rfl; rfl) | (apply Lq.skip; rfl; rfl; rfl; exact bsB) | (apply PRun.skip; rfl; rfl; exact bsB) | (apply J.drawN; exact mixed; kernel_rfl) | (apply J.cond_t; rfl) | (apply J.cond_f; rfl) | apply J.exit | apply E.then_exit | apply E.in_exit | (apply E.in_other; rfl))
    exact E.again (i + 1) (by omega) (by omega) (Sub.same (by repeat' (first | exact trivial | refine ⟨rfl, ?_⟩)))
  · obtain rfl : i = l.length := by omega
    repeat (first | ((first | (apply Lq.s; rfl) | apply PRun.s | (apply Lq.run; rfl; rfl; rfl; exact bsB) | (apply PRun.run; rfl; rfl; exact bsB)); first | (exact bsO)) | apply J.seq | apply E.next | apply J.lq | apply Lq.nil | apply PRun.nil | apply J.block | apply E.in_normal | apply J.skip | (apply Lq.store; rfl; rfl; exact bsP; exact bsS; rfl; rfl) | (apply PRun.al; rfl) | (apply Lq.al; rfl; rfl; intro b) | (apply Open.cons; intro b) | apply Open.nil | (apply Lq.pass; rfl; rfl; rfl) | (apply PRun.pass; rfl; rfl) | (apply Lq.skip; rfl; rfl; rfl; exact bsB) | (apply PRun.skip; rfl; rfl; exact bsB) | (apply J.drawN; exact mixed; kernel_rfl) | (apply J.cond_t; rfl) | (apply J.cond_f; rfl) | apply J.exit | apply E.then_exit | apply E.in_exit | (apply E.in_other; rfl))
    (refine J.ret ?_; (repeat (first | refine E.then_ret ?_ | refine E.in_ret ?_)))
    exact E.ret1 rfl rfl
set_option maxRecDepth 100000 in
set_option maxHeartbeats 2000000 in
theorem lives_fn : Fn Tryd.prog 5 [] (is (.bool true)) := by
  have X1 := leafH_fn [120] (by decide)
  have X2 := leafH_fn [121] (by decide)
  have X3 := leafH_fn [122] (by decide)
  generalize leafH [120] = x at *
  generalize leafH [121] = y at *
  generalize leafH [122] = z at *
  have hlv := life_lvs x y z
  have hlen : (life x y z).recs.length = 3 := rfl
  have r0 := proot_ok (life x y z) 0 (by omega) (by omega)
  have r1 := proot_ok (life x y z) 1 (by omega) (by omega)
  have r2 := proot_ok (life x y z) 2 (by omega) (by omega)
  have r4 := proot_bad (life x y z) 4 (by omega) (.inr (by rw [hlen]; decide))
  have i3 := pinc_bad (life x y z) 3 3 (by omega) (.inr (.inr (.inr (by decide))))
  have c0 := pcon_bad (life x y z) 0 3 (by omega) (.inr (.inr (.inl (by decide))))
  have c3 := pcon_ok (life x y z) 3 3 (by omega) (by omega) (by omega) (by omega)
  rw [hlv] at r0 r1 r2 c3
  rw [show List.take 0 [x, y, z] = [] from rfl, mroot_nil] at r0
  rw [show List.take 1 [x, y, z] = [x] from rfl, mroot_one] at r1
  rw [show List.take 2 [x, y, z] = [x, y] from rfl, mroot2] at r2
  rw [show List.take 3 [x, y, z] = [x, y, z] from rfl, cpart_all (l := [x, y, z]) (m := 3) (by decide) rfl true, if_pos rfl] at c3
  have hbs : (life x y z).recs = [{ zeroRec with hash := x }, { zeroRec with hash := y }, { zeroRec with hash := z }] := rfl
  refine Fn.mk' 107 Tryd.func5 rfl rfl rfl rfl fun w0 H0 => ?_
  repeat (first | ((first | (apply Lq.s; rfl) | apply PRun.s | (apply Lq.run; rfl; rfl; rfl; exact bsB) | (apply PRun.run; rfl; rfl; exact bsB)); first | (apply op_call X1; exact bsD) | (apply op_call X2; exact bsD) | (apply op_call X3; exact bsD) | (apply op_recH (p := x); rfl; rfl; rfl; rfl) | (apply op_recH (p := y); rfl; rfl; rfl; rfl) | (apply op_recH (p := z); rfl; rfl; rfl; rfl) | (apply op_bslice recT (xs := (life x y z).recs); (repeat (first | exact PO.nil _ | (apply PO.cons; rfl))); rfl; rfl; rfl) | (exact bsO)) | apply J.seq | apply E.next | apply J.lq | apply Lq.nil | apply PRun.nil | apply J.block | apply E.in_normal | apply J.skip | (apply Lq.store; rfl; rfl; exact bsP; exact bsS; rfl; rfl) | (apply PRun.al; rfl) | (apply Lq.al; rfl; rfl; intro b) | (apply Open.cons; intro b) | apply Open.nil | (apply Lq.pass; rfl; rfl; rfl) | (apply PRun.pass; rfl; rfl) | (apply Lq.skip; rfl; rfl; rfl; exact bsB) | (apply PRun.skip; rfl; rfl; exact bsB) | (apply J.cond_t; rfl) | (apply J.cond_f; rfl) | apply J.exit | apply E.then_exit | apply E.in_exit | (apply E.in_other; rfl))
  refine Lq.frzB 1 rfl (List.Perm.refl _) ?_
  refine Lq.conv 1 rfl (life_conv x y z) ?_
  repeat (first | ((first | (apply Lq.s; rfl) | apply PRun.s | (apply Lq.run; rfl; rfl; rfl; exact bsB) | (apply PRun.run; rfl; rfl; exact bsB)); first | (apply op_load streamT; rfl) | (apply op_call r0; exact bsD) | (apply op_call r1; exact bsD) | (apply op_call r2; exact bsD) | (apply op_call r4; exact bsD) | (apply op_call i3; exact bsD) | (apply op_call c0; exact bsD) | (apply op_call c3; exact bsD) | (exact bsO)) | apply J.seq | apply E.next | apply J.lq | apply Lq.nil | apply PRun.nil | apply J.block | apply E.in_normal | apply J.skip | (apply Lq.store; rfl; rfl; exact bsP; exact bsS; rfl; rfl) | (apply PRun.al; rfl) | (apply Lq.al; rfl; rfl; intro b) | (apply Open.cons; intro b) | apply Open.nil | (apply Lq.pass; rfl; rfl; rfl) | (apply PRun.pass; rfl; rfl) | (apply Lq.skip; rfl; rfl; rfl; exact bsB) | (apply PRun.skip; rfl; rfl; exact bsB) | (apply J.cond_t; rfl) | (apply J.cond_f; rfl) | apply J.exit | apply E.then_exit | apply E.in_exit | (apply E.in_other; rfl))
  (apply Lq.storeE (φs' := hashT.cells emptyH); rfl; rfl; exact List.Perm.refl _; exact Seg.val _ _; exact hashT.len _; exact Nat.le_refl 32; exact splice_all (by rw [hashT.len]; rfl))
  repeat (first | ((first | (apply Lq.s; rfl) | apply PRun.s | (apply Lq.run; rfl; rfl; rfl; exact bsB) | (apply PRun.run; rfl; rfl; exact bsB)); first | (apply op_load streamT; rfl) | (apply op_call r0; exact bsD) | (apply op_call r1; exact bsD) | (apply op_call r2; exact bsD) | (apply op_call r4; exact bsD) | (apply op_call i3; exact bsD) | (apply op_call c0; exact bsD) | (apply op_call c3; exact bsD) | (exact bsO)) | apply J.seq | apply E.next | apply J.lq | apply Lq.nil | apply PRun.nil | apply J.block | apply E.in_normal | apply J.skip | (apply Lq.store; rfl; rfl; exact bsP; exact bsS; rfl; rfl) | (apply PRun.al; rfl) | (apply Lq.al; rfl; rfl; intro b) | (apply Open.cons; intro b) | apply Open.nil | (apply Lq.pass; rfl; rfl; rfl) | (apply PRun.pass; rfl; rfl) | (apply Lq.skip; rfl; rfl; rfl; exact bsB) | (apply PRun.skip; rfl; rfl; exact bsB) | (apply J.cond_t; rfl) | (apply J.cond_f; rfl) | apply J.exit | apply E.then_exit | apply E.in_exit | (apply E.in_other; rfl))
  (apply Lq.storeE (φs' := hashT.cells x); rfl; rfl; exact List.Perm.refl _; exact Seg.val _ _; exact hashT.len _; exact Nat.le_refl 32; exact splice_all (by rw [hashT.len]; rfl))
  repeat (first | ((first | (apply Lq.s; rfl) | apply PRun.s | (apply Lq.run; rfl; rfl; rfl; exact bsB) | (apply PRun.run; rfl; rfl; exact bsB)); first | (apply op_load streamT; rfl) | (apply op_call r0; exact bsD) | (apply op_call r1; exact bsD) | (apply op_call r2; exact bsD) | (apply op_call r4; exact bsD) | (apply op_call i3; exact bsD) | (apply op_call c0; exact bsD) | (apply op_call c3; exact bsD) | (exact bsO)) | apply J.seq | apply E.next | apply J.lq | apply Lq.nil | apply PRun.nil | apply J.block | apply E.in_normal | apply J.skip | (apply Lq.store; rfl; rfl; exact bsP; exact bsS; rfl; rfl) | (apply PRun.al; rfl) | (apply Lq.al; rfl; rfl; intro b) | (apply Open.cons; intro b) | apply Open.nil | (apply Lq.pass; rfl; rfl; rfl) | (apply PRun.pass; rfl; rfl) | (apply Lq.skip; rfl; rfl; rfl; exact bsB) | (apply PRun.skip; rfl; rfl; exact bsB) | (apply J.cond_t; rfl) | (apply J.cond_f; rfl) | apply J.exit | apply E.then_exit | apply E.in_exit | (apply E.in_other; rfl))
  (apply Lq.storeE (φs' := hashT.cells (nodeH x y)); rfl; rfl; exact List.Perm.refl _; exact Seg.val _ _; exact hashT.len _; exact Nat.le_refl 32; exact splice_all (by rw [hashT.len]; rfl))
  repeat (first | ((first | (apply Lq.s; rfl) | apply PRun.s | (apply Lq.run; rfl; rfl; rfl; exact bsB) | (apply PRun.run; rfl; rfl; exact bsB)); first | (apply op_load streamT; rfl) | (apply op_call r0; exact bsD) | (apply op_call r1; exact bsD) | (apply op_call r2; exact bsD) | (apply op_call r4; exact bsD) | (apply op_call i3; exact bsD) | (apply op_call c0; exact bsD) | (apply op_call c3; exact bsD) | (exact bsO)) | apply J.seq | apply E.next | apply J.lq | apply Lq.nil | apply PRun.nil | apply J.block | apply E.in_normal | apply J.skip | (apply Lq.store; rfl; rfl; exact bsP; exact bsS; rfl; rfl) | (apply PRun.al; rfl) | (apply Lq.al; rfl; rfl; intro b) | (apply Open.cons; intro b) | apply Open.nil | (apply Lq.pass; rfl; rfl; rfl) | (apply PRun.pass; rfl; rfl) | (apply Lq.skip; rfl; rfl; rfl; exact bsB) | (apply PRun.skip; rfl; rfl; exact bsB) | (apply J.cond_t; rfl) | (apply J.cond_f; rfl) | apply J.exit | apply E.then_exit | apply E.in_exit | (apply E.in_other; rfl))
  refine J.drawW 49 [(none, none), (none, none), (none, none), (none, none), (none, none), (none, none), (none, none), (none, none), (none, none), (none, none), (none, none), (none, none), (none, none), (none, none), (none, none), (none, none), (none, none), (none, none), (none, none), (none, none), (none, none), (none, none), (none, none), (none, none), (none, none), (none, none), (none, none), (none, none), (none, none), (none, none), (none, none), (none, none), (none, none), (none, none), (none, none), (none, none), (none, none), (none, none), (none, none), (none, none), (none, none), (none, none), (none, none), (none, none), (none, none), (none, none), (none, none), (none, none), (none, none)] mixed (by kernel_rfl) ?_
  repeat (first | ((first | apply PRunW.s | (apply PRunW.run; rfl; rfl; exact bsB) | (apply Lq.s; rfl) | apply PRun.s | (apply Lq.run; rfl; rfl; rfl; exact bsB) | (apply PRun.run; rfl; rfl; exact bsB)); first | (apply op_oload hashT (x := emptyH); rfl; exact bsM; exact at_hash emptyH) | (apply op_oload hashT (x := x); rfl; exact bsM; exact at_hash x) | (apply op_oload hashT (x := nodeH x y); rfl; exact bsM; exact at_hash (nodeH x y)) | (apply op_call X1; exact bsD) | (apply op_call X2; exact bsD) | (apply op_call emptyH_fn; exact bsD) | (apply op_call (nodeH_fn x y); exact bsD) | (apply op_eqA_t (T := hashT) (m := 2) (eqd_arr eqd_u8) rfl rfl; rfl; rfl; rfl) | (apply op_len (xs := ([] : List Hash)); rfl) | (exact bsO)) | apply J.seq | apply E.next | apply J.lq | apply Lq.nil | apply PRun.nil | apply J.block | apply E.in_normal | apply J.skip | (apply Lq.store; rfl; rfl; exact bsP; exact bsS; rfl; rfl) | (apply PRun.al; rfl) | (apply Lq.al; rfl; rfl; intro b) | (apply Open.cons; intro b) | apply Open.nil | (apply Lq.pass; rfl; rfl; rfl) | (apply PRun.pass; rfl; rfl) | (apply Lq.skip; rfl; rfl; rfl; exact bsB) | (apply PRun.skip; rfl; rfl; exact bsB) | (apply J.cond_t; rfl) | (apply J.cond_f; rfl) | apply J.exit | apply E.then_exit | apply E.in_exit | (apply E.in_other; rfl) | apply PRunW.nil | (apply PRunW.al; rfl) | (apply PRunW.pass; rfl; rfl) | (apply PRunW.skip; rfl; rfl; exact bsB) | (apply Open.pv; intro b) | apply Open.av | (apply Open.rv; intro A c))
  (refine J.ret ?_; (repeat (first | refine E.then_ret ?_ | refine E.in_ret ?_)))
  exact E.ret1 rfl rfl
end Go.Proofs.YtafbkgijahinkaaDoor.L
