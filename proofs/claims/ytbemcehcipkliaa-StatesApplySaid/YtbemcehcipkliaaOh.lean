/-
  The chapter's states, walked; states that are compared by the program.
-/
import Derived.Test.YtbemcehcipkliaaOg
namespace Go.Proofs.Ytbemcehcipkliaa.L
open Go
set_option linter.unusedSectionVars false
variable [Globs]
set_option linter.unusedVariables false
theorem Fn.weakL {P : Program} {f : Nat} {φs φs' : List Pr} {ψ : Pr} (F : Fn P f φs ψ) (h : ∀ H vs, All2 (fun (φ : Pr) v => φ.h H v) φs' vs → All2 (fun (φ : Pr) v => φ.h H v) φs vs) : Fn P f φs' ψ :=
  ⟨F.ent, fun H w vs hs hv => F.run H w vs hs (h H vs hv)⟩
theorem Fn.resT {P : Program} {f : Nat} {φs : List Pr} {x y : StateS × Int} (F : Fn P f φs (tup [stateT.val x.1, is (.int .i64 x.2)])) (h : x = y) : Fn P f φs (tup [stateT.val y.1, is (.int .i64 y.2)]) := by subst h; exact F
def e17c : EntryS := ⟨1, 0, 0, 0, [97], zeroH, ⟨0, 0⟩⟩
def e17a (k n : Int) : EntryS := ⟨2, k, n, 3, [], zeroH, ⟨0, 1⟩⟩
def t17a : StateS := ⟨7, [⟨[97], 0, [], []⟩]⟩
def t17b : StateS := ⟨7, [⟨[97], 0, [], [⟨7, 3, zeroH, ⟨0, 1⟩, false⟩]⟩]⟩
theorem a17_1 : allS zeroT [e17c] 7 = (t17a, 0) := by decide +kernel
theorem a17_2 : applyS t17a e17c = (zeroT, 160) := by decide +kernel
theorem a17_3 : applyS t17a (e17a 0 7) = (t17b, 0) := by decide +kernel
theorem a17_4 : applyS t17a (e17a 0 8) = (zeroT, 2) := by decide +kernel
theorem a17_5 : applyS t17a (e17a 5 8) = (zeroT, 4) := by decide +kernel
theorem a17_6 : allS t17a [] 6 = (zeroT, 2) := by decide +kernel
theorem a17_7 : grownM t17a t17b = true := by decide +kernel
theorem a17_8 : grownM t17b t17a = false := by decide +kernel
theorem a17_9 : runsM false t17b.streams = [⟨0, 1⟩] := by decide +kernel
theorem a17_10 : runsM true t17b.streams = [] := by decide +kernel
theorem good17a : GoodT t17a := goodS (by decide +kernel)
theorem good17b : GoodT t17b := goodS (by decide +kernel)
theorem small17b : t17b.streams.length ≤ 8 ∧ ∀ x ∈ t17b.streams, x.recs.length ≤ 64 := by decide +kernel
set_option linter.unusedVariables false
set_option linter.unusedSimpArgs false
attribute [local irreducible] J Lq E OpP PRun is any agg tup ptr sl PRunW OpE
attribute [local irreducible] slt nameE lowerN cloT cntM recOk row tB checkM applyM errM resM beyondM longB newM lastT checkS applyS findI foldS allS all2B rr runsM grownM longerS
set_option maxRecDepth 100000 in
set_option maxHeartbeats 4000000 in
theorem lives17_fn : Fn Try.prog 12 [] (is (.bool true)) := by
  have c1 := (all17_fn zeroT [e17c] 7 goodZ (by decide)).resT a17_1
  have c2 := (sapply17_fn t17a e17c good17a).resT a17_2
  have c3 := (sapply17_fn t17a (e17a 0 7) good17a).resT a17_3
  have c4 := (sapply17_fn t17a (e17a 0 8) good17a).resT a17_4
  have c5 := (sapply17_fn t17a (e17a 5 8) good17a).resT a17_5
  have c6 := ((all17_fn t17a [] 6 good17a (by decide)).resT a17_6).weakL (φs' := [stateT.val t17a, is (.slice none 0 0), is (.int .i64 6)]) (fun H vs h => by
    match vs, h with
    | [v1, v2, v3], ⟨h1, h2, h3, _⟩ => exact ⟨h1, sl_nil H v2 h2, h3, trivial⟩)
  have g1 := grown17_fn t17a t17b good17a good17b
  rw [a17_7] at g1
  have g2 := grown17_fn t17b t17a good17b good17a
  rw [a17_8] at g2
  have l1 := live17_fn t17b small17b.1 small17b.2
  rw [a17_9] at l1
  have l2 := shredded17_fn t17b small17b.1 small17b.2
  rw [a17_10] at l2
  refine Fn.mk' 101 Try.func12 rfl rfl rfl rfl fun w0 H0 => ?_
  repeat (first | ((first | (apply Lq.s; rfl) | apply PRun.s | (apply Lq.run; rfl; rfl; rfl; exact bsB) | (apply PRun.run; rfl; rfl; exact bsB)); first | (apply op_buildT entryT e17c; rfl; rfl; (repeat (first | exact BP.nil _ | (apply BP.cons; rfl; rfl; exact bsS; rfl; rfl))); rfl) | (apply op_buildT runT ⟨0, 1⟩; rfl; rfl; (repeat (first | exact BP.nil _ | (apply BP.cons; rfl; rfl; exact bsS; rfl; rfl))); rfl) | (apply op_buildT entryT (e17a 0 7); rfl; rfl; (repeat (first | exact BP.nil _ | (apply BP.cons; rfl; rfl; exact bsS; rfl; rfl))); rfl) | (apply op_zeroT; rfl; rfl) | (apply op_oload entryT (x := e17c); rfl; exact bsM; rfl) | (apply op_bslice entryT (xs := [e17c]); (repeat (first | exact PO.nil _ | (apply PO.cons; rfl))); rfl; rfl; rfl) | (apply op_call c1; exact bsD) | (apply op_oload stateT (x := t17a); rfl; exact bsM; rfl) | (apply op_call c2; exact bsD) | (exact bsO)) | apply J.seq | apply E.next | apply J.lq | apply Lq.nil | apply PRun.nil | apply J.block | apply E.in_normal | apply J.skip | (apply Lq.store; rfl; rfl; exact bsP; exact bsS; rfl; rfl) | (apply PRun.al; rfl) | (apply Lq.al; rfl; rfl; intro b) | (apply Open.cons; intro b) | apply Open.nil | (apply Lq.pass; rfl; rfl; rfl) | (apply PRun.pass; rfl; rfl) | (apply Lq.skip; rfl; rfl; rfl; exact bsB) | (apply PRun.skip; rfl; rfl; exact bsB) | (apply J.cond_t; rfl) | (apply J.cond_f; rfl) | apply J.exit | apply E.then_exit | apply E.in_exit | (apply E.in_other; rfl))
  repeat (first | ((first | (apply Lq.s; rfl) | apply PRun.s | (apply Lq.run; rfl; rfl; rfl; exact bsB) | (apply PRun.run; rfl; rfl; exact bsB)); first | (apply op_oload stateT (x := t17a); rfl; exact bsM; rfl) | (apply op_oload entryT (x := e17a 0 7); rfl; exact bsM; rfl) | (apply op_call c3; exact bsD) | (exact bsO)) | apply J.seq | apply E.next | apply J.lq | apply Lq.nil | apply PRun.nil | apply J.block | apply E.in_normal | apply J.skip | (apply Lq.store; rfl; rfl; exact bsP; exact bsS; rfl; rfl) | (apply PRun.al; rfl) | (apply Lq.al; rfl; rfl; intro b) | (apply Open.cons; intro b) | apply Open.nil | (apply Lq.pass; rfl; rfl; rfl) | (apply PRun.pass; rfl; rfl) | (apply Lq.skip; rfl; rfl; rfl; exact bsB) | (apply PRun.skip; rfl; rfl; exact bsB) | (apply J.cond_t; rfl) | (apply J.cond_f; rfl) | apply J.exit | apply E.then_exit | apply E.in_exit | (apply E.in_other; rfl))
  repeat (first | ((first | (apply Lq.s; rfl) | apply PRun.s | (apply Lq.run; rfl; rfl; rfl; exact bsB) | (apply PRun.run; rfl; rfl; exact bsB)); first | (apply op_oload stateT (x := t17a); rfl; exact bsM; rfl) | (apply op_oload entryT (x := e17a 0 8); rfl; exact bsM; rfl) | (apply op_call c4; exact bsD) | (exact bsO)) | apply J.seq | apply E.next | apply J.lq | apply Lq.nil | apply PRun.nil | apply J.block | apply E.in_normal | apply J.skip | (apply Lq.store; rfl; rfl; exact bsP; exact bsS; rfl; rfl) | (apply PRun.al; rfl) | (apply Lq.al; rfl; rfl; intro b) | (apply Open.cons; intro b) | apply Open.nil | (apply Lq.pass; rfl; rfl; rfl) | (apply PRun.pass; rfl; rfl) | (apply Lq.skip; rfl; rfl; rfl; exact bsB) | (apply PRun.skip; rfl; rfl; exact bsB) | (apply J.cond_t; rfl) | (apply J.cond_f; rfl) | apply J.exit | apply E.then_exit | apply E.in_exit | (apply E.in_other; rfl))
  repeat (first | ((first | (apply Lq.s; rfl) | apply PRun.s | (apply Lq.run; rfl; rfl; rfl; exact bsB) | (apply PRun.run; rfl; rfl; exact bsB)); first | (apply op_oload stateT (x := t17a); rfl; exact bsM; rfl) | (apply op_oload entryT (x := e17a 5 8); rfl; exact bsM; rfl) | (apply op_call c5; exact bsD) | (apply op_call c6; exact bsD) | (exact bsO)) | apply J.seq | apply E.next | apply J.lq | apply Lq.nil | apply PRun.nil | apply J.block | apply E.in_normal | apply J.skip | (apply Lq.store; rfl; rfl; exact bsP; exact bsS; rfl; rfl) | (apply PRun.al; rfl) | (apply Lq.al; rfl; rfl; intro b) | (apply Open.cons; intro b) | apply Open.nil | (apply Lq.pass; rfl; rfl; rfl) | (apply PRun.pass; rfl; rfl) | (apply Lq.skip; rfl; rfl; rfl; exact bsB) | (apply PRun.skip; rfl; rfl; exact bsB) | (apply J.cond_t; rfl) | (apply J.cond_f; rfl) | apply J.exit | apply E.then_exit | apply E.in_exit | (apply E.in_other; rfl))
  repeat (first | ((first | (apply Lq.s; rfl) | apply PRun.s | (apply Lq.run; rfl; rfl; rfl; exact bsB) | (apply PRun.run; rfl; rfl; exact bsB)); first | (apply op_oload stateT (x := t17a); rfl; exact bsM; rfl) | (apply op_oload stateT (x := t17b); rfl; exact bsM; rfl) | (apply op_call g1; exact bsD) | (apply op_call g2; exact bsD) | (apply op_call l1; exact bsD) | (apply op_call l2; exact bsD) | (apply op_len (xs := [(⟨0, 1⟩ : Run)]); rfl) | (apply op_len (xs := ([] : List Run)); rfl) | (exact bsO)) | apply J.seq | apply E.next | apply J.lq | apply Lq.nil | apply PRun.nil | apply J.block | apply E.in_normal | apply J.skip | (apply Lq.store; rfl; rfl; exact bsP; exact bsS; rfl; rfl) | (apply PRun.al; rfl) | (apply Lq.al; rfl; rfl; intro b) | (apply Open.cons; intro b) | apply Open.nil | (apply Lq.pass; rfl; rfl; rfl) | (apply PRun.pass; rfl; rfl) | (apply Lq.skip; rfl; rfl; rfl; exact bsB) | (apply PRun.skip; rfl; rfl; exact bsB) | (apply J.cond_t; rfl) | (apply J.cond_f; rfl) | apply J.exit | apply E.then_exit | apply E.in_exit | (apply E.in_other; rfl))
  (refine J.ret ?_; (repeat (first | refine E.then_ret ?_ | refine E.in_ret ?_)))
  exact E.ret1 rfl rfl
theorem sequalF_fn (l m : List StreamS) (hl : l.length ≤ 1000000) (hm : m.length ≤ 1000000) (hgl : ∀ x ∈ l, x.recs.length ≤ 1000000 ∧ x.holds.length ≤ 1000000) (hgm : ∀ x ∈ m, x.recs.length ≤ 1000000 ∧ x.holds.length ≤ 1000000) : Fn Try.prog 40 [sl streamT.toTy l, sl streamT.toTy m, is (.func (.func 41) #[] #[])] (is (.bool (decide (l = m)))) := by
  by_cases h : l.length = m.length
  case neg =>
    rw [decide_eq_false fun e => h (by rw [e])]
    refine Fn.mk' 32 Try.func40 rfl rfl rfl rfl fun w0 H0 => ?_
    repeat (first | ((first | (apply Lq.s; rfl) | apply PRun.s | (apply Lq.run; rfl; rfl; rfl; exact bsB) | (apply PRun.run; rfl; rfl; exact bsB)); first | (apply op_len (xs := l); rfl) | (apply op_len (xs := m); rfl) | (exact bsO)) | apply J.seq | apply E.next | apply J.lq | apply Lq.nil | apply PRun.nil | apply J.block | apply E.in_normal | apply J.skip | (apply Lq.store; rfl; rfl; exact bsP; exact bsS; rfl; rfl) | (apply PRun.al; rfl) | (apply Lq.al; rfl; rfl; intro b) | (apply Open.cons; intro b) | apply Open.nil | (apply Lq.pass; rfl; rfl; rfl) | (apply PRun.pass; rfl; rfl) | (apply Lq.skip; rfl; rfl; rfl; exact bsB) | (apply PRun.skip; rfl; rfl; exact bsB) | (apply J.drawN; exact mixed; kernel_rfl) | (apply J.cond_t; rfl) | (apply J.cond_f; rfl) | apply J.exit | apply E.then_exit | apply E.in_exit | (apply E.in_other; rfl))
    (refine J.ret ?_; (repeat (first | refine E.then_ret ?_ | refine E.in_ret ?_)))
    exact E.ret1 rfl rfl
  refine Fn.mk' 32 Try.func40 rfl rfl rfl rfl fun w0 H0 => ?_
  repeat (first | ((first | (apply Lq.s; rfl) | apply PRun.s | (apply Lq.run; rfl; rfl; rfl; exact bsB) | (apply PRun.run; rfl; rfl; exact bsB)); first | (apply op_len (xs := l); rfl) | (apply op_len (xs := m); rfl) | (exact bsO)) | apply J.seq | apply E.next | apply J.lq | apply Lq.nil | apply PRun.nil | apply J.block | apply E.in_normal | apply J.skip | (apply Lq.store; rfl; rfl; exact bsP; exact bsS; rfl; rfl) | (apply PRun.al; rfl) | (apply Lq.al; rfl; rfl; intro b) | (apply Open.cons; intro b) | apply Open.nil | (apply Lq.pass; rfl; rfl; rfl) | (apply PRun.pass; rfl; rfl) | (apply Lq.skip; rfl; rfl; rfl; exact bsB) | (apply PRun.skip; rfl; rfl; exact bsB) | (apply J.drawN; exact mixed; kernel_rfl) | (apply J.cond_t; rfl) | (apply J.cond_f; rfl) | apply J.exit | apply E.then_exit | apply E.in_exit | (apply E.in_other; rfl))
  refine J.loop (fun i : Nat => i ≤ l.length ∧ ∀ (j : Nat) (x y : StreamS), j < i → l[j]? = some x → m[j]? = some y → x = y) (fun i => [(1, sl streamT.toTy m), (2, is (.func (.func 41) #[] #[])), (15, sl streamT.toTy l), (16, is (.int .i64 (l.length : Int))), (17, is (.int .i64 (i : Int)))]) (fun _ => []) (fun i => l.length - i) 0 ⟨Nat.zero_le _, fun j x y hj => by omega⟩ (Sub.same (by repeat' (first | exact trivial | refine ⟨rfl, ?_⟩))) ?_
  rintro i ⟨hi, hp⟩
  by_cases hlt : i < l.length
  case neg =>
    obtain rfl : i = l.length := by omega
    repeat (first | ((first | (apply Lq.s; rfl) | apply PRun.s | (apply Lq.run; rfl; rfl; rfl; exact bsB) | (apply PRun.run; rfl; rfl; exact bsB)); first | (exact bsO)) | apply J.seq | apply E.next | apply J.lq | apply Lq.nil | apply PRun.nil | apply J.block | apply E.in_normal | apply J.skip | (apply Lq.store; rfl; rfl; exact bsP; exact bsS; rfl; rfl) | (apply PRun.al; rfl) | (apply Lq.al; rfl; rfl; intro b) | (apply Open.cons; intro b) | apply Open.nil | (apply Lq.pass; rfl; rfl; rfl) | (apply PRun.pass; rfl; rfl) | (apply Lq.skip; rfl; rfl; rfl; exact bsB) | (apply PRun.skip; rfl; rfl; exact bsB) | (apply J.drawN; exact mixed; kernel_rfl) | (apply J.cond_t; rfl) | (apply J.cond_f; rfl) | apply J.exit | apply E.then_exit | apply E.in_exit | (apply E.in_other; rfl))
    (refine J.ret ?_; (repeat (first | refine E.then_ret ?_ | refine E.in_ret ?_)))
    rw [decide_eq_true (ext_at h fun j x y hx hy => hp j x y (List.getElem?_eq_some_iff.1 hx).1 hx hy)]
    exact E.ret1 rfl rfl
  obtain ⟨x, hx⟩ : ∃ x, l[i]? = some x := ⟨_, List.getElem?_eq_getElem hlt⟩
  obtain ⟨y, hy⟩ : ∃ y, m[i]? = some y := ⟨_, List.getElem?_eq_getElem (by omega)⟩
  have hsf := same_fn x y (hgl x (List.mem_of_getElem? hx)) (hgm y (List.mem_of_getElem? hy))
  repeat (first | ((first | (apply Lq.s; rfl) | apply PRun.s | (apply Lq.run; rfl; rfl; rfl; exact bsB) | (apply PRun.run; rfl; rfl; exact bsB)); first | (exact bsO)) | apply J.seq | apply E.next | apply J.lq | apply Lq.nil | apply PRun.nil | apply J.block | apply E.in_normal | apply J.skip | (apply Lq.store; rfl; rfl; exact bsP; exact bsS; rfl; rfl) | (apply PRun.al; rfl) | (apply Lq.al; rfl; rfl; intro b) | (apply Open.cons; intro b) | apply Open.nil | (apply Lq.pass; rfl; rfl; rfl) | (apply PRun.pass; rfl; rfl) | (apply Lq.skip; rfl; rfl; rfl; exact bsB) | (apply PRun.skip; rfl; rfl; exact bsB) | (apply J.drawN; exact mixed; kernel_rfl) | (apply J.cond_t; rfl) | (apply J.cond_f; rfl) | apply J.exit | apply E.then_exit | apply E.in_exit | (apply E.in_other; rfl))
  (apply Lq.s; rfl; (apply op_iaddr streamT.toTy (x := x); rfl; rfl; exact Int.natCast_nonneg _; (rw [Int.toNat_natCast]; exact hx)))
  (apply Lq.s; rfl; (apply op_load streamT; rfl))
  (apply Lq.al; rfl; rfl; intro bb)
  (apply Lq.s; rfl; (apply op_assign; rfl))
  (apply Lq.storeE (φs' := streamT.cells x); rfl; rfl; exact List.Perm.refl _; exact Seg.val _ _; rfl; exact Nat.le_refl 4; exact splice_all (by rw [streamT.len]; rfl))
  refine Lq.frzB 8 rfl (List.Perm.refl _) ?_
  repeat (first | ((first | (apply Lq.s; rfl) | apply PRun.s | (apply Lq.run; rfl; rfl; rfl; exact bsB) | (apply PRun.run; rfl; rfl; exact bsB)); first | (exact bsO)) | apply J.seq | apply E.next | apply J.lq | apply Lq.nil | apply PRun.nil | apply J.block | apply E.in_normal | apply J.skip | (apply Lq.store; rfl; rfl; exact bsP; exact bsS; rfl; rfl) | (apply PRun.al; rfl) | (apply Lq.al; rfl; rfl; intro b) | (apply Open.cons; intro b) | apply Open.nil | (apply Lq.pass; rfl; rfl; rfl) | (apply PRun.pass; rfl; rfl) | (apply Lq.skip; rfl; rfl; rfl; exact bsB) | (apply PRun.skip; rfl; rfl; exact bsB) | (apply J.drawN; exact mixed; kernel_rfl) | (apply J.cond_t; rfl) | (apply J.cond_f; rfl) | apply J.exit | apply E.then_exit | apply E.in_exit | (apply E.in_other; rfl))
  (apply Lq.s; rfl; (apply op_iaddr streamT.toTy (x := y); rfl; rfl; exact Int.natCast_nonneg _; (rw [Int.toNat_natCast]; exact hy)))
  (apply Lq.s; rfl; (apply op_load streamT; rfl))
  (apply Lq.al; rfl; rfl; intro bb)
  (apply Lq.storeE (φs' := streamT.cells y); rfl; rfl; exact List.Perm.refl _; exact Seg.val _ _; rfl; exact Nat.le_refl 4; exact splice_all (by rw [streamT.len]; rfl))
  refine Lq.frzB 9 rfl (List.Perm.refl _) ?_
  by_cases hxy : x = y
  · rw [decide_eq_true hxy] at hsf
    repeat (first | ((first | (apply Lq.s; rfl) | apply PRun.s | (apply Lq.run; rfl; rfl; rfl; exact bsB) | (apply PRun.run; rfl; rfl; exact bsB)); first | (apply op_load streamT; rfl) | (apply op_callv (first := []) (captured := []) (ξs := [streamT.val x, streamT.val y]) hsf; rfl; exact bsD; exact fun H vs h => (by simpa using h)) | (exact bsO)) | apply J.seq | apply E.next | apply J.lq | apply Lq.nil | apply PRun.nil | apply J.block | apply E.in_normal | apply J.skip | (apply Lq.store; rfl; rfl; exact bsP; exact bsS; rfl; rfl) | (apply PRun.al; rfl) | (apply Lq.al; rfl; rfl; intro b) | (apply Open.cons; intro b) | apply Open.nil | (apply Lq.pass; rfl; rfl; rfl) | (apply PRun.pass; rfl; rfl) | (apply Lq.skip; rfl; rfl; rfl; exact bsB) | (apply PRun.skip; rfl; rfl; exact bsB) | (apply J.drawN; exact mixed; kernel_rfl) | (apply J.cond_t; rfl) | (apply J.cond_f; rfl) | apply J.exit | apply E.then_exit | apply E.in_exit | (apply E.in_other; rfl))
    refine E.again (i + 1) (by omega) ⟨by omega, fun j u v hj hu hv => ?_⟩ (Sub.same (by repeat' (first | exact trivial | refine ⟨rfl, ?_⟩)))
    rcases Nat.lt_or_eq_of_le (Nat.le_of_lt_succ hj) with h' | rfl
    · exact hp j u v h' hu hv
    · rw [hx] at hu; injection hu with hu; subst hu
      rw [hy] at hv; injection hv with hv; subst hv
      exact hxy
  · rw [decide_eq_false hxy] at hsf
    repeat (first | ((first | (apply Lq.s; rfl) | apply PRun.s | (apply Lq.run; rfl; rfl; rfl; exact bsB) | (apply PRun.run; rfl; rfl; exact bsB)); first | (apply op_load streamT; rfl) | (apply op_callv (first := []) (captured := []) (ξs := [streamT.val x, streamT.val y]) hsf; rfl; exact bsD; exact fun H vs h => (by simpa using h)) | (exact bsO)) | apply J.seq | apply E.next | apply J.lq | apply Lq.nil | apply PRun.nil | apply J.block | apply E.in_normal | apply J.skip | (apply Lq.store; rfl; rfl; exact bsP; exact bsS; rfl; rfl) | (apply PRun.al; rfl) | (apply Lq.al; rfl; rfl; intro b) | (apply Open.cons; intro b) | apply Open.nil | (apply Lq.pass; rfl; rfl; rfl) | (apply PRun.pass; rfl; rfl) | (apply Lq.skip; rfl; rfl; rfl; exact bsB) | (apply PRun.skip; rfl; rfl; exact bsB) | (apply J.drawN; exact mixed; kernel_rfl) | (apply J.cond_t; rfl) | (apply J.cond_f; rfl) | apply J.exit | apply E.then_exit | apply E.in_exit | (apply E.in_other; rfl))
    (refine J.ret ?_; (repeat (first | refine E.then_ret ?_ | refine E.in_ret ?_)))
    rw [decide_eq_false (ne_at i x y hx hy hxy)]
    exact E.ret1 rfl rfl
theorem same17_fn (a z : StateS) (ha : GoodT a) (hz : GoodT z) : Fn Try.prog 27 [stateT.val a, stateT.val z] (is (.bool (decide (a = z)))) := by
  have hf := sequalF_fn a.streams z.streams ha.1 hz.1 (fun x hx => (ha.2 x hx).2) (fun x hx => (hz.2 x hx).2)
  by_cases h1 : a.clock = z.clock
  case neg =>
    rw [state_ne (.inl h1)]
    refine Fn.mk' 17 Try.func27 rfl rfl rfl rfl fun w0 H0 => ?_
    repeat (first | ((first | (apply Lq.s; rfl) | apply PRun.s | (apply Lq.run; rfl; rfl; rfl; exact bsB) | (apply PRun.run; rfl; rfl; exact bsB)); first | (apply op_box stateT; rfl) | (apply op_faddr state_clock; rfl; decide) | (apply op_faddr state_streams; rfl; decide) | (apply op_load (intT .i64); rfl) | (apply op_load (slT streamT); rfl) | (apply op_load stateT; rfl) | (apply op_load streamT; rfl) | (apply op_len (xs := a.streams); rfl) | (apply op_len (xs := z.streams); rfl) | (exact bsO)) | apply J.seq | apply E.next | apply J.lq | apply Lq.nil | apply PRun.nil | apply J.block | apply E.in_normal | apply J.skip | (apply Lq.store; rfl; rfl; exact bsP; exact bsS; rfl; rfl) | (apply PRun.al; rfl) | (apply Lq.al; rfl; rfl; intro b) | (apply Open.cons; intro b) | apply Open.nil | (apply Lq.pass; rfl; rfl; rfl) | (apply PRun.pass; rfl; rfl) | (apply Lq.skip; rfl; rfl; rfl; exact bsB) | (apply PRun.skip; rfl; rfl; exact bsB) | (apply J.drawN; exact mixed; kernel_rfl) | (apply J.cond_t; rfl) | (apply J.cond_f; rfl) | apply J.exit | apply E.then_exit | apply E.in_exit | (apply E.in_other; rfl))
    (refine J.ret ?_; (repeat (first | refine E.then_ret ?_ | refine E.in_ret ?_)))
    exact E.ret1 rfl rfl
  rw [show decide (a = z) = decide (a.streams = z.streams) by
    by_cases h2 : a.streams = z.streams
    · rw [state_eq h1 h2, decide_eq_true h2]
    · rw [state_ne (.inr h2), decide_eq_false h2]]
  refine Fn.mk' 17 Try.func27 rfl rfl rfl rfl fun w0 H0 => ?_
  repeat (first | ((first | (apply Lq.s; rfl) | apply PRun.s | (apply Lq.run; rfl; rfl; rfl; exact bsB) | (apply PRun.run; rfl; rfl; exact bsB)); first | (apply op_box stateT; rfl) | (apply op_faddr state_clock; rfl; decide) | (apply op_faddr state_streams; rfl; decide) | (apply op_load (intT .i64); rfl) | (apply op_load (slT streamT); rfl) | (apply op_load stateT; rfl) | (apply op_load streamT; rfl) | (apply op_len (xs := a.streams); rfl) | (apply op_len (xs := z.streams); rfl) | (apply op_call hf; exact bsD) | (exact bsO)) | apply J.seq | apply E.next | apply J.lq | apply Lq.nil | apply PRun.nil | apply J.block | apply E.in_normal | apply J.skip | (apply Lq.store; rfl; rfl; exact bsP; exact bsS; rfl; rfl) | (apply PRun.al; rfl) | (apply Lq.al; rfl; rfl; intro b) | (apply Open.cons; intro b) | apply Open.nil | (apply Lq.pass; rfl; rfl; rfl) | (apply PRun.pass; rfl; rfl) | (apply Lq.skip; rfl; rfl; rfl; exact bsB) | (apply PRun.skip; rfl; rfl; exact bsB) | (apply J.drawN; exact mixed; kernel_rfl) | (apply J.cond_t; rfl) | (apply J.cond_f; rfl) | apply J.exit | apply E.then_exit | apply E.in_exit | (apply E.in_other; rfl))
  (refine J.ret ?_; (repeat (first | refine E.then_ret ?_ | refine E.in_ret ?_)))
  exact E.ret1 rfl rfl
end Go.Proofs.Ytbemcehcipkliaa.L
