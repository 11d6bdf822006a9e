/-
  Streams that are made, told, compared by the program; the chapter's stream.
-/
import Derived.Test.YtbemcehcipkliaaNi
import Derived.Test.YtbemcehcipkliaaNk
namespace Go.Proofs.Ytbemcehcipkliaa.L
open Go
set_option linter.unusedSectionVars false
variable [Globs]
set_option linter.unusedVariables false
def newM (x : Str) : StreamS := if nameOk x then { zeroS with name := x } else zeroS
structure StatS where
  name : Str
  retain : Int
  holds : List Str
  recs : Int
  live : Int
def statT : Td StatS where
  sz := 5
  cells s := [is (str s.name), is (.int .i64 s.retain), sl strT.toTy s.holds, is (.int .i64 s.recs), is (.int .i64 s.live)]
  len _ := rfl
  ag := true
  one h := by cases h
  sc x H v h _ := by cases h
  pos := by decide
theorem stat_name : Fld statT.toTy strT.toTy StatS.name 0 := ⟨fun s => ⟨[], _, rfl, rfl⟩⟩
theorem stat_retain : Fld statT.toTy (intT .i64).toTy StatS.retain 1 := ⟨fun s => ⟨[is (str s.name)], _, rfl, rfl⟩⟩
theorem stat_holds : Fld statT.toTy (slT strT).toTy StatS.holds 2 := ⟨fun s => ⟨[is (str s.name), is (.int .i64 s.retain)], _, rfl, rfl⟩⟩
theorem stat_recs : Fld statT.toTy (intT .i64).toTy StatS.recs 3 := ⟨fun s => ⟨[is (str s.name), is (.int .i64 s.retain), sl strT.toTy s.holds], _, rfl, rfl⟩⟩
theorem stat_live : Fld statT.toTy (intT .i64).toTy StatS.live 4 := ⟨fun s => ⟨[is (str s.name), is (.int .i64 s.retain), sl strT.toTy s.holds, is (.int .i64 s.recs)], _, rfl, rfl⟩⟩
def statM (s : StreamS) : StatS := ⟨s.name, s.retain, s.holds, s.recs.length, liveN s.recs⟩
theorem live_step {l : List Rec} {i : Nat} {r : Rec} (h : l[i]? = some r) : liveN (l.take (i + 1)) = liveN (l.take i) + (if r.shredded then 0 else 1) := by
  unfold liveN
  rw [List.take_add_one, h, List.filter_append, List.length_append]
  congr 1
  cases hs : r.shredded <;> simp [hs]
theorem live_le (l : List Rec) : liveN l ≤ l.length := List.length_filter_le _ _
def e16 (k n len : Int) (x : Str) (r : Run) : EntryS := ⟨k, 0, n, len, x, zeroH, r⟩
def rc16 (b : Bool) : Rec := ⟨5, 3, zeroH, ⟨2, 1⟩, b⟩
def s16 (t : Int) (h : List Str) (l : List Rec) : StreamS := ⟨[97], t, h, l⟩
theorem a16_1 : applyM (s16 0 [] []) (e16 2 5 3 [] ⟨2, 1⟩) = (s16 0 [] [rc16 false], 0) := by decide +kernel
theorem a16_2 : applyM (s16 0 [] [rc16 false]) (e16 2 4 3 [] ⟨2, 1⟩) = (zeroS, 2) := by decide +kernel
theorem a16_3 : applyM (s16 0 [] [rc16 false]) (e16 3 10 0 [] ⟨0, 0⟩) = (s16 10 [] [rc16 false], 0) := by decide +kernel
theorem a16_4 : applyM (s16 10 [] [rc16 false]) (e16 3 9 0 [] ⟨0, 0⟩) = (zeroS, 140) := by decide +kernel
theorem a16_5 : applyM (s16 10 [] [rc16 false]) (e16 4 0 0 [120] ⟨0, 0⟩) = (s16 10 [[120]] [rc16 false], 0) := by decide +kernel
theorem a16_6 : applyM (s16 10 [[120]] [rc16 false]) (e16 4 0 0 [120] ⟨0, 0⟩) = (zeroS, 142) := by decide +kernel
theorem a16_7 : applyM (s16 10 [[120]] [rc16 false]) (e16 5 0 0 [121] ⟨0, 0⟩) = (zeroS, 143) := by decide +kernel
theorem a16_8 : applyM (s16 10 [[120]] [rc16 false]) (e16 6 0 0 [] ⟨0, 0⟩) = (s16 10 [[120]] [rc16 true], 0) := by decide +kernel
theorem a16_9 : applyM (s16 10 [[120]] [rc16 true]) (e16 6 0 0 [] ⟨0, 0⟩) = (zeroS, 162) := by decide +kernel
theorem a16_10 : applyM (s16 10 [[120]] [rc16 true]) (e16 6 1 0 [] ⟨0, 0⟩) = (zeroS, 161) := by decide +kernel
theorem Fn.res {P : Program} {f : Nat} {φs : List Pr} {x y : StreamS × Int} (F : Fn P f φs (tup [streamT.val x.1, is (.int .i64 x.2)])) (h : x = y) : Fn P f φs (tup [streamT.val y.1, is (.int .i64 y.2)]) := by subst h; exact F
theorem len16 (t : Int) (h : List Str) (l : List Rec) : (s16 t h l).holds.length = h.length ∧ (s16 t h l).recs.length = l.length := ⟨rfl, rfl⟩
set_option linter.unusedVariables false
set_option linter.unusedSimpArgs false
attribute [local irreducible] J Lq E OpP PRun is any agg tup ptr sl PRunW OpE
attribute [local irreducible] slt nameE lowerN cloT cntM recOk row tB checkM applyM lvs liveN
theorem sequal_fn (l m : List Str) (hl : l.length ≤ 1000000) (hm : m.length ≤ 1000000) : Fn Try.prog 51 [sl strT.toTy l, sl strT.toTy m] (is (.bool (decide (l = m)))) := by
  by_cases h : l.length = m.length
  case neg =>
    rw [decide_eq_false fun e => h (by rw [e])]
    refine Fn.mk' 26 Try.func51 rfl rfl rfl rfl fun w0 H0 => ?_
    repeat (first | ((first | (apply Lq.s; rfl) | apply PRun.s | (apply Lq.run; rfl; rfl; rfl; exact bsB) | (apply PRun.run; rfl; rfl; exact bsB)); first | (apply op_len (xs := l); rfl) | (apply op_len (xs := m); rfl) | (exact bsO)) | apply J.seq | apply E.next | apply J.lq | apply Lq.nil | apply PRun.nil | apply J.block | apply E.in_normal | apply J.skip | (apply Lq.store; rfl; rfl; exact bsP; exact bsS; rfl; rfl) | (apply PRun.al; rfl) | (apply Lq.al; rfl; rfl; intro b) | (apply Open.cons; intro b) | apply Open.nil | (apply Lq.pass; rfl; rfl; rfl) | (apply PRun.pass; rfl; rfl) | (apply Lq.skip; rfl; rfl; rfl; exact bsB) | (apply PRun.skip; rfl; rfl; exact bsB) | (apply J.drawN; exact mixed; kernel_rfl) | (apply J.cond_t; rfl) | (apply J.cond_f; rfl) | apply J.exit | apply E.then_exit | apply E.in_exit | (apply E.in_other; rfl))
    (refine J.ret ?_; (repeat (first | refine E.then_ret ?_ | refine E.in_ret ?_)))
    exact E.ret1 rfl rfl
  refine Fn.mk' 26 Try.func51 rfl rfl rfl rfl fun w0 H0 => ?_
  repeat (first | ((first | (apply Lq.s; rfl) | apply PRun.s | (apply Lq.run; rfl; rfl; rfl; exact bsB) | (apply PRun.run; rfl; rfl; exact bsB)); first | (apply op_len (xs := l); rfl) | (apply op_len (xs := m); rfl) | (exact bsO)) | apply J.seq | apply E.next | apply J.lq | apply Lq.nil | apply PRun.nil | apply J.block | apply E.in_normal | apply J.skip | (apply Lq.store; rfl; rfl; exact bsP; exact bsS; rfl; rfl) | (apply PRun.al; rfl) | (apply Lq.al; rfl; rfl; intro b) | (apply Open.cons; intro b) | apply Open.nil | (apply Lq.pass; rfl; rfl; rfl) | (apply PRun.pass; rfl; rfl) | (apply Lq.skip; rfl; rfl; rfl; exact bsB) | (apply PRun.skip; rfl; rfl; exact bsB) | (apply J.drawN; exact mixed; kernel_rfl) | (apply J.cond_t; rfl) | (apply J.cond_f; rfl) | apply J.exit | apply E.then_exit | apply E.in_exit | (apply E.in_other; rfl))
  refine J.loop (fun i : Nat => i ≤ l.length ∧ ∀ (j : Nat) (x y : Str), j < i → l[j]? = some x → m[j]? = some y → x = y) (fun i => [(0, sl strT.toTy l), (1, sl strT.toTy m), (12, is (.int .i64 (l.length : Int))), (13, is (.int .i64 (i : Int)))]) (fun _ => []) (fun i => l.length - i) 0 ⟨Nat.zero_le _, fun j x y hj => by omega⟩ (Sub.same (by repeat' (first | exact trivial | refine ⟨rfl, ?_⟩))) ?_
  rintro i ⟨hi, hp⟩
  by_cases hlt : i < l.length
  · obtain ⟨x, hx⟩ : ∃ x, l[i]? = some x := ⟨_, List.getElem?_eq_getElem hlt⟩
    obtain ⟨y, hy⟩ : ∃ y, m[i]? = some y := ⟨_, List.getElem?_eq_getElem (by omega)⟩
    by_cases hxy : x = y
    · have hdx : decide (x = y) = true := decide_eq_true hxy
      repeat (first | ((first | (apply Lq.s; rfl) | apply PRun.s | (apply Lq.run; rfl; rfl; rfl; exact bsB) | (apply PRun.run; rfl; rfl; exact bsB)); first | (apply op_iaddr strT.toTy (x := x); rfl; rfl; exact Int.natCast_nonneg _; (rw [Int.toNat_natCast]; exact hx)) | (apply op_iaddr strT.toTy (x := y); rfl; rfl; exact Int.natCast_nonneg _; (rw [Int.toNat_natCast]; exact hy)) | (apply op_load strT; rfl) | (apply op_sneq (a := x) (b := y); rfl; rfl) | (exact bsO)) | apply J.seq | apply E.next | apply J.lq | apply Lq.nil | apply PRun.nil | apply J.block | apply E.in_normal | apply J.skip | (apply Lq.store; rfl; rfl; exact bsP; exact bsS; rfl; rfl) | (apply PRun.al; rfl) | (apply Lq.al; rfl; rfl; intro b) | (apply Open.cons; intro b) | apply Open.nil | (apply Lq.pass; rfl; rfl; rfl) | (apply PRun.pass; rfl; rfl) | (apply Lq.skip; rfl; rfl; rfl; exact bsB) | (apply PRun.skip; rfl; rfl; exact bsB) | (apply J.drawN; exact mixed; kernel_rfl) | (apply J.cond_t; rfl) | (apply J.cond_f; rfl) | apply J.exit | apply E.then_exit | apply E.in_exit | (apply E.in_other; rfl))
      rw [hdx]
      repeat (first | ((first | (apply Lq.s; rfl) | apply PRun.s | (apply Lq.run; rfl; rfl; rfl; exact bsB) | (apply PRun.run; rfl; rfl; exact bsB)); first | (exact bsO)) | apply J.seq | apply E.next | apply J.lq | apply Lq.nil | apply PRun.nil | apply J.block | apply E.in_normal | apply J.skip | (apply Lq.store; rfl; rfl; exact bsP; exact bsS; rfl; rfl) | (apply PRun.al; rfl) | (apply Lq.al; rfl; rfl; intro b) | (apply Open.cons; intro b) | apply Open.nil | (apply Lq.pass; rfl; rfl; rfl) | (apply PRun.pass; rfl; rfl) | (apply Lq.skip; rfl; rfl; rfl; exact bsB) | (apply PRun.skip; rfl; rfl; exact bsB) | (apply J.drawN; exact mixed; kernel_rfl) | (apply J.cond_t; rfl) | (apply J.cond_f; rfl) | apply J.exit | apply E.then_exit | apply E.in_exit | (apply E.in_other; rfl))
      refine E.again (i + 1) (by omega) ⟨by omega, fun j u v hj hu hv => ?_⟩ (Sub.same (by repeat' (first | exact trivial | refine ⟨rfl, ?_⟩)))
      rcases Nat.lt_or_eq_of_le (Nat.le_of_lt_succ hj) with h | rfl
      · exact hp j u v h hu hv
      · rw [hx] at hu; injection hu with hu; subst hu
        rw [hy] at hv; injection hv with hv; subst hv
        exact hxy
    · have hdx : decide (x = y) = false := decide_eq_false hxy
      repeat (first | ((first | (apply Lq.s; rfl) | apply PRun.s | (apply Lq.run; rfl; rfl; rfl; exact bsB) | (apply PRun.run; rfl; rfl; exact bsB)); first | (apply op_iaddr strT.toTy (x := x); rfl; rfl; exact Int.natCast_nonneg _; (rw [Int.toNat_natCast]; exact hx)) | (apply op_iaddr strT.toTy (x := y); rfl; rfl; exact Int.natCast_nonneg _; (rw [Int.toNat_natCast]; exact hy)) | (apply op_load strT; rfl) | (apply op_sneq (a := x) (b := y); rfl; rfl) | (exact bsO)) | apply J.seq | apply E.next | apply J.lq | apply Lq.nil | apply PRun.nil | apply J.block | apply E.in_normal | apply J.skip | (apply Lq.store; rfl; rfl; exact bsP; exact bsS; rfl; rfl) | (apply PRun.al; rfl) | (apply Lq.al; rfl; rfl; intro b) | (apply Open.cons; intro b) | apply Open.nil | (apply Lq.pass; rfl; rfl; rfl) | (apply PRun.pass; rfl; rfl) | (apply Lq.skip; rfl; rfl; rfl; exact bsB) | (apply PRun.skip; rfl; rfl; exact bsB) | (apply J.drawN; exact mixed; kernel_rfl) | (apply J.cond_t; rfl) | (apply J.cond_f; rfl) | apply J.exit | apply E.then_exit | apply E.in_exit | (apply E.in_other; rfl))
      rw [hdx]
      repeat (first | ((first | (apply Lq.s; rfl) | apply PRun.s | (apply Lq.run; rfl; rfl; rfl; exact bsB) | (apply PRun.run; rfl; rfl; exact bsB)); first | (exact bsO)) | apply J.seq | apply E.next | apply J.lq | apply Lq.nil | apply PRun.nil | apply J.block | apply E.in_normal | apply J.skip | (apply Lq.store; rfl; rfl; exact bsP; exact bsS; rfl; rfl) | (apply PRun.al; rfl) | (apply Lq.al; rfl; rfl; intro b) | (apply Open.cons; intro b) | apply Open.nil | (apply Lq.pass; rfl; rfl; rfl) | (apply PRun.pass; rfl; rfl) | (apply Lq.skip; rfl; rfl; rfl; exact bsB) | (apply PRun.skip; rfl; rfl; exact bsB) | (apply J.drawN; exact mixed; kernel_rfl) | (apply J.cond_t; rfl) | (apply J.cond_f; rfl) | apply J.exit | apply E.then_exit | apply E.in_exit | (apply E.in_other; rfl))
      (refine J.ret ?_; (repeat (first | refine E.then_ret ?_ | refine E.in_ret ?_)))
      rw [decide_eq_false (ne_at i x y hx hy hxy)]
      exact E.ret1 rfl rfl
  · obtain rfl : i = l.length := by omega
    repeat (first | ((first | (apply Lq.s; rfl) | apply PRun.s | (apply Lq.run; rfl; rfl; rfl; exact bsB) | (apply PRun.run; rfl; rfl; exact bsB)); first | (exact bsO)) | apply J.seq | apply E.next | apply J.lq | apply Lq.nil | apply PRun.nil | apply J.block | apply E.in_normal | apply J.skip | (apply Lq.store; rfl; rfl; exact bsP; exact bsS; rfl; rfl) | (apply PRun.al; rfl) | (apply Lq.al; rfl; rfl; intro b) | (apply Open.cons; intro b) | apply Open.nil | (apply Lq.pass; rfl; rfl; rfl) | (apply PRun.pass; rfl; rfl) | (apply Lq.skip; rfl; rfl; rfl; exact bsB) | (apply PRun.skip; rfl; rfl; exact bsB) | (apply J.drawN; exact mixed; kernel_rfl) | (apply J.cond_t; rfl) | (apply J.cond_f; rfl) | apply J.exit | apply E.then_exit | apply E.in_exit | (apply E.in_other; rfl))
    (refine J.ret ?_; (repeat (first | refine E.then_ret ?_ | refine E.in_ret ?_)))
    rw [decide_eq_true (ext_at h fun j x y hx hy => hp j x y (List.getElem?_eq_some_iff.1 hx).1 hx hy)]
    exact E.ret1 rfl rfl
theorem requal_fn (l m : List Rec) (hl : l.length ≤ 1000000) (hm : m.length ≤ 1000000) : Fn Try.prog 52 [sl recT.toTy l, sl recT.toTy m] (is (.bool (decide (l = m)))) := by
  by_cases h : l.length = m.length
  case neg =>
    rw [decide_eq_false fun e => h (by rw [e])]
    refine Fn.mk' 26 Try.func52 rfl rfl rfl rfl fun w0 H0 => ?_
    repeat (first | ((first | (apply Lq.s; rfl) | apply PRun.s | (apply Lq.run; rfl; rfl; rfl; exact bsB) | (apply PRun.run; rfl; rfl; exact bsB)); first | (apply op_len (xs := l); rfl) | (apply op_len (xs := m); rfl) | (exact bsO)) | apply J.seq | apply E.next | apply J.lq | apply Lq.nil | apply PRun.nil | apply J.block | apply E.in_normal | apply J.skip | (apply Lq.store; rfl; rfl; exact bsP; exact bsS; rfl; rfl) | (apply PRun.al; rfl) | (apply Lq.al; rfl; rfl; intro b) | (apply Open.cons; intro b) | apply Open.nil | (apply Lq.pass; rfl; rfl; rfl) | (apply PRun.pass; rfl; rfl) | (apply Lq.skip; rfl; rfl; rfl; exact bsB) | (apply PRun.skip; rfl; rfl; exact bsB) | (apply J.drawN; exact mixed; kernel_rfl) | (apply J.cond_t; rfl) | (apply J.cond_f; rfl) | apply J.exit | apply E.then_exit | apply E.in_exit | (apply E.in_other; rfl))
    (refine J.ret ?_; (repeat (first | refine E.then_ret ?_ | refine E.in_ret ?_)))
    exact E.ret1 rfl rfl
  refine Fn.mk' 26 Try.func52 rfl rfl rfl rfl fun w0 H0 => ?_
  repeat (first | ((first | (apply Lq.s; rfl) | apply PRun.s | (apply Lq.run; rfl; rfl; rfl; exact bsB) | (apply PRun.run; rfl; rfl; exact bsB)); first | (apply op_len (xs := l); rfl) | (apply op_len (xs := m); rfl) | (exact bsO)) | apply J.seq | apply E.next | apply J.lq | apply Lq.nil | apply PRun.nil | apply J.block | apply E.in_normal | apply J.skip | (apply Lq.store; rfl; rfl; exact bsP; exact bsS; rfl; rfl) | (apply PRun.al; rfl) | (apply Lq.al; rfl; rfl; intro b) | (apply Open.cons; intro b) | apply Open.nil | (apply Lq.pass; rfl; rfl; rfl) | (apply PRun.pass; rfl; rfl) | (apply Lq.skip; rfl; rfl; rfl; exact bsB) | (apply PRun.skip; rfl; rfl; exact bsB) | (apply J.drawN; exact mixed; kernel_rfl) | (apply J.cond_t; rfl) | (apply J.cond_f; rfl) | apply J.exit | apply E.then_exit | apply E.in_exit | (apply E.in_other; rfl))
  refine J.loop (fun i : Nat => i ≤ l.length ∧ ∀ (j : Nat) (x y : Rec), j < i → l[j]? = some x → m[j]? = some y → x = y) (fun i => [(0, sl recT.toTy l), (1, sl recT.toTy m), (12, is (.int .i64 (l.length : Int))), (13, is (.int .i64 (i : Int)))]) (fun _ => []) (fun i => l.length - i) 0 ⟨Nat.zero_le _, fun j x y hj => by omega⟩ (Sub.same (by repeat' (first | exact trivial | refine ⟨rfl, ?_⟩))) ?_
  rintro i ⟨hi, hp⟩
  by_cases hlt : i < l.length
  · obtain ⟨x, hx⟩ : ∃ x, l[i]? = some x := ⟨_, List.getElem?_eq_getElem hlt⟩
    obtain ⟨y, hy⟩ : ∃ y, m[i]? = some y := ⟨_, List.getElem?_eq_getElem (by omega)⟩
    by_cases hxy : x = y
    · repeat (first | ((first | (apply Lq.s; rfl) | apply PRun.s | (apply Lq.run; rfl; rfl; rfl; exact bsB) | (apply PRun.run; rfl; rfl; exact bsB)); first | (apply op_iaddr recT.toTy (x := x); rfl; rfl; exact Int.natCast_nonneg _; (rw [Int.toNat_natCast]; exact hx)) | (apply op_iaddr recT.toTy (x := y); rfl; rfl; exact Int.natCast_nonneg _; (rw [Int.toNat_natCast]; exact hy)) | (apply op_load recT; rfl) | (apply op_neA_f (T := recT) (m := 3) eqd_rec rfl rfl; rfl; rfl; exact hxy) | (exact bsO)) | apply J.seq | apply E.next | apply J.lq | apply Lq.nil | apply PRun.nil | apply J.block | apply E.in_normal | apply J.skip | (apply Lq.store; rfl; rfl; exact bsP; exact bsS; rfl; rfl) | (apply PRun.al; rfl) | (apply Lq.al; rfl; rfl; intro b) | (apply Open.cons; intro b) | apply Open.nil | (apply Lq.pass; rfl; rfl; rfl) | (apply PRun.pass; rfl; rfl) | (apply Lq.skip; rfl; rfl; rfl; exact bsB) | (apply PRun.skip; rfl; rfl; exact bsB) | (apply J.drawN; exact mixed; kernel_rfl) | (apply J.cond_t; rfl) | (apply J.cond_f; rfl) | apply J.exit | apply E.then_exit | apply E.in_exit | (apply E.in_other; rfl))
      refine E.again (i + 1) (by omega) ⟨by omega, fun j u v hj hu hv => ?_⟩ (Sub.same (by repeat' (first | exact trivial | refine ⟨rfl, ?_⟩)))
      rcases Nat.lt_or_eq_of_le (Nat.le_of_lt_succ hj) with h | rfl
      · exact hp j u v h hu hv
      · rw [hx] at hu; injection hu with hu; subst hu
        rw [hy] at hv; injection hv with hv; subst hv
        exact hxy
    · repeat (first | ((first | (apply Lq.s; rfl) | apply PRun.s | (apply Lq.run; rfl; rfl; rfl; exact bsB) | (apply PRun.run; rfl; rfl; exact bsB)); first | (apply op_iaddr recT.toTy (x := x); rfl; rfl; exact Int.natCast_nonneg _; (rw [Int.toNat_natCast]; exact hx)) | (apply op_iaddr recT.toTy (x := y); rfl; rfl; exact Int.natCast_nonneg _; (rw [Int.toNat_natCast]; exact hy)) | (apply op_load recT; rfl) | (apply op_neA_t (T := recT) (m := 3) eqd_rec rfl rfl; rfl; rfl; exact hxy) | (exact bsO)) | apply J.seq | apply E.next | apply J.lq | apply Lq.nil | apply PRun.nil | apply J.block | apply E.in_normal | apply J.skip | (apply Lq.store; rfl; rfl; exact bsP; exact bsS; rfl; rfl) | (apply PRun.al; rfl) | (apply Lq.al; rfl; rfl; intro b) | (apply Open.cons; intro b) | apply Open.nil | (apply Lq.pass; rfl; rfl; rfl) | (apply PRun.pass; rfl; rfl) | (apply Lq.skip; rfl; rfl; rfl; exact bsB) | (apply PRun.skip; rfl; rfl; exact bsB) | (apply J.drawN; exact mixed; kernel_rfl) | (apply J.cond_t; rfl) | (apply J.cond_f; rfl) | apply J.exit | apply E.then_exit | apply E.in_exit | (apply E.in_other; rfl))
      (refine J.ret ?_; (repeat (first | refine E.then_ret ?_ | refine E.in_ret ?_)))
      rw [decide_eq_false (ne_at i x y hx hy hxy)]
      exact E.ret1 rfl rfl
  · obtain rfl : i = l.length := by omega
    repeat (first | ((first | (apply Lq.s; rfl) | apply PRun.s | (apply Lq.run; rfl; rfl; rfl; exact bsB) | (apply PRun.run; rfl; rfl; exact bsB)); first | (exact bsO)) | apply J.seq | apply E.next | apply J.lq | apply Lq.nil | apply PRun.nil | apply J.block | apply E.in_normal | apply J.skip | (apply Lq.store; rfl; rfl; exact bsP; exact bsS; rfl; rfl) | (apply PRun.al; rfl) | (apply Lq.al; rfl; rfl; intro b) | (apply Open.cons; intro b) | apply Open.nil | (apply Lq.pass; rfl; rfl; rfl) | (apply PRun.pass; rfl; rfl) | (apply Lq.skip; rfl; rfl; rfl; exact bsB) | (apply PRun.skip; rfl; rfl; exact bsB) | (apply J.drawN; exact mixed; kernel_rfl) | (apply J.cond_t; rfl) | (apply J.cond_f; rfl) | apply J.exit | apply E.then_exit | apply E.in_exit | (apply E.in_other; rfl))
    (refine J.ret ?_; (repeat (first | refine E.then_ret ?_ | refine E.in_ret ?_)))
    rw [decide_eq_true (ext_at h fun j x y hx hy => hp j x y (List.getElem?_eq_some_iff.1 hx).1 hx hy)]
    exact E.ret1 rfl rfl
theorem same_fn (a z : StreamS) (ha : a.recs.length ≤ 1000000 ∧ a.holds.length ≤ 1000000) (hz : z.recs.length ≤ 1000000 ∧ z.holds.length ≤ 1000000) : Fn Try.prog 41 [streamT.val a, streamT.val z] (is (.bool (decide (a = z)))) := by
  have hf1 := sequal_fn a.holds z.holds ha.2 hz.2
  have hf2 := requal_fn a.recs z.recs ha.1 hz.1
  by_cases h1 : a.name = z.name
  case neg =>
    rw [stream_ne (.inl h1)]
    have hd : decide (a.name = z.name) = false := decide_eq_false h1
    refine Fn.mk' 31 Try.func41 rfl rfl rfl rfl fun w0 H0 => ?_
    repeat (first | ((first | (apply Lq.s; rfl) | apply PRun.s | (apply Lq.run; rfl; rfl; rfl; exact bsB) | (apply PRun.run; rfl; rfl; exact bsB)); first | (apply op_box streamT; rfl) | (apply op_faddr stream_name; rfl; decide) | (apply op_faddr stream_retain; rfl; decide) | (apply op_faddr stream_holds; rfl; decide) | (apply op_faddr stream_recs; rfl; decide) | (apply op_load strT; rfl) | (apply op_load (intT .i64); rfl) | (apply op_load (slT strT); rfl) | (apply op_load (slT recT); rfl) | (apply op_load streamT; rfl) | (apply op_seql (a := a.name) (b := z.name); rfl; rfl) | (exact bsO)) | apply J.seq | apply E.next | apply J.lq | apply Lq.nil | apply PRun.nil | apply J.block | apply E.in_normal | apply J.skip | (apply Lq.store; rfl; rfl; exact bsP; exact bsS; rfl; rfl) | (apply PRun.al; rfl) | (apply Lq.al; rfl; rfl; intro b) | (apply Open.cons; intro b) | apply Open.nil | (apply Lq.pass; rfl; rfl; rfl) | (apply PRun.pass; rfl; rfl) | (apply Lq.skip; rfl; rfl; rfl; exact bsB) | (apply PRun.skip; rfl; rfl; exact bsB) | (apply J.drawN; exact mixed; kernel_rfl) | (apply J.cond_t; rfl) | (apply J.cond_f; rfl) | apply J.exit | apply E.then_exit | apply E.in_exit | (apply E.in_other; rfl))
    (refine J.ret ?_; (repeat (first | refine E.then_ret ?_ | refine E.in_ret ?_)))
    exact E.ret1 rfl rfl
  have hd : decide (a.name = z.name) = true := decide_eq_true h1
  by_cases h2 : a.retain = z.retain
  case neg =>
    rw [stream_ne (.inr (.inl h2))]
    refine Fn.mk' 31 Try.func41 rfl rfl rfl rfl fun w0 H0 => ?_
    repeat (first | ((first | (apply Lq.s; rfl) | apply PRun.s | (apply Lq.run; rfl; rfl; rfl; exact bsB) | (apply PRun.run; rfl; rfl; exact bsB)); first | (apply op_box streamT; rfl) | (apply op_faddr stream_name; rfl; decide) | (apply op_faddr stream_retain; rfl; decide) | (apply op_faddr stream_holds; rfl; decide) | (apply op_faddr stream_recs; rfl; decide) | (apply op_load strT; rfl) | (apply op_load (intT .i64); rfl) | (apply op_load (slT strT); rfl) | (apply op_load (slT recT); rfl) | (apply op_load streamT; rfl) | (apply op_seql (a := a.name) (b := z.name); rfl; rfl) | (exact bsO)) | apply J.seq | apply E.next | apply J.lq | apply Lq.nil | apply PRun.nil | apply J.block | apply E.in_normal | apply J.skip | (apply Lq.store; rfl; rfl; exact bsP; exact bsS; rfl; rfl) | (apply PRun.al; rfl) | (apply Lq.al; rfl; rfl; intro b) | (apply Open.cons; intro b) | apply Open.nil | (apply Lq.pass; rfl; rfl; rfl) | (apply PRun.pass; rfl; rfl) | (apply Lq.skip; rfl; rfl; rfl; exact bsB) | (apply PRun.skip; rfl; rfl; exact bsB) | (apply J.drawN; exact mixed; kernel_rfl) | (apply J.cond_t; rfl) | (apply J.cond_f; rfl) | apply J.exit | apply E.then_exit | apply E.in_exit | (apply E.in_other; rfl))
    (refine J.ret ?_; (repeat (first | refine E.then_ret ?_ | refine E.in_ret ?_)))
    exact E.ret1 rfl rfl
  by_cases h3 : a.holds = z.holds
  case neg =>
    rw [stream_ne (.inr (.inr (.inl h3)))]
    rw [decide_eq_false h3] at hf1
    refine Fn.mk' 31 Try.func41 rfl rfl rfl rfl fun w0 H0 => ?_
    repeat (first | ((first | (apply Lq.s; rfl) | apply PRun.s | (apply Lq.run; rfl; rfl; rfl; exact bsB) | (apply PRun.run; rfl; rfl; exact bsB)); first | (apply op_box streamT; rfl) | (apply op_faddr stream_name; rfl; decide) | (apply op_faddr stream_retain; rfl; decide) | (apply op_faddr stream_holds; rfl; decide) | (apply op_faddr stream_recs; rfl; decide) | (apply op_load strT; rfl) | (apply op_load (intT .i64); rfl) | (apply op_load (slT strT); rfl) | (apply op_load (slT recT); rfl) | (apply op_load streamT; rfl) | (apply op_seql (a := a.name) (b := z.name); rfl; rfl) | (apply op_call hf1; exact bsD) | (exact bsO)) | apply J.seq | apply E.next | apply J.lq | apply Lq.nil | apply PRun.nil | apply J.block | apply E.in_normal | apply J.skip | (apply Lq.store; rfl; rfl; exact bsP; exact bsS; rfl; rfl) | (apply PRun.al; rfl) | (apply Lq.al; rfl; rfl; intro b) | (apply Open.cons; intro b) | apply Open.nil | (apply Lq.pass; rfl; rfl; rfl) | (apply PRun.pass; rfl; rfl) | (apply Lq.skip; rfl; rfl; rfl; exact bsB) | (apply PRun.skip; rfl; rfl; exact bsB) | (apply J.drawN; exact mixed; kernel_rfl) | (apply J.cond_t; rfl) | (apply J.cond_f; rfl) | apply J.exit | apply E.then_exit | apply E.in_exit | (apply E.in_other; rfl))
    (refine J.ret ?_; (repeat (first | refine E.then_ret ?_ | refine E.in_ret ?_)))
    exact E.ret1 rfl rfl
  rw [decide_eq_true h3] at hf1
  rw [show decide (a = z) = decide (a.recs = z.recs) by
    by_cases h4 : a.recs = z.recs
    · rw [stream_eq h1 h2 h3 h4, decide_eq_true h4]
    · rw [stream_ne (.inr (.inr (.inr h4))), decide_eq_false h4]]
  refine Fn.mk' 31 Try.func41 rfl rfl rfl rfl fun w0 H0 => ?_
  repeat (first | ((first | (apply Lq.s; rfl) | apply PRun.s | (apply Lq.run; rfl; rfl; rfl; exact bsB) | (apply PRun.run; rfl; rfl; exact bsB)); first | (apply op_box streamT; rfl) | (apply op_faddr stream_name; rfl; decide) | (apply op_faddr stream_retain; rfl; decide) | (apply op_faddr stream_holds; rfl; decide) | (apply op_faddr stream_recs; rfl; decide) | (apply op_load strT; rfl) | (apply op_load (intT .i64); rfl) | (apply op_load (slT strT); rfl) | (apply op_load (slT recT); rfl) | (apply op_load streamT; rfl) | (apply op_seql (a := a.name) (b := z.name); rfl; rfl) | (apply op_call hf1; exact bsD) | (apply op_call hf2; exact bsD) | (exact bsO)) | apply J.seq | apply E.next | apply J.lq | apply Lq.nil | apply PRun.nil | apply J.block | apply E.in_normal | apply J.skip | (apply Lq.store; rfl; rfl; exact bsP; exact bsS; rfl; rfl) | (apply PRun.al; rfl) | (apply Lq.al; rfl; rfl; intro b) | (apply Open.cons; intro b) | apply Open.nil | (apply Lq.pass; rfl; rfl; rfl) | (apply PRun.pass; rfl; rfl) | (apply Lq.skip; rfl; rfl; rfl; exact bsB) | (apply PRun.skip; rfl; rfl; exact bsB) | (apply J.drawN; exact mixed; kernel_rfl) | (apply J.cond_t; rfl) | (apply J.cond_f; rfl) | apply J.exit | apply E.then_exit | apply E.in_exit | (apply E.in_other; rfl))
  (refine J.ret ?_; (repeat (first | refine E.then_ret ?_ | refine E.in_ret ?_)))
  exact E.ret1 rfl rfl
theorem new_fn (x : Str) : Fn Try.prog 46 [is (str x)] (tup [streamT.val (newM x), is (.int .i64 (nameE x))]) := by
  have hf := ncheck_fn x
  cases h : nameOk x
  · rw [show newM x = zeroS by unfold newM; rw [h]; rfl, nameE_bad h]
    rw [nameE_bad h] at hf
    refine Fn.mk' 13 Try.func46 rfl rfl rfl rfl fun w0 H0 => ?_
    repeat (first | ((first | (apply Lq.s; rfl) | apply PRun.s | (apply Lq.run; rfl; rfl; rfl; exact bsB) | (apply PRun.run; rfl; rfl; exact bsB)); first | (apply op_call hf; exact bsD) | (apply op_zeroS; rfl; rfl) | (exact bsO)) | apply J.seq | apply E.next | apply J.lq | apply Lq.nil | apply PRun.nil | apply J.block | apply E.in_normal | apply J.skip | (apply Lq.store; rfl; rfl; exact bsP; exact bsS; rfl; rfl) | (apply PRun.al; rfl) | (apply Lq.al; rfl; rfl; intro b) | (apply Open.cons; intro b) | apply Open.nil | (apply Lq.pass; rfl; rfl; rfl) | (apply PRun.pass; rfl; rfl) | (apply Lq.skip; rfl; rfl; rfl; exact bsB) | (apply PRun.skip; rfl; rfl; exact bsB) | (apply J.drawN; exact mixed; kernel_rfl) | (apply J.cond_t; rfl) | (apply J.cond_f; rfl) | apply J.exit | apply E.then_exit | apply E.in_exit | (apply E.in_other; rfl))
    (refine J.ret ?_; (repeat (first | refine E.then_ret ?_ | refine E.in_ret ?_)))
    exact E.retct streamT (x := zeroS) rfl rfl rfl (by exact bsM) rfl rfl
  · rw [show newM x = { zeroS with name := x } by unfold newM; rw [h]; rfl, nameE_ok h]
    rw [nameE_ok h] at hf
    refine Fn.mk' 13 Try.func46 rfl rfl rfl rfl fun w0 H0 => ?_
    repeat (first | ((first | (apply Lq.s; rfl) | apply PRun.s | (apply Lq.run; rfl; rfl; rfl; exact bsB) | (apply PRun.run; rfl; rfl; exact bsB)); first | (apply op_call hf; exact bsD) | (apply op_newS (s := x); rfl; rfl; rfl; rfl) | (exact bsO)) | apply J.seq | apply E.next | apply J.lq | apply Lq.nil | apply PRun.nil | apply J.block | apply E.in_normal | apply J.skip | (apply Lq.store; rfl; rfl; exact bsP; exact bsS; rfl; rfl) | (apply PRun.al; rfl) | (apply Lq.al; rfl; rfl; intro b) | (apply Open.cons; intro b) | apply Open.nil | (apply Lq.pass; rfl; rfl; rfl) | (apply PRun.pass; rfl; rfl) | (apply Lq.skip; rfl; rfl; rfl; exact bsB) | (apply PRun.skip; rfl; rfl; exact bsB) | (apply J.drawN; exact mixed; kernel_rfl) | (apply J.cond_t; rfl) | (apply J.cond_f; rfl) | apply J.exit | apply E.then_exit | apply E.in_exit | (apply E.in_other; rfl))
    (refine J.ret ?_; (repeat (first | refine E.then_ret ?_ | refine E.in_ret ?_)))
    exact E.retct streamT (x := { zeroS with name := x }) rfl rfl rfl (by exact bsM) rfl rfl
end Go.Proofs.Ytbemcehcipkliaa.L
