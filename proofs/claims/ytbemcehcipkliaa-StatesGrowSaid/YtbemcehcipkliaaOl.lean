/-
  The laws of states, walked: StatesGrow.
-/
import Derived.Test.YtbemcehcipkliaaOk
namespace Go.Proofs.Ytbemcehcipkliaa.L
open Go
set_option linter.unusedSectionVars false
variable [Globs]
set_option linter.unusedVariables false
theorem own_zeroT {b : Nat} {e : TypeId} : ∀ H w, (own b e [is (.int .i64 0), is (.slice none 0 0)]).ok H w → (own b e (stateT.cells zeroT)).ok H w ∧ (own b e (stateT.cells zeroT)).blk = (own b e [is (.int .i64 0), is (.slice none 0 0)]).blk := fun H w h => by
  obtain ⟨⟨cs, hh, hcs⟩, hn⟩ := h
  refine ⟨⟨⟨cs, hh, ?_⟩, hn⟩, rfl⟩
  match cs, hcs with
  | [c1, c2], ⟨h1, h2, _⟩ => exact ⟨h1, ⟨sl_nil H c2 h2.1, h2.2⟩, trivial⟩
def sumL (l : List StreamS) (i : Nat) : Nat := ((l.take i).map fun x => x.recs.length).sum
theorem sumL_step {l : List StreamS} {i : Nat} {x : StreamS} (h : l[i]? = some x) : sumL l (i + 1) = sumL l i + x.recs.length := sum_step h
theorem sumL_le {l : List StreamS} (h : ∀ x ∈ l, x.recs.length ≤ 64) (i : Nat) : sumL l i ≤ 64 * i := sum_le h i
theorem sumL_all (l : List StreamS) : (runsM false l).length + (runsM true l).length = sumL l l.length := by
  unfold sumL
  rw [List.take_length]
  exact runs_all l
set_option linter.unusedVariables false
set_option linter.unusedSimpArgs false
attribute [local irreducible] J Lq E OpP PRun is any agg tup ptr sl PRunW OpE
attribute [local irreducible] slt nameE lowerN cloT cntM recOk row tB checkM applyM errM resM beyondM longB newM lastT checkS applyS findI foldS allS all2B rr runsM grownM longerS beyondT beyondE
set_option maxHeartbeats 4000000 in
theorem statesGrow (l : List EntryS) (tk : List UInt8) (hx : l.length ≤ maxLen ∧ ∀ e ∈ l, EntryOk e) (hx2 : tk.length ≤ maxLen ∧ ∀ x ∈ tk, True) : Fn Try.prog 8 [sl entryT.toTy l, sl u8T.toTy tk] (is (.bool true)) := by
  have hlm := hx.1
  have htm := hx2.1
  unfold maxLen at htm
  have hbe := beyondE_fn l 60 hlm
  cases hbl : beyondE l 60
  case true =>
    rw [hbl] at hbe
    refine Fn.mk' 127 Try.func8 rfl rfl rfl rfl fun w0 H0 => ?_
    repeat (first | ((first | (apply Lq.s; rfl) | apply PRun.s | (apply Lq.run; rfl; rfl; rfl; exact bsB) | (apply PRun.run; rfl; rfl; exact bsB)); first | (apply op_len (xs := l); rfl) | (apply op_call lives17_fn; exact bsD) | (apply op_call hbe; exact bsD) | (apply op_len (xs := tk); rfl) | (exact bsO)) | apply J.seq | apply E.next | apply J.lq | apply Lq.nil | apply PRun.nil | apply J.block | apply E.in_normal | apply J.skip | (apply Lq.store; rfl; rfl; exact bsP; exact bsS; rfl; rfl) | (apply PRun.al; rfl) | (apply Lq.al; rfl; rfl; intro b) | (apply Open.cons; intro b) | apply Open.nil | (apply Lq.pass; rfl; rfl; rfl) | (apply PRun.pass; rfl; rfl) | (apply Lq.skip; rfl; rfl; rfl; exact bsB) | (apply PRun.skip; rfl; rfl; exact bsB) | (apply J.drawN; exact mixed; kernel_rfl) | (apply J.cond_t; rfl) | (apply J.cond_f; rfl) | apply J.exit | apply E.then_exit | apply E.in_exit | (apply E.in_other; rfl))
    (refine J.ret ?_; (repeat (first | refine E.then_ret ?_ | refine E.in_ret ?_)))
    exact E.ret1 rfl rfl
  rw [hbl] at hbe
  have hl := beyondE_len hbl
  by_cases htl : 60 < tk.length
  · refine Fn.mk' 127 Try.func8 rfl rfl rfl rfl fun w0 H0 => ?_
    repeat (first | ((first | (apply Lq.s; rfl) | apply PRun.s | (apply Lq.run; rfl; rfl; rfl; exact bsB) | (apply PRun.run; rfl; rfl; exact bsB)); first | (apply op_len (xs := l); rfl) | (apply op_call lives17_fn; exact bsD) | (apply op_call hbe; exact bsD) | (apply op_len (xs := tk); rfl) | (exact bsO)) | apply J.seq | apply E.next | apply J.lq | apply Lq.nil | apply PRun.nil | apply J.block | apply E.in_normal | apply J.skip | (apply Lq.store; rfl; rfl; exact bsP; exact bsS; rfl; rfl) | (apply PRun.al; rfl) | (apply Lq.al; rfl; rfl; intro b) | (apply Open.cons; intro b) | apply Open.nil | (apply Lq.pass; rfl; rfl; rfl) | (apply PRun.pass; rfl; rfl) | (apply Lq.skip; rfl; rfl; rfl; exact bsB) | (apply PRun.skip; rfl; rfl; exact bsB) | (apply J.drawN; exact mixed; kernel_rfl) | (apply J.cond_t; rfl) | (apply J.cond_f; rfl) | apply J.exit | apply E.then_exit | apply E.in_exit | (apply E.in_other; rfl))
    (refine J.ret ?_; (repeat (first | refine E.then_ret ?_ | refine E.in_ret ?_)))
    exact E.ret1 rfl rfl
  have hZ0 : [zeroT] ≠ [] := fun h => by cases h
  have hZ : ∀ y ∈ [zeroT], checkS y = true ∧ grownM y zeroT = true := fun y hy => by
    obtain rfl := List.mem_singleton.1 hy
    exact ⟨checkS_zero, grownM_refl _⟩
  refine Fn.mk' 127 Try.func8 rfl rfl rfl rfl fun w0 H0 => ?_
  repeat (first | ((first | (apply Lq.s; rfl) | apply PRun.s | (apply Lq.run; rfl; rfl; rfl; exact bsB) | (apply PRun.run; rfl; rfl; exact bsB)); first | (apply op_len (xs := l); rfl) | (apply op_call lives17_fn; exact bsD) | (apply op_call hbe; exact bsD) | (apply op_len (xs := tk); rfl) | (exact bsO)) | apply J.seq | apply E.next | apply J.lq | apply Lq.nil | apply PRun.nil | apply J.block | apply E.in_normal | apply J.skip | (apply Lq.store; rfl; rfl; exact bsP; exact bsS; rfl; rfl) | (apply PRun.al; rfl) | (apply Lq.al; rfl; rfl; intro b) | (apply Open.cons; intro b) | apply Open.nil | (apply Lq.pass; rfl; rfl; rfl) | (apply PRun.pass; rfl; rfl) | (apply Lq.skip; rfl; rfl; rfl; exact bsB) | (apply PRun.skip; rfl; rfl; exact bsB) | (apply J.cond_t; rfl) | (apply J.cond_f; rfl) | apply J.exit | apply E.then_exit | apply E.in_exit | (apply E.in_other; rfl))
  revert b
  intro b5
  refine Lq.res1 (r' := own b5 24 (stateT.cells zeroT)) (by exact bsP) own_zeroT ?_
  (apply Lq.s; rfl; (apply op_oload stateT (x := zeroT); rfl; exact bsM; rfl))
  (apply Lq.bsl (T := stateT) (xs := [zeroT]); rfl; (repeat (first | exact PO.nil _ | (apply PO.cons; rfl))); rfl; rfl; rfl)
  intro A1 c1
  repeat (first | ((first | (apply Lq.s; rfl) | apply PRun.s | (apply Lq.run; rfl; rfl; rfl; exact bsB) | (apply PRun.run; rfl; rfl; exact bsB)); first | (apply op_len (xs := l); rfl) | (apply op_call lives17_fn; exact bsD) | (apply op_call hbe; exact bsD) | (apply op_len (xs := tk); rfl) | (exact bsO)) | apply J.seq | apply E.next | apply J.lq | apply Lq.nil | apply PRun.nil | apply J.block | apply E.in_normal | apply J.skip | (apply Lq.store; rfl; rfl; exact bsP; exact bsS; rfl; rfl) | (apply PRun.al; rfl) | (apply Lq.al; rfl; rfl; intro b) | (apply Open.cons; intro b) | apply Open.nil | (apply Lq.pass; rfl; rfl; rfl) | (apply PRun.pass; rfl; rfl) | (apply Lq.skip; rfl; rfl; rfl; exact bsB) | (apply PRun.skip; rfl; rfl; exact bsB) | (apply J.cond_t; rfl) | (apply J.cond_f; rfl) | apply J.exit | apply E.then_exit | apply E.in_exit | (apply E.in_other; rfl))
  refine J.loop (fun p : Nat × StateS × List StateS × Option Addr × Nat => p.1 ≤ l.length ∧ checkS p.2.1 = true ∧ p.2.2.1 ≠ [] ∧ p.2.2.1.length ≤ p.1 + 1 ∧ ∀ y ∈ p.2.2.1, checkS y = true ∧ grownM y p.2.1 = true) (fun p => [(0, sl entryT.toTy l), (1, sl u8T.toTy tk), (5, is (.pointer (some ⟨b5, 0, none⟩))), (6, is (.slice p.2.2.2.1 p.2.2.1.length p.2.2.2.2)), (7, is (.int .i64 (p.1 : Int)))])
    (fun p => [own b5 24 (stateT.cells p.2.1), row (.slice p.2.2.2.1 p.2.2.1.length p.2.2.2.2) 24 stateT.toTy p.2.2.1]) (fun p => l.length - p.1) (0, zeroT, [zeroT], A1, c1) ⟨Nat.zero_le _, checkS_zero, hZ0, Nat.le_refl 1, hZ⟩ ⟨(by repeat' (first | exact trivial | refine ⟨rfl, ?_⟩)), [], bsP⟩ ?_
  rintro ⟨i, cur, L, A, c⟩ ⟨hi, hc, hne, hLl, hL⟩
  dsimp only at hi hc hne hLl hL ⊢
  by_cases hlt : i < l.length
  case neg =>
    repeat (first | ((first | (apply Lq.s; rfl) | apply PRun.s | (apply Lq.run; rfl; rfl; rfl; exact bsB) | (apply PRun.run; rfl; rfl; exact bsB)); first | (apply op_len (xs := l); rfl) | (apply op_call lives17_fn; exact bsD) | (apply op_call hbe; exact bsD) | (exact bsO)) | apply J.seq | apply E.next | apply J.lq | apply Lq.nil | apply PRun.nil | apply J.block | apply E.in_normal | apply J.skip | (apply Lq.store; rfl; rfl; exact bsP; exact bsS; rfl; rfl) | (apply PRun.al; rfl) | (apply Lq.al; rfl; rfl; intro b) | (apply Open.cons; intro b) | apply Open.nil | (apply Lq.pass; rfl; rfl; rfl) | (apply PRun.pass; rfl; rfl) | (apply Lq.skip; rfl; rfl; rfl; exact bsB) | (apply PRun.skip; rfl; rfl; exact bsB) | (apply J.drawN; exact mixed; kernel_rfl) | (apply J.cond_t; rfl) | (apply J.cond_f; rfl) | apply J.exit | apply E.then_exit | apply E.in_exit | (apply E.in_other; rfl))
    (refine J.ret ?_; (repeat (first | refine E.then_ret ?_ | refine E.in_ret ?_)))
    exact E.ret1 rfl rfl
  obtain ⟨e, he⟩ : ∃ e, l[i]? = some e := ⟨_, List.getElem?_eq_getElem hlt⟩
  obtain ⟨h8, h64, hc0, hc1⟩ := checkS_small hc
  have hgc := goodS hc
  repeat (first | ((first | (apply Lq.s; rfl) | apply PRun.s | (apply Lq.run; rfl; rfl; rfl; exact bsB) | (apply PRun.run; rfl; rfl; exact bsB)); first | (apply op_len (xs := l); rfl) | (apply op_call lives17_fn; exact bsD) | (apply op_call hbe; exact bsD) | (apply op_oload (intT .i64) (x := cur.clock); rfl; exact bsM; rfl) | (exact bsO)) | apply J.seq | apply E.next | apply J.lq | apply Lq.nil | apply PRun.nil | apply J.block | apply E.in_normal | apply J.skip | (apply Lq.store; rfl; rfl; exact bsP; exact bsS; rfl; rfl) | (apply PRun.al; rfl) | (apply Lq.al; rfl; rfl; intro b) | (apply Open.cons; intro b) | apply Open.nil | (apply Lq.pass; rfl; rfl; rfl) | (apply PRun.pass; rfl; rfl) | (apply Lq.skip; rfl; rfl; rfl; exact bsB) | (apply PRun.skip; rfl; rfl; exact bsB) | (apply J.cond_t; rfl) | (apply J.cond_f; rfl) | apply J.exit | apply E.then_exit | apply E.in_exit | (apply E.in_other; rfl))
  refine J.mid (fun k : Int => cur.clock ≤ k ∧ k ≤ 1073742079) (fun k => [(0, sl entryT.toTy l), (1, sl u8T.toTy tk), (5, is (.pointer (some ⟨b5, 0, none⟩))), (6, is (.slice A L.length c)), (7, is (.int .i64 (i : Int))), (8, is (.int .i64 k))]) (fun _ => [own b5 24 (stateT.cells cur), row (.slice A L.length c) 24 stateT.toTy L]) ?_ ?_
  · by_cases ht : i < tk.length
    · obtain ⟨x, hxx⟩ : ∃ x, tk[i]? = some x := ⟨_, List.getElem?_eq_getElem ht⟩
      have hu : x.toNat < 256 := x.toBitVec.isLt
      rw [decide_eq_true (show (i : Int) < (tk.length : Int) by omega)]
      repeat (first | ((first | (apply Lq.s; rfl) | apply PRun.s | (apply Lq.run; rfl; rfl; rfl; exact bsB) | (apply PRun.run; rfl; rfl; exact bsB)); first | (apply op_iaddr u8T.toTy (x := x); rfl; rfl; exact Int.natCast_nonneg _; (rw [Int.toNat_natCast]; exact hxx)) | (apply op_load u8T; rfl) | (apply op_conv (c := (x.toNat : Int)); rfl; (apply wrapi <;> omega)) | (apply op_add (c := cur.clock + (x.toNat : Int)); rfl; rfl; (apply wrapi <;> omega)) | (exact bsO)) | apply J.seq | apply E.next | apply J.lq | apply Lq.nil | apply PRun.nil | apply J.block | apply E.in_normal | apply J.skip | (apply Lq.store; rfl; rfl; exact bsP; exact bsS; rfl; rfl) | (apply PRun.al; rfl) | (apply Lq.al; rfl; rfl; intro b) | (apply Open.cons; intro b) | apply Open.nil | (apply Lq.pass; rfl; rfl; rfl) | (apply PRun.pass; rfl; rfl) | (apply Lq.skip; rfl; rfl; rfl; exact bsB) | (apply PRun.skip; rfl; rfl; exact bsB) | (apply J.drawN; exact mixed; kernel_rfl) | (apply J.cond_t; rfl) | (apply J.cond_f; rfl) | apply J.exit | apply E.then_exit | apply E.in_exit | (apply E.in_other; rfl))
      exact E.mid (cur.clock + (x.toNat : Int)) ⟨by omega, by omega⟩ ⟨(by repeat' (first | exact trivial | refine ⟨rfl, ?_⟩)), [], bsP⟩
    · rw [decide_eq_false (show ¬ (i : Int) < (tk.length : Int) by omega)]
      repeat (first | ((first | (apply Lq.s; rfl) | apply PRun.s | (apply Lq.run; rfl; rfl; rfl; exact bsB) | (apply PRun.run; rfl; rfl; exact bsB)); first | (exact bsO)) | apply J.seq | apply E.next | apply J.lq | apply Lq.nil | apply PRun.nil | apply J.block | apply E.in_normal | apply J.skip | (apply Lq.store; rfl; rfl; exact bsP; exact bsS; rfl; rfl) | (apply PRun.al; rfl) | (apply Lq.al; rfl; rfl; intro b) | (apply Open.cons; intro b) | apply Open.nil | (apply Lq.pass; rfl; rfl; rfl) | (apply PRun.pass; rfl; rfl) | (apply Lq.skip; rfl; rfl; rfl; exact bsB) | (apply PRun.skip; rfl; rfl; exact bsB) | (apply J.drawN; exact mixed; kernel_rfl) | (apply J.cond_t; rfl) | (apply J.cond_f; rfl) | apply J.exit | apply E.then_exit | apply E.in_exit | (apply E.in_other; rfl))
      exact E.mid cur.clock ⟨by omega, by omega⟩ ⟨(by repeat' (first | exact trivial | refine ⟨rfl, ?_⟩)), [], bsP⟩
  rintro k ⟨hk1, hk2⟩
  repeat (first | ((first | (apply Lq.s; rfl) | apply PRun.s | (apply Lq.run; rfl; rfl; rfl; exact bsB) | (apply PRun.run; rfl; rfl; exact bsB)); first | (exact bsO)) | apply J.seq | apply E.next | apply J.lq | apply Lq.nil | apply PRun.nil | apply J.block | apply E.in_normal | apply J.skip | (apply Lq.store; rfl; rfl; exact bsP; exact bsS; rfl; rfl) | (apply PRun.al; rfl) | (apply Lq.al; rfl; rfl; intro b) | (apply Open.cons; intro b) | apply Open.nil | (apply Lq.pass; rfl; rfl; rfl) | (apply PRun.pass; rfl; rfl) | (apply Lq.skip; rfl; rfl; rfl; exact bsB) | (apply PRun.skip; rfl; rfl; exact bsB) | (apply J.drawN; exact mixed; kernel_rfl) | (apply J.cond_t; rfl) | (apply J.cond_f; rfl) | apply J.exit | apply E.then_exit | apply E.in_exit | (apply E.in_other; rfl))
  (apply Lq.s; rfl; (apply op_iaddr entryT.toTy (x := e); rfl; rfl; exact Int.natCast_nonneg _; (rw [Int.toNat_natCast]; exact he)))
  (apply Lq.s; rfl; (apply op_load entryT; rfl))
  (apply Lq.al; rfl; rfl; intro b9)
  (apply Lq.storeE (φs' := entryT.cells e); rfl; rfl; exact List.Perm.refl _; exact Seg.val _ _; exact entryT.len _; exact Nat.le_refl 39; exact splice_all (by rw [entryT.len]; rfl))
  repeat (first | ((first | (apply Lq.s; rfl) | apply PRun.s | (apply Lq.run; rfl; rfl; rfl; exact bsB) | (apply PRun.run; rfl; rfl; exact bsB)); first | (apply op_oload (intT .i64) (x := e.kind); rfl; exact bsM; rfl) | (exact bsO)) | apply J.seq | apply E.next | apply J.lq | apply Lq.nil | apply PRun.nil | apply J.block | apply E.in_normal | apply J.skip | (apply Lq.store; rfl; rfl; exact bsP; exact bsS; rfl; rfl) | (apply PRun.al; rfl) | (apply Lq.al; rfl; rfl; intro b) | (apply Open.cons; intro b) | apply Open.nil | (apply Lq.pass; rfl; rfl; rfl) | (apply PRun.pass; rfl; rfl) | (apply Lq.skip; rfl; rfl; rfl; exact bsB) | (apply PRun.skip; rfl; rfl; exact bsB) | (apply J.drawN; exact mixed; kernel_rfl) | (apply J.cond_t; rfl) | (apply J.cond_f; rfl) | apply J.exit | apply E.then_exit | apply E.in_exit | (apply E.in_other; rfl))
  refine J.mid (fun _ : EntryS => True) (fun _ => [(0, sl entryT.toTy l), (1, sl u8T.toTy tk), (5, is (.pointer (some ⟨b5, 0, none⟩))), (6, is (.slice A L.length c)), (7, is (.int .i64 (i : Int))), (8, is (.int .i64 k)), (9, is (.pointer (some ⟨b9, 0, none⟩)))]) (fun q => [own b9 43 (entryT.cells q), own b5 24 (stateT.cells cur), row (.slice A L.length c) 24 stateT.toTy L]) ?_ ?_
  · by_cases hk2 : e.kind = 2
    · rw [decide_eq_true hk2]
      repeat (first | ((first | (apply Lq.s; rfl) | apply PRun.s | (apply Lq.run; rfl; rfl; rfl; exact bsB) | (apply PRun.run; rfl; rfl; exact bsB)); first | (exact bsO)) | apply J.seq | apply E.next | apply J.lq | apply Lq.nil | apply PRun.nil | apply J.block | apply E.in_normal | apply J.skip | (apply Lq.store; rfl; rfl; exact bsP; exact bsS; rfl; rfl) | (apply PRun.al; rfl) | (apply Lq.al; rfl; rfl; intro b) | (apply Open.cons; intro b) | apply Open.nil | (apply Lq.pass; rfl; rfl; rfl) | (apply PRun.pass; rfl; rfl) | (apply Lq.skip; rfl; rfl; rfl; exact bsB) | (apply PRun.skip; rfl; rfl; exact bsB) | (apply J.drawN; exact mixed; kernel_rfl) | (apply J.cond_t; rfl) | (apply J.cond_f; rfl) | apply J.exit | apply E.then_exit | apply E.in_exit | (apply E.in_other; rfl))
      exact E.mid { e with n := k } trivial ⟨(by repeat' (first | exact trivial | refine ⟨rfl, ?_⟩)), [], bsP⟩
    · rw [decide_eq_false hk2]
      repeat (first | ((first | (apply Lq.s; rfl) | apply PRun.s | (apply Lq.run; rfl; rfl; rfl; exact bsB) | (apply PRun.run; rfl; rfl; exact bsB)); first | (exact bsO)) | apply J.seq | apply E.next | apply J.lq | apply Lq.nil | apply PRun.nil | apply J.block | apply E.in_normal | apply J.skip | (apply Lq.store; rfl; rfl; exact bsP; exact bsS; rfl; rfl) | (apply PRun.al; rfl) | (apply Lq.al; rfl; rfl; intro b) | (apply Open.cons; intro b) | apply Open.nil | (apply Lq.pass; rfl; rfl; rfl) | (apply PRun.pass; rfl; rfl) | (apply Lq.skip; rfl; rfl; rfl; exact bsB) | (apply PRun.skip; rfl; rfl; exact bsB) | (apply J.drawN; exact mixed; kernel_rfl) | (apply J.cond_t; rfl) | (apply J.cond_f; rfl) | apply J.exit | apply E.then_exit | apply E.in_exit | (apply E.in_other; rfl))
      exact E.mid e trivial ⟨(by repeat' (first | exact trivial | refine ⟨rfl, ?_⟩)), [], bsP⟩
  rintro q _
  have hqc : ((entryT.cells q).drop 0).take entryT.sz = entryT.cells q := by rw [List.drop_zero]; exact List.take_of_length_le (Nat.le_of_eq (entryT.len q))
  have haf := all17_fn cur [q] k hgc (by show 1 ≤ _; decide)
  by_cases h0 : (allS cur [q] k).2 = 0
  case neg =>
    rw [allS_err h0] at haf
    generalize (allS cur [q] k).2 = z at *
    repeat (first | ((first | (apply Lq.s; rfl) | apply PRun.s | (apply Lq.run; rfl; rfl; rfl; exact bsB) | (apply PRun.run; rfl; rfl; exact bsB)); first | (apply op_oload stateT (x := cur); rfl; exact bsM; rfl) | (apply op_oload entryT (x := q); rfl; exact bsM; exact hqc) | (apply op_bslice entryT (xs := [q]); (repeat (first | exact PO.nil _ | (apply PO.cons; rfl))); rfl; rfl; rfl) | (apply op_call haf; exact bsD) | (apply op_add (c := ((i + 1 : Nat) : Int)); rfl; rfl; (rw [show (i : Int) + 1 = ((i + 1 : Nat) : Int) by omega]; apply wrapi <;> omega)) | (exact bsO)) | apply J.seq | apply E.next | apply J.lq | apply Lq.nil | apply PRun.nil | apply J.block | apply E.in_normal | apply J.skip | (apply Lq.store; rfl; rfl; exact bsP; exact bsS; rfl; rfl) | (apply PRun.al; rfl) | (apply Lq.al; rfl; rfl; intro b) | (apply Open.cons; intro b) | apply Open.nil | (apply Lq.pass; rfl; rfl; rfl) | (apply PRun.pass; rfl; rfl) | (apply Lq.skip; rfl; rfl; rfl; exact bsB) | (apply PRun.skip; rfl; rfl; exact bsB) | (apply J.drawN; exact mixed; kernel_rfl) | (apply J.cond_t; rfl) | (apply J.cond_f; rfl) | apply J.exit | apply E.then_exit | apply E.in_exit | (apply E.in_other; rfl))
    have hLl2 : L.length ≤ i + 1 + 1 := by omega
    exact E.again (i + 1, cur, L, A, c) (by dsimp only; omega) ⟨by dsimp only; omega, hc, hne, hLl2, hL⟩ ⟨(by repeat' (first | exact trivial | refine ⟨rfl, ?_⟩)), [_, _], List.perm_append_comm (l₁ := [_, _]) (l₂ := [_, _])⟩
  have hgr := grown_all h0
  have hcq := (allS_check h0).2.2.2.2
  rw [h0] at haf
  clear h0
  generalize (allS cur [q] k).1 = t at *
  obtain ⟨g8, g64, g0, g1⟩ := checkS_small hcq
  have hgt := goodS hcq
  repeat (first | ((first | (apply Lq.s; rfl) | apply PRun.s | (apply Lq.run; rfl; rfl; rfl; exact bsB) | (apply PRun.run; rfl; rfl; exact bsB)); first | (apply op_oload stateT (x := cur); rfl; exact bsM; rfl) | (apply op_oload entryT (x := q); rfl; exact bsM; exact hqc) | (apply op_bslice entryT (xs := [q]); (repeat (first | exact PO.nil _ | (apply PO.cons; rfl))); rfl; rfl; rfl) | (apply op_call haf; exact bsD) | (exact bsO)) | apply J.seq | apply E.next | apply J.lq | apply Lq.nil | apply PRun.nil | apply J.block | apply E.in_normal | apply J.skip | (apply Lq.store; rfl; rfl; exact bsP; exact bsS; rfl; rfl) | (apply PRun.al; rfl) | (apply Lq.al; rfl; rfl; intro b) | (apply Open.cons; intro b) | apply Open.nil | (apply Lq.pass; rfl; rfl; rfl) | (apply PRun.pass; rfl; rfl) | (apply Lq.skip; rfl; rfl; rfl; exact bsB) | (apply PRun.skip; rfl; rfl; exact bsB) | (apply J.drawN; exact mixed; kernel_rfl) | (apply J.cond_t; rfl) | (apply J.cond_f; rfl) | apply J.exit | apply E.then_exit | apply E.in_exit | (apply E.in_other; rfl))
  revert b
  intro b10
  refine J.res1 (r' := own b10 24 (stateT.cells t)) (by exact bsP) (fun H w h => ⟨h, rfl⟩) ?_
  refine J.frzB 10 rfl (List.Perm.refl _) ?_
  refine J.loop (fun j : Nat => j ≤ t.streams.length) (fun j => [(0, sl entryT.toTy l), (1, sl u8T.toTy tk), (5, is (.pointer (some ⟨b5, 0, none⟩))), (6, is (.slice A L.length c)), (7, is (.int .i64 (i : Int))), (10, ptr (stateT.cells t)), (12, is (.int .i64 ((sumL t.streams j : Nat) : Int))), (13, is (.int .i64 (j : Int)))]) (fun _ => [own b5 24 (stateT.cells cur), row (.slice A L.length c) 24 stateT.toTy L]) (fun j => t.streams.length - j) 0 (Nat.zero_le _) ⟨(by repeat' (first | exact trivial | refine ⟨rfl, ?_⟩)), [_], List.perm_append_comm (l₁ := [_]) (l₂ := [_, _])⟩ ?_
  rintro j hj
  by_cases hlj : j < t.streams.length
  · obtain ⟨x, hxx⟩ : ∃ x, t.streams[j]? = some x := ⟨_, List.getElem?_eq_getElem hlj⟩
    have hs := sumL_step hxx
    have hsl := sumL_le g64 j
    have hx64 := g64 x (List.mem_of_getElem? hxx)
    repeat (first | ((first | (apply Lq.s; rfl) | apply PRun.s | (apply Lq.run; rfl; rfl; rfl; exact bsB) | (apply PRun.run; rfl; rfl; exact bsB)); first | (apply op_faddr state_clock; rfl; decide) | (apply op_faddr state_streams; rfl; decide) | (apply op_load (intT .i64); rfl) | (apply op_load (slT streamT); rfl) | (apply op_load stateT; rfl) | (apply op_len (xs := t.streams); rfl) | (apply op_iaddr streamT.toTy (x := x); rfl; rfl; exact Int.natCast_nonneg _; (rw [Int.toNat_natCast]; exact hxx)) | (apply op_faddr stream_recs; rfl; decide) | (apply op_load (slT recT); rfl) | (apply op_len (xs := x.recs); rfl) | (apply op_add (c := ((sumL t.streams (j + 1) : Nat) : Int)); rfl; rfl; (rw [hs, show ((sumL t.streams j : Nat) : Int) + (x.recs.length : Int) = ((sumL t.streams j + x.recs.length : Nat) : Int) by omega]; apply wrapi <;> omega)) | (apply op_add (c := ((j + 1 : Nat) : Int)); rfl; rfl; (rw [show (j : Int) + 1 = ((j + 1 : Nat) : Int) by omega]; apply wrapi <;> omega)) | (exact bsO)) | apply J.seq | apply E.next | apply J.lq | apply Lq.nil | apply PRun.nil | apply J.block | apply E.in_normal | apply J.skip | (apply Lq.store; rfl; rfl; exact bsP; exact bsS; rfl; rfl) | (apply PRun.al; rfl) | (apply Lq.al; rfl; rfl; intro b) | (apply Open.cons; intro b) | apply Open.nil | (apply Lq.pass; rfl; rfl; rfl) | (apply PRun.pass; rfl; rfl) | (apply Lq.skip; rfl; rfl; rfl; exact bsB) | (apply PRun.skip; rfl; rfl; exact bsB) | (apply J.drawN; exact mixed; kernel_rfl) | (apply J.cond_t; rfl) | (apply J.cond_f; rfl) | apply J.exit | apply E.then_exit | apply E.in_exit | (apply E.in_other; rfl))
    exact E.again (j + 1) (by omega) (by omega) ⟨(by repeat' (first | exact trivial | refine ⟨rfl, ?_⟩)), [], bsP⟩
  obtain rfl : j = t.streams.length := by omega
  have hsa := sumL_all t.streams
  have hsl := sumL_le g64 t.streams.length
  have hck := scheck17_fn t hgt
  rw [hcq] at hck
  have hlf := live17_fn t g8 g64
  have hsf := shredded17_fn t g8 g64
  have hs1 := same17_fn t t hgt hgt
  rw [decide_eq_true rfl] at hs1
  have hs2 := same17_fn cur t hgc hgt
  have hs3 := sameState_fn cur t hgc hgt
  have hbw : (!(decide (cur = t) == decide (cur = t))) = false := by cases decide (cur = t) <;> rfl
  generalize decide (cur = t) = wb at *
  repeat (first | ((first | (apply Lq.s; rfl) | apply PRun.s | (apply Lq.run; rfl; rfl; rfl; exact bsB) | (apply PRun.run; rfl; rfl; exact bsB)); first | (apply op_faddr state_clock; rfl; decide) | (apply op_faddr state_streams; rfl; decide) | (apply op_load (intT .i64); rfl) | (apply op_load (slT streamT); rfl) | (apply op_load stateT; rfl) | (apply op_len (xs := t.streams); rfl) | (exact bsO)) | apply J.seq | apply E.next | apply J.lq | apply Lq.nil | apply PRun.nil | apply J.block | apply E.in_normal | apply J.skip | (apply Lq.store; rfl; rfl; exact bsP; exact bsS; rfl; rfl) | (apply PRun.al; rfl) | (apply Lq.al; rfl; rfl; intro b) | (apply Open.cons; intro b) | apply Open.nil | (apply Lq.pass; rfl; rfl; rfl) | (apply PRun.pass; rfl; rfl) | (apply Lq.skip; rfl; rfl; rfl; exact bsB) | (apply PRun.skip; rfl; rfl; exact bsB) | (apply J.cond_t; rfl) | (apply J.cond_f; rfl) | apply J.exit | apply E.then_exit | apply E.in_exit | (apply E.in_other; rfl))
  refine J.drawW 29 [(none, none), (none, none), (none, none), (none, none), (none, none), (none, none), (none, none), (none, none), (none, none), (none, none), (none, none), (none, none), (none, none), (none, none), (none, none), (none, none), (none, none), (none, none), (none, none), (none, none), (none, none), (none, none), (none, none), (none, none), (none, none), (none, none), (none, none), (none, none), (none, none)] mixed (by kernel_rfl) ?_
  repeat (first | ((first | apply PRunW.s | (apply PRunW.run; rfl; rfl; exact bsB) | (apply Lq.s; rfl) | apply PRun.s | (apply Lq.run; rfl; rfl; rfl; exact bsB) | (apply PRun.run; rfl; rfl; exact bsB)); first | (apply op_faddr state_clock; rfl; decide) | (apply op_faddr state_streams; rfl; decide) | (apply op_load (intT .i64); rfl) | (apply op_load (slT streamT); rfl) | (apply op_load stateT; rfl) | (apply op_len (xs := t.streams); rfl) | (apply op_call hck; exact bsD) | (apply op_call hlf; exact bsD) | (apply op_call hsf; exact bsD) | (apply op_call hs1; exact bsD) | (apply op_call hs2; exact bsD) | (apply op_call hs3; exact bsD) | (apply op_oload stateT (x := cur); rfl; exact bsM; rfl) | (apply op_len (xs := runsM false t.streams); rfl) | (apply op_len (xs := runsM true t.streams); rfl) | (apply op_add (c := ((sumL t.streams t.streams.length : Nat) : Int)); rfl; rfl; (rw [← hsa, show ((runsM false t.streams).length : Int) + ((runsM true t.streams).length : Int) = (((runsM false t.streams).length + (runsM true t.streams).length : Nat) : Int) by omega]; apply wrapi <;> omega)) | (exact bsO)) | apply J.seq | apply E.next | apply J.lq | apply Lq.nil | apply PRun.nil | apply J.block | apply E.in_normal | apply J.skip | (apply Lq.store; rfl; rfl; exact bsP; exact bsS; rfl; rfl) | (apply PRun.al; rfl) | (apply Lq.al; rfl; rfl; intro b) | (apply Open.cons; intro b) | apply Open.nil | (apply Lq.pass; rfl; rfl; rfl) | (apply PRun.pass; rfl; rfl) | (apply Lq.skip; rfl; rfl; rfl; exact bsB) | (apply PRun.skip; rfl; rfl; exact bsB) | (apply J.cond_t; rfl) | (apply J.cond_f; rfl) | apply J.exit | apply E.then_exit | apply E.in_exit | (apply E.in_other; rfl) | apply PRunW.nil | (apply PRunW.al; rfl) | (apply PRunW.pass; rfl; rfl) | (apply PRunW.skip; rfl; rfl; exact bsB) | (apply Open.pv; intro b) | apply Open.av | (apply Open.rv; intro A c))
  rw [hbw]
  repeat (first | ((first | (apply Lq.s; rfl) | apply PRun.s | (apply Lq.run; rfl; rfl; rfl; exact bsB) | (apply PRun.run; rfl; rfl; exact bsB)); first | (exact bsO)) | apply J.seq | apply E.next | apply J.lq | apply Lq.nil | apply PRun.nil | apply J.block | apply E.in_normal | apply J.skip | (apply Lq.store; rfl; rfl; exact bsP; exact bsS; rfl; rfl) | (apply PRun.al; rfl) | (apply Lq.al; rfl; rfl; intro b) | (apply Open.cons; intro b) | apply Open.nil | (apply Lq.pass; rfl; rfl; rfl) | (apply PRun.pass; rfl; rfl) | (apply Lq.skip; rfl; rfl; rfl; exact bsB) | (apply PRun.skip; rfl; rfl; exact bsB) | (apply J.drawN; exact mixed; kernel_rfl) | (apply J.cond_t; rfl) | (apply J.cond_f; rfl) | apply J.exit | apply E.then_exit | apply E.in_exit | (apply E.in_other; rfl))
  refine J.open (by exact bsP) hne ?_
  intro rb ro cap pre post hR
  obtain ⟨hv, hpre, hle, hcap, hroom, _⟩ := hR
  injection hv with hA _ hcc
  subst hA; subst hcc
  refine J.loop (fun j : Nat => j ≤ L.length) (fun j => [(0, sl entryT.toTy l), (1, sl u8T.toTy tk), (5, is (.pointer (some ⟨b5, 0, none⟩))), (6, is (.slice (some ⟨rb, ro, none⟩) L.length c)), (7, is (.int .i64 (i : Int))), (10, ptr (stateT.cells t)), (14, is (.int .i64 (j : Int)))]) (fun _ => [own rb 24 (pre ++ flat stateT.toTy L ++ post), own b5 24 (stateT.cells cur)]) (fun j => L.length - j) 0 (Nat.zero_le _) ⟨(by repeat' (first | exact trivial | refine ⟨rfl, ?_⟩)), [], bsP⟩ ?_
  rintro j hj
  by_cases hlj : j < L.length
  · obtain ⟨y, hy⟩ : ∃ y, L[j]? = some y := ⟨_, List.getElem?_eq_getElem hlj⟩
    obtain ⟨y1, y2⟩ := hL y (List.mem_of_getElem? hy)
    have hgf := grown17_fn y t (goodS y1) hgt
    rw [grownM_trans _ _ _ y2 hgr] at hgf
    have hat : ((pre ++ flat stateT.toTy L ++ post).drop (ro + ((j : Int)).toNat * 2)).take stateT.sz = stateT.cells y := by rw [Int.toNat_natCast]; exact at_row stateT.toTy hpre hy
    repeat (first | ((first | (apply Lq.s; rfl) | apply PRun.s | (apply Lq.run; rfl; rfl; rfl; exact bsB) | (apply PRun.run; rfl; rfl; exact bsB)); first | (apply op_slen; rfl) | (exact bsO)) | apply J.seq | apply E.next | apply J.lq | apply Lq.nil | apply PRun.nil | apply J.block | apply E.in_normal | apply J.skip | (apply Lq.store; rfl; rfl; exact bsP; exact bsS; rfl; rfl) | (apply PRun.al; rfl) | (apply Lq.al; rfl; rfl; intro b) | (apply Open.cons; intro b) | apply Open.nil | (apply Lq.pass; rfl; rfl; rfl) | (apply PRun.pass; rfl; rfl) | (apply Lq.skip; rfl; rfl; rfl; exact bsB) | (apply PRun.skip; rfl; rfl; exact bsB) | (apply J.cond_t; rfl) | (apply J.cond_f; rfl) | apply J.exit | apply E.then_exit | apply E.in_exit | (apply E.in_other; rfl))
    refine J.drawW 7 [(none, none), (none, none), (none, none), (none, none), (none, none), (none, none), (none, none)] mixed (by kernel_rfl) ?_
    repeat (first | ((first | apply PRunW.s | (apply PRunW.run; rfl; rfl; exact bsB) | (apply Lq.s; rfl) | apply PRun.s | (apply Lq.run; rfl; rfl; rfl; exact bsB) | (apply PRun.run; rfl; rfl; exact bsB)); first | (apply op_siaddr; rfl; rfl; omega; omega) | (apply op_oload stateT (x := y); rfl; exact bsM; exact hat) | (apply op_load stateT; rfl) | (apply op_call hgf; exact bsD) | (apply op_add (c := ((j + 1 : Nat) : Int)); rfl; rfl; (rw [show (j : Int) + 1 = ((j + 1 : Nat) : Int) by omega]; apply wrapi <;> omega)) | (exact bsO)) | apply J.seq | apply E.next | apply J.lq | apply Lq.nil | apply PRun.nil | apply J.block | apply E.in_normal | apply J.skip | (apply Lq.store; rfl; rfl; exact bsP; exact bsS; rfl; rfl) | (apply PRun.al; rfl) | (apply Lq.al; rfl; rfl; intro b) | (apply Open.cons; intro b) | apply Open.nil | (apply Lq.pass; rfl; rfl; rfl) | (apply PRun.pass; rfl; rfl) | (apply Lq.skip; rfl; rfl; rfl; exact bsB) | (apply PRun.skip; rfl; rfl; exact bsB) | (apply J.cond_t; rfl) | (apply J.cond_f; rfl) | apply J.exit | apply E.then_exit | apply E.in_exit | (apply E.in_other; rfl) | apply PRunW.nil | (apply PRunW.al; rfl) | (apply PRunW.pass; rfl; rfl) | (apply PRunW.skip; rfl; rfl; exact bsB) | (apply Open.pv; intro b) | apply Open.av | (apply Open.rv; intro A c))
    exact E.again (j + 1) (by omega) (by omega) ⟨(by repeat' (first | exact trivial | refine ⟨rfl, ?_⟩)), [], bsP⟩
  repeat (first | ((first | (apply Lq.s; rfl) | apply PRun.s | (apply Lq.run; rfl; rfl; rfl; exact bsB) | (apply PRun.run; rfl; rfl; exact bsB)); first | (apply op_slen; rfl) | (apply op_load stateT; rfl) | (apply op_oload stateT (x := t); rfl; exact bsM; rfl) | (apply op_bslice stateT (xs := [t]); (repeat (first | exact PO.nil _ | (apply PO.cons; rfl))); rfl; rfl; rfl) | (exact bsO)) | apply J.seq | apply E.next | apply J.lq | apply Lq.nil | apply PRun.nil | apply J.block | apply E.in_normal | apply J.skip | (apply Lq.store; rfl; rfl; exact bsP; exact bsS; rfl; rfl) | (apply PRun.al; rfl) | (apply Lq.al; rfl; rfl; intro b) | (apply Open.cons; intro b) | apply Open.nil | (apply Lq.pass; rfl; rfl; rfl) | (apply PRun.pass; rfl; rfl) | (apply Lq.skip; rfl; rfl; rfl; exact bsB) | (apply PRun.skip; rfl; rfl; exact bsB) | (apply J.drawN; exact mixed; kernel_rfl) | (apply J.cond_t; rfl) | (apply J.cond_f; rfl) | apply J.exit | apply E.then_exit | apply E.in_exit | (apply E.in_other; rfl))
  refine Lq.res1 (r := own rb 24 (pre ++ flat stateT.toTy L ++ post)) (by exact bsP) (row_back (xs := L) hpre hle hcap hroom) ?_
  (apply Lq.append (T := stateT) (xs := L) (ys := [t]); rfl; exact List.Perm.refl _; (apply From.sl; rfl); rfl; rfl; rfl; (show _ + 1 ≤ maxLen; unfold maxLen; omega); (show (_ + 1) * 32 ≤ _; omega))
  intro A2 c2
  repeat (first | ((first | (apply Lq.s; rfl) | apply PRun.s | (apply Lq.run; rfl; rfl; rfl; exact bsB) | (apply PRun.run; rfl; rfl; exact bsB)); first | (apply op_add (c := ((i + 1 : Nat) : Int)); rfl; rfl; (rw [show (i : Int) + 1 = ((i + 1 : Nat) : Int) by omega]; apply wrapi <;> omega)) | (exact bsO)) | apply J.seq | apply E.next | apply J.lq | apply Lq.nil | apply PRun.nil | apply J.block | apply E.in_normal | apply J.skip | (apply Lq.store; rfl; rfl; exact bsP; exact bsS; rfl; rfl) | (apply PRun.al; rfl) | (apply Lq.al; rfl; rfl; intro b) | (apply Open.cons; intro b) | apply Open.nil | (apply Lq.pass; rfl; rfl; rfl) | (apply PRun.pass; rfl; rfl) | (apply Lq.skip; rfl; rfl; rfl; exact bsB) | (apply PRun.skip; rfl; rfl; exact bsB) | (apply J.drawN; exact mixed; kernel_rfl) | (apply J.cond_t; rfl) | (apply J.cond_f; rfl) | apply J.exit | apply E.then_exit | apply E.in_exit | (apply E.in_other; rfl))
  have hn : L ++ [t] ≠ [] := fun h => by cases (List.append_eq_nil_iff.1 h).2
  have hlen : (L ++ [t]).length ≤ i + 1 + 1 := by rw [List.length_append]; show _ + 1 ≤ _; omega
  have hall : ∀ y ∈ L ++ [t], checkS y = true ∧ grownM y t = true := fun y hy => by
    rcases List.mem_append.1 hy with h | h
    · exact ⟨(hL y h).1, grownM_trans _ _ _ (hL y h).2 hgr⟩
    · obtain rfl := List.mem_singleton.1 h
      exact ⟨hcq, grownM_refl _⟩
  exact E.again (i + 1, t, L ++ [t], A2, c2) (by dsimp only; omega) ⟨by dsimp only; omega, hcq, hn, hlen, hall⟩ ⟨(by repeat' (first | exact trivial | refine ⟨rfl, ?_⟩)), [], bsP⟩
end Go.Proofs.Ytbemcehcipkliaa.L
