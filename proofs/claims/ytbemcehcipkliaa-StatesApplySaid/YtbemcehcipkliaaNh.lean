/-
  A stream behind an entry, walked: does, Apply.
-/
import Derived.Test.YtbemcehcipkliaaNg
namespace Go.Proofs.Ytbemcehcipkliaa.L
open Go
set_option linter.unusedSectionVars false
variable [Globs]
set_option linter.unusedVariables false
set_option linter.unusedVariables false
set_option linter.unusedSimpArgs false
attribute [local irreducible] J Lq E OpP PRun is any agg tup ptr sl PRunW OpE
def timesM (l : List Int) : Bool := l.all tB
theorem timesM_cons (n : Int) (r : List Int) : timesM (n :: r) = (tB n && timesM r) := rfl
theorem tB_t {n : Int} (h : 0 ≤ n) (h2 : n ≤ 1073741824) : tB n = true := by unfold tB; simp; omega
theorem tB_f {n : Int} (h : n < 0 ∨ 1073741824 < n) : tB n = false := by unfold tB; simp; omega
theorem times_fn (l : List Int) (hl : l.length ≤ 100) : Fn Try.prog 65 [sl (intT .i64).toTy l] (is (.bool (timesM l))) := by
  refine Fn.mk' 18 Try.func65 rfl rfl rfl rfl fun w0 H0 => ?_
  repeat (first | ((first | (apply Lq.s; rfl) | apply PRun.s | (apply Lq.run; rfl; rfl; rfl; exact bsB) | (apply PRun.run; rfl; rfl; exact bsB)); first | (exact bsO)) | apply J.seq | apply E.next | apply J.lq | apply Lq.nil | apply PRun.nil | apply J.block | apply E.in_normal | apply J.skip | (apply Lq.store; rfl; rfl; exact bsP; exact bsS; rfl; rfl) | (apply PRun.al; rfl) | (apply Lq.al; rfl; rfl; intro b) | (apply Open.cons; intro b) | apply Open.nil | (apply Lq.pass; rfl; rfl; rfl) | (apply PRun.pass; rfl; rfl) | (apply Lq.skip; rfl; rfl; rfl; exact bsB) | (apply PRun.skip; rfl; rfl; exact bsB) | (apply J.drawN; exact mixed; kernel_rfl) | (apply J.cond_t; rfl) | (apply J.cond_f; rfl) | apply J.exit | apply E.then_exit | apply E.in_exit | (apply E.in_other; rfl))
  refine J.loop (fun k : Nat => k ≤ l.length ∧ timesM l = timesM (l.drop k)) (fun k => [(5, sl (intT .i64).toTy l), (6, is (.int .i64 (l.length : Int))), (7, is (.int .i64 (k : Int)))]) (fun _ => []) (fun k => l.length - k) 0 ⟨by omega, rfl⟩ ?_ ?_
  · exact (Sub.same (by repeat' (first | exact trivial | refine ⟨rfl, ?_⟩)))
  rintro k ⟨hk, hm⟩
  repeat (first | ((first | (apply Lq.s; rfl) | apply PRun.s | (apply Lq.run; rfl; rfl; rfl; exact bsB) | (apply PRun.run; rfl; rfl; exact bsB)); first | (exact bsO)) | apply J.seq | apply E.next | apply J.lq | apply Lq.nil | apply PRun.nil | apply J.block | apply E.in_normal | apply J.skip | (apply Lq.store; rfl; rfl; exact bsP; exact bsS; rfl; rfl) | (apply PRun.al; rfl) | (apply Lq.al; rfl; rfl; intro b) | (apply Open.cons; intro b) | apply Open.nil | (apply Lq.pass; rfl; rfl; rfl) | (apply PRun.pass; rfl; rfl) | (apply Lq.skip; rfl; rfl; rfl; exact bsB) | (apply PRun.skip; rfl; rfl; exact bsB) | (apply J.drawN; exact mixed; kernel_rfl) | (apply J.cond_t; rfl) | (apply J.cond_f; rfl) | apply J.exit | apply E.then_exit | apply E.in_exit | (apply E.in_other; rfl))
  (refine J.cond _ rfl (fun hb => ?_) (fun hb => ?_))
  · have hlt : k < l.length := by have := of_decide_eq_true hb; omega
    have hd : l.drop k = l[k] :: l.drop (k + 1) := List.drop_eq_getElem_cons hlt
    repeat (first | ((first | (apply Lq.s; rfl) | apply PRun.s | (apply Lq.run; rfl; rfl; rfl; exact bsB) | (apply PRun.run; rfl; rfl; exact bsB)); first | exact op_iaddr (intT .i64).toTy rfl rfl (by omega) (List.getElem?_eq_getElem hlt) | exact op_load (intT .i64) rfl | (exact bsO)) | apply J.seq | apply E.next | apply J.lq | apply Lq.nil | apply PRun.nil | apply J.block | apply E.in_normal | apply J.skip | (apply Lq.store; rfl; rfl; exact bsP; exact bsS; rfl; rfl) | (apply PRun.al; rfl) | (apply Lq.al; rfl; rfl; intro b) | (apply Open.cons; intro b) | apply Open.nil | (apply Lq.pass; rfl; rfl; rfl) | (apply PRun.pass; rfl; rfl) | (apply Lq.skip; rfl; rfl; rfl; exact bsB) | (apply PRun.skip; rfl; rfl; exact bsB) | (apply J.drawN; exact mixed; kernel_rfl) | (apply J.cond_t; rfl) | (apply J.cond_f; rfl) | apply J.exit | apply E.then_exit | apply E.in_exit | (apply E.in_other; rfl))
    (first | refine Lq.split rfl rfl rfl (fun hb => ?_) (fun hb => ?_) | refine PRun.split rfl rfl rfl (fun hb => ?_) (fun hb => ?_))
    · repeat (first | ((first | (apply Lq.s; rfl) | apply PRun.s | (apply Lq.run; rfl; rfl; rfl; exact bsB) | (apply PRun.run; rfl; rfl; exact bsB)); first | (exact bsO)) | apply J.seq | apply E.next | apply J.lq | apply Lq.nil | apply PRun.nil | apply J.block | apply E.in_normal | apply J.skip | (apply Lq.store; rfl; rfl; exact bsP; exact bsS; rfl; rfl) | (apply PRun.al; rfl) | (apply Lq.al; rfl; rfl; intro b) | (apply Open.cons; intro b) | apply Open.nil | (apply Lq.pass; rfl; rfl; rfl) | (apply PRun.pass; rfl; rfl) | (apply Lq.skip; rfl; rfl; rfl; exact bsB) | (apply PRun.skip; rfl; rfl; exact bsB) | (apply J.drawN; exact mixed; kernel_rfl) | (apply J.cond_t; rfl) | (apply J.cond_f; rfl) | apply J.exit | apply E.then_exit | apply E.in_exit | (apply E.in_other; rfl))
      (refine J.ret ?_; (repeat (first | refine E.then_ret ?_ | refine E.in_ret ?_)))
      have hf : timesM l = false := by rw [hm, hd, timesM_cons, tB_f (by have := of_decide_eq_true hb; omega)]; rfl
      exact E.ret1 rfl (by rw [hf]; rfl)
    · repeat (first | ((first | (apply Lq.s; rfl) | apply PRun.s | (apply Lq.run; rfl; rfl; rfl; exact bsB) | (apply PRun.run; rfl; rfl; exact bsB)); first | (exact bsO)) | apply J.seq | apply E.next | apply J.lq | apply Lq.nil | apply PRun.nil | apply J.block | apply E.in_normal | apply J.skip | (apply Lq.store; rfl; rfl; exact bsP; exact bsS; rfl; rfl) | (apply PRun.al; rfl) | (apply Lq.al; rfl; rfl; intro b) | (apply Open.cons; intro b) | apply Open.nil | (apply Lq.pass; rfl; rfl; rfl) | (apply PRun.pass; rfl; rfl) | (apply Lq.skip; rfl; rfl; rfl; exact bsB) | (apply PRun.skip; rfl; rfl; exact bsB) | (apply J.drawN; exact mixed; kernel_rfl) | (apply J.cond_t; rfl) | (apply J.cond_f; rfl) | apply J.exit | apply E.then_exit | apply E.in_exit | (apply E.in_other; rfl))
      (refine J.cond _ rfl (fun hb => ?_) (fun hb => ?_))
      · repeat (first | ((first | (apply Lq.s; rfl) | apply PRun.s | (apply Lq.run; rfl; rfl; rfl; exact bsB) | (apply PRun.run; rfl; rfl; exact bsB)); first | (exact bsO)) | apply J.seq | apply E.next | apply J.lq | apply Lq.nil | apply PRun.nil | apply J.block | apply E.in_normal | apply J.skip | (apply Lq.store; rfl; rfl; exact bsP; exact bsS; rfl; rfl) | (apply PRun.al; rfl) | (apply Lq.al; rfl; rfl; intro b) | (apply Open.cons; intro b) | apply Open.nil | (apply Lq.pass; rfl; rfl; rfl) | (apply PRun.pass; rfl; rfl) | (apply Lq.skip; rfl; rfl; rfl; exact bsB) | (apply PRun.skip; rfl; rfl; exact bsB) | (apply J.drawN; exact mixed; kernel_rfl) | (apply J.cond_t; rfl) | (apply J.cond_f; rfl) | apply J.exit | apply E.then_exit | apply E.in_exit | (apply E.in_other; rfl))
        (refine J.ret ?_; (repeat (first | refine E.then_ret ?_ | refine E.in_ret ?_)))
        have hf : timesM l = false := by rw [hm, hd, timesM_cons, tB_f (by have := of_decide_eq_true hb; omega)]; rfl
        exact E.ret1 rfl (by rw [hf]; rfl)
      · repeat (first | ((first | (apply Lq.s; rfl) | apply PRun.s | (apply Lq.run; rfl; rfl; rfl; exact bsB) | (apply PRun.run; rfl; rfl; exact bsB)); first | (exact bsO)) | apply J.seq | apply E.next | apply J.lq | apply Lq.nil | apply PRun.nil | apply J.block | apply E.in_normal | apply J.skip | (apply Lq.store; rfl; rfl; exact bsP; exact bsS; rfl; rfl) | (apply PRun.al; rfl) | (apply Lq.al; rfl; rfl; intro b) | (apply Open.cons; intro b) | apply Open.nil | (apply Lq.pass; rfl; rfl; rfl) | (apply PRun.pass; rfl; rfl) | (apply Lq.skip; rfl; rfl; rfl; exact bsB) | (apply PRun.skip; rfl; rfl; exact bsB) | (apply J.drawN; exact mixed; kernel_rfl) | (apply J.cond_t; rfl) | (apply J.cond_f; rfl) | apply J.exit | apply E.then_exit | apply E.in_exit | (apply E.in_other; rfl))
        refine E.again (k + 1) (by omega) ⟨by omega, ?_⟩ (Sub.same (by repeat' (first | exact trivial | refine ⟨rfl, ?_⟩)))
        rw [hm, hd, timesM_cons, tB_t (by have := of_decide_eq_false ‹decide (l[k] < 0) = false›; omega) (by have := of_decide_eq_false hb; omega)]
        rfl
  · have hge : l.length ≤ k := by have := of_decide_eq_false hb; omega
    repeat (first | ((first | (apply Lq.s; rfl) | apply PRun.s | (apply Lq.run; rfl; rfl; rfl; exact bsB) | (apply PRun.run; rfl; rfl; exact bsB)); first | (exact bsO)) | apply J.seq | apply E.next | apply J.lq | apply Lq.nil | apply PRun.nil | apply J.block | apply E.in_normal | apply J.skip | (apply Lq.store; rfl; rfl; exact bsP; exact bsS; rfl; rfl) | (apply PRun.al; rfl) | (apply Lq.al; rfl; rfl; intro b) | (apply Open.cons; intro b) | apply Open.nil | (apply Lq.pass; rfl; rfl; rfl) | (apply PRun.pass; rfl; rfl) | (apply Lq.skip; rfl; rfl; rfl; exact bsB) | (apply PRun.skip; rfl; rfl; exact bsB) | (apply J.drawN; exact mixed; kernel_rfl) | (apply J.cond_t; rfl) | (apply J.cond_f; rfl) | apply J.exit | apply E.then_exit | apply E.in_exit | (apply E.in_other; rfl))
    (refine J.ret ?_; (repeat (first | refine E.then_ret ?_ | refine E.in_ret ?_)))
    have hf : timesM l = true := by rw [hm, List.drop_eq_nil_of_le hge]; rfl
    exact E.ret1 rfl (by rw [hf]; rfl)

theorem timesM2 (a b : Int) : timesM [a, b] = (tB a && tB b) := by simp [timesM]
theorem timesM1 (a : Int) : timesM [a] = tB a := by simp [timesM]
theorem timesM3 (a b c : Int) : timesM [a, b, c] = (tB a && (tB b && tB c)) := by simp [timesM]
theorem tB_iff {n : Int} (h : tB n = true) : 0 ≤ n ∧ n ≤ 1073741824 := by unfold tB at h; simpa using h
attribute [local irreducible] slt nameE lowerN cloT cntM recOk row tB
theorem longer_fn (o n : Int) : Fn Try.prog 60 [is (.int .i64 o), is (.int .i64 n)] (is (.int .i64 (errRetain o n))) := by
  refine Fn.mk' 15 Try.func60 rfl rfl rfl rfl fun w0 H0 => ?_
  cases h : (tB o && tB n)
  · repeat (first | ((first | (apply Lq.s; rfl) | apply PRun.s | (apply Lq.run; rfl; rfl; rfl; exact bsB) | (apply PRun.run; rfl; rfl; exact bsB)); first | (apply op_call (times_fn [o, n] (Nat.le_of_ble_eq_true rfl)); exact bsD) | (exact bsO)) | apply J.seq | apply E.next | apply J.lq | apply Lq.nil | apply PRun.nil | apply J.block | apply E.in_normal | apply J.skip | (apply Lq.store; rfl; rfl; exact bsP; exact bsS; rfl; rfl) | (apply PRun.al; rfl) | (apply Lq.al; rfl; rfl; intro b) | (apply Open.cons; intro b) | apply Open.nil | (apply Lq.pass; rfl; rfl; rfl) | (apply PRun.pass; rfl; rfl) | (apply Lq.skip; rfl; rfl; rfl; exact bsB) | (apply PRun.skip; rfl; rfl; exact bsB) | (apply J.drawN; exact mixed; kernel_rfl) | (apply J.cond_t; rfl) | (apply J.cond_f; rfl) | apply J.exit | apply E.then_exit | apply E.in_exit | (apply E.in_other; rfl))
    rw [timesM2, h]
    repeat (first | ((first | (apply Lq.s; rfl) | apply PRun.s | (apply Lq.run; rfl; rfl; rfl; exact bsB) | (apply PRun.run; rfl; rfl; exact bsB)); first | (exact bsO)) | apply J.seq | apply E.next | apply J.lq | apply Lq.nil | apply PRun.nil | apply J.block | apply E.in_normal | apply J.skip | (apply Lq.store; rfl; rfl; exact bsP; exact bsS; rfl; rfl) | (apply PRun.al; rfl) | (apply Lq.al; rfl; rfl; intro b) | (apply Open.cons; intro b) | apply Open.nil | (apply Lq.pass; rfl; rfl; rfl) | (apply PRun.pass; rfl; rfl) | (apply Lq.skip; rfl; rfl; rfl; exact bsB) | (apply PRun.skip; rfl; rfl; exact bsB) | (apply J.drawN; exact mixed; kernel_rfl) | (apply J.cond_t; rfl) | (apply J.cond_f; rfl) | apply J.exit | apply E.then_exit | apply E.in_exit | (apply E.in_other; rfl))
    (refine J.ret ?_; (repeat (first | refine E.then_ret ?_ | refine E.in_ret ?_)))
    refine E.ret1 rfl ?_
    unfold errRetain
    rw [h]
    rfl
  · repeat (first | ((first | (apply Lq.s; rfl) | apply PRun.s | (apply Lq.run; rfl; rfl; rfl; exact bsB) | (apply PRun.run; rfl; rfl; exact bsB)); first | (apply op_call (times_fn [o, n] (Nat.le_of_ble_eq_true rfl)); exact bsD) | (exact bsO)) | apply J.seq | apply E.next | apply J.lq | apply Lq.nil | apply PRun.nil | apply J.block | apply E.in_normal | apply J.skip | (apply Lq.store; rfl; rfl; exact bsP; exact bsS; rfl; rfl) | (apply PRun.al; rfl) | (apply Lq.al; rfl; rfl; intro b) | (apply Open.cons; intro b) | apply Open.nil | (apply Lq.pass; rfl; rfl; rfl) | (apply PRun.pass; rfl; rfl) | (apply Lq.skip; rfl; rfl; rfl; exact bsB) | (apply PRun.skip; rfl; rfl; exact bsB) | (apply J.drawN; exact mixed; kernel_rfl) | (apply J.cond_t; rfl) | (apply J.cond_f; rfl) | apply J.exit | apply E.then_exit | apply E.in_exit | (apply E.in_other; rfl))
    rw [timesM2, h]
    repeat (first | ((first | (apply Lq.s; rfl) | apply PRun.s | (apply Lq.run; rfl; rfl; rfl; exact bsB) | (apply PRun.run; rfl; rfl; exact bsB)); first | (exact bsO)) | apply J.seq | apply E.next | apply J.lq | apply Lq.nil | apply PRun.nil | apply J.block | apply E.in_normal | apply J.skip | (apply Lq.store; rfl; rfl; exact bsP; exact bsS; rfl; rfl) | (apply PRun.al; rfl) | (apply Lq.al; rfl; rfl; intro b) | (apply Open.cons; intro b) | apply Open.nil | (apply Lq.pass; rfl; rfl; rfl) | (apply PRun.pass; rfl; rfl) | (apply Lq.skip; rfl; rfl; rfl; exact bsB) | (apply PRun.skip; rfl; rfl; exact bsB) | (apply J.drawN; exact mixed; kernel_rfl) | (apply J.cond_t; rfl) | (apply J.cond_f; rfl) | apply J.exit | apply E.then_exit | apply E.in_exit | (apply E.in_other; rfl))
    (refine J.cond _ rfl (fun hb => ?_) (fun hb => ?_))
    · repeat (first | ((first | (apply Lq.s; rfl) | apply PRun.s | (apply Lq.run; rfl; rfl; rfl; exact bsB) | (apply PRun.run; rfl; rfl; exact bsB)); first | (exact bsO)) | apply J.seq | apply E.next | apply J.lq | apply Lq.nil | apply PRun.nil | apply J.block | apply E.in_normal | apply J.skip | (apply Lq.store; rfl; rfl; exact bsP; exact bsS; rfl; rfl) | (apply PRun.al; rfl) | (apply Lq.al; rfl; rfl; intro b) | (apply Open.cons; intro b) | apply Open.nil | (apply Lq.pass; rfl; rfl; rfl) | (apply PRun.pass; rfl; rfl) | (apply Lq.skip; rfl; rfl; rfl; exact bsB) | (apply PRun.skip; rfl; rfl; exact bsB) | (apply J.drawN; exact mixed; kernel_rfl) | (apply J.cond_t; rfl) | (apply J.cond_f; rfl) | apply J.exit | apply E.then_exit | apply E.in_exit | (apply E.in_other; rfl))
      (refine J.ret ?_; (repeat (first | refine E.then_ret ?_ | refine E.in_ret ?_)))
      refine E.ret1 rfl ?_
      unfold errRetain
      rw [h, if_pos rfl, if_pos (of_decide_eq_true hb)]
      rfl
    · repeat (first | ((first | (apply Lq.s; rfl) | apply PRun.s | (apply Lq.run; rfl; rfl; rfl; exact bsB) | (apply PRun.run; rfl; rfl; exact bsB)); first | (exact bsO)) | apply J.seq | apply E.next | apply J.lq | apply Lq.nil | apply PRun.nil | apply J.block | apply E.in_normal | apply J.skip | (apply Lq.store; rfl; rfl; exact bsP; exact bsS; rfl; rfl) | (apply PRun.al; rfl) | (apply Lq.al; rfl; rfl; intro b) | (apply Open.cons; intro b) | apply Open.nil | (apply Lq.pass; rfl; rfl; rfl) | (apply PRun.pass; rfl; rfl) | (apply Lq.skip; rfl; rfl; rfl; exact bsB) | (apply PRun.skip; rfl; rfl; exact bsB) | (apply J.drawN; exact mixed; kernel_rfl) | (apply J.cond_t; rfl) | (apply J.cond_f; rfl) | apply J.exit | apply E.then_exit | apply E.in_exit | (apply E.in_other; rfl))
      (refine J.ret ?_; (repeat (first | refine E.then_ret ?_ | refine E.in_ret ?_)))
      refine E.ret1 rfl ?_
      unfold errRetain
      rw [h, if_pos rfl, if_neg (of_decide_eq_false hb)]
      rfl

/-- Where a record's mark lies. -/
theorem set_mark {pre post : List Pr} {l : List Rec} {o i : Nat} {r : Rec} (h : pre.length = o) (hx : l[i]? = some r) (v : Bool) : splice (pre ++ flat recT.toTy l ++ post) (o + i * 37 + 36) [is (.bool v)] = pre ++ flat recT.toTy (l.set i { r with shredded := v }) ++ post := by
  have hi := (List.getElem?_eq_some_iff.1 hx).1
  rw [← set_row recT.toTy h hi]
  have hr := row_room recT.toTy (pre := pre) (post := post) (xs := l) h hi
  have ha := at_row recT.toTy (pre := pre) (post := post) (xs := l) h hx
  have hsz : recT.sz = 37 := rfl
  have hl : (recT.cells { r with shredded := v }).length = 37 := recT.len _
  rw [hsz] at hr ha
  generalize pre ++ flat recT.toTy l ++ post = L at *
  unfold splice
  rw [hl, hsz]
  have e1 : L.take (o + i * 37 + 36) = L.take (o + i * 37) ++ (recT.cells r).take 36 := by
    rw [← ha, List.take_take, Nat.min_eq_left (by decide), List.take_add]
  have e2 : (recT.cells { r with shredded := v }) = (recT.cells r).take 36 ++ [is (.bool v)] := by
    rw [rec_split3 { r with shredded := v }, rec_split3 r, List.take_left' (by rw [List.length_append, List.length_append, hashT.len, runT.len]; rfl)]
    rfl
  rw [e1, e2, List.length_singleton, show o + i * 37 + 36 + 1 = o + i * 37 + 37 by omega]
  simp only [List.append_assoc]
def doesM (s : StreamS) (e : EntryS) : StreamS := if errM s e = 0 then resM s e else s
set_option maxHeartbeats 1000000 in
theorem does_fnR (B : Nat) (A : Option Addr) (c : Nat) (s : StreamS) (e : EntryS) (hc : checkM s = true) : FnR Try.prog 48 [is (.pointer (some ⟨B, 0, none⟩)), entryT.val e] (strL B A c s)
    (fun ψ Δ => ∃ A' c', ψ = is (.int .i64 (errM s e)) ∧ Δ = strL B A' c' (doesM s e)) := by
  obtain ⟨_, _, ⟨_, hasc, hh4⟩, _, _, hr64⟩ := checkM_iff.1 hc
  refine FnR.mk' 86 Try.func48 rfl rfl rfl rfl fun w0 H0 => ?_
  by_cases k2 : e.kind = 2
  · have h1 : errM s e = errAdd s e := by unfold errM; rw [if_pos k2]
    have h2 : doesM s e = if errAdd s e = 0 then { s with recs := s.recs ++ [mkRec e] } else s := by unfold doesM resM; rw [h1, if_pos k2]
    repeat (first | ((first | (apply Lq.s; rfl) | apply PRun.s | (apply Lq.run; rfl; rfl; rfl; exact bsB) | (apply PRun.run; rfl; rfl; exact bsB)); first | (apply op_ocell; rfl; exact bsM; rfl) | (apply op_slen; rfl) | (apply op_box entryT; rfl) | (apply op_faddr entry_n; rfl; decide) | (apply op_faddr entry_kind; rfl; decide) | (apply op_faddr entry_len; rfl; decide) | (apply op_faddr entry_name; rfl; decide) | (apply op_faddr entry_hash; rfl; decide) | (apply op_faddr entry_run; rfl; decide) | (apply op_load (intT .i64); rfl) | (apply op_load strT; rfl) | (apply op_load hashT; rfl) | (apply op_load runT; rfl) | (apply op_load entryT; rfl) | (exact bsO)) | apply J.seq | apply E.next | apply J.lq | apply Lq.nil | apply PRun.nil | apply J.block | apply E.in_normal | apply J.skip | (apply Lq.store; rfl; rfl; exact bsP; exact bsS; rfl; rfl) | (apply PRun.al; rfl) | (apply Lq.al; rfl; rfl; intro b) | (apply Open.cons; intro b) | apply Open.nil | (apply Lq.pass; rfl; rfl; rfl) | (apply PRun.pass; rfl; rfl) | (apply Lq.skip; rfl; rfl; rfl; exact bsB) | (apply PRun.skip; rfl; rfl; exact bsB) | (apply J.drawN; exact mixed; kernel_rfl) | (apply J.cond_t; rfl) | (apply J.cond_f; rfl) | apply J.exit | apply E.then_exit | apply E.in_exit | (apply E.in_other; rfl))
    refine Lq.callS (Δ0 := strL B A c s) (Δf := []) (add_fnR B A c s e (by omega)) rfl bsD (by rw [List.append_nil]) ?_
    rintro _ _ ⟨A2, c2, rfl, rfl⟩
    rw [← h2, ← h1, List.append_nil]
    repeat (first | ((first | (apply Lq.s; rfl) | apply PRun.s | (apply Lq.run; rfl; rfl; rfl; exact bsB) | (apply PRun.run; rfl; rfl; exact bsB)); first | (exact bsO)) | apply J.seq | apply E.next | apply J.lq | apply Lq.nil | apply PRun.nil | apply J.block | apply E.in_normal | apply J.skip | (apply Lq.store; rfl; rfl; exact bsP; exact bsS; rfl; rfl) | (apply PRun.al; rfl) | (apply Lq.al; rfl; rfl; intro b) | (apply Open.cons; intro b) | apply Open.nil | (apply Lq.pass; rfl; rfl; rfl) | (apply PRun.pass; rfl; rfl) | (apply Lq.skip; rfl; rfl; rfl; exact bsB) | (apply PRun.skip; rfl; rfl; exact bsB) | (apply J.drawN; exact mixed; kernel_rfl) | (apply J.cond_t; rfl) | (apply J.cond_f; rfl) | apply J.exit | apply E.then_exit | apply E.in_exit | (apply E.in_other; rfl))
    (refine J.ret ?_; (repeat (first | refine E.then_ret ?_ | refine E.in_ret ?_)))
    exact E.retR1 (G := []) rfl rfl ⟨A2, c2, rfl, rfl⟩ (by rw [List.append_nil])
  by_cases k3 : e.kind = 3
  · have h1 : errM s e = errRetain s.retain e.n := by unfold errM; rw [if_neg k2, if_pos k3]
    have h2 : doesM s e = if errRetain s.retain e.n = 0 then { s with retain := e.n } else s := by unfold doesM resM; rw [h1, if_neg k2, if_pos k3]
    have hf := longer_fn s.retain e.n
    unfold strL
    cases hb : (tB s.retain && tB e.n)
    · have he : errRetain s.retain e.n = 2 := by unfold errRetain; rw [hb]; rfl
      rw [he] at hf h1
      repeat (first | ((first | (apply Lq.s; rfl) | apply PRun.s | (apply Lq.run; rfl; rfl; rfl; exact bsB) | (apply PRun.run; rfl; rfl; exact bsB)); first | (apply op_ocell; rfl; exact bsM; rfl) | (apply op_slen; rfl) | (apply op_box entryT; rfl) | (apply op_faddr entry_n; rfl; decide) | (apply op_faddr entry_kind; rfl; decide) | (apply op_faddr entry_len; rfl; decide) | (apply op_faddr entry_name; rfl; decide) | (apply op_faddr entry_hash; rfl; decide) | (apply op_faddr entry_run; rfl; decide) | (apply op_load (intT .i64); rfl) | (apply op_load strT; rfl) | (apply op_load hashT; rfl) | (apply op_load runT; rfl) | (apply op_load entryT; rfl) | (apply op_call hf; exact bsD) | (exact bsO)) | apply J.seq | apply E.next | apply J.lq | apply Lq.nil | apply PRun.nil | apply J.block | apply E.in_normal | apply J.skip | (apply Lq.store; rfl; rfl; exact bsP; exact bsS; rfl; rfl) | (apply PRun.al; rfl) | (apply Lq.al; rfl; rfl; intro b) | (apply Open.cons; intro b) | apply Open.nil | (apply Lq.pass; rfl; rfl; rfl) | (apply PRun.pass; rfl; rfl) | (apply Lq.skip; rfl; rfl; rfl; exact bsB) | (apply PRun.skip; rfl; rfl; exact bsB) | (apply J.drawN; exact mixed; kernel_rfl) | (apply J.cond_t; rfl) | (apply J.cond_f; rfl) | apply J.exit | apply E.then_exit | apply E.in_exit | (apply E.in_other; rfl))
      (refine J.ret ?_; (repeat (first | refine E.then_ret ?_ | refine E.in_ret ?_)))
      exact E.retR1 (G := []) rfl rfl ⟨A, c, by rw [h1], by rw [h2, if_neg (by rw [he]; decide)]⟩ (List.Perm.refl _)
    by_cases hlt : e.n < s.retain
    · have he : errRetain s.retain e.n = 140 := by unfold errRetain; rw [hb, if_pos rfl, if_pos hlt]
      rw [he] at hf h1
      repeat (first | ((first | (apply Lq.s; rfl) | apply PRun.s | (apply Lq.run; rfl; rfl; rfl; exact bsB) | (apply PRun.run; rfl; rfl; exact bsB)); first | (apply op_ocell; rfl; exact bsM; rfl) | (apply op_slen; rfl) | (apply op_box entryT; rfl) | (apply op_faddr entry_n; rfl; decide) | (apply op_faddr entry_kind; rfl; decide) | (apply op_faddr entry_len; rfl; decide) | (apply op_faddr entry_name; rfl; decide) | (apply op_faddr entry_hash; rfl; decide) | (apply op_faddr entry_run; rfl; decide) | (apply op_load (intT .i64); rfl) | (apply op_load strT; rfl) | (apply op_load hashT; rfl) | (apply op_load runT; rfl) | (apply op_load entryT; rfl) | (apply op_call hf; exact bsD) | (exact bsO)) | apply J.seq | apply E.next | apply J.lq | apply Lq.nil | apply PRun.nil | apply J.block | apply E.in_normal | apply J.skip | (apply Lq.store; rfl; rfl; exact bsP; exact bsS; rfl; rfl) | (apply PRun.al; rfl) | (apply Lq.al; rfl; rfl; intro b) | (apply Open.cons; intro b) | apply Open.nil | (apply Lq.pass; rfl; rfl; rfl) | (apply PRun.pass; rfl; rfl) | (apply Lq.skip; rfl; rfl; rfl; exact bsB) | (apply PRun.skip; rfl; rfl; exact bsB) | (apply J.drawN; exact mixed; kernel_rfl) | (apply J.cond_t; rfl) | (apply J.cond_f; rfl) | apply J.exit | apply E.then_exit | apply E.in_exit | (apply E.in_other; rfl))
      (refine J.ret ?_; (repeat (first | refine E.then_ret ?_ | refine E.in_ret ?_)))
      exact E.retR1 (G := []) rfl rfl ⟨A, c, by rw [h1], by rw [h2, if_neg (by rw [he]; decide)]⟩ (List.Perm.refl _)
    · have he : errRetain s.retain e.n = 0 := by unfold errRetain; rw [hb, if_pos rfl, if_neg hlt]
      rw [he] at hf h1
      repeat (first | ((first | (apply Lq.s; rfl) | apply PRun.s | (apply Lq.run; rfl; rfl; rfl; exact bsB) | (apply PRun.run; rfl; rfl; exact bsB)); first | (apply op_ocell; rfl; exact bsM; rfl) | (apply op_slen; rfl) | (apply op_box entryT; rfl) | (apply op_faddr entry_n; rfl; decide) | (apply op_faddr entry_kind; rfl; decide) | (apply op_faddr entry_len; rfl; decide) | (apply op_faddr entry_name; rfl; decide) | (apply op_faddr entry_hash; rfl; decide) | (apply op_faddr entry_run; rfl; decide) | (apply op_load (intT .i64); rfl) | (apply op_load strT; rfl) | (apply op_load hashT; rfl) | (apply op_load runT; rfl) | (apply op_load entryT; rfl) | (apply op_call hf; exact bsD) | (exact bsO)) | apply J.seq | apply E.next | apply J.lq | apply Lq.nil | apply PRun.nil | apply J.block | apply E.in_normal | apply J.skip | (apply Lq.store; rfl; rfl; exact bsP; exact bsS; rfl; rfl) | (apply PRun.al; rfl) | (apply Lq.al; rfl; rfl; intro b) | (apply Open.cons; intro b) | apply Open.nil | (apply Lq.pass; rfl; rfl; rfl) | (apply PRun.pass; rfl; rfl) | (apply Lq.skip; rfl; rfl; rfl; exact bsB) | (apply PRun.skip; rfl; rfl; exact bsB) | (apply J.drawN; exact mixed; kernel_rfl) | (apply J.cond_t; rfl) | (apply J.cond_f; rfl) | apply J.exit | apply E.then_exit | apply E.in_exit | (apply E.in_other; rfl))
      (refine J.ret ?_; (repeat (first | refine E.then_ret ?_ | refine E.in_ret ?_)))
      exact E.retR1 (G := []) rfl rfl ⟨A, c, by rw [h1], by rw [h2, if_pos he]⟩ (List.Perm.refl _)
  by_cases k4 : e.kind = 4
  · have h1 : errM s e = errHold s.holds e.name := by unfold errM; rw [if_neg k2, if_neg k3, if_pos k4]
    have h2 : doesM s e = if errHold s.holds e.name = 0 then { s with holds := addM s.holds e.name } else s := by unfold doesM resM; rw [h1, if_neg k2, if_neg k3, if_pos k4]
    have h3 : (doesM s e).recs = s.recs := by rw [h2]; split <;> rfl
    unfold strL
    repeat (first | ((first | (apply Lq.s; rfl) | apply PRun.s | (apply Lq.run; rfl; rfl; rfl; exact bsB) | (apply PRun.run; rfl; rfl; exact bsB)); first | (apply op_ocell; rfl; exact bsM; rfl) | (apply op_slen; rfl) | (apply op_box entryT; rfl) | (apply op_faddr entry_n; rfl; decide) | (apply op_faddr entry_kind; rfl; decide) | (apply op_faddr entry_len; rfl; decide) | (apply op_faddr entry_name; rfl; decide) | (apply op_faddr entry_hash; rfl; decide) | (apply op_faddr entry_run; rfl; decide) | (apply op_load (intT .i64); rfl) | (apply op_load strT; rfl) | (apply op_load hashT; rfl) | (apply op_load runT; rfl) | (apply op_load entryT; rfl) | (exact bsO)) | apply J.seq | apply E.next | apply J.lq | apply Lq.nil | apply PRun.nil | apply J.block | apply E.in_normal | apply J.skip | (apply Lq.store; rfl; rfl; exact bsP; exact bsS; rfl; rfl) | (apply PRun.al; rfl) | (apply Lq.al; rfl; rfl; intro b) | (apply Open.cons; intro b) | apply Open.nil | (apply Lq.pass; rfl; rfl; rfl) | (apply PRun.pass; rfl; rfl) | (apply Lq.skip; rfl; rfl; rfl; exact bsB) | (apply PRun.skip; rfl; rfl; exact bsB) | (apply J.drawN; exact mixed; kernel_rfl) | (apply J.cond_t; rfl) | (apply J.cond_f; rfl) | apply J.exit | apply E.then_exit | apply E.in_exit | (apply E.in_other; rfl))
    refine Lq.callS (Δ0 := [own B 48 ((streamO A c).cells s)]) (Δf := [_]) (hold_fnR B A c s e.name hasc hh4) rfl bsD (List.Perm.refl _) ?_
    rintro _ _ ⟨rfl, rfl⟩
    rw [← h2, ← h1]
    repeat (first | ((first | (apply Lq.s; rfl) | apply PRun.s | (apply Lq.run; rfl; rfl; rfl; exact bsB) | (apply PRun.run; rfl; rfl; exact bsB)); first | (exact bsO)) | apply J.seq | apply E.next | apply J.lq | apply Lq.nil | apply PRun.nil | apply J.block | apply E.in_normal | apply J.skip | (apply Lq.store; rfl; rfl; exact bsP; exact bsS; rfl; rfl) | (apply PRun.al; rfl) | (apply Lq.al; rfl; rfl; intro b) | (apply Open.cons; intro b) | apply Open.nil | (apply Lq.pass; rfl; rfl; rfl) | (apply PRun.pass; rfl; rfl) | (apply Lq.skip; rfl; rfl; rfl; exact bsB) | (apply PRun.skip; rfl; rfl; exact bsB) | (apply J.drawN; exact mixed; kernel_rfl) | (apply J.cond_t; rfl) | (apply J.cond_f; rfl) | apply J.exit | apply E.then_exit | apply E.in_exit | (apply E.in_other; rfl))
    (refine J.ret ?_; (repeat (first | refine E.then_ret ?_ | refine E.in_ret ?_)))
    exact E.retR1 (G := []) rfl rfl ⟨A, c, rfl, by rw [h3]⟩ (List.Perm.refl _)
  by_cases k5 : e.kind = 5
  · by_cases hm : e.name ∈ s.holds
    · have h1 : errM s e = 0 := by unfold errM; rw [if_neg k2, if_neg k3, if_neg k4, if_pos k5, if_pos hm]
      have h2 : doesM s e = { s with holds := remM s.holds e.name } := by unfold doesM resM; rw [h1, if_pos rfl, if_neg k2, if_neg k3, if_neg k4, if_pos k5]
      have hf := rem_ok s.holds e.name (by omega) hasc hm
      unfold strL
      repeat (first | ((first | (apply Lq.s; rfl) | apply PRun.s | (apply Lq.run; rfl; rfl; rfl; exact bsB) | (apply PRun.run; rfl; rfl; exact bsB)); first | (apply op_ocell; rfl; exact bsM; rfl) | (apply op_slen; rfl) | (apply op_box entryT; rfl) | (apply op_faddr entry_n; rfl; decide) | (apply op_faddr entry_kind; rfl; decide) | (apply op_faddr entry_len; rfl; decide) | (apply op_faddr entry_name; rfl; decide) | (apply op_faddr entry_hash; rfl; decide) | (apply op_faddr entry_run; rfl; decide) | (apply op_load (intT .i64); rfl) | (apply op_load strT; rfl) | (apply op_load hashT; rfl) | (apply op_load runT; rfl) | (apply op_load entryT; rfl) | (apply op_call hf; exact bsD) | (exact bsO)) | apply J.seq | apply E.next | apply J.lq | apply Lq.nil | apply PRun.nil | apply J.block | apply E.in_normal | apply J.skip | (apply Lq.store; rfl; rfl; exact bsP; exact bsS; rfl; rfl) | (apply PRun.al; rfl) | (apply Lq.al; rfl; rfl; intro b) | (apply Open.cons; intro b) | apply Open.nil | (apply Lq.pass; rfl; rfl; rfl) | (apply PRun.pass; rfl; rfl) | (apply Lq.skip; rfl; rfl; rfl; exact bsB) | (apply PRun.skip; rfl; rfl; exact bsB) | (apply J.drawN; exact mixed; kernel_rfl) | (apply J.cond_t; rfl) | (apply J.cond_f; rfl) | apply J.exit | apply E.then_exit | apply E.in_exit | (apply E.in_other; rfl))
      (refine J.ret ?_; (repeat (first | refine E.then_ret ?_ | refine E.in_ret ?_)))
      exact E.retR1 (G := []) rfl rfl ⟨A, c, by rw [h1], by rw [h2]⟩ (List.Perm.refl _)
    · have h1 : errM s e = 143 := by unfold errM; rw [if_neg k2, if_neg k3, if_neg k4, if_pos k5, if_neg hm]
      have h2 : doesM s e = s := by unfold doesM; rw [h1, if_neg (by decide)]
      have hf := rem_bad s.holds e.name (by omega) (.inr hm)
      unfold strL
      repeat (first | ((first | (apply Lq.s; rfl) | apply PRun.s | (apply Lq.run; rfl; rfl; rfl; exact bsB) | (apply PRun.run; rfl; rfl; exact bsB)); first | (apply op_ocell; rfl; exact bsM; rfl) | (apply op_slen; rfl) | (apply op_box entryT; rfl) | (apply op_faddr entry_n; rfl; decide) | (apply op_faddr entry_kind; rfl; decide) | (apply op_faddr entry_len; rfl; decide) | (apply op_faddr entry_name; rfl; decide) | (apply op_faddr entry_hash; rfl; decide) | (apply op_faddr entry_run; rfl; decide) | (apply op_load (intT .i64); rfl) | (apply op_load strT; rfl) | (apply op_load hashT; rfl) | (apply op_load runT; rfl) | (apply op_load entryT; rfl) | (apply op_call hf; exact bsD) | (exact bsO)) | apply J.seq | apply E.next | apply J.lq | apply Lq.nil | apply PRun.nil | apply J.block | apply E.in_normal | apply J.skip | (apply Lq.store; rfl; rfl; exact bsP; exact bsS; rfl; rfl) | (apply PRun.al; rfl) | (apply Lq.al; rfl; rfl; intro b) | (apply Open.cons; intro b) | apply Open.nil | (apply Lq.pass; rfl; rfl; rfl) | (apply PRun.pass; rfl; rfl) | (apply Lq.skip; rfl; rfl; rfl; exact bsB) | (apply PRun.skip; rfl; rfl; exact bsB) | (apply J.drawN; exact mixed; kernel_rfl) | (apply J.cond_t; rfl) | (apply J.cond_f; rfl) | apply J.exit | apply E.then_exit | apply E.in_exit | (apply E.in_other; rfl))
      (refine J.ret ?_; (repeat (first | refine E.then_ret ?_ | refine E.in_ret ?_)))
      exact E.retR1 (G := []) rfl rfl ⟨A, c, by rw [h1], by rw [h2]⟩ (List.Perm.refl _)
  by_cases k6 : e.kind = 6
  · have h1 : errM s e = errShred s.recs e.n := by unfold errM; rw [if_neg k2, if_neg k3, if_neg k4, if_neg k5, if_pos k6]
    by_cases hlo : e.n < 0
    · have he : errM s e = 161 := by rw [h1]; unfold errShred; rw [if_pos (.inl hlo)]
      have h2 : doesM s e = s := by unfold doesM; rw [he, if_neg (by decide)]
      unfold strL
      repeat (first | ((first | (apply Lq.s; rfl) | apply PRun.s | (apply Lq.run; rfl; rfl; rfl; exact bsB) | (apply PRun.run; rfl; rfl; exact bsB)); first | (apply op_ocell; rfl; exact bsM; rfl) | (apply op_slen; rfl) | (apply op_box entryT; rfl) | (apply op_faddr entry_n; rfl; decide) | (apply op_faddr entry_kind; rfl; decide) | (apply op_faddr entry_len; rfl; decide) | (apply op_faddr entry_name; rfl; decide) | (apply op_faddr entry_hash; rfl; decide) | (apply op_faddr entry_run; rfl; decide) | (apply op_load (intT .i64); rfl) | (apply op_load strT; rfl) | (apply op_load hashT; rfl) | (apply op_load runT; rfl) | (apply op_load entryT; rfl) | (exact bsO)) | apply J.seq | apply E.next | apply J.lq | apply Lq.nil | apply PRun.nil | apply J.block | apply E.in_normal | apply J.skip | (apply Lq.store; rfl; rfl; exact bsP; exact bsS; rfl; rfl) | (apply PRun.al; rfl) | (apply Lq.al; rfl; rfl; intro b) | (apply Open.cons; intro b) | apply Open.nil | (apply Lq.pass; rfl; rfl; rfl) | (apply PRun.pass; rfl; rfl) | (apply Lq.skip; rfl; rfl; rfl; exact bsB) | (apply PRun.skip; rfl; rfl; exact bsB) | (apply J.drawN; exact mixed; kernel_rfl) | (apply J.cond_t; rfl) | (apply J.cond_f; rfl) | apply J.exit | apply E.then_exit | apply E.in_exit | (apply E.in_other; rfl))
      (refine J.ret ?_; (repeat (first | refine E.then_ret ?_ | refine E.in_ret ?_)))
      exact E.retR1 (G := []) rfl rfl ⟨A, c, by rw [he], by rw [h2]⟩ (List.Perm.refl _)
    by_cases hhi : (s.recs.length : Int) ≤ e.n
    · have he : errM s e = 161 := by rw [h1]; unfold errShred; rw [if_pos (.inr hhi)]
      have h2 : doesM s e = s := by unfold doesM; rw [he, if_neg (by decide)]
      unfold strL
      repeat (first | ((first | (apply Lq.s; rfl) | apply PRun.s | (apply Lq.run; rfl; rfl; rfl; exact bsB) | (apply PRun.run; rfl; rfl; exact bsB)); first | (apply op_ocell; rfl; exact bsM; rfl) | (apply op_slen; rfl) | (apply op_box entryT; rfl) | (apply op_faddr entry_n; rfl; decide) | (apply op_faddr entry_kind; rfl; decide) | (apply op_faddr entry_len; rfl; decide) | (apply op_faddr entry_name; rfl; decide) | (apply op_faddr entry_hash; rfl; decide) | (apply op_faddr entry_run; rfl; decide) | (apply op_load (intT .i64); rfl) | (apply op_load strT; rfl) | (apply op_load hashT; rfl) | (apply op_load runT; rfl) | (apply op_load entryT; rfl) | (exact bsO)) | apply J.seq | apply E.next | apply J.lq | apply Lq.nil | apply PRun.nil | apply J.block | apply E.in_normal | apply J.skip | (apply Lq.store; rfl; rfl; exact bsP; exact bsS; rfl; rfl) | (apply PRun.al; rfl) | (apply Lq.al; rfl; rfl; intro b) | (apply Open.cons; intro b) | apply Open.nil | (apply Lq.pass; rfl; rfl; rfl) | (apply PRun.pass; rfl; rfl) | (apply Lq.skip; rfl; rfl; rfl; exact bsB) | (apply PRun.skip; rfl; rfl; exact bsB) | (apply J.drawN; exact mixed; kernel_rfl) | (apply J.cond_t; rfl) | (apply J.cond_f; rfl) | apply J.exit | apply E.then_exit | apply E.in_exit | (apply E.in_other; rfl))
      (refine J.ret ?_; (repeat (first | refine E.then_ret ?_ | refine E.in_ret ?_)))
      exact E.retR1 (G := []) rfl rfl ⟨A, c, by rw [he], by rw [h2]⟩ (List.Perm.refl _)
    obtain ⟨i, hi⟩ : ∃ i : Nat, e.n = i := ⟨e.n.toNat, by omega⟩
    obtain ⟨r, hr⟩ : ∃ r, s.recs[i]? = some r := ⟨_, List.getElem?_eq_getElem (by omega)⟩
    have hsh : errShred s.recs e.n = if r.shredded then 162 else 0 := by
      unfold errShred
      rw [if_neg (by omega), hi, Int.toNat_natCast, hr]
    unfold strL
    repeat (first | ((first | (apply Lq.s; rfl) | apply PRun.s | (apply Lq.run; rfl; rfl; rfl; exact bsB) | (apply PRun.run; rfl; rfl; exact bsB)); first | (apply op_ocell; rfl; exact bsM; rfl) | (apply op_slen; rfl) | (apply op_box entryT; rfl) | (apply op_faddr entry_n; rfl; decide) | (apply op_faddr entry_kind; rfl; decide) | (apply op_faddr entry_len; rfl; decide) | (apply op_faddr entry_name; rfl; decide) | (apply op_faddr entry_hash; rfl; decide) | (apply op_faddr entry_run; rfl; decide) | (apply op_load (intT .i64); rfl) | (apply op_load strT; rfl) | (apply op_load hashT; rfl) | (apply op_load runT; rfl) | (apply op_load entryT; rfl) | (exact bsO)) | apply J.seq | apply E.next | apply J.lq | apply Lq.nil | apply PRun.nil | apply J.block | apply E.in_normal | apply J.skip | (apply Lq.store; rfl; rfl; exact bsP; exact bsS; rfl; rfl) | (apply PRun.al; rfl) | (apply Lq.al; rfl; rfl; intro b) | (apply Open.cons; intro b) | apply Open.nil | (apply Lq.pass; rfl; rfl; rfl) | (apply PRun.pass; rfl; rfl) | (apply Lq.skip; rfl; rfl; rfl; exact bsB) | (apply PRun.skip; rfl; rfl; exact bsB) | (apply J.cond_t; rfl) | (apply J.cond_f; rfl) | apply J.exit | apply E.then_exit | apply E.in_exit | (apply E.in_other; rfl))
    refine J.drawW 13 [(none, none), (none, none), (none, none), (none, none), (none, none), (none, none), (none, none), (none, none), (none, none), (none, none), (none, none), (none, none), (none, none)] mixed (by kernel_rfl) ?_
    repeat (first | ((first | apply PRunW.s | (apply PRunW.run; rfl; rfl; exact bsB) | (apply Lq.s; rfl) | apply PRun.s | (apply Lq.run; rfl; rfl; rfl; exact bsB) | (apply PRun.run; rfl; rfl; exact bsB)); first | (apply op_ocell; rfl; exact bsM; rfl) | (apply op_slen; rfl) | (apply op_box entryT; rfl) | (apply op_faddr entry_n; rfl; decide) | (apply op_faddr entry_kind; rfl; decide) | (apply op_faddr entry_len; rfl; decide) | (apply op_faddr entry_name; rfl; decide) | (apply op_faddr entry_hash; rfl; decide) | (apply op_faddr entry_run; rfl; decide) | (apply op_load (intT .i64); rfl) | (apply op_load strT; rfl) | (apply op_load hashT; rfl) | (apply op_load runT; rfl) | (apply op_load entryT; rfl) | (exact bsO)) | apply J.seq | apply E.next | apply J.lq | apply Lq.nil | apply PRun.nil | apply J.block | apply E.in_normal | apply J.skip | (apply Lq.store; rfl; rfl; exact bsP; exact bsS; rfl; rfl) | (apply PRun.al; rfl) | (apply Lq.al; rfl; rfl; intro b) | (apply Open.cons; intro b) | apply Open.nil | (apply Lq.pass; rfl; rfl; rfl) | (apply PRun.pass; rfl; rfl) | (apply Lq.skip; rfl; rfl; rfl; exact bsB) | (apply PRun.skip; rfl; rfl; exact bsB) | (apply J.cond_t; rfl) | (apply J.cond_f; rfl) | apply J.exit | apply E.then_exit | apply E.in_exit | (apply E.in_other; rfl) | apply PRunW.nil | (apply PRunW.al; rfl) | (apply PRunW.pass; rfl; rfl) | (apply PRunW.skip; rfl; rfl; exact bsB) | (apply Open.pv; intro b) | apply Open.av | (apply Open.rv; intro A c))
    refine J.open (by exact bsP) (by intro h; rw [h] at hr; cases hr) ?_
    intro rb ro cap pre post hR
    obtain ⟨hv, hpre, hle, hcap, hroom, _⟩ := hR
    injection hv with hA _ hcc
    subst hA; subst hcc
    have hcell : ((pre ++ flat recT.toTy s.recs ++ post).drop (ro + i * 37 + 36)).take boolT.sz = boolT.cells r.shredded := by
      refine (at_rfld recT.toTy (k := 36) (m := 1) hpre hr (Nat.le_of_ble_eq_true rfl)).trans ?_
      show List.take 1 ((recT.cells r).drop 36) = _
      rw [rec_split3, List.drop_left' (by rw [List.length_append, List.length_append, hashT.len, runT.len]; rfl)]
      rfl
    have hti : (e.n).toNat = i := by rw [hi]; rfl
    refine J.drawW 8 [(none, none), (none, none), (none, none), (none, none), (none, none), (none, none), (none, none), (none, none)] mixed (by kernel_rfl) ?_
    repeat (first | ((first | apply PRunW.s | (apply PRunW.run; rfl; rfl; exact bsB) | (apply Lq.s; rfl) | apply PRun.s | (apply Lq.run; rfl; rfl; rfl; exact bsB) | (apply PRun.run; rfl; rfl; exact bsB)); first | (apply op_ocell; rfl; exact bsM; rfl) | (apply op_slen; rfl) | (apply op_box entryT; rfl) | (apply op_faddr entry_n; rfl; decide) | (apply op_faddr entry_kind; rfl; decide) | (apply op_faddr entry_len; rfl; decide) | (apply op_faddr entry_name; rfl; decide) | (apply op_faddr entry_hash; rfl; decide) | (apply op_faddr entry_run; rfl; decide) | (apply op_load (intT .i64); rfl) | (apply op_load strT; rfl) | (apply op_load hashT; rfl) | (apply op_load runT; rfl) | (apply op_load entryT; rfl) | (apply op_siaddr; rfl; rfl; omega; omega) | (exact bsO)) | apply J.seq | apply E.next | apply J.lq | apply Lq.nil | apply PRun.nil | apply J.block | apply E.in_normal | apply J.skip | (apply Lq.store; rfl; rfl; exact bsP; exact bsS; rfl; rfl) | (apply PRun.al; rfl) | (apply Lq.al; rfl; rfl; intro b) | (apply Open.cons; intro b) | apply Open.nil | (apply Lq.pass; rfl; rfl; rfl) | (apply PRun.pass; rfl; rfl) | (apply Lq.skip; rfl; rfl; rfl; exact bsB) | (apply PRun.skip; rfl; rfl; exact bsB) | (apply J.cond_t; rfl) | (apply J.cond_f; rfl) | apply J.exit | apply E.then_exit | apply E.in_exit | (apply E.in_other; rfl) | apply PRunW.nil | (apply PRunW.al; rfl) | (apply PRunW.pass; rfl; rfl) | (apply PRunW.skip; rfl; rfl; exact bsB) | (apply Open.pv; intro b) | apply Open.av | (apply Open.rv; intro A c))
    rw [hti]
    cases hb : r.shredded
    · have he : errM s e = 0 := by rw [h1, hsh, hb]; rfl
      have h2 : doesM s e = { s with recs := s.recs.set i { r with shredded := true } } := by
        unfold doesM resM shredM
        rw [he, if_pos rfl, if_neg k2, if_neg k3, if_neg k4, if_neg k5, if_pos k6, hti, hr]
      rw [hb] at hcell
      repeat (first | ((first | (apply Lq.s; rfl) | apply PRun.s | (apply Lq.run; rfl; rfl; rfl; exact bsB) | (apply PRun.run; rfl; rfl; exact bsB)); first | (apply op_ocell; rfl; exact bsM; rfl) | (apply op_slen; rfl) | (apply op_box entryT; rfl) | (apply op_faddr entry_n; rfl; decide) | (apply op_faddr entry_kind; rfl; decide) | (apply op_faddr entry_len; rfl; decide) | (apply op_faddr entry_name; rfl; decide) | (apply op_faddr entry_hash; rfl; decide) | (apply op_faddr entry_run; rfl; decide) | (apply op_load (intT .i64); rfl) | (apply op_load strT; rfl) | (apply op_load hashT; rfl) | (apply op_load runT; rfl) | (apply op_load entryT; rfl) | (apply op_oload boolT (x := false); rfl; exact bsM; exact hcell) | (exact bsO)) | apply J.seq | apply E.next | apply J.lq | apply Lq.nil | apply PRun.nil | apply J.block | apply E.in_normal | apply J.skip | (apply Lq.store; rfl; rfl; exact bsP; exact bsS; rfl; rfl) | (apply PRun.al; rfl) | (apply Lq.al; rfl; rfl; intro b) | (apply Open.cons; intro b) | apply Open.nil | (apply Lq.pass; rfl; rfl; rfl) | (apply PRun.pass; rfl; rfl) | (apply Lq.skip; rfl; rfl; rfl; exact bsB) | (apply PRun.skip; rfl; rfl; exact bsB) | (apply J.cond_t; rfl) | (apply J.cond_f; rfl) | apply J.exit | apply E.then_exit | apply E.in_exit | (apply E.in_other; rfl))
      have hrm := row_room recT.toTy (pre := pre) (post := post) (xs := s.recs) hpre (show i < s.recs.length by omega)
      (apply Lq.storeE (φs' := pre ++ flat recT.toTy (s.recs.set i { r with shredded := true }) ++ post); rfl; rfl; exact bsP; exact Seg.is rfl; rfl; exact hrm; exact set_mark hpre hr true)
      repeat (first | ((first | (apply Lq.s; rfl) | apply PRun.s | (apply Lq.run; rfl; rfl; rfl; exact bsB) | (apply PRun.run; rfl; rfl; exact bsB)); first | (exact bsO)) | apply J.seq | apply E.next | apply J.lq | apply Lq.nil | apply PRun.nil | apply J.block | apply E.in_normal | apply J.skip | (apply Lq.store; rfl; rfl; exact bsP; exact bsS; rfl; rfl) | (apply PRun.al; rfl) | (apply Lq.al; rfl; rfl; intro b) | (apply Open.cons; intro b) | apply Open.nil | (apply Lq.pass; rfl; rfl; rfl) | (apply PRun.pass; rfl; rfl) | (apply Lq.skip; rfl; rfl; rfl; exact bsB) | (apply PRun.skip; rfl; rfl; exact bsB) | (apply J.cond_t; rfl) | (apply J.cond_f; rfl) | apply J.exit | apply E.then_exit | apply E.in_exit | (apply E.in_other; rfl))
      (refine J.ret ?_; (repeat (first | refine E.then_ret ?_ | refine E.in_ret ?_)))
      have hroom2 : ro + c * 37 ≤ (pre ++ flat recT.toTy (s.recs.set i { r with shredded := true }) ++ post).length := by
        refine Nat.le_trans hroom (Nat.le_of_eq ?_)
        simp only [List.length_append, flat_len, List.length_set]
      have hle2 : (s.recs.set i { r with shredded := true }).length ≤ c := by rw [List.length_set]; exact hle
      refine E.close recT.toTy (s.recs.set i { r with shredded := true }) (by exact bsP) hroom2 hle2 hcap (take_rowT recT.toTy hpre) ?_
      have hcells : (streamO (some ⟨rb, ro, none⟩) c).cells s = (streamO (some ⟨rb, ro, none⟩) c).cells { s with recs := s.recs.set i { r with shredded := true } } := by
        show [is (str s.name), is (.int .i64 s.retain), sl strT.toTy s.holds, is (.slice _ s.recs.length c)] = [is (str s.name), is (.int .i64 s.retain), sl strT.toTy s.holds, is (.slice _ (s.recs.set i { r with shredded := true }).length c)]
        rw [List.length_set]
      rw [hcells]
      exact E.retR1 (G := []) rfl rfl ⟨some ⟨rb, ro, none⟩, c, by rw [he], by rw [h2]⟩ (bsP)
    · have he : errM s e = 162 := by rw [h1, hsh, hb]; rfl
      have h2 : doesM s e = s := by unfold doesM; rw [he, if_neg (by decide)]
      rw [hb] at hcell
      repeat (first | ((first | (apply Lq.s; rfl) | apply PRun.s | (apply Lq.run; rfl; rfl; rfl; exact bsB) | (apply PRun.run; rfl; rfl; exact bsB)); first | (apply op_ocell; rfl; exact bsM; rfl) | (apply op_slen; rfl) | (apply op_box entryT; rfl) | (apply op_faddr entry_n; rfl; decide) | (apply op_faddr entry_kind; rfl; decide) | (apply op_faddr entry_len; rfl; decide) | (apply op_faddr entry_name; rfl; decide) | (apply op_faddr entry_hash; rfl; decide) | (apply op_faddr entry_run; rfl; decide) | (apply op_load (intT .i64); rfl) | (apply op_load strT; rfl) | (apply op_load hashT; rfl) | (apply op_load runT; rfl) | (apply op_load entryT; rfl) | (apply op_oload boolT (x := true); rfl; exact bsM; exact hcell) | (exact bsO)) | apply J.seq | apply E.next | apply J.lq | apply Lq.nil | apply PRun.nil | apply J.block | apply E.in_normal | apply J.skip | (apply Lq.store; rfl; rfl; exact bsP; exact bsS; rfl; rfl) | (apply PRun.al; rfl) | (apply Lq.al; rfl; rfl; intro b) | (apply Open.cons; intro b) | apply Open.nil | (apply Lq.pass; rfl; rfl; rfl) | (apply PRun.pass; rfl; rfl) | (apply Lq.skip; rfl; rfl; rfl; exact bsB) | (apply PRun.skip; rfl; rfl; exact bsB) | (apply J.cond_t; rfl) | (apply J.cond_f; rfl) | apply J.exit | apply E.then_exit | apply E.in_exit | (apply E.in_other; rfl))
      (refine J.ret ?_; (repeat (first | refine E.then_ret ?_ | refine E.in_ret ?_)))
      refine E.close recT.toTy s.recs (by exact bsP) hroom hle hcap (take_rowT recT.toTy hpre) ?_
      exact E.retR1 (G := []) rfl rfl ⟨_, c, by rw [he], by rw [h2]⟩ (bsP)
  · have h1 : errM s e = 2 := by unfold errM; rw [if_neg k2, if_neg k3, if_neg k4, if_neg k5, if_neg k6]
    have h2 : doesM s e = s := by unfold doesM; rw [h1, if_neg (by decide)]
    unfold strL
    repeat (first | ((first | (apply Lq.s; rfl) | apply PRun.s | (apply Lq.run; rfl; rfl; rfl; exact bsB) | (apply PRun.run; rfl; rfl; exact bsB)); first | (apply op_ocell; rfl; exact bsM; rfl) | (apply op_slen; rfl) | (apply op_box entryT; rfl) | (apply op_faddr entry_n; rfl; decide) | (apply op_faddr entry_kind; rfl; decide) | (apply op_faddr entry_len; rfl; decide) | (apply op_faddr entry_name; rfl; decide) | (apply op_faddr entry_hash; rfl; decide) | (apply op_faddr entry_run; rfl; decide) | (apply op_load (intT .i64); rfl) | (apply op_load strT; rfl) | (apply op_load hashT; rfl) | (apply op_load runT; rfl) | (apply op_load entryT; rfl) | (exact bsO)) | apply J.seq | apply E.next | apply J.lq | apply Lq.nil | apply PRun.nil | apply J.block | apply E.in_normal | apply J.skip | (apply Lq.store; rfl; rfl; exact bsP; exact bsS; rfl; rfl) | (apply PRun.al; rfl) | (apply Lq.al; rfl; rfl; intro b) | (apply Open.cons; intro b) | apply Open.nil | (apply Lq.pass; rfl; rfl; rfl) | (apply PRun.pass; rfl; rfl) | (apply Lq.skip; rfl; rfl; rfl; exact bsB) | (apply PRun.skip; rfl; rfl; exact bsB) | (apply J.drawN; exact mixed; kernel_rfl) | (apply J.cond_t; rfl) | (apply J.cond_f; rfl) | apply J.exit | apply E.then_exit | apply E.in_exit | (apply E.in_other; rfl))
    (refine J.ret ?_; (repeat (first | refine E.then_ret ?_ | refine E.in_ret ?_)))
    exact E.retR1 (G := []) rfl rfl ⟨A, c, by rw [h1], by rw [h2]⟩ (List.Perm.refl _)
theorem apply_fn (s : StreamS) (e : EntryS) (hh : s.holds.length ≤ 1000000) (hr : s.recs.length ≤ 1000000) : Fn Try.prog 34 [streamT.val s, entryT.val e] (tup [streamT.val (applyM s e).1, is (.int .i64 (applyM s e).2)]) := by
  have hck := scheck_fn s hh hr
  refine Fn.mk' 20 Try.func34 rfl rfl rfl rfl fun w0 H0 => ?_
  apply J.seq
  apply J.lq
  refine Lq.box rfl rfl (Seg.val streamT s) ?_
  intro B
  cases hc : checkM s
  · rw [hc] at hck
    have hm : applyM s e = (zeroS, 2) := by unfold applyM; rw [hc]; rfl
    repeat (first | ((first | (apply Lq.s; rfl) | apply PRun.s | (apply Lq.run; rfl; rfl; rfl; exact bsB) | (apply PRun.run; rfl; rfl; exact bsB)); first | (apply op_box entryT; rfl) | (apply op_faddr entry_n; rfl; decide) | (apply op_faddr entry_kind; rfl; decide) | (apply op_faddr entry_len; rfl; decide) | (apply op_faddr entry_name; rfl; decide) | (apply op_faddr entry_hash; rfl; decide) | (apply op_faddr entry_run; rfl; decide) | (apply op_load (intT .i64); rfl) | (apply op_load strT; rfl) | (apply op_load hashT; rfl) | (apply op_load runT; rfl) | (apply op_load entryT; rfl) | (apply op_oload streamT (x := s); rfl; exact bsM; rfl) | (apply op_call hck; exact bsD) | (apply op_zeroS; rfl; rfl) | (exact bsO)) | apply J.seq | apply E.next | apply J.lq | apply Lq.nil | apply PRun.nil | apply J.block | apply E.in_normal | apply J.skip | (apply Lq.store; rfl; rfl; exact bsP; exact bsS; rfl; rfl) | (apply PRun.al; rfl) | (apply Lq.al; rfl; rfl; intro b) | (apply Open.cons; intro b) | apply Open.nil | (apply Lq.pass; rfl; rfl; rfl) | (apply PRun.pass; rfl; rfl) | (apply Lq.skip; rfl; rfl; rfl; exact bsB) | (apply PRun.skip; rfl; rfl; exact bsB) | (apply J.drawN; exact mixed; kernel_rfl) | (apply J.cond_t; rfl) | (apply J.cond_f; rfl) | apply J.exit | apply E.then_exit | apply E.in_exit | (apply E.in_other; rfl))
    (refine J.ret ?_; (repeat (first | refine E.then_ret ?_ | refine E.in_ret ?_)))
    rw [hm]
    exact E.retct streamT (x := zeroS) rfl rfl rfl (by exact bsM) rfl rfl
  rw [hc] at hck
  repeat (first | ((first | (apply Lq.s; rfl) | apply PRun.s | (apply Lq.run; rfl; rfl; rfl; exact bsB) | (apply PRun.run; rfl; rfl; exact bsB)); first | (apply op_box entryT; rfl) | (apply op_faddr entry_n; rfl; decide) | (apply op_faddr entry_kind; rfl; decide) | (apply op_faddr entry_len; rfl; decide) | (apply op_faddr entry_name; rfl; decide) | (apply op_faddr entry_hash; rfl; decide) | (apply op_faddr entry_run; rfl; decide) | (apply op_load (intT .i64); rfl) | (apply op_load strT; rfl) | (apply op_load hashT; rfl) | (apply op_load runT; rfl) | (apply op_load entryT; rfl) | (apply op_oload streamT (x := s); rfl; exact bsM; rfl) | (apply op_call hck; exact bsD) | (exact bsO)) | apply J.seq | apply E.next | apply J.lq | apply Lq.nil | apply PRun.nil | apply J.block | apply E.in_normal | apply J.skip | (apply Lq.store; rfl; rfl; exact bsP; exact bsS; rfl; rfl) | (apply PRun.al; rfl) | (apply Lq.al; rfl; rfl; intro b) | (apply Open.cons; intro b) | apply Open.nil | (apply Lq.pass; rfl; rfl; rfl) | (apply PRun.pass; rfl; rfl) | (apply Lq.skip; rfl; rfl; rfl; exact bsB) | (apply PRun.skip; rfl; rfl; exact bsB) | (apply J.drawN; exact mixed; kernel_rfl) | (apply J.cond_t; rfl) | (apply J.cond_f; rfl) | apply J.exit | apply E.then_exit | apply E.in_exit | (apply E.in_other; rfl))
  revert b
  intro b4
  refine Lq.callS (Δ0 := []) (Δf := [_, _]) (own_fnR s hh hr) rfl bsD (bsP) ?_
  rintro _ _ ⟨A, c, rfl, rfl⟩
  (apply Lq.storeE (φs' := (streamO A c).cells s); rfl; rfl; exact bsP; exact Seg.val _ _; rfl; exact Nat.le_refl 4; rfl)
  repeat (first | ((first | (apply Lq.s; rfl) | apply PRun.s | (apply Lq.run; rfl; rfl; rfl; exact bsB) | (apply PRun.run; rfl; rfl; exact bsB)); first | (apply op_box entryT; rfl) | (apply op_faddr entry_n; rfl; decide) | (apply op_faddr entry_kind; rfl; decide) | (apply op_faddr entry_len; rfl; decide) | (apply op_faddr entry_name; rfl; decide) | (apply op_faddr entry_hash; rfl; decide) | (apply op_faddr entry_run; rfl; decide) | (apply op_load (intT .i64); rfl) | (apply op_load strT; rfl) | (apply op_load hashT; rfl) | (apply op_load runT; rfl) | (apply op_load entryT; rfl) | (exact bsO)) | apply J.seq | apply E.next | apply J.lq | apply Lq.nil | apply PRun.nil | apply J.block | apply E.in_normal | apply J.skip | (apply Lq.store; rfl; rfl; exact bsP; exact bsS; rfl; rfl) | (apply PRun.al; rfl) | (apply Lq.al; rfl; rfl; intro b) | (apply Open.cons; intro b) | apply Open.nil | (apply Lq.pass; rfl; rfl; rfl) | (apply PRun.pass; rfl; rfl) | (apply Lq.skip; rfl; rfl; rfl; exact bsB) | (apply PRun.skip; rfl; rfl; exact bsB) | (apply J.drawN; exact mixed; kernel_rfl) | (apply J.cond_t; rfl) | (apply J.cond_f; rfl) | apply J.exit | apply E.then_exit | apply E.in_exit | (apply E.in_other; rfl))
  refine Lq.callS (Δ0 := strL B A c s) (Δf := [_]) (does_fnR B A c s e hc) rfl bsD (bsP) ?_
  rintro _ _ ⟨A2, c2, rfl, rfl⟩
  by_cases he : errM s e = 0
  · have hm : applyM s e = (resM s e, 0) := by unfold applyM; rw [hc, if_pos rfl, if_pos he]
    have hd : doesM s e = resM s e := by unfold doesM; rw [if_pos he]
    rw [he, hd, hm]
    generalize resM s e = q at *
    unfold strL
    repeat (first | ((first | (apply Lq.s; rfl) | apply PRun.s | (apply Lq.run; rfl; rfl; rfl; exact bsB) | (apply PRun.run; rfl; rfl; exact bsB)); first | (exact bsO)) | apply J.seq | apply E.next | apply J.lq | apply Lq.nil | apply PRun.nil | apply J.block | apply E.in_normal | apply J.skip | (apply Lq.store; rfl; rfl; exact bsP; exact bsS; rfl; rfl) | (apply PRun.al; rfl) | (apply Lq.al; rfl; rfl; intro b) | (apply Open.cons; intro b) | apply Open.nil | (apply Lq.pass; rfl; rfl; rfl) | (apply PRun.pass; rfl; rfl) | (apply Lq.skip; rfl; rfl; rfl; exact bsB) | (apply PRun.skip; rfl; rfl; exact bsB) | (apply J.drawN; exact mixed; kernel_rfl) | (apply J.cond_t; rfl) | (apply J.cond_f; rfl) | apply J.exit | apply E.then_exit | apply E.in_exit | (apply E.in_other; rfl))
    (apply Lq.s; rfl; (apply op_oload (streamO A2 c2) (x := q); rfl; exact bsM; rfl))
    refine Lq.frzS 19 rfl (bsP) ?_
    repeat (first | ((first | (apply Lq.s; rfl) | apply PRun.s | (apply Lq.run; rfl; rfl; rfl; exact bsB) | (apply PRun.run; rfl; rfl; exact bsB)); first | (exact bsO)) | apply J.seq | apply E.next | apply J.lq | apply Lq.nil | apply PRun.nil | apply J.block | apply E.in_normal | apply J.skip | (apply Lq.store; rfl; rfl; exact bsP; exact bsS; rfl; rfl) | (apply PRun.al; rfl) | (apply Lq.al; rfl; rfl; intro b) | (apply Open.cons; intro b) | apply Open.nil | (apply Lq.pass; rfl; rfl; rfl) | (apply PRun.pass; rfl; rfl) | (apply Lq.skip; rfl; rfl; rfl; exact bsB) | (apply PRun.skip; rfl; rfl; exact bsB) | (apply J.drawN; exact mixed; kernel_rfl) | (apply J.cond_t; rfl) | (apply J.cond_f; rfl) | apply J.exit | apply E.then_exit | apply E.in_exit | (apply E.in_other; rfl))
    (refine J.ret ?_; (repeat (first | refine E.then_ret ?_ | refine E.in_ret ?_)))
    exact E.retct streamT (x := q) rfl rfl rfl (by exact bsM) rfl rfl
  · have hm : applyM s e = (zeroS, errM s e) := by unfold applyM; rw [hc, if_pos rfl, if_neg he]
    rw [hm]
    generalize errM s e = z at *
    repeat (first | ((first | (apply Lq.s; rfl) | apply PRun.s | (apply Lq.run; rfl; rfl; rfl; exact bsB) | (apply PRun.run; rfl; rfl; exact bsB)); first | (apply op_zeroS; rfl; rfl) | (exact bsO)) | apply J.seq | apply E.next | apply J.lq | apply Lq.nil | apply PRun.nil | apply J.block | apply E.in_normal | apply J.skip | (apply Lq.store; rfl; rfl; exact bsP; exact bsS; rfl; rfl) | (apply PRun.al; rfl) | (apply Lq.al; rfl; rfl; intro b) | (apply Open.cons; intro b) | apply Open.nil | (apply Lq.pass; rfl; rfl; rfl) | (apply PRun.pass; rfl; rfl) | (apply Lq.skip; rfl; rfl; rfl; exact bsB) | (apply PRun.skip; rfl; rfl; exact bsB) | (apply J.drawN; exact mixed; kernel_rfl) | (apply J.cond_t; rfl) | (apply J.cond_f; rfl) | apply J.exit | apply E.then_exit | apply E.in_exit | (apply E.in_other; rfl))
    (refine J.ret ?_; (repeat (first | refine E.then_ret ?_ | refine E.in_ret ?_)))
    exact E.retct streamT (x := zeroS) rfl rfl rfl (by exact bsM) rfl rfl
end Go.Proofs.Ytbemcehcipkliaa.L
