/-
  The laws of states, walked: StatesApply.
-/
import Derived.Test.YtbemcehcipkliaaOq
namespace Go.Proofs.Ytbemcehcipkliaa.L
open Go Go.RowKit
set_option linter.unusedSectionVars false
variable [Globs]
set_option linter.unusedVariables false
structure AskS where
  clock : Int
  name : Str
def askT : Td AskS where
  sz := 2
  cells s := [is (.int .i64 s.clock), is (str s.name)]
  len _ := rfl
  ag := true
  one h := by cases h
  sc x H v h _ := by cases h
  pos := by decide
theorem ask_clock : Fld askT.toTy (intT .i64).toTy AskS.clock 0 := ⟨fun s => ⟨[], _, rfl, rfl⟩⟩
theorem ask_name : Fld askT.toTy strT.toTy AskS.name 1 := ⟨fun s => ⟨[is (.int .i64 s.clock)], [], rfl, rfl⟩⟩
def AskOk (a : AskS) : Prop := I64 a.clock ∧ a.name.length ≤ maxLen
theorem Rd.Ask {P : Program} {t ti ts : Nat} [TFld P t 0 0 ti] [TFld P t 1 1 ts] [TSz P t 2] [TSz P ti 1] [TInt P ti .i64] [TSz P ts 1] [TStr P ts] : Rd P t askT AskOk := ⟨fun {H} enc W fuel cs d ps h => by
  have hl := Rd.lenOf (n := 2) (i := 0) (off := 0) (ft := ti) h
  obtain ⟨a, ha, h0⟩ := Rd.fld (n := 2) (i := 0) (off := 0) (ft := ti) (T := intT .i64) Rd.i64 h
  obtain ⟨b, hb, h1⟩ := Rd.fld (n := 2) (i := 1) (off := 1) (ft := ts) (T := strT) Rd.str h
  exact ⟨⟨a, b⟩, ⟨ha, hb⟩, fld_step (off := 0) (sz := 1) (a := [is (.int .i64 a)]) h0 (fld_step (off := 1) (sz := 1) (a := [is (L.str b)]) h1 (fld_end hl))⟩⟩
theorem goodB3 {t : StateS} (hx : StateOk t) (hb : beyondT t = false) : GoodT t := by
  unfold beyondT at hb
  rw [Bool.or_eq_false_iff, decide_eq_false_iff_not, List.any_eq_false] at hb
  refine ⟨by omega, fun x hm => ?_⟩
  have h := hb.2 x hm
  have h2 : beyondM x = false := by cases k : beyondM x with | false => rfl | true => exact absurd k h
  have := beyondM_f h2
  exact ⟨hx.2.2 x hm, by omega, by omega⟩
theorem beyondE_len3 {l : List EntryS} {n : Int} (h : beyondE l n = false) : (l.length : Int) ≤ n := by
  unfold beyondE at h
  rw [Bool.or_eq_false_iff, decide_eq_false_iff_not] at h
  omega
section
variable {P : Program} {Γ : Env} {Δ : List Res} {d : Option Nat} {ty t yt : Nat} {pos : String} {af : Array Edge} {g : Option (Nat × Bool)} {x y : Operand}
theorem op_bneF {a : Bool} [hb : TBool P t] (h1 : opd Γ x = some (is (.bool a))) (h2 : opd Γ y = some (is (.bool a))) : OpP P Γ Δ ⟨d, .binOp .neq t x y yt, ty, pos, af, g⟩ (is (.bool false)) := by
  have h := op_bne (P := P) (Γ := Γ) (Δ := Δ) (d := d) (ty := ty) (t := t) (pos := pos) (af := af) (g := g) (yt := yt) h1 h2
  rw [show (!(a == a)) = false by cases a <;> rfl] at h
  exact h
end
set_option linter.unusedVariables false
set_option linter.unusedSimpArgs false
attribute [local irreducible] J Lq E OpP PRun is any agg tup ptr sl PRunW OpE
attribute [local irreducible] slt nameE lowerN cloT createM putS cntM recOk row tB checkM applyM errM resM beyondM longB newM lastT checkS applyS findI foldS allS all2B rr runsM grownM longerS beyondT beyondE
set_option maxHeartbeats 4000000 in
theorem statesApply (t : StateS) (l : List EntryS) (a : AskS) (hx : StateOk t) (hx2 : l.length ≤ maxLen ∧ ∀ e ∈ l, EntryOk e) (hx3 : AskOk a) : Fn Try.prog 3 [stateT.val t, sl entryT.toTy l, askT.val a] (is (.bool true)) := by
  have hlm := hx2.1
  have hbf := beyond17_fn t hx
  have hbe := beyondE_fn l 60 hlm
  have hlo := long_fn a.name
  cases hb : beyondT t
  case true =>
    rw [hb] at hbf
    refine Fn.mk' 130 Try.func3 rfl rfl rfl rfl fun w0 H0 => ?_
    repeat (first | ((first | (apply Lq.s; rfl) | apply PRun.s | (apply Lq.run; rfl; rfl; rfl; exact bsB) | (apply PRun.run; rfl; rfl; exact bsB)); first | (apply op_box stateT; rfl) | (apply op_faddr state_clock; rfl; decide) | (apply op_faddr state_streams; rfl; decide) | (apply op_load (intT .i64); rfl) | (apply op_load (slT streamT); rfl) | (apply op_load stateT; rfl) | (apply op_load streamT; rfl) | (apply op_len (xs := t.streams); rfl) | (apply op_box askT; rfl) | (apply op_faddr ask_clock; rfl; decide) | (apply op_faddr ask_name; rfl; decide) | (apply op_load (intT .i64); rfl) | (apply op_load strT; rfl) | (apply op_len (xs := l); rfl) | (apply op_call lives17_fn; exact bsD) | (apply op_call hbf; exact bsD) | (apply op_call hbe; exact bsD) | (apply op_call hlo; exact bsD) | (exact bsO)) | apply J.seq | apply E.next | apply J.lq | apply Lq.nil | apply PRun.nil | apply J.block | apply E.in_normal | apply J.skip | (apply Lq.store; rfl; rfl; exact bsP; exact bsS; rfl; rfl) | (apply PRun.al; rfl) | (apply Lq.al; rfl; rfl; intro b) | (apply Open.cons; intro b) | apply Open.nil | (apply Lq.pass; rfl; rfl; rfl) | (apply PRun.pass; rfl; rfl) | (apply Lq.skip; rfl; rfl; rfl; exact bsB) | (apply PRun.skip; rfl; rfl; exact bsB) | (apply J.drawN; exact mixed; kernel_rfl) | (apply J.cond_t; rfl) | (apply J.cond_f; rfl) | apply J.exit | apply E.then_exit | apply E.in_exit | (apply E.in_other; rfl))
    (refine J.ret ?_; (repeat (first | refine E.then_ret ?_ | refine E.in_ret ?_)))
    exact E.ret1 rfl rfl
  rw [hb] at hbf
  cases hbl : beyondE l 60
  case true =>
    rw [hbl] at hbe
    refine Fn.mk' 130 Try.func3 rfl rfl rfl rfl fun w0 H0 => ?_
    repeat (first | ((first | (apply Lq.s; rfl) | apply PRun.s | (apply Lq.run; rfl; rfl; rfl; exact bsB) | (apply PRun.run; rfl; rfl; exact bsB)); first | (apply op_box stateT; rfl) | (apply op_faddr state_clock; rfl; decide) | (apply op_faddr state_streams; rfl; decide) | (apply op_load (intT .i64); rfl) | (apply op_load (slT streamT); rfl) | (apply op_load stateT; rfl) | (apply op_load streamT; rfl) | (apply op_len (xs := t.streams); rfl) | (apply op_box askT; rfl) | (apply op_faddr ask_clock; rfl; decide) | (apply op_faddr ask_name; rfl; decide) | (apply op_load (intT .i64); rfl) | (apply op_load strT; rfl) | (apply op_len (xs := l); rfl) | (apply op_call lives17_fn; exact bsD) | (apply op_call hbf; exact bsD) | (apply op_call hbe; exact bsD) | (apply op_call hlo; exact bsD) | (exact bsO)) | apply J.seq | apply E.next | apply J.lq | apply Lq.nil | apply PRun.nil | apply J.block | apply E.in_normal | apply J.skip | (apply Lq.store; rfl; rfl; exact bsP; exact bsS; rfl; rfl) | (apply PRun.al; rfl) | (apply Lq.al; rfl; rfl; intro b) | (apply Open.cons; intro b) | apply Open.nil | (apply Lq.pass; rfl; rfl; rfl) | (apply PRun.pass; rfl; rfl) | (apply Lq.skip; rfl; rfl; rfl; exact bsB) | (apply PRun.skip; rfl; rfl; exact bsB) | (apply J.drawN; exact mixed; kernel_rfl) | (apply J.cond_t; rfl) | (apply J.cond_f; rfl) | apply J.exit | apply E.then_exit | apply E.in_exit | (apply E.in_other; rfl))
    (refine J.ret ?_; (repeat (first | refine E.then_ret ?_ | refine E.in_ret ?_)))
    exact E.ret1 rfl rfl
  rw [hbl] at hbe
  cases hba : longB a.name
  case true =>
    rw [hba] at hlo
    refine Fn.mk' 130 Try.func3 rfl rfl rfl rfl fun w0 H0 => ?_
    repeat (first | ((first | (apply Lq.s; rfl) | apply PRun.s | (apply Lq.run; rfl; rfl; rfl; exact bsB) | (apply PRun.run; rfl; rfl; exact bsB)); first | (apply op_box stateT; rfl) | (apply op_faddr state_clock; rfl; decide) | (apply op_faddr state_streams; rfl; decide) | (apply op_load (intT .i64); rfl) | (apply op_load (slT streamT); rfl) | (apply op_load stateT; rfl) | (apply op_load streamT; rfl) | (apply op_len (xs := t.streams); rfl) | (apply op_box askT; rfl) | (apply op_faddr ask_clock; rfl; decide) | (apply op_faddr ask_name; rfl; decide) | (apply op_load (intT .i64); rfl) | (apply op_load strT; rfl) | (apply op_len (xs := l); rfl) | (apply op_call lives17_fn; exact bsD) | (apply op_call hbf; exact bsD) | (apply op_call hbe; exact bsD) | (apply op_call hlo; exact bsD) | (exact bsO)) | apply J.seq | apply E.next | apply J.lq | apply Lq.nil | apply PRun.nil | apply J.block | apply E.in_normal | apply J.skip | (apply Lq.store; rfl; rfl; exact bsP; exact bsS; rfl; rfl) | (apply PRun.al; rfl) | (apply Lq.al; rfl; rfl; intro b) | (apply Open.cons; intro b) | apply Open.nil | (apply Lq.pass; rfl; rfl; rfl) | (apply PRun.pass; rfl; rfl) | (apply Lq.skip; rfl; rfl; rfl; exact bsB) | (apply PRun.skip; rfl; rfl; exact bsB) | (apply J.drawN; exact mixed; kernel_rfl) | (apply J.cond_t; rfl) | (apply J.cond_f; rfl) | apply J.exit | apply E.then_exit | apply E.in_exit | (apply E.in_other; rfl))
    (refine J.ret ?_; (repeat (first | refine E.then_ret ?_ | refine E.in_ret ?_)))
    exact E.ret1 rfl rfl
  rw [hba] at hlo
  have hl := beyondE_len3 hbl
  have hg := goodB3 hx hb
  have hlg := hg.1
  have hnm : ∀ e ∈ l, e.name.length ≤ maxLen := fun e he => (hx2.2 e he).2.2.2.2.1
  have haf := all17_fn t l a.clock hg (by omega)
  have hrf := rall17_fn t l a.clock hg (by omega) hnm
  have hgq := allS_good t l a.clock
  have hff := find17_fn t a.name hlg
  have hgf := rfind17_fn t a.name hlg
  have hck := scheck17_fn t hg
  have hcr := rcheck17_fn t hg
  generalize (allS t l a.clock).1 = q at *
  generalize (allS t l a.clock).2 = z at *
  generalize max (findI t.streams a.name) 0 = fz at *
  generalize decide (0 ≤ findI t.streams a.name) = fw at *
  generalize checkS t = w at *
  have hsf := sameState_fn q q hgq hgq
  rw [decide_eq_true rfl] at hsf
  refine Fn.mk' 130 Try.func3 rfl rfl rfl rfl fun w0 H0 => ?_
  repeat (first | ((first | (apply Lq.s; rfl) | apply PRun.s | (apply Lq.run; rfl; rfl; rfl; exact bsB) | (apply PRun.run; rfl; rfl; exact bsB)); first | (apply op_box stateT; rfl) | (apply op_faddr state_clock; rfl; decide) | (apply op_faddr state_streams; rfl; decide) | (apply op_load (intT .i64); rfl) | (apply op_load (slT streamT); rfl) | (apply op_load stateT; rfl) | (apply op_load streamT; rfl) | (apply op_len (xs := t.streams); rfl) | (apply op_box askT; rfl) | (apply op_faddr ask_clock; rfl; decide) | (apply op_faddr ask_name; rfl; decide) | (apply op_load (intT .i64); rfl) | (apply op_load strT; rfl) | (apply op_len (xs := l); rfl) | (apply op_call lives17_fn; exact bsD) | (apply op_call hbf; exact bsD) | (apply op_call hbe; exact bsD) | (apply op_call hlo; exact bsD) | (apply op_call haf; exact bsD) | (apply op_call hrf; exact bsD) | (apply op_call hff; exact bsD) | (apply op_call hgf; exact bsD) | (exact bsO)) | apply J.seq | apply E.next | apply J.lq | apply Lq.nil | apply PRun.nil | apply J.block | apply E.in_normal | apply J.skip | (apply Lq.store; rfl; rfl; exact bsP; exact bsS; rfl; rfl) | (apply PRun.al; rfl) | (apply Lq.al; rfl; rfl; intro b) | (apply Open.cons; intro b) | apply Open.nil | (apply Lq.pass; rfl; rfl; rfl) | (apply PRun.pass; rfl; rfl) | (apply Lq.skip; rfl; rfl; rfl; exact bsB) | (apply PRun.skip; rfl; rfl; exact bsB) | (apply J.cond_t; rfl) | (apply J.cond_f; rfl) | apply J.exit | apply E.then_exit | apply E.in_exit | (apply E.in_other; rfl))
  refine J.drawW 26 [(none, none), (none, none), (none, none), (none, none), (none, none), (none, none), (none, none), (none, none), (none, none), (none, none), (none, none), (none, none), (none, none), (none, none), (none, none), (none, none), (none, none), (none, none), (none, none), (none, none), (none, none), (none, none), (none, none), (none, none), (none, none), (none, none)] mixed (by kernel_rfl) ?_
  repeat (first | ((first | apply PRunW.s | (apply PRunW.run; rfl; rfl; exact bsB) | (apply Lq.s; rfl) | apply PRun.s | (apply Lq.run; rfl; rfl; rfl; exact bsB) | (apply PRun.run; rfl; rfl; exact bsB)); first | (apply op_load stateT; rfl) | (apply op_call hck; exact bsD) | (apply op_call hcr; exact bsD) | (apply op_bneF; rfl; rfl) | (apply op_oload stateT (x := q); rfl; exact bsM; rfl) | (apply op_call hsf; exact bsD) | (exact bsO)) | apply J.seq | apply E.next | apply J.lq | apply Lq.nil | apply PRun.nil | apply J.block | apply E.in_normal | apply J.skip | (apply Lq.store; rfl; rfl; exact bsP; exact bsS; rfl; rfl) | (apply PRun.al; rfl) | (apply Lq.al; rfl; rfl; intro b) | (apply Open.cons; intro b) | apply Open.nil | (apply Lq.pass; rfl; rfl; rfl) | (apply PRun.pass; rfl; rfl) | (apply Lq.skip; rfl; rfl; rfl; exact bsB) | (apply PRun.skip; rfl; rfl; exact bsB) | (apply J.cond_t; rfl) | (apply J.cond_f; rfl) | apply J.exit | apply E.then_exit | apply E.in_exit | (apply E.in_other; rfl) | apply PRunW.nil | (apply PRunW.al; rfl) | (apply PRunW.pass; rfl; rfl) | (apply PRunW.skip; rfl; rfl; exact bsB) | (apply Open.pv; intro b) | apply Open.av | (apply Open.rv; intro A c))
  refine J.drawW 5 [(none, none), (none, none), (none, some 15), (none, some 16), (some 15, some 15)] mixed (by kernel_rfl) ?_
  refine PRunW.s (op_load stateT rfl) ?_
  refine PRunW.s (op_load stateT rfl) ?_
  (apply PRunW.al; rfl)
  (apply PRunW.al; rfl)
  (apply PRunW.st (φs' := stateT.cells t); rfl; rfl; exact Seg.val stateT _; rfl; exact Nat.le_refl 2; rfl)
  apply PRunW.nil
  (apply Open.pv; intro b15)
  (apply Open.pv; intro b16)
  refine Open.nil ?_
  repeat (first | ((first | (apply Lq.s; rfl) | apply PRun.s | (apply Lq.run; rfl; rfl; rfl; exact bsB) | (apply PRun.run; rfl; rfl; exact bsB)); first | (exact bsO)) | apply J.seq | apply E.next | apply J.lq | apply Lq.nil | apply PRun.nil | apply J.block | apply E.in_normal | apply J.skip | (apply Lq.store; rfl; rfl; exact bsP; exact bsS; rfl; rfl) | (apply PRun.al; rfl) | (apply Lq.al; rfl; rfl; intro b) | (apply Open.cons; intro b) | apply Open.nil | (apply Lq.pass; rfl; rfl; rfl) | (apply PRun.pass; rfl; rfl) | (apply Lq.skip; rfl; rfl; rfl; exact bsB) | (apply PRun.skip; rfl; rfl; exact bsB) | (apply J.cond_t; rfl) | (apply J.cond_f; rfl) | apply J.exit | apply E.then_exit | apply E.in_exit | (apply E.in_other; rfl))
  refine J.loop (fun p : Nat × StateS => p.1 ≤ l.length ∧ GoodT p.2) (fun p => [(1, sl entryT.toTy l), (15, is (.pointer (some ⟨b15, 0, none⟩))), (16, is (.pointer (some ⟨b16, 0, none⟩))), (17, is (.int .i64 (p.1 : Int)))]) (fun p => [own b15 24 (stateT.cells p.2), own b16 24 (stateT.cells p.2)]) (fun p => l.length - p.1) (0, t) ⟨Nat.zero_le _, hg⟩ ⟨(by repeat' (first | exact trivial | refine ⟨rfl, ?_⟩)), [_, _], bsP⟩ ?_
  rintro ⟨i, cur⟩ ⟨hi, hgc⟩
  dsimp only at hi hgc ⊢
  by_cases hlt : i < l.length
  case neg =>
    repeat (first | ((first | (apply Lq.s; rfl) | apply PRun.s | (apply Lq.run; rfl; rfl; rfl; exact bsB) | (apply PRun.run; rfl; rfl; exact bsB)); first | (apply op_len (xs := l); rfl) | (apply op_call lives17_fn; exact bsD) | (exact bsO)) | apply J.seq | apply E.next | apply J.lq | apply Lq.nil | apply PRun.nil | apply J.block | apply E.in_normal | apply J.skip | (apply Lq.store; rfl; rfl; exact bsP; exact bsS; rfl; rfl) | (apply PRun.al; rfl) | (apply Lq.al; rfl; rfl; intro b) | (apply Open.cons; intro b) | apply Open.nil | (apply Lq.pass; rfl; rfl; rfl) | (apply PRun.pass; rfl; rfl) | (apply Lq.skip; rfl; rfl; rfl; exact bsB) | (apply PRun.skip; rfl; rfl; exact bsB) | (apply J.drawN; exact mixed; kernel_rfl) | (apply J.cond_t; rfl) | (apply J.cond_f; rfl) | apply J.exit | apply E.then_exit | apply E.in_exit | (apply E.in_other; rfl))
    (refine J.ret ?_; (repeat (first | refine E.then_ret ?_ | refine E.in_ret ?_)))
    exact E.ret1 rfl rfl
  obtain ⟨e, he⟩ : ∃ e, l[i]? = some e := ⟨_, List.getElem?_eq_getElem hlt⟩
  have a1 := sapply17_fn cur e hgc
  have a2 := rapply17_fn cur e hgc (hnm e (List.mem_of_getElem? he))
  have hgn := applyS_good cur e
  generalize (applyS cur e).1 = r at *
  generalize (applyS cur e).2 = y at *
  have hsr := sameState_fn r r hgn hgn
  rw [decide_eq_true rfl] at hsr
  repeat (first | ((first | (apply Lq.s; rfl) | apply PRun.s | (apply Lq.run; rfl; rfl; rfl; exact bsB) | (apply PRun.run; rfl; rfl; exact bsB)); first | (apply op_len (xs := l); rfl) | (exact bsO)) | apply J.seq | apply E.next | apply J.lq | apply Lq.nil | apply PRun.nil | apply J.block | apply E.in_normal | apply J.skip | (apply Lq.store; rfl; rfl; exact bsP; exact bsS; rfl; rfl) | (apply PRun.al; rfl) | (apply Lq.al; rfl; rfl; intro b) | (apply Open.cons; intro b) | apply Open.nil | (apply Lq.pass; rfl; rfl; rfl) | (apply PRun.pass; rfl; rfl) | (apply Lq.skip; rfl; rfl; rfl; exact bsB) | (apply PRun.skip; rfl; rfl; exact bsB) | (apply J.cond_t; rfl) | (apply J.cond_f; rfl) | apply J.exit | apply E.then_exit | apply E.in_exit | (apply E.in_other; rfl))
  refine J.drawW 11 [(none, none), (none, none), (none, none), (none, none), (none, none), (none, none), (none, none), (none, none), (none, none), (none, some 18), (some 18, some 18)] mixed (by kernel_rfl) ?_
  repeat (first | ((first | apply PRunW.s | (apply PRunW.run; rfl; rfl; exact bsB) | (apply Lq.s; rfl) | apply PRun.s | (apply Lq.run; rfl; rfl; rfl; exact bsB) | (apply PRun.run; rfl; rfl; exact bsB)); first | (apply op_oload stateT (x := cur); rfl; exact bsM; rfl) | (apply op_iaddr entryT.toTy (x := e); rfl; rfl; exact Int.natCast_nonneg _; (rw [Int.toNat_natCast]; exact he)) | (apply op_load entryT; rfl) | (apply op_call a1; exact bsD) | (exact bsO)) | apply J.seq | apply E.next | apply J.lq | apply Lq.nil | apply PRun.nil | apply J.block | apply E.in_normal | apply J.skip | (apply Lq.store; rfl; rfl; exact bsP; exact bsS; rfl; rfl) | (apply PRun.al; rfl) | (apply Lq.al; rfl; rfl; intro b) | (apply Open.cons; intro b) | apply Open.nil | (apply Lq.pass; rfl; rfl; rfl) | (apply PRun.pass; rfl; rfl) | (apply Lq.skip; rfl; rfl; rfl; exact bsB) | (apply PRun.skip; rfl; rfl; exact bsB) | (apply J.cond_t; rfl) | (apply J.cond_f; rfl) | apply J.exit | apply E.then_exit | apply E.in_exit | (apply E.in_other; rfl) | apply PRunW.nil | (apply PRunW.al; rfl) | (apply PRunW.pass; rfl; rfl) | (apply PRunW.skip; rfl; rfl; exact bsB) | (apply Open.pv; intro b) | apply Open.av | (apply Open.rv; intro A c))
  (apply PRunW.st (φs' := stateT.cells r); rfl; rfl; exact Seg.val stateT _; rfl; exact Nat.le_refl 2; rfl)
  repeat (first | ((first | apply PRunW.s | (apply PRunW.run; rfl; rfl; exact bsB) | (apply Lq.s; rfl) | apply PRun.s | (apply Lq.run; rfl; rfl; rfl; exact bsB) | (apply PRun.run; rfl; rfl; exact bsB)); first | (exact bsO)) | apply J.seq | apply E.next | apply J.lq | apply Lq.nil | apply PRun.nil | apply J.block | apply E.in_normal | apply J.skip | (apply Lq.store; rfl; rfl; exact bsP; exact bsS; rfl; rfl) | (apply PRun.al; rfl) | (apply Lq.al; rfl; rfl; intro b) | (apply Open.cons; intro b) | apply Open.nil | (apply Lq.pass; rfl; rfl; rfl) | (apply PRun.pass; rfl; rfl) | (apply Lq.skip; rfl; rfl; rfl; exact bsB) | (apply PRun.skip; rfl; rfl; exact bsB) | (apply J.cond_t; rfl) | (apply J.cond_f; rfl) | apply J.exit | apply E.then_exit | apply E.in_exit | (apply E.in_other; rfl) | apply PRunW.nil | (apply PRunW.al; rfl) | (apply PRunW.pass; rfl; rfl) | (apply PRunW.skip; rfl; rfl; exact bsB) | (apply Open.pv; intro b) | apply Open.av | (apply Open.rv; intro A c))
  revert b
  intro b18
  refine J.frzB 18 rfl (List.Perm.refl _) ?_
  refine J.drawW 11 [(none, none), (none, none), (none, none), (none, none), (none, none), (none, none), (none, none), (none, none), (none, none), (none, some 20), (some 20, some 20)] mixed (by kernel_rfl) ?_
  repeat (first | ((first | apply PRunW.s | (apply PRunW.run; rfl; rfl; exact bsB) | (apply Lq.s; rfl) | apply PRun.s | (apply Lq.run; rfl; rfl; rfl; exact bsB) | (apply PRun.run; rfl; rfl; exact bsB)); first | (apply op_oload stateT (x := cur); rfl; exact bsM; rfl) | (apply op_iaddr entryT.toTy (x := e); rfl; rfl; exact Int.natCast_nonneg _; (rw [Int.toNat_natCast]; exact he)) | (apply op_load entryT; rfl) | (apply op_call a2; exact bsD) | (exact bsO)) | apply J.seq | apply E.next | apply J.lq | apply Lq.nil | apply PRun.nil | apply J.block | apply E.in_normal | apply J.skip | (apply Lq.store; rfl; rfl; exact bsP; exact bsS; rfl; rfl) | (apply PRun.al; rfl) | (apply Lq.al; rfl; rfl; intro b) | (apply Open.cons; intro b) | apply Open.nil | (apply Lq.pass; rfl; rfl; rfl) | (apply PRun.pass; rfl; rfl) | (apply Lq.skip; rfl; rfl; rfl; exact bsB) | (apply PRun.skip; rfl; rfl; exact bsB) | (apply J.cond_t; rfl) | (apply J.cond_f; rfl) | apply J.exit | apply E.then_exit | apply E.in_exit | (apply E.in_other; rfl) | apply PRunW.nil | (apply PRunW.al; rfl) | (apply PRunW.pass; rfl; rfl) | (apply PRunW.skip; rfl; rfl; exact bsB) | (apply Open.pv; intro b) | apply Open.av | (apply Open.rv; intro A c))
  (apply PRunW.st (φs' := stateT.cells r); rfl; rfl; exact Seg.val stateT _; rfl; exact Nat.le_refl 2; rfl)
  repeat (first | ((first | apply PRunW.s | (apply PRunW.run; rfl; rfl; exact bsB) | (apply Lq.s; rfl) | apply PRun.s | (apply Lq.run; rfl; rfl; rfl; exact bsB) | (apply PRun.run; rfl; rfl; exact bsB)); first | (exact bsO)) | apply J.seq | apply E.next | apply J.lq | apply Lq.nil | apply PRun.nil | apply J.block | apply E.in_normal | apply J.skip | (apply Lq.store; rfl; rfl; exact bsP; exact bsS; rfl; rfl) | (apply PRun.al; rfl) | (apply Lq.al; rfl; rfl; intro b) | (apply Open.cons; intro b) | apply Open.nil | (apply Lq.pass; rfl; rfl; rfl) | (apply PRun.pass; rfl; rfl) | (apply Lq.skip; rfl; rfl; rfl; exact bsB) | (apply PRun.skip; rfl; rfl; exact bsB) | (apply J.cond_t; rfl) | (apply J.cond_f; rfl) | apply J.exit | apply E.then_exit | apply E.in_exit | (apply E.in_other; rfl) | apply PRunW.nil | (apply PRunW.al; rfl) | (apply PRunW.pass; rfl; rfl) | (apply PRunW.skip; rfl; rfl; exact bsB) | (apply Open.pv; intro b) | apply Open.av | (apply Open.rv; intro A c))
  revert b
  intro b20
  refine Lq.frzB 20 rfl (List.Perm.refl _) ?_
  by_cases h0 : y = 0
  · repeat (first | ((first | (apply Lq.s; rfl) | apply PRun.s | (apply Lq.run; rfl; rfl; rfl; exact bsB) | (apply PRun.run; rfl; rfl; exact bsB)); first | (apply op_load stateT; rfl) | (apply op_call hsr; exact bsD) | (exact bsO)) | apply J.seq | apply E.next | apply J.lq | apply Lq.nil | apply PRun.nil | apply J.block | apply E.in_normal | apply J.skip | (apply Lq.store; rfl; rfl; exact bsP; exact bsS; rfl; rfl) | (apply PRun.al; rfl) | (apply Lq.al; rfl; rfl; intro b) | (apply Open.cons; intro b) | apply Open.nil | (apply Lq.pass; rfl; rfl; rfl) | (apply PRun.pass; rfl; rfl) | (apply Lq.skip; rfl; rfl; rfl; exact bsB) | (apply PRun.skip; rfl; rfl; exact bsB) | (apply J.cond_t; rfl) | (apply J.cond_f; rfl) | apply J.exit | apply E.then_exit | apply E.in_exit | (apply E.in_other; rfl))
    refine J.drawW1 3 [(none, none), (none, none), (some 15, some 15)] 15 (itemA b15 24 (stateT.cells cur)) rfl (by rw [itemA_self]) mixed (by kernel_rfl) ?_
    refine PRunW.s (op_load stateT rfl) ?_
    refine PRunW.s (op_load stateT rfl) ?_
    refine PRunW.stA (φs' := stateT.cells r) rfl rfl rfl (Seg.val stateT _) rfl (Nat.le_refl 2) rfl ?_
    repeat (first | ((first | apply PRunW.s | (apply PRunW.run; rfl; rfl; exact bsB) | (apply Lq.s; rfl) | apply PRun.s | (apply Lq.run; rfl; rfl; rfl; exact bsB) | (apply PRun.run; rfl; rfl; exact bsB)); first | (apply op_add (c := ((i + 1 : Nat) : Int)); rfl; rfl; (rw [show (i : Int) + 1 = ((i + 1 : Nat) : Int) by omega]; apply wrapi <;> omega)) | (exact bsO)) | apply J.seq | apply E.next | apply J.lq | apply Lq.nil | apply PRun.nil | apply J.block | apply E.in_normal | apply J.skip | (apply Lq.store; rfl; rfl; exact bsP; exact bsS; rfl; rfl) | (apply PRun.al; rfl) | (apply Lq.al; rfl; rfl; intro b) | (apply Open.cons; intro b) | apply Open.nil | (apply Lq.pass; rfl; rfl; rfl) | (apply PRun.pass; rfl; rfl) | (apply Lq.skip; rfl; rfl; rfl; exact bsB) | (apply PRun.skip; rfl; rfl; exact bsB) | (apply J.cond_t; rfl) | (apply J.cond_f; rfl) | apply J.exit | apply E.then_exit | apply E.in_exit | (apply E.in_other; rfl) | apply PRunW.nil | (apply PRunW.al; rfl) | (apply PRunW.pass; rfl; rfl) | (apply PRunW.skip; rfl; rfl; exact bsB) | (apply Open.pv; intro b) | apply Open.av | (apply Open.rv; intro A c))
    exact E.again (i + 1, r) (by dsimp only; omega) ⟨by dsimp only; omega, hgn⟩ ⟨(by repeat' (first | exact trivial | refine ⟨rfl, ?_⟩)), [], by first | exact bsP | exact List.Perm.swap _ _ _⟩
  · repeat (first | ((first | (apply Lq.s; rfl) | apply PRun.s | (apply Lq.run; rfl; rfl; rfl; exact bsB) | (apply PRun.run; rfl; rfl; exact bsB)); first | (apply op_load stateT; rfl) | (apply op_call hsr; exact bsD) | (apply op_add (c := ((i + 1 : Nat) : Int)); rfl; rfl; (rw [show (i : Int) + 1 = ((i + 1 : Nat) : Int) by omega]; apply wrapi <;> omega)) | (exact bsO)) | apply J.seq | apply E.next | apply J.lq | apply Lq.nil | apply PRun.nil | apply J.block | apply E.in_normal | apply J.skip | (apply Lq.store; rfl; rfl; exact bsP; exact bsS; rfl; rfl) | (apply PRun.al; rfl) | (apply Lq.al; rfl; rfl; intro b) | (apply Open.cons; intro b) | apply Open.nil | (apply Lq.pass; rfl; rfl; rfl) | (apply PRun.pass; rfl; rfl) | (apply Lq.skip; rfl; rfl; rfl; exact bsB) | (apply PRun.skip; rfl; rfl; exact bsB) | (apply J.cond_t; rfl) | (apply J.cond_f; rfl) | apply J.exit | apply E.then_exit | apply E.in_exit | (apply E.in_other; rfl))
    exact E.again (i + 1, cur) (by dsimp only; omega) ⟨by dsimp only; omega, hgc⟩ ⟨(by repeat' (first | exact trivial | refine ⟨rfl, ?_⟩)), [], bsP⟩
end Go.Proofs.Ytbemcehcipkliaa.L
