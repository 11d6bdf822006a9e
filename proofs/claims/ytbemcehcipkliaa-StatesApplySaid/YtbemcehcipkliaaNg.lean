/-
  A stream behind an entry, walked.
-/
import Derived.Test.YtbemcehcipkliaaNf
namespace Go.Proofs.Ytbemcehcipkliaa.L
open Go
set_option linter.unusedSectionVars false
variable [Globs]
set_option linter.unusedVariables false
/-- A stream whose records are a row that is owned. -/
def streamO (A : Option Addr) (c : Nat) : Td StreamS where
  sz := 4
  cells s := [is (str s.name), is (.int .i64 s.retain), sl strT.toTy s.holds, is (.slice A s.recs.length c)]
  len _ := rfl
  ag := true
  one h := by cases h
  sc x H v h _ := by cases h
  pos := by decide
def strL (B : Nat) (A : Option Addr) (c : Nat) (s : StreamS) : List Res := [own B 48 ((streamO A c).cells s), row (.slice A s.recs.length c) 51 recT.toTy s.recs]
theorem OpP.weak {P : Program} {Γ : Env} {Δ : List Res} {o : Oper} {φ ψ : Pr} (h : OpP P Γ Δ o φ) (hw : ∀ H v, φ.h H v → ψ.h H v) : OpP P Γ Δ o ψ :=
  fun H a w Q K h1 h2 h3 h4 hK => h H a w Q K h1 h2 h3 h4 (fun v H' w' E hv => hK v H' w' E (hw H' v hv))
theorem All2.conv {H : IH} : ∀ {ps qs : List Pr} {cs : List Value}, All2 (fun (p q : Pr) => ∀ v, p.h H v → q.h H v) ps qs → All2 (fun φ c => φ.c H c) ps cs → All2 (fun φ c => φ.c H c) qs cs
  | [], [], [], _, _ => trivial
  | _ :: _, _ :: _, _ :: _, ⟨h1, h2⟩, ⟨k1, k2⟩ => ⟨⟨h1 _ k1.1, k1.2⟩, All2.conv h2 k2⟩
  | [], _ :: _, _, h, _ => h.elim
  | _ :: _, [], _, h, _ => h.elim
  | [], [], _ :: _, _, h => h.elim
  | _ :: _, _ :: _, [], _, h => h.elim
theorem agg_conv {ps qs : List Pr} (h : ∀ H, All2 (fun (p q : Pr) => ∀ v, p.h H v → q.h H v) ps qs) : ∀ H v, (agg ps).h H v → (agg qs).h H v :=
  fun H v ⟨cs, hv, hc⟩ => ⟨cs, hv, All2.conv (h H) hc⟩
theorem zero_conv : ∀ H v, (agg [is (str []), is (.int .i64 0), is (.slice none 0 0), is (.slice none 0 0)]).h H v → (streamT.val zeroS).h H v :=
  agg_conv fun H => ⟨fun _ h => h, fun _ h => h, fun v h => sl_nil H v h, fun v h => sl_nil H v h, trivial⟩
theorem rec_setH (r : Rec) (h0 : r.hash = zeroH) (p : Hash) : splice (recT.cells r) 2 (hashT.cells p) = recT.cells { r with hash := p } := by
  obtain ⟨a, b, c, d, e⟩ := r
  have h0 : c = zeroH := h0
  subst h0
  unfold splice
  rw [hashT.len]
  rfl
theorem rec_setR (r : Rec) (q : Run) : splice (recT.cells r) 34 (runT.cells q) = recT.cells { r with run := q } := by
  unfold splice
  have h1 : (recT.cells r).take 34 = [is (.int .i64 r.time), is (.int .i64 r.len)] ++ hashT.cells r.hash := by
    rw [rec_split2]
    exact List.take_left' (by rw [List.length_append, hashT.len]; rfl)
  have h2 : (recT.cells r).drop (34 + (runT.cells q).length) = [is (.bool r.shredded)] := by
    rw [rec_split3]
    refine List.drop_left' ?_
    rw [List.length_append, List.length_append, hashT.len, runT.len]; rfl
  rw [h1, h2, rec_split2]
  rw [List.append_assoc]
section
variable {P : Program} {Γ : Env} {Δ : List Res} {d : Option Nat} {ty t : Nat} {pos : String} {af : Array Edge} {g : Option (Nat × Bool)}
theorem op_zeroS {z : Value} {pl : Nat → Option (Nat × Nat)} [hz : TZero P t z] [hp : TPl P t pl] (hl : z.cells.toList.map is = [is (str []), is (.int .i64 0), is (.slice none 0 0), is (.slice none 0 0)]) (ho : z.cells.toList.all (fun v => v.oneCell') = true) : OpP P Γ Δ ⟨d, .build t #[], ty, pos, af, g⟩ (streamT.val zeroS) := by
  have hb := op_build (P := P) (Γ := Γ) (Δ := Δ) (d := d) (ty := ty) (pos := pos) (af := af) (g := g) (t := t) (z := z) (pl := pl) (ps := []) (φs := z.cells.toList.map is) ho (BP.nil _)
  rw [hl] at hb
  exact OpP.weak hb zero_conv
theorem op_newS {z : Value} {pl : Nat → Option (Nat × Nat)} {x : Operand} {s : Str} [hz : TZero P t z] [hp : TPl P t pl] (h : opd Γ x = some (is (str s))) (hl : z.cells.toList.map is = [is (str []), is (.int .i64 0), is (.slice none 0 0), is (.slice none 0 0)]) (ho : z.cells.toList.all (fun v => v.oneCell') = true) (e0 : pl 0 = some (0, 1)) : OpP P Γ Δ ⟨d, .build t #[(0, x)], ty, pos, af, g⟩ (streamT.val { zeroS with name := s }) := by
  have hb := op_build (P := P) (Γ := Γ) (Δ := Δ) (d := d) (ty := ty) (pos := pos) (af := af) (g := g) (t := t) (z := z) (pl := pl) (ps := [(0, x)]) (φs := [is (str s), is (.int .i64 0), is (.slice none 0 0), is (.slice none 0 0)]) ho
    (BP.cons e0 h (Seg.is rfl) rfl (by rw [hl]; rfl) (by rw [hl]; exact BP.nil _))
  refine OpP.weak hb ?_
  exact agg_conv fun H => ⟨fun _ h => h, fun _ h => h, fun v h => sl_nil H v h, fun v h => sl_nil H v h, trivial⟩
theorem op_recE {e : EntryS} {x y u v : Operand} {z : Value} {pl : Nat → Option (Nat × Nat)} [hz : TZero P t z] [hp : TPl P t pl] (h1 : opd Γ x = some (is (.int .i64 e.n))) (h2 : opd Γ y = some (is (.int .i64 e.len))) (h3 : opd Γ u = some (hashT.val e.hash)) (h4 : opd Γ v = some (runT.val e.run))
    (hl : z.cells.toList.map is = recT.cells zeroRec) (ho : z.cells.toList.all (fun v => v.oneCell') = true) (e0 : pl 0 = some (0, 1)) (e1 : pl 1 = some (1, 1)) (e2 : pl 2 = some (2, 32)) (e3 : pl 3 = some (34, 2)) :
    OpP P Γ Δ ⟨d, .build t #[(0, x), (1, y), (2, u), (3, v)], ty, pos, af, g⟩ (recT.val (mkRec e)) := by
  have s1 : splice (recT.cells zeroRec) 0 [is (.int .i64 e.n)] = recT.cells { zeroRec with time := e.n } := rfl
  have s2 : splice (recT.cells { zeroRec with time := e.n }) 1 [is (.int .i64 e.len)] = recT.cells { zeroRec with time := e.n, len := e.len } := rfl
  have s3 := rec_setH { zeroRec with time := e.n, len := e.len } rfl e.hash
  have s4 := rec_setR { zeroRec with time := e.n, len := e.len, hash := e.hash } e.run
  have hb := op_build (P := P) (Γ := Γ) (Δ := Δ) (d := d) (ty := ty) (pos := pos) (af := af) (g := g) (t := t) (z := z) (pl := pl) (ps := [(0, x), (1, y), (2, u), (3, v)]) (φs := recT.cells (mkRec e)) ho (by
    rw [hl]
    refine BP.cons e0 h1 (Seg.is rfl) rfl (by rw [recT.len]; rfl) ?_
    rw [s1]
    refine BP.cons e1 h2 (Seg.is rfl) rfl (by rw [recT.len]; rfl) ?_
    rw [s2]
    refine BP.cons e2 h3 (Seg.val hashT _) (hashT.len _) (by rw [recT.len]; rfl) ?_
    rw [s3]
    refine BP.cons e3 h4 (Seg.val runT _) (runT.len _) (by rw [recT.len]; rfl) ?_
    rw [s4]
    exact BP.nil _)
  exact hb
end
theorem row_back {α : Type} {T : Ty α} {xs : List α} {pre post : List Pr} {b o e cap : Nat} (hpre : pre.length = o) (hle : xs.length ≤ cap) (hcap : cap ≤ maxLen) (hroom : o + cap * T.sz ≤ (pre ++ flat T xs ++ post).length) :
    ∀ H w, (own b e (pre ++ flat T xs ++ post)).ok H w → (row (.slice (some ⟨b, o, none⟩) xs.length cap) e T xs).ok H w ∧ (row (.slice (some ⟨b, o, none⟩) xs.length cap) e T xs).blk = (own b e (pre ++ flat T xs ++ post)).blk :=
  fun H w h => ⟨row_of h hroom hle hcap (take_rowT T hpre), rfl⟩
/-- A part of an item of a row. -/
theorem at_rfld {α : Type} (T : Ty α) {pre post : List Pr} {xs : List α} {o i k m : Nat} {r : α} (h : pre.length = o) (hx : xs[i]? = some r) (hk : k + m ≤ T.sz) : ((pre ++ flat T xs ++ post).drop (o + i * T.sz + k)).take m = ((T.cells r).drop k).take m := by
  rw [← at_row T h hx, List.drop_take, List.take_take, List.drop_drop, Nat.min_eq_left (by omega)]
/-- Records, given up inside a stream's value. -/
theorem Lq.frzS {C : Cx} {Γ : Env} {Δ Δ' : List Res} {Q : Exit → Act → World → Prop} {ops : Array Oper} {rest : List Oper} {s : StreamS} {A : Option Addr} {c e : Nat} (d : Nat) (h : look Γ d = some ((streamO A c).val s)) (hp : Δ.Perm (row (.slice A s.recs.length c) e recT.toTy s.recs :: Δ'))
    (k : Lq C ((d, streamT.val s) :: Γ) Δ' ops rest Q) : Lq C Γ Δ ops rest Q := fun H a w S => by
  obtain ⟨H', S', hle, hsl⟩ := S.freeze hp
  refine k H' a w (S'.weak fun t χ ht => ?_)
  unfold look at ht
  split at ht
  · rename_i hk
    have hk := Nat.eq_of_beq_eq_true hk
    subst hk
    injection ht with ht; subst ht
    obtain ⟨v, hv, h2⟩ := S'.env d _ h
    refine ⟨v, hv, ?_⟩
    obtain ⟨cs, hcv, hc⟩ := h2
    refine ⟨cs, hcv, ?_⟩
    match cs, hc with
    | [_, _, _, v4], ⟨h1, h2, h3, h4, _⟩ =>
      have h5 : v4 = .slice A s.recs.length c := h4.1
      exact ⟨h1, h2, h3, ⟨by rw [h5]; exact hsl, h4.2⟩, trivial⟩
  · exact S'.env t χ ht
set_option linter.unusedVariables false
set_option linter.unusedSimpArgs false
attribute [local irreducible] J Lq E OpP PRun is any agg tup ptr sl PRunW OpE
attribute [local irreducible] slt nameE lowerN cloT cntM recOk row
theorem own_fnR (s : StreamS) (hh : s.holds.length ≤ 1000000) (hr : s.recs.length ≤ 1000000) : FnR Try.prog 47 [streamT.val s] [] (fun ψ Δ => ∃ A c, ψ = (streamO A c).val s ∧ Δ = [row (.slice A s.recs.length c) 51 recT.toTy s.recs]) := by
  refine FnR.mk' 12 Try.func47 rfl rfl rfl rfl fun w0 H0 => ?_
  apply J.seq
  apply J.lq
  refine Lq.box rfl rfl (Seg.val streamT s) ?_
  intro B
  repeat (first | ((first | (apply Lq.s; rfl) | apply PRun.s | (apply Lq.run; rfl; rfl; rfl; exact bsB) | (apply PRun.run; rfl; rfl; exact bsB)); first | (exact bsO)) | apply J.seq | apply E.next | apply J.lq | apply Lq.nil | apply PRun.nil | apply J.block | apply E.in_normal | apply J.skip | (apply Lq.store; rfl; rfl; exact bsP; exact bsS; rfl; rfl) | (apply PRun.al; rfl) | (apply Lq.al; rfl; rfl; intro b) | (apply Open.cons; intro b) | apply Open.nil | (apply Lq.pass; rfl; rfl; rfl) | (apply PRun.pass; rfl; rfl) | (apply Lq.skip; rfl; rfl; rfl; exact bsB) | (apply PRun.skip; rfl; rfl; exact bsB) | (apply J.cond_t; rfl) | (apply J.cond_f; rfl) | apply J.exit | apply E.then_exit | apply E.in_exit | (apply E.in_other; rfl))
  refine J.drawW 7 [(none, none), (none, none), (none, none), (none, none), (none, none), (none, some 8), (none, none)] mixed (by kernel_rfl) ?_
  refine PRunW.s (op_ofaddr rfl (by decide)) ?_
  refine PRunW.s (op_oload (slT strT) (x := s.holds) rfl (by exact bsM) rfl) ?_
  refine PRunW.s (op_call (sclone_fn s.holds hh) bsD) ?_
  refine PRunW.s (op_ofaddr rfl (by decide)) ?_
  refine PRunW.s (op_oload (slT recT) (x := s.recs) rfl (by exact bsM) rfl) ?_
  refine PRunW.mk (R := fun v => row v 51 recT.toTy s.recs) (φ := anySl s.recs.length) anySl_row (opR_call (rclone_fnR s.recs hr) bsD) ?_
  refine PRunW.s (op_ofaddr rfl (by decide)) ?_
  refine PRunW.nil (Open.rv fun A c => Open.nil ?_)
  repeat (first | ((first | (apply Lq.s; rfl) | apply PRun.s | (apply Lq.run; rfl; rfl; rfl; exact bsB) | (apply PRun.run; rfl; rfl; exact bsB)); first | (apply op_oload (streamO A c) (x := s); rfl; exact bsM; rfl) | (exact bsO)) | apply J.seq | apply E.next | apply J.lq | apply Lq.nil | apply PRun.nil | apply J.block | apply E.in_normal | apply J.skip | (apply Lq.store; rfl; rfl; exact bsP; exact bsS; rfl; rfl) | (apply PRun.al; rfl) | (apply Lq.al; rfl; rfl; intro b) | (apply Open.cons; intro b) | apply Open.nil | (apply Lq.pass; rfl; rfl; rfl) | (apply PRun.pass; rfl; rfl) | (apply Lq.skip; rfl; rfl; rfl; exact bsB) | (apply PRun.skip; rfl; rfl; exact bsB) | (apply J.cond_t; rfl) | (apply J.cond_f; rfl) | apply J.exit | apply E.then_exit | apply E.in_exit | (apply E.in_other; rfl))
  (refine J.ret ?_; (repeat (first | refine E.then_ret ?_ | refine E.in_ret ?_)))
  exact E.retRc (streamO A c) (x := s) (Δ' := [row (.slice A s.recs.length c) 51 recT.toTy s.recs]) (G := [_, _]) rfl rfl (by exact bsM) rfl ⟨A, c, rfl, rfl⟩ (bsP)
theorem add_fnR (B : Nat) (A : Option Addr) (c : Nat) (s : StreamS) (e : EntryS) (hr : s.recs.length ≤ 1000) : FnR Try.prog 59 [is (.pointer (some ⟨B, 0, none⟩)), entryT.val e] (strL B A c s)
    (fun ψ Δ => ∃ A' c', ψ = is (.int .i64 (errAdd s e)) ∧ Δ = strL B A' c' (if errAdd s e = 0 then { s with recs := s.recs ++ [mkRec e] } else s)) := by
  have hrf := record_fn (mkRec e)
  refine FnR.mk' 61 Try.func59 rfl rfl rfl rfl fun w0 H0 => ?_
  unfold strL
  repeat (first | ((first | (apply Lq.s; rfl) | apply PRun.s | (apply Lq.run; rfl; rfl; rfl; exact bsB) | (apply PRun.run; rfl; rfl; exact bsB)); first | (apply op_box entryT; rfl) | (apply op_faddr entry_n; rfl; decide) | (apply op_faddr entry_kind; rfl; decide) | (apply op_faddr entry_len; rfl; decide) | (apply op_faddr entry_name; rfl; decide) | (apply op_faddr entry_hash; rfl; decide) | (apply op_faddr entry_run; rfl; decide) | (apply op_load (intT .i64); rfl) | (apply op_load strT; rfl) | (apply op_load hashT; rfl) | (apply op_load runT; rfl) | (apply op_load entryT; rfl) | (apply op_recE (e := e); rfl; rfl; rfl; rfl; rfl; rfl; rfl; rfl; rfl; rfl) | (exact bsO)) | apply J.seq | apply E.next | apply J.lq | apply Lq.nil | apply PRun.nil | apply J.block | apply E.in_normal | apply J.skip | (apply Lq.store; rfl; rfl; exact bsP; exact bsS; rfl; rfl) | (apply PRun.al; rfl) | (apply Lq.al; rfl; rfl; intro b) | (apply Open.cons; intro b) | apply Open.nil | (apply Lq.pass; rfl; rfl; rfl) | (apply PRun.pass; rfl; rfl) | (apply Lq.skip; rfl; rfl; rfl; exact bsB) | (apply PRun.skip; rfl; rfl; exact bsB) | (apply J.cond_t; rfl) | (apply J.cond_f; rfl) | apply J.exit | apply E.then_exit | apply E.in_exit | (apply E.in_other; rfl))
  revert b
  intro b5
  (apply Lq.storeE (φs' := recT.cells (mkRec e)); rfl; rfl; exact List.Perm.refl _; exact Seg.val _ _; exact recT.len _; exact Nat.le_refl 37; exact splice_all (by rw [recT.len]; rfl))
  refine Lq.frzB 5 rfl (List.Perm.refl _) ?_
  by_cases h1 : s.recs.length = 64
  · have he : errAdd s e = 3 := by unfold errAdd; rw [if_pos (.inl h1)]
    repeat (first | ((first | (apply Lq.s; rfl) | apply PRun.s | (apply Lq.run; rfl; rfl; rfl; exact bsB) | (apply PRun.run; rfl; rfl; exact bsB)); first | (apply op_ocell; rfl; exact bsM; rfl) | (apply op_slen; rfl) | (apply op_box entryT; rfl) | (apply op_faddr entry_n; rfl; decide) | (apply op_faddr entry_kind; rfl; decide) | (apply op_faddr entry_len; rfl; decide) | (apply op_faddr entry_name; rfl; decide) | (apply op_faddr entry_hash; rfl; decide) | (apply op_faddr entry_run; rfl; decide) | (apply op_load (intT .i64); rfl) | (apply op_load strT; rfl) | (apply op_load hashT; rfl) | (apply op_load runT; rfl) | (apply op_load entryT; rfl) | (exact bsO)) | apply J.seq | apply E.next | apply J.lq | apply Lq.nil | apply PRun.nil | apply J.block | apply E.in_normal | apply J.skip | (apply Lq.store; rfl; rfl; exact bsP; exact bsS; rfl; rfl) | (apply PRun.al; rfl) | (apply Lq.al; rfl; rfl; intro b) | (apply Open.cons; intro b) | apply Open.nil | (apply Lq.pass; rfl; rfl; rfl) | (apply PRun.pass; rfl; rfl) | (apply Lq.skip; rfl; rfl; rfl; exact bsB) | (apply PRun.skip; rfl; rfl; exact bsB) | (apply J.cond_t; rfl) | (apply J.cond_f; rfl) | apply J.exit | apply E.then_exit | apply E.in_exit | (apply E.in_other; rfl))
    (refine J.ret ?_; (repeat (first | refine E.then_ret ?_ | refine E.in_ret ?_)))
    exact E.retR1 (G := []) rfl rfl ⟨A, c, by rw [he], by rw [if_neg (by rw [he]; decide)]⟩ (List.Perm.refl _)
  by_cases h2 : 300 < e.len
  · have he : errAdd s e = 3 := by unfold errAdd; rw [if_pos (.inr h2)]
    repeat (first | ((first | (apply Lq.s; rfl) | apply PRun.s | (apply Lq.run; rfl; rfl; rfl; exact bsB) | (apply PRun.run; rfl; rfl; exact bsB)); first | (apply op_ocell; rfl; exact bsM; rfl) | (apply op_slen; rfl) | (apply op_box entryT; rfl) | (apply op_faddr entry_n; rfl; decide) | (apply op_faddr entry_kind; rfl; decide) | (apply op_faddr entry_len; rfl; decide) | (apply op_faddr entry_name; rfl; decide) | (apply op_faddr entry_hash; rfl; decide) | (apply op_faddr entry_run; rfl; decide) | (apply op_load (intT .i64); rfl) | (apply op_load strT; rfl) | (apply op_load hashT; rfl) | (apply op_load runT; rfl) | (apply op_load entryT; rfl) | (exact bsO)) | apply J.seq | apply E.next | apply J.lq | apply Lq.nil | apply PRun.nil | apply J.block | apply E.in_normal | apply J.skip | (apply Lq.store; rfl; rfl; exact bsP; exact bsS; rfl; rfl) | (apply PRun.al; rfl) | (apply Lq.al; rfl; rfl; intro b) | (apply Open.cons; intro b) | apply Open.nil | (apply Lq.pass; rfl; rfl; rfl) | (apply PRun.pass; rfl; rfl) | (apply Lq.skip; rfl; rfl; rfl; exact bsB) | (apply PRun.skip; rfl; rfl; exact bsB) | (apply J.cond_t; rfl) | (apply J.cond_f; rfl) | apply J.exit | apply E.then_exit | apply E.in_exit | (apply E.in_other; rfl))
    (refine J.ret ?_; (repeat (first | refine E.then_ret ?_ | refine E.in_ret ?_)))
    exact E.retR1 (G := []) rfl rfl ⟨A, c, by rw [he], by rw [if_neg (by rw [he]; decide)]⟩ (List.Perm.refl _)
  have hn : ¬ (s.recs.length = 64 ∨ 300 < e.len) := by omega
  repeat (first | ((first | (apply Lq.s; rfl) | apply PRun.s | (apply Lq.run; rfl; rfl; rfl; exact bsB) | (apply PRun.run; rfl; rfl; exact bsB)); first | (apply op_ocell; rfl; exact bsM; rfl) | (apply op_slen; rfl) | (apply op_box entryT; rfl) | (apply op_faddr entry_n; rfl; decide) | (apply op_faddr entry_kind; rfl; decide) | (apply op_faddr entry_len; rfl; decide) | (apply op_faddr entry_name; rfl; decide) | (apply op_faddr entry_hash; rfl; decide) | (apply op_faddr entry_run; rfl; decide) | (apply op_load (intT .i64); rfl) | (apply op_load strT; rfl) | (apply op_load hashT; rfl) | (apply op_load runT; rfl) | (apply op_load entryT; rfl) | (exact bsO)) | apply J.seq | apply E.next | apply J.lq | apply Lq.nil | apply PRun.nil | apply J.block | apply E.in_normal | apply J.skip | (apply Lq.store; rfl; rfl; exact bsP; exact bsS; rfl; rfl) | (apply PRun.al; rfl) | (apply Lq.al; rfl; rfl; intro b) | (apply Open.cons; intro b) | apply Open.nil | (apply Lq.pass; rfl; rfl; rfl) | (apply PRun.pass; rfl; rfl) | (apply Lq.skip; rfl; rfl; rfl; exact bsB) | (apply PRun.skip; rfl; rfl; exact bsB) | (apply J.cond_t; rfl) | (apply J.cond_f; rfl) | apply J.exit | apply E.then_exit | apply E.in_exit | (apply E.in_other; rfl))
  cases ho : recOk (mkRec e)
  · have he : errAdd s e = 2 := by unfold errAdd; rw [if_neg hn, ho]; rfl
    rw [ho] at hrf
    repeat (first | ((first | (apply Lq.s; rfl) | apply PRun.s | (apply Lq.run; rfl; rfl; rfl; exact bsB) | (apply PRun.run; rfl; rfl; exact bsB)); first | (apply op_ocell; rfl; exact bsM; rfl) | (apply op_slen; rfl) | (apply op_box entryT; rfl) | (apply op_faddr entry_n; rfl; decide) | (apply op_faddr entry_kind; rfl; decide) | (apply op_faddr entry_len; rfl; decide) | (apply op_faddr entry_name; rfl; decide) | (apply op_faddr entry_hash; rfl; decide) | (apply op_faddr entry_run; rfl; decide) | (apply op_load (intT .i64); rfl) | (apply op_load strT; rfl) | (apply op_load hashT; rfl) | (apply op_load runT; rfl) | (apply op_load entryT; rfl) | (apply op_load recT; rfl) | (apply op_call hrf; exact bsD) | (exact bsO)) | apply J.seq | apply E.next | apply J.lq | apply Lq.nil | apply PRun.nil | apply J.block | apply E.in_normal | apply J.skip | (apply Lq.store; rfl; rfl; exact bsP; exact bsS; rfl; rfl) | (apply PRun.al; rfl) | (apply Lq.al; rfl; rfl; intro b) | (apply Open.cons; intro b) | apply Open.nil | (apply Lq.pass; rfl; rfl; rfl) | (apply PRun.pass; rfl; rfl) | (apply Lq.skip; rfl; rfl; rfl; exact bsB) | (apply PRun.skip; rfl; rfl; exact bsB) | (apply J.drawN; exact mixed; kernel_rfl) | (apply J.cond_t; rfl) | (apply J.cond_f; rfl) | apply J.exit | apply E.then_exit | apply E.in_exit | (apply E.in_other; rfl))
    (refine J.ret ?_; (repeat (first | refine E.then_ret ?_ | refine E.in_ret ?_)))
    exact E.retR1 (G := []) rfl rfl ⟨A, c, by rw [he], by rw [if_neg (by rw [he]; decide)]⟩ (List.Perm.refl _)
  rw [ho] at hrf
  by_cases h0 : s.recs = []
  · have hl0 : s.recs.length = 0 := by rw [h0]; rfl
    have he : errAdd s e = 0 := by unfold errAdd lastT; rw [if_neg hn, ho, h0]; rfl
    refine J.drawW 22 [(none, none), (none, none), (none, none), (none, none), (none, none), (none, none), (none, none), (none, none), (none, none), (none, none), (none, none), (none, none), (none, none), (none, none), (none, none), (none, none), (none, none), (none, none), (none, none), (none, none), (none, none), (none, none)] mixed (by kernel_rfl) ?_
    repeat (first | ((first | apply PRunW.s | (apply PRunW.run; rfl; rfl; exact bsB) | (apply Lq.s; rfl) | apply PRun.s | (apply Lq.run; rfl; rfl; rfl; exact bsB) | (apply PRun.run; rfl; rfl; exact bsB)); first | (apply op_ocell; rfl; exact bsM; rfl) | (apply op_slen; rfl) | (apply op_box entryT; rfl) | (apply op_faddr entry_n; rfl; decide) | (apply op_faddr entry_kind; rfl; decide) | (apply op_faddr entry_len; rfl; decide) | (apply op_faddr entry_name; rfl; decide) | (apply op_faddr entry_hash; rfl; decide) | (apply op_faddr entry_run; rfl; decide) | (apply op_load (intT .i64); rfl) | (apply op_load strT; rfl) | (apply op_load hashT; rfl) | (apply op_load runT; rfl) | (apply op_load entryT; rfl) | (apply op_load recT; rfl) | (apply op_call hrf; exact bsD) | (exact bsO)) | apply J.seq | apply E.next | apply J.lq | apply Lq.nil | apply PRun.nil | apply J.block | apply E.in_normal | apply J.skip | (apply Lq.store; rfl; rfl; exact bsP; exact bsS; rfl; rfl) | (apply PRun.al; rfl) | (apply Lq.al; rfl; rfl; intro b) | (apply Open.cons; intro b) | apply Open.nil | (apply Lq.pass; rfl; rfl; rfl) | (apply PRun.pass; rfl; rfl) | (apply Lq.skip; rfl; rfl; rfl; exact bsB) | (apply PRun.skip; rfl; rfl; exact bsB) | (apply J.cond_t; rfl) | (apply J.cond_f; rfl) | apply J.exit | apply E.then_exit | apply E.in_exit | (apply E.in_other; rfl) | apply PRunW.nil | (apply PRunW.al; rfl) | (apply PRunW.pass; rfl; rfl) | (apply PRunW.skip; rfl; rfl; exact bsB) | (apply Open.pv; intro b) | apply Open.av | (apply Open.rv; intro A c))
    refine J.drawW1 8 [(none, none), (none, none), (none, none), (none, none), (none, none), (none, none), (none, none), (some 0, some 58)] 0 (itemK (row (.slice A s.recs.length c) 51 recT.toTy s.recs)) rfl (by exact bsP) mixed (by kernel_rfl) ?_; refine PRunW.s (op_move rfl) ?_; refine PRunW.s (op_move rfl) ?_; refine PRunW.s (op_nilCheck rfl) ?_; refine PRunW.s (op_ofaddr rfl (by decide)) ?_; refine PRunW.s (op_ocell rfl (by exact bsM) rfl) ?_; refine PRunW.s (op_load recT rfl) ?_; apply PRunW.s; (apply op_bslice recT (xs := [mkRec e]); (repeat (first | exact PO.nil _ | (apply PO.cons; rfl))); rfl; rfl; rfl); (apply PRunW.apK (T := recT) (xs := s.recs) (ys := [mkRec e]); rfl; rfl; rfl; exact (fun H w h => ⟨h, rfl⟩); (apply From.sl; rfl); rfl; rfl; (show _ + 1 ≤ maxLen; unfold maxLen; omega); (show (_ + 1) * 72 ≤ _; omega)); refine PRunW.nil (Open.rv fun A2 c2 => Open.nil ?_); (repeat (first | ((first | (apply Lq.s; rfl) | apply PRun.s | (apply Lq.run; rfl; rfl; rfl; exact bsB) | (apply PRun.run; rfl; rfl; exact bsB)); first | (exact bsO)) | apply J.seq | apply E.next | apply J.lq | apply Lq.nil | apply PRun.nil | apply J.block | apply E.in_normal | apply J.skip | (apply Lq.store; rfl; rfl; exact bsP; exact bsS; rfl; rfl) | (apply PRun.al; rfl) | (apply Lq.al; rfl; rfl; intro b) | (apply Open.cons; intro b) | apply Open.nil | (apply Lq.pass; rfl; rfl; rfl) | (apply PRun.pass; rfl; rfl) | (apply Lq.skip; rfl; rfl; rfl; exact bsB) | (apply PRun.skip; rfl; rfl; exact bsB) | (apply J.cond_t; rfl) | (apply J.cond_f; rfl) | apply J.exit | apply E.then_exit | apply E.in_exit | (apply E.in_other; rfl))); (refine J.ret ?_; (repeat (first | refine E.then_ret ?_ | refine E.in_ret ?_)))
    exact E.retR1 (G := []) rfl rfl ⟨A2, c2, by rw [he], by rw [if_pos he]⟩ (bsP)
  · obtain ⟨k, hk⟩ : ∃ k, s.recs.length = k + 1 := ⟨s.recs.length - 1, by have := List.length_pos_iff.2 h0; omega⟩
    obtain ⟨r, hrk⟩ : ∃ r, s.recs[k]? = some r := ⟨_, List.getElem?_eq_getElem (by omega)⟩
    have hlast : lastT s.recs e.n = decide (r.time ≤ e.n) := by
      unfold lastT
      rw [List.getLast?_eq_getElem?, show s.recs.length - 1 = k by omega, hrk]
    refine J.open (by exact bsP) h0 ?_
    intro rb ro cap pre post hR
    obtain ⟨hv, hpre, hle, hcap, hroom, _⟩ := hR
    injection hv with hA _ hc
    subst hA; subst hc
    have hcell : ((pre ++ flat recT.toTy s.recs ++ post).drop (ro + k * 37 + 0)).take (intT .i64).sz = (intT .i64).cells r.time := at_rfld recT.toTy (k := 0) (m := 1) hpre hrk (Nat.le_of_ble_eq_true rfl)
    refine J.drawW 22 [(none, none), (none, none), (none, none), (none, none), (none, none), (none, none), (none, none), (none, none), (none, none), (none, none), (none, none), (none, none), (none, none), (none, none), (none, none), (none, none), (none, none), (none, none), (none, none), (none, none), (none, none), (none, none)] mixed (by kernel_rfl) ?_
    by_cases ht : r.time ≤ e.n
    · have he : errAdd s e = 0 := by unfold errAdd; rw [if_neg hn, ho, hlast, decide_eq_true ht]; rfl
      repeat (first | ((first | apply PRunW.s | (apply PRunW.run; rfl; rfl; exact bsB) | (apply Lq.s; rfl) | apply PRun.s | (apply Lq.run; rfl; rfl; rfl; exact bsB) | (apply PRun.run; rfl; rfl; exact bsB)); first | (apply op_ocell; rfl; exact bsM; rfl) | (apply op_slen; rfl) | (apply op_box entryT; rfl) | (apply op_faddr entry_n; rfl; decide) | (apply op_faddr entry_kind; rfl; decide) | (apply op_faddr entry_len; rfl; decide) | (apply op_faddr entry_name; rfl; decide) | (apply op_faddr entry_hash; rfl; decide) | (apply op_faddr entry_run; rfl; decide) | (apply op_load (intT .i64); rfl) | (apply op_load strT; rfl) | (apply op_load hashT; rfl) | (apply op_load runT; rfl) | (apply op_load entryT; rfl) | (apply op_load recT; rfl) | (apply op_call hrf; exact bsD) | (apply op_sub (c := (k : Int)); rfl; rfl; (rw [hk, show ((k + 1 : Nat) : Int) - 1 = (k : Int) by omega]; apply wrapi <;> omega)) | (apply op_siaddr; rfl; rfl; omega; omega) | (apply op_oload (intT .i64) (x := r.time); rfl; exact bsM; exact hcell) | (exact bsO)) | apply J.seq | apply E.next | apply J.lq | apply Lq.nil | apply PRun.nil | apply J.block | apply E.in_normal | apply J.skip | (apply Lq.store; rfl; rfl; exact bsP; exact bsS; rfl; rfl) | (apply PRun.al; rfl) | (apply Lq.al; rfl; rfl; intro b) | (apply Open.cons; intro b) | apply Open.nil | (apply Lq.pass; rfl; rfl; rfl) | (apply PRun.pass; rfl; rfl) | (apply Lq.skip; rfl; rfl; rfl; exact bsB) | (apply PRun.skip; rfl; rfl; exact bsB) | (apply J.cond_t; rfl) | (apply J.cond_f; rfl) | apply J.exit | apply E.then_exit | apply E.in_exit | (apply E.in_other; rfl) | apply PRunW.nil | (apply PRunW.al; rfl) | (apply PRunW.pass; rfl; rfl) | (apply PRunW.skip; rfl; rfl; exact bsB) | (apply Open.pv; intro b) | apply Open.av | (apply Open.rv; intro A c))
      refine J.res1 (by exact bsP) (row_back hpre hle hcap hroom) ?_
      generalize hA : (some (⟨rb, ro, none⟩ : Addr)) = A
      refine J.drawW1 8 [(none, none), (none, none), (none, none), (none, none), (none, none), (none, none), (none, none), (some 0, some 58)] 0 (itemK (row (.slice A s.recs.length c) 51 recT.toTy s.recs)) rfl (by exact bsP) mixed (by kernel_rfl) ?_; refine PRunW.s (op_move rfl) ?_; refine PRunW.s (op_move rfl) ?_; refine PRunW.s (op_nilCheck rfl) ?_; refine PRunW.s (op_ofaddr rfl (by decide)) ?_; refine PRunW.s (op_ocell rfl (by exact bsM) rfl) ?_; refine PRunW.s (op_load recT rfl) ?_; apply PRunW.s; (apply op_bslice recT (xs := [mkRec e]); (repeat (first | exact PO.nil _ | (apply PO.cons; rfl))); rfl; rfl; rfl); (apply PRunW.apK (T := recT) (xs := s.recs) (ys := [mkRec e]); rfl; rfl; rfl; exact (fun H w h => ⟨h, rfl⟩); (apply From.sl; rfl); rfl; rfl; (show _ + 1 ≤ maxLen; unfold maxLen; omega); (show (_ + 1) * 72 ≤ _; omega)); refine PRunW.nil (Open.rv fun A2 c2 => Open.nil ?_); (repeat (first | ((first | (apply Lq.s; rfl) | apply PRun.s | (apply Lq.run; rfl; rfl; rfl; exact bsB) | (apply PRun.run; rfl; rfl; exact bsB)); first | (exact bsO)) | apply J.seq | apply E.next | apply J.lq | apply Lq.nil | apply PRun.nil | apply J.block | apply E.in_normal | apply J.skip | (apply Lq.store; rfl; rfl; exact bsP; exact bsS; rfl; rfl) | (apply PRun.al; rfl) | (apply Lq.al; rfl; rfl; intro b) | (apply Open.cons; intro b) | apply Open.nil | (apply Lq.pass; rfl; rfl; rfl) | (apply PRun.pass; rfl; rfl) | (apply Lq.skip; rfl; rfl; rfl; exact bsB) | (apply PRun.skip; rfl; rfl; exact bsB) | (apply J.cond_t; rfl) | (apply J.cond_f; rfl) | apply J.exit | apply E.then_exit | apply E.in_exit | (apply E.in_other; rfl))); (refine J.ret ?_; (repeat (first | refine E.then_ret ?_ | refine E.in_ret ?_)))
      exact E.retR1 (G := []) rfl rfl ⟨A2, c2, by rw [he], by rw [if_pos he]⟩ (bsP)
    · have he : errAdd s e = 2 := by unfold errAdd; rw [if_neg hn, ho, hlast, decide_eq_false ht]; rfl
      repeat (first | ((first | apply PRunW.s | (apply PRunW.run; rfl; rfl; exact bsB) | (apply Lq.s; rfl) | apply PRun.s | (apply Lq.run; rfl; rfl; rfl; exact bsB) | (apply PRun.run; rfl; rfl; exact bsB)); first | (apply op_ocell; rfl; exact bsM; rfl) | (apply op_slen; rfl) | (apply op_box entryT; rfl) | (apply op_faddr entry_n; rfl; decide) | (apply op_faddr entry_kind; rfl; decide) | (apply op_faddr entry_len; rfl; decide) | (apply op_faddr entry_name; rfl; decide) | (apply op_faddr entry_hash; rfl; decide) | (apply op_faddr entry_run; rfl; decide) | (apply op_load (intT .i64); rfl) | (apply op_load strT; rfl) | (apply op_load hashT; rfl) | (apply op_load runT; rfl) | (apply op_load entryT; rfl) | (apply op_load recT; rfl) | (apply op_call hrf; exact bsD) | (apply op_sub (c := (k : Int)); rfl; rfl; (rw [hk, show ((k + 1 : Nat) : Int) - 1 = (k : Int) by omega]; apply wrapi <;> omega)) | (apply op_siaddr; rfl; rfl; omega; omega) | (apply op_oload (intT .i64) (x := r.time); rfl; exact bsM; exact hcell) | (exact bsO)) | apply J.seq | apply E.next | apply J.lq | apply Lq.nil | apply PRun.nil | apply J.block | apply E.in_normal | apply J.skip | (apply Lq.store; rfl; rfl; exact bsP; exact bsS; rfl; rfl) | (apply PRun.al; rfl) | (apply Lq.al; rfl; rfl; intro b) | (apply Open.cons; intro b) | apply Open.nil | (apply Lq.pass; rfl; rfl; rfl) | (apply PRun.pass; rfl; rfl) | (apply Lq.skip; rfl; rfl; rfl; exact bsB) | (apply PRun.skip; rfl; rfl; exact bsB) | (apply J.cond_t; rfl) | (apply J.cond_f; rfl) | apply J.exit | apply E.then_exit | apply E.in_exit | (apply E.in_other; rfl) | apply PRunW.nil | (apply PRunW.al; rfl) | (apply PRunW.pass; rfl; rfl) | (apply PRunW.skip; rfl; rfl; exact bsB) | (apply Open.pv; intro b) | apply Open.av | (apply Open.rv; intro A c))
      (refine J.ret ?_; (repeat (first | refine E.then_ret ?_ | refine E.in_ret ?_)))
      refine E.close recT.toTy s.recs (by exact bsP) hroom hle hcap (take_rowT recT.toTy hpre) ?_
      exact E.retR1 (G := []) rfl rfl ⟨_, c, by rw [he], by rw [if_neg (by rw [he]; decide)]⟩ (bsP)
theorem hold_fnR (B : Nat) (A : Option Addr) (c : Nat) (s : StreamS) (x : Str) (hs : adj slt s.holds = true) (hl : s.holds.length ≤ 4) : FnR Try.prog 61 [is (.pointer (some ⟨B, 0, none⟩)), is (str x)] [own B 48 ((streamO A c).cells s)]
    (fun ψ Δ => ψ = is (.int .i64 (errHold s.holds x)) ∧ Δ = [own B 48 ((streamO A c).cells (if errHold s.holds x = 0 then { s with holds := addM s.holds x } else s))]) := by
  have hnf := ncheck_fn x
  refine FnR.mk' 33 Try.func61 rfl rfl rfl rfl fun w0 H0 => ?_
  cases h1 : nameOk x
  · have he : errHold s.holds x = 130 := by unfold errHold; rw [h1]; rfl
    rw [nameE_bad h1] at hnf
    repeat (first | ((first | (apply Lq.s; rfl) | apply PRun.s | (apply Lq.run; rfl; rfl; rfl; exact bsB) | (apply PRun.run; rfl; rfl; exact bsB)); first | (apply op_call hnf; exact bsD) | (exact bsO)) | apply J.seq | apply E.next | apply J.lq | apply Lq.nil | apply PRun.nil | apply J.block | apply E.in_normal | apply J.skip | (apply Lq.store; rfl; rfl; exact bsP; exact bsS; rfl; rfl) | (apply PRun.al; rfl) | (apply Lq.al; rfl; rfl; intro b) | (apply Open.cons; intro b) | apply Open.nil | (apply Lq.pass; rfl; rfl; rfl) | (apply PRun.pass; rfl; rfl) | (apply Lq.skip; rfl; rfl; rfl; exact bsB) | (apply PRun.skip; rfl; rfl; exact bsB) | (apply J.drawN; exact mixed; kernel_rfl) | (apply J.cond_t; rfl) | (apply J.cond_f; rfl) | apply J.exit | apply E.then_exit | apply E.in_exit | (apply E.in_other; rfl))
    (refine J.ret ?_; (repeat (first | refine E.then_ret ?_ | refine E.in_ret ?_)))
    exact E.retR1 (G := []) rfl rfl ⟨by rw [he], by rw [if_neg (by rw [he]; decide)]⟩ (List.Perm.refl _)
  rw [nameE_ok h1] at hnf
  by_cases h2 : x ∈ s.holds
  · have he : errHold s.holds x = 142 := by unfold errHold; rw [h1, if_pos rfl, if_pos h2]
    have ha := add_bad s.holds x (by omega) (.inr h2)
    repeat (first | ((first | (apply Lq.s; rfl) | apply PRun.s | (apply Lq.run; rfl; rfl; rfl; exact bsB) | (apply PRun.run; rfl; rfl; exact bsB)); first | (apply op_ocell; rfl; exact bsM; rfl) | (apply op_slen; rfl) | (apply op_call hnf; exact bsD) | (apply op_call ha; exact bsD) | (exact bsO)) | apply J.seq | apply E.next | apply J.lq | apply Lq.nil | apply PRun.nil | apply J.block | apply E.in_normal | apply J.skip | (apply Lq.store; rfl; rfl; exact bsP; exact bsS; rfl; rfl) | (apply PRun.al; rfl) | (apply Lq.al; rfl; rfl; intro b) | (apply Open.cons; intro b) | apply Open.nil | (apply Lq.pass; rfl; rfl; rfl) | (apply PRun.pass; rfl; rfl) | (apply Lq.skip; rfl; rfl; rfl; exact bsB) | (apply PRun.skip; rfl; rfl; exact bsB) | (apply J.drawN; exact mixed; kernel_rfl) | (apply J.cond_t; rfl) | (apply J.cond_f; rfl) | apply J.exit | apply E.then_exit | apply E.in_exit | (apply E.in_other; rfl))
    (refine J.ret ?_; (repeat (first | refine E.then_ret ?_ | refine E.in_ret ?_)))
    exact E.retR1 (G := []) rfl rfl ⟨by rw [he], by rw [if_neg (by rw [he]; decide)]⟩ (List.Perm.refl _)
  have ha := add_ok s.holds x (by omega) hs h2
  have hal := addM_len s.holds x
  by_cases h3 : s.holds.length = 4
  · have he : errHold s.holds x = 3 := by unfold errHold; rw [h1, if_pos rfl, if_neg h2, if_pos h3]
    repeat (first | ((first | (apply Lq.s; rfl) | apply PRun.s | (apply Lq.run; rfl; rfl; rfl; exact bsB) | (apply PRun.run; rfl; rfl; exact bsB)); first | (apply op_ocell; rfl; exact bsM; rfl) | (apply op_slen; rfl) | (apply op_call hnf; exact bsD) | (apply op_call ha; exact bsD) | (apply op_len (xs := addM s.holds x); rfl) | (exact bsO)) | apply J.seq | apply E.next | apply J.lq | apply Lq.nil | apply PRun.nil | apply J.block | apply E.in_normal | apply J.skip | (apply Lq.store; rfl; rfl; exact bsP; exact bsS; rfl; rfl) | (apply PRun.al; rfl) | (apply Lq.al; rfl; rfl; intro b) | (apply Open.cons; intro b) | apply Open.nil | (apply Lq.pass; rfl; rfl; rfl) | (apply PRun.pass; rfl; rfl) | (apply Lq.skip; rfl; rfl; rfl; exact bsB) | (apply PRun.skip; rfl; rfl; exact bsB) | (apply J.drawN; exact mixed; kernel_rfl) | (apply J.cond_t; rfl) | (apply J.cond_f; rfl) | apply J.exit | apply E.then_exit | apply E.in_exit | (apply E.in_other; rfl))
    (refine J.ret ?_; (repeat (first | refine E.then_ret ?_ | refine E.in_ret ?_)))
    exact E.retR1 (G := []) rfl rfl ⟨by rw [he], by rw [if_neg (by rw [he]; decide)]⟩ (List.Perm.refl _)
  · have he : errHold s.holds x = 0 := by unfold errHold; rw [h1, if_pos rfl, if_neg h2, if_neg h3]
    repeat (first | ((first | (apply Lq.s; rfl) | apply PRun.s | (apply Lq.run; rfl; rfl; rfl; exact bsB) | (apply PRun.run; rfl; rfl; exact bsB)); first | (apply op_ocell; rfl; exact bsM; rfl) | (apply op_slen; rfl) | (apply op_call hnf; exact bsD) | (apply op_call ha; exact bsD) | (apply op_len (xs := addM s.holds x); rfl) | (exact bsO)) | apply J.seq | apply E.next | apply J.lq | apply Lq.nil | apply PRun.nil | apply J.block | apply E.in_normal | apply J.skip | (apply Lq.store; rfl; rfl; exact bsP; exact bsS; rfl; rfl) | (apply PRun.al; rfl) | (apply Lq.al; rfl; rfl; intro b) | (apply Open.cons; intro b) | apply Open.nil | (apply Lq.pass; rfl; rfl; rfl) | (apply PRun.pass; rfl; rfl) | (apply Lq.skip; rfl; rfl; rfl; exact bsB) | (apply PRun.skip; rfl; rfl; exact bsB) | (apply J.drawN; exact mixed; kernel_rfl) | (apply J.cond_t; rfl) | (apply J.cond_f; rfl) | apply J.exit | apply E.then_exit | apply E.in_exit | (apply E.in_other; rfl))
    (refine J.ret ?_; (repeat (first | refine E.then_ret ?_ | refine E.in_ret ?_)))
    exact E.retR1 (G := []) rfl rfl ⟨by rw [he], by rw [if_pos he]⟩ (List.Perm.refl _)
end Go.Proofs.Ytbemcehcipkliaa.L
