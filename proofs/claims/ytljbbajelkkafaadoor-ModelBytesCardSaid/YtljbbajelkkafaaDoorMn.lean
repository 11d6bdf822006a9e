/-
  The law ModelBytes.
-/
import Derived.Test.YtljbbajelkkafaaDoorMl
import Derived.Test.YtljbbajelkkafaaDoorMq
namespace Go.Proofs.YtljbbajelkkafaaDoor.L
open Go
set_option linter.unusedSectionVars false
variable [Globs] [Has_sha_table] [Has_sha_begin]
set_option linter.unusedVariables false
def recOf (t : Str) : MRec := ⟨0, t, false, leafH t⟩
def sA (rs : List MRec) : MStr := ⟨[97], 0, [], rs⟩
def mBy (rs : List MRec) (n : Nat) : MM := ⟨true, true, emptyS, ⟨0, [sA rs]⟩, n⟩
def mCy (rs : List MRec) : MM := ⟨true, true, ⟨0, [sA rs]⟩, ⟨0, [sA rs]⟩, 0⟩
theorem find_a (rs : List MRec) : hasN [sA rs] [97] = true ∧ findN [sA rs] [97] = 0 := by
  have h : isN [97] (sA rs) = true := by unfold isN sA; rfl
  refine ⟨by unfold hasN; rw [List.any_cons, h]; rfl, ?_⟩
  unfold findN
  rw [List.findIdx_cons, h]; rfl
theorem findS_a (m : MM) (rs : List MRec) (h : m.cur.streams = [sA rs]) : findS m [97] = sA rs := by
  unfold findS; rw [h, (find_a rs).2]; rfl
theorem of_a (m : MM) (rs : List MRec) (x : StepS) (full : Bool) (hm : m.mnt = true) (h : m.cur.streams = [sA rs]) (hx : x.name = [97]) : ofM m x full = stepOf m 0 (sA rs) x full := by
  have he : errFind m x.name = 0 := by rw [hx]; exact errFind_0 hm (by rw [h]; exact (find_a rs).1)
  rw [ofM_ok he, hx, findS_a m rs h, h, (find_a rs).2]
theorem by_long {rs : List MRec} {n : Nat} {t : Str} (h : 300 < t.length) : doM (mBy rs n) (sp26 5 0 t) false = (mBy rs n, 0, 3) := by
  have e : doM (mBy rs n) (sp26 5 0 t) false = ofM (mBy rs n) (sp26 5 0 t) false := by unfold doM; rw [if_neg (by show ¬ ((5 : Int) = 1 ∨ (5 : Int) = 2 ∨ (5 : Int) = 3); decide), if_neg (by show ¬ (5 : Int) = 4; decide), if_neg (by show ¬ (5 : Int) = 6; decide), if_neg (by show ¬ (5 : Int) = 11; decide), if_pos (by show (5 : Int) = 5 ∨ (5 : Int) = 7 ∨ (5 : Int) = 8 ∨ (5 : Int) = 9 ∨ (5 : Int) = 10; decide)]
  rw [e, of_a (mBy rs n) rs (sp26 5 0 t) false rfl rfl rfl]
  exact stepOf_err (by unfold errS; rw [if_pos (show (sp26 5 0 t).kind = 5 from rfl), if_pos (.inl h)]) (by decide)
theorem by_app {rs : List MRec} {n : Nat} {t : Str} (h : t.length ≤ 300) (hr : rs.length < 64) (hn : n < 200) : doM (mBy rs n) (sp26 5 0 t) false = (mBy (rs ++ [recOf t]) (n + 1), (rs.length : Int), 0) := by
  have e : doM (mBy rs n) (sp26 5 0 t) false = ofM (mBy rs n) (sp26 5 0 t) false := by unfold doM; rw [if_neg (by show ¬ ((5 : Int) = 1 ∨ (5 : Int) = 2 ∨ (5 : Int) = 3); decide), if_neg (by show ¬ (5 : Int) = 4; decide), if_neg (by show ¬ (5 : Int) = 6; decide), if_neg (by show ¬ (5 : Int) = 11; decide), if_pos (by show (5 : Int) = 5 ∨ (5 : Int) = 7 ∨ (5 : Int) = 8 ∨ (5 : Int) = 9 ∨ (5 : Int) = 10; decide)]
  rw [e, of_a (mBy rs n) rs (sp26 5 0 t) false rfl rfl rfl, stepOf_ok (by
    unfold errS; rw [if_pos (show (sp26 5 0 t).kind = 5 from rfl), if_neg]
    rintro (h1 | h1)
    · exact absurd h1 (by show ¬ 300 < t.length; omega)
    · exact absurd h1 (by show ¬ rs.length = 64; omega)) (by
    unfold errDone; rw [if_neg (by show ¬ 200 ≤ n; omega)]; rfl) (by show ¬ (5 : Int) = 10; decide)]
  rfl
theorem by_shred {rs : List MRec} {n k : Nat} {t : Str} (hr : rs[k]? = some (recOf t)) (hn : n < 200) : doM (mBy rs n) (sp26 10 k []) false = (mCy (shredR rs k), 0, 0) := by
  have e : doM (mBy rs n) (sp26 10 k []) false = ofM (mBy rs n) (sp26 10 k []) false := by unfold doM; rw [if_neg (by show ¬ ((10 : Int) = 1 ∨ (10 : Int) = 2 ∨ (10 : Int) = 3); decide), if_neg (by show ¬ (10 : Int) = 4; decide), if_neg (by show ¬ (10 : Int) = 6; decide), if_neg (by show ¬ (10 : Int) = 11; decide), if_pos (by show (10 : Int) = 5 ∨ (10 : Int) = 7 ∨ (10 : Int) = 8 ∨ (10 : Int) = 9 ∨ (10 : Int) = 10; decide)]
  have hl := (List.getElem?_eq_some_iff.1 hr).1
  have h0 : errS (sA rs) (mBy rs n).cur.clock (sp26 10 k []) = 0 := by
    show errShredM (sA rs) 0 (k : Int) = 0
    unfold errShredM
    rw [if_neg (by show ¬ ((k : Int) < 0 ∨ (rs.length : Int) ≤ k); omega), Int.toNat_natCast, show (sA rs).recs = rs from rfl, hr]
    rfl
  rw [e, of_a (mBy rs n) rs (sp26 10 k []) false rfl rfl rfl]
  unfold stepOf
  rw [if_pos h0, if_pos (by unfold errDone; rw [if_neg (by show ¬ 200 ≤ n; omega)]; rfl), if_pos (by show (10 : Int) = 10; rfl), if_neg (by show ¬ (10 : Int) = 5; decide)]
  have hrs : resS (sA rs) (mBy rs n).cur.clock (sp26 10 k []) = sA (shredR rs k) := by
    show (⟨[97], 0, [], shredR rs (k : Int).toNat⟩ : MStr) = _
    rw [Int.toNat_natCast]; rfl
  rw [hrs]
  rfl
theorem ok_by {ks : List Str} {n : Nat} (hl : ks.length ≤ 20) (ht : ∀ t ∈ ks, t.length ≤ 300) (hn : n ≤ 200) : MOk (mBy (ks.map recOf) n) :=
  ⟨⟨Nat.zero_le _, fun s h => by cases h⟩, ⟨by show 1 ≤ 8; omega, fun s hs => by
    have hs : s ∈ [sA (ks.map recOf)] := hs
    rw [List.mem_singleton] at hs
    subst hs
    refine ⟨by show (ks.map recOf).length ≤ 64; rw [List.length_map]; omega, Nat.zero_le _, rfl, fun r hr => ?_⟩
    obtain ⟨t, h1, rfl⟩ := List.mem_map.1 hr
    exact ht t h1⟩, hn⟩
theorem cy_read {rs : List MRec} {k : Nat} {r : MRec} (h : rs[k]? = some r) : readM (mCy rs) [97] (k : Int) = if r.shred then ([], 162) else (r.text, 0) := by
  have hl := (List.getElem?_eq_some_iff.1 h).1
  have he : errFind (mCy rs) [97] = 0 := errFind_0 rfl (find_a rs).1
  have hf := findS_a (mCy rs) rs rfl
  have h2 : (findS (mCy rs) [97]).recs[k]? = some r := by rw [hf]; exact h
  have h1 : errRead (findS (mCy rs) [97]) (k : Int) = if r.shred then 162 else 0 := errRead_in h2
  cases hs : r.shred with
  | true =>
    rw [hs] at h1
    rw [readM_err he (by rw [h1]; decide), h1]; rfl
  | false =>
    rw [hs] at h1
    rw [readM_ok he h1, textAt_in h2]; rfl
theorem cy_hashes {ks : List Str} {k : Nat} : hashesM (mCy (shredR (ks.map recOf) k)) [97] = (ks.map leafH, 0) := by
  rw [hashesM_ok (errFind_0 rfl (find_a _).1), findS_a _ (shredR (ks.map recOf) k) rfl]
  congr 1
  show (shredR (ks.map recOf) k).map MRec.hash = _
  unfold shredR
  split
  · rename_i r hr
    rw [List.map_set, set_same (by rw [List.getElem?_map, hr]; rfl), List.map_map]
    rfl
  · rw [List.map_map]; rfl
theorem cy_at {ks : List Str} {k i : Nat} {t : Str} (h : ks[i]? = some t) : (shredR (ks.map recOf) k)[i]? = some (if k = i then { recOf t with shred := true, text := [] } else recOf t) :=
  shredR_at (by rw [List.getElem?_map, h]; rfl)
/-! The walk. -/
theorem J.midM {α : Type} {C : Cx} {Γ : Env} {Δ : List Res} {Q : Exit → Act → World → Prop} {c : Code} {id : Nat} {K : Act → World → Prop} (V : α → Prop) (I : α → Env) (R : α → List Res) (h1 : J C Γ Δ c (Exit.inBlock id (Exit.then (Mid C V I R) Q))) (h2 : ∀ x, V x → E C .normal (I x) (R x) (Exit.then K Q)) : J C Γ Δ c (Exit.inBlock id (Exit.then K Q)) := fun H a w S =>
  wpIn_mono (h1 H a w S) fun e a' w' h => by
    cases e with
    | normal =>
      obtain ⟨x, H', hV, S'⟩ := h
      exact h2 x hV H' a' w' S'
    | exit id' =>
      have h : (if id' = id then Exit.then (Mid C V I R) Q .normal a' w' else Exit.then (Mid C V I R) Q (.exit id') a' w') := h
      show (if id' = id then Exit.then K Q .normal a' w' else Exit.then K Q (.exit id') a' w')
      by_cases he : id' = id
      · rw [if_pos he] at h ⊢
        obtain ⟨x, H', hV, S'⟩ := h
        exact h2 x hV H' a' w' S'
      · rw [if_neg he] at h ⊢
        exact h
    | _ => exact h
set_option linter.unusedVariables false
set_option linter.unusedSimpArgs false
attribute [local irreducible] J Lq E OpP PRun is any agg tup ptr sl PRunW OpE PRunV OpV star
attribute [local irreducible] slt row leafH shaH recsR OpR stL mdl mdV mdC mBy mCy sA recOf
set_option maxRecDepth 100000 in
set_option maxHeartbeats 16000000 in
theorem modelBytes (texts : List Str) (which : UInt8) (_h : texts.length ≤ maxLen ∧ ∀ x ∈ texts, x.length ≤ maxLen) (_h2 : True) : Fn Tryd.prog 3 [sl strT.toTy texts, is (.int .u8 (which.toNat : Int))] (is (.bool true)) := by
  refine Fn.mk' 151 Tryd.func3 rfl rfl rfl rfl fun w0 H0 => ?_
  have hlen := _h.1
  have hlx := _h.2
  unfold maxLen at hlen hlx
  have hu8 : which.toNat < 256 := which.toNat_lt
  by_cases hbig : 20 < texts.length
  · repeat (first | ((first | (apply Lq.s; rfl) | apply PRun.s | (apply Lq.run; rfl; rfl; rfl; exact bsB) | (apply PRun.run; rfl; rfl; exact bsB)); first | (apply op_call lives26_fn; exact bsD) | (exact bsO)) | apply J.seq | apply E.next | apply J.lq | apply Lq.nil | apply PRun.nil | apply J.block | apply E.in_normal | apply J.skip | (apply Lq.store; rfl; rfl; exact bsP; exact bsS; rfl; rfl) | (apply PRun.al; rfl) | (apply Lq.al; rfl; rfl; intro b) | (apply Open.cons; intro b) | apply Open.nil | (apply Lq.pass; rfl; rfl; rfl) | (apply PRun.pass; rfl; rfl) | (apply Lq.skip; rfl; rfl; rfl; exact bsB) | (apply PRun.skip; rfl; rfl; exact bsB) | (apply J.drawN; exact mixed; kernel_rfl) | (apply J.cond_t; rfl) | (apply J.cond_f; rfl) | apply J.exit | apply E.then_exit | apply E.in_exit | (apply E.in_other; rfl))
    (refine J.ret ?_; (repeat (first | refine E.then_ret ?_ | refine E.in_ret ?_)))
    exact E.ret1 rfl rfl
  repeat (first | ((first | (apply Lq.s; rfl) | apply PRun.s | (apply Lq.run; rfl; rfl; rfl; exact bsB) | (apply PRun.run; rfl; rfl; exact bsB)); first | (exact bsO)) | apply J.seq | apply E.next | apply J.lq | apply Lq.nil | apply PRun.nil | apply J.block | apply E.in_normal | apply J.skip | (apply Lq.store; rfl; rfl; exact bsP; exact bsS; rfl; rfl) | (apply PRun.al; rfl) | (apply Lq.al; rfl; rfl; intro b) | (apply Open.cons; intro b) | apply Open.nil | (apply Lq.pass; rfl; rfl; rfl) | (apply PRun.pass; rfl; rfl) | (apply Lq.skip; rfl; rfl; rfl; exact bsB) | (apply PRun.skip; rfl; rfl; exact bsB) | (apply J.cond_t; rfl) | (apply J.cond_f; rfl) | apply J.exit | apply E.then_exit | apply E.in_exit | (apply E.in_other; rfl))
  refine Lq.callS (Δ0 := []) (Δf := []) mnew_fnR rfl bsD (List.Perm.refl _) ?_
  rintro _ D ⟨B, rfl, hV⟩
  rw [List.append_nil]
  repeat (first | ((first | (apply Lq.s; rfl) | apply PRun.s | (apply Lq.run; rfl; rfl; rfl; exact bsB) | (apply PRun.run; rfl; rfl; exact bsB)); first | (apply op_peq; rfl; rfl) | (apply op_call (step_fn 1 0 []); exact bsD) | (exact bsO)) | apply J.seq | apply E.next | apply J.lq | apply Lq.nil | apply PRun.nil | apply J.block | apply E.in_normal | apply J.skip | (apply Lq.store; rfl; rfl; exact bsP; exact bsS; rfl; rfl) | (apply PRun.al; rfl) | (apply Lq.al; rfl; rfl; intro b) | (apply Open.cons; intro b) | apply Open.nil | (apply Lq.pass; rfl; rfl; rfl) | (apply PRun.pass; rfl; rfl) | (apply Lq.skip; rfl; rfl; rfl; exact bsB) | (apply PRun.skip; rfl; rfl; exact bsB) | (apply J.cond_t; rfl) | (apply J.cond_f; rfl) | apply J.exit | apply E.then_exit | apply E.in_exit | (apply E.in_other; rfl))
  refine Lq.callS (Δ0 := D) (Δf := []) (does_t new_ok st1 D hV) rfl bsD (by rw [List.append_nil]) ?_
  rintro _ D ⟨rfl, hV⟩
  rw [List.append_nil]
  repeat (first | ((first | (apply Lq.s; rfl) | apply PRun.s | (apply Lq.run; rfl; rfl; rfl; exact bsB) | (apply PRun.run; rfl; rfl; exact bsB)); first | (apply op_peq; rfl; rfl) | (apply op_call (step_fn 2 0 []); exact bsD) | (exact bsO)) | apply J.seq | apply E.next | apply J.lq | apply Lq.nil | apply PRun.nil | apply J.block | apply E.in_normal | apply J.skip | (apply Lq.store; rfl; rfl; exact bsP; exact bsS; rfl; rfl) | (apply PRun.al; rfl) | (apply Lq.al; rfl; rfl; intro b) | (apply Open.cons; intro b) | apply Open.nil | (apply Lq.pass; rfl; rfl; rfl) | (apply PRun.pass; rfl; rfl) | (apply Lq.skip; rfl; rfl; rfl; exact bsB) | (apply PRun.skip; rfl; rfl; exact bsB) | (apply J.cond_t; rfl) | (apply J.cond_f; rfl) | apply J.exit | apply E.then_exit | apply E.in_exit | (apply E.in_other; rfl))
  refine Lq.wanted rfl rfl rfl ?_
  refine Lq.callS (Δ0 := D) (Δf := []) (does_t ok_v1 st3 D hV) rfl bsD (by rw [List.append_nil]) ?_
  rintro _ D ⟨rfl, hV⟩
  rw [List.append_nil]
  repeat (first | ((first | (apply Lq.s; rfl) | apply PRun.s | (apply Lq.run; rfl; rfl; rfl; exact bsB) | (apply PRun.run; rfl; rfl; exact bsB)); first | (apply op_peq; rfl; rfl) | (apply op_call (step_fn 4 0 []); exact bsD) | (exact bsO)) | apply J.seq | apply E.next | apply J.lq | apply Lq.nil | apply PRun.nil | apply J.block | apply E.in_normal | apply J.skip | (apply Lq.store; rfl; rfl; exact bsP; exact bsS; rfl; rfl) | (apply PRun.al; rfl) | (apply Lq.al; rfl; rfl; intro b) | (apply Open.cons; intro b) | apply Open.nil | (apply Lq.pass; rfl; rfl; rfl) | (apply PRun.pass; rfl; rfl) | (apply Lq.skip; rfl; rfl; rfl; exact bsB) | (apply PRun.skip; rfl; rfl; exact bsB) | (apply J.cond_t; rfl) | (apply J.cond_f; rfl) | apply J.exit | apply E.then_exit | apply E.in_exit | (apply E.in_other; rfl))
  refine Lq.wanted rfl rfl rfl ?_
  refine Lq.callS (Δ0 := D) (Δf := []) (does_t ok_v2 st4 D hV) rfl bsD (by rw [List.append_nil]) ?_
  rintro _ D ⟨rfl, hV⟩
  rw [List.append_nil]
  have hV : mdV B (mBy ([].map recOf) 1) D := by unfold mBy sA; exact hV
  repeat (first | ((first | (apply Lq.s; rfl) | apply PRun.s | (apply Lq.run; rfl; rfl; rfl; exact bsB) | (apply PRun.run; rfl; rfl; exact bsB)); first | (exact bsO)) | apply J.seq | apply E.next | apply J.lq | apply Lq.nil | apply PRun.nil | apply J.block | apply E.in_normal | apply J.skip | (apply Lq.store; rfl; rfl; exact bsP; exact bsS; rfl; rfl) | (apply PRun.al; rfl) | (apply Lq.al; rfl; rfl; intro b) | (apply Open.cons; intro b) | apply Open.nil | (apply Lq.pass; rfl; rfl; rfl) | (apply PRun.pass; rfl; rfl) | (apply Lq.skip; rfl; rfl; rfl; exact bsB) | (apply PRun.skip; rfl; rfl; exact bsB) | (apply J.cond_t; rfl) | (apply J.cond_f; rfl) | apply J.exit | apply E.then_exit | apply E.in_exit | (apply E.in_other; rfl))
  refine J.nilrow 9 strT.toTy ?_
  refine J.midM (fun p : List Str × Option Addr × Nat × List Res => p.1.length ≤ 20 ∧ (∀ t ∈ p.1, t.length ≤ 300) ∧ mdV B (mBy (p.1.map recOf) (1 + p.1.length)) p.2.2.2) (fun p => [(1, is (.int .u8 (which.toNat : Int))), (5, is (.pointer (some ⟨B, 0, none⟩))), (6, is (.int .i64 (p.1.length : Int))), (7, is (.slice p.2.1 p.1.length p.2.2.1))]) (fun p => row (.slice p.2.1 p.1.length p.2.2.1) 9 strT.toTy p.1 :: p.2.2.2) ?_ ?_
  · refine J.loop (fun p : Nat × List Str × Option Addr × Nat × List Res => p.1 ≤ texts.length ∧ p.2.1.length ≤ p.1 ∧ (∀ t ∈ p.2.1, t.length ≤ 300) ∧ mdV B (mBy (p.2.1.map recOf) (1 + p.2.1.length)) p.2.2.2.2) (fun p => [(0, sl strT.toTy texts), (1, is (.int .u8 (which.toNat : Int))), (5, is (.pointer (some ⟨B, 0, none⟩))), (6, is (.int .i64 (p.2.1.length : Int))), (7, is (.slice p.2.2.1 p.2.1.length p.2.2.2.1)), (8, is (.int .i64 (p.1 : Int)))]) (fun p => row (.slice p.2.2.1 p.2.1.length p.2.2.2.1) 9 strT.toTy p.2.1 :: p.2.2.2.2) (fun p => texts.length - p.1) (0, [], none, 0, D) ⟨Nat.zero_le _, Nat.zero_le _, (fun t h => by cases h), hV⟩ (Sub.same (by repeat' (first | exact trivial | refine ⟨rfl, ?_⟩))) ?_
    clear hV
    rintro ⟨i, ks, A, c, D⟩ ⟨hi, hki, hks, hV⟩
    dsimp only at hi hki hks hV ⊢
    by_cases hlt : i < texts.length
    · obtain ⟨t, ht⟩ : ∃ x, texts[i]? = some x := ⟨_, List.getElem?_eq_getElem hlt⟩
      have htl := hlx t (List.mem_of_getElem? ht)
      have hok := ok_by (ks := ks) (n := 1 + ks.length) (by omega) hks (by omega)
      have hkl : (ks.map recOf).length = ks.length := List.length_map ..
      by_cases hlong : 300 < t.length
      · repeat (first | ((first | (apply Lq.s; rfl) | apply PRun.s | (apply Lq.run; rfl; rfl; rfl; exact bsB) | (apply PRun.run; rfl; rfl; exact bsB)); first | (apply op_iaddr strT.toTy (x := t); rfl; rfl; exact Int.natCast_nonneg _; (rw [Int.toNat_natCast]; exact ht)) | (apply op_load strT; rfl) | (apply op_call (step_fn 5 0 t); exact bsD) | (exact bsO)) | apply J.seq | apply E.next | apply J.lq | apply Lq.nil | apply PRun.nil | apply J.block | apply E.in_normal | apply J.skip | (apply Lq.store; rfl; rfl; exact bsP; exact bsS; rfl; rfl) | (apply PRun.al; rfl) | (apply Lq.al; rfl; rfl; intro b) | (apply Open.cons; intro b) | apply Open.nil | (apply Lq.pass; rfl; rfl; rfl) | (apply PRun.pass; rfl; rfl) | (apply Lq.skip; rfl; rfl; rfl; exact bsB) | (apply PRun.skip; rfl; rfl; exact bsB) | (apply J.cond_t; rfl) | (apply J.cond_f; rfl) | apply J.exit | apply E.then_exit | apply E.in_exit | (apply E.in_other; rfl))
        refine Lq.callS (Δ0 := D) (Δf := [_]) (does_t hok (by_long hlong) D hV) rfl bsD (List.perm_append_comm (l₁ := [_])) ?_
        rintro _ D ⟨rfl, hV⟩
        refine Lq.perm (List.perm_append_comm (l₂ := [_])) ?_
        repeat (first | ((first | (apply Lq.s; rfl) | apply PRun.s | (apply Lq.run; rfl; rfl; rfl; exact bsB) | (apply PRun.run; rfl; rfl; exact bsB)); first | (apply op_iaddr strT.toTy (x := t); rfl; rfl; exact Int.natCast_nonneg _; (rw [Int.toNat_natCast]; exact ht)) | (apply op_load strT; rfl) | (exact bsO)) | apply J.seq | apply E.next | apply J.lq | apply Lq.nil | apply PRun.nil | apply J.block | apply E.in_normal | apply J.skip | (apply Lq.store; rfl; rfl; exact bsP; exact bsS; rfl; rfl) | (apply PRun.al; rfl) | (apply Lq.al; rfl; rfl; intro b) | (apply Open.cons; intro b) | apply Open.nil | (apply Lq.pass; rfl; rfl; rfl) | (apply PRun.pass; rfl; rfl) | (apply Lq.skip; rfl; rfl; rfl; exact bsB) | (apply PRun.skip; rfl; rfl; exact bsB) | (apply J.cond_t; rfl) | (apply J.cond_f; rfl) | apply J.exit | apply E.then_exit | apply E.in_exit | (apply E.in_other; rfl))
        exact E.again (i + 1, ks, A, c, D) (by dsimp only; omega) ⟨by dsimp only; omega, by dsimp only; omega, hks, hV⟩ (Sub.same (by repeat' (first | exact trivial | refine ⟨rfl, ?_⟩)))
      · have hby := by_app (rs := ks.map recOf) (n := 1 + ks.length) (t := t) (by omega) (by omega) (by omega)
        rw [hkl, show ks.map recOf ++ [recOf t] = (ks ++ [t]).map recOf by rw [List.map_append]; rfl, show 1 + ks.length + 1 = 1 + (ks ++ [t]).length by rw [List.length_append]; rfl] at hby
        repeat (first | ((first | (apply Lq.s; rfl) | apply PRun.s | (apply Lq.run; rfl; rfl; rfl; exact bsB) | (apply PRun.run; rfl; rfl; exact bsB)); first | (apply op_iaddr strT.toTy (x := t); rfl; rfl; exact Int.natCast_nonneg _; (rw [Int.toNat_natCast]; exact ht)) | (apply op_load strT; rfl) | (apply op_call (step_fn 5 0 t); exact bsD) | (exact bsO)) | apply J.seq | apply E.next | apply J.lq | apply Lq.nil | apply PRun.nil | apply J.block | apply E.in_normal | apply J.skip | (apply Lq.store; rfl; rfl; exact bsP; exact bsS; rfl; rfl) | (apply PRun.al; rfl) | (apply Lq.al; rfl; rfl; intro b) | (apply Open.cons; intro b) | apply Open.nil | (apply Lq.pass; rfl; rfl; rfl) | (apply PRun.pass; rfl; rfl) | (apply Lq.skip; rfl; rfl; rfl; exact bsB) | (apply PRun.skip; rfl; rfl; exact bsB) | (apply J.cond_t; rfl) | (apply J.cond_f; rfl) | apply J.exit | apply E.then_exit | apply E.in_exit | (apply E.in_other; rfl))
        refine Lq.callS (Δ0 := D) (Δf := [_]) (does_t hok hby D hV) rfl bsD (List.perm_append_comm (l₁ := [_])) ?_
        rintro _ D ⟨rfl, hV⟩
        refine Lq.perm (List.perm_append_comm (l₂ := [_])) ?_
        repeat (first | ((first | (apply Lq.s; rfl) | apply PRun.s | (apply Lq.run; rfl; rfl; rfl; exact bsB) | (apply PRun.run; rfl; rfl; exact bsB)); first | (apply op_iaddr strT.toTy (x := t); rfl; rfl; exact Int.natCast_nonneg _; (rw [Int.toNat_natCast]; exact ht)) | (apply op_load strT; rfl) | (apply op_bslice strT (xs := [t]); (repeat (first | exact PO.nil _ | (apply PO.cons; rfl))); rfl; rfl; rfl) | (exact bsO)) | apply J.seq | apply E.next | apply J.lq | apply Lq.nil | apply PRun.nil | apply J.block | apply E.in_normal | apply J.skip | (apply Lq.store; rfl; rfl; exact bsP; exact bsS; rfl; rfl) | (apply PRun.al; rfl) | (apply Lq.al; rfl; rfl; intro b) | (apply Open.cons; intro b) | apply Open.nil | (apply Lq.pass; rfl; rfl; rfl) | (apply PRun.pass; rfl; rfl) | (apply Lq.skip; rfl; rfl; rfl; exact bsB) | (apply PRun.skip; rfl; rfl; exact bsB) | (apply J.cond_t; rfl) | (apply J.cond_f; rfl) | apply J.exit | apply E.then_exit | apply E.in_exit | (apply E.in_other; rfl))
        (apply Lq.append (T := strT) (xs := ks) (ys := [t]); rfl; exact List.Perm.refl _; (apply From.sl; rfl); rfl; rfl; rfl; (show _ + 1 ≤ maxLen; unfold maxLen; omega); (show (_ + 1) * 16 ≤ _; omega))
        intro A2 c2
        have hl2 : (ks ++ [t]).length = ks.length + 1 := List.length_append
        repeat (first | ((first | (apply Lq.s; rfl) | apply PRun.s | (apply Lq.run; rfl; rfl; rfl; exact bsB) | (apply PRun.run; rfl; rfl; exact bsB)); first | (apply op_iaddr strT.toTy (x := t); rfl; rfl; exact Int.natCast_nonneg _; (rw [Int.toNat_natCast]; exact ht)) | (apply op_load strT; rfl) | (exact bsO)) | apply J.seq | apply E.next | apply J.lq | apply Lq.nil | apply PRun.nil | apply J.block | apply E.in_normal | apply J.skip | (apply Lq.store; rfl; rfl; exact bsP; exact bsS; rfl; rfl) | (apply PRun.al; rfl) | (apply Lq.al; rfl; rfl; intro b) | (apply Open.cons; intro b) | apply Open.nil | (apply Lq.pass; rfl; rfl; rfl) | (apply PRun.pass; rfl; rfl) | (apply Lq.skip; rfl; rfl; rfl; exact bsB) | (apply PRun.skip; rfl; rfl; exact bsB) | (apply J.cond_t; rfl) | (apply J.cond_f; rfl) | apply J.exit | apply E.then_exit | apply E.in_exit | (apply E.in_other; rfl))
        refine E.again (i + 1, ks ++ [t], A2, c2, D) (by dsimp only; omega) ⟨by dsimp only; omega, by dsimp only; rw [hl2]; omega, (fun x hx => by
          rcases List.mem_append.1 hx with h | h
          · exact hks x h
          · rw [List.mem_singleton.1 h]; omega), hV⟩ ?_
        dsimp only
        rw [hl2]
        exact (Sub.same (by repeat' (first | exact trivial | refine ⟨rfl, ?_⟩)))
    · obtain rfl : i = texts.length := by omega
      repeat (first | ((first | (apply Lq.s; rfl) | apply PRun.s | (apply Lq.run; rfl; rfl; rfl; exact bsB) | (apply PRun.run; rfl; rfl; exact bsB)); first | (exact bsO)) | apply J.seq | apply E.next | apply J.lq | apply Lq.nil | apply PRun.nil | apply J.block | apply E.in_normal | apply J.skip | (apply Lq.store; rfl; rfl; exact bsP; exact bsS; rfl; rfl) | (apply PRun.al; rfl) | (apply Lq.al; rfl; rfl; intro b) | (apply Open.cons; intro b) | apply Open.nil | (apply Lq.pass; rfl; rfl; rfl) | (apply PRun.pass; rfl; rfl) | (apply Lq.skip; rfl; rfl; rfl; exact bsB) | (apply PRun.skip; rfl; rfl; exact bsB) | (apply J.cond_t; rfl) | (apply J.cond_f; rfl) | apply J.exit | apply E.then_exit | apply E.in_exit | (apply E.in_other; rfl))
      exact E.mid (ks, A, c, D) ⟨by dsimp only; omega, hks, hV⟩ (Sub.same (by repeat' (first | exact trivial | refine ⟨rfl, ?_⟩)))
  rintro ⟨ks, A, c, D'⟩ ⟨hki, hks, hV⟩
  dsimp only at hki hks hV ⊢
  have hok := ok_by (ks := ks) (n := 1 + ks.length) (by omega) hks (by omega)
  by_cases h0 : ks.length = 0
  · rw [h0]
    repeat (first | ((first | (apply Lq.s; rfl) | apply PRun.s | (apply Lq.run; rfl; rfl; rfl; exact bsB) | (apply PRun.run; rfl; rfl; exact bsB)); first | (apply op_call lives26_fn; exact bsD) | (exact bsO)) | apply J.seq | apply E.next | apply J.lq | apply Lq.nil | apply PRun.nil | apply J.block | apply E.in_normal | apply J.skip | (apply Lq.store; rfl; rfl; exact bsP; exact bsS; rfl; rfl) | (apply PRun.al; rfl) | (apply Lq.al; rfl; rfl; intro b) | (apply Open.cons; intro b) | apply Open.nil | (apply Lq.pass; rfl; rfl; rfl) | (apply PRun.pass; rfl; rfl) | (apply Lq.skip; rfl; rfl; rfl; exact bsB) | (apply PRun.skip; rfl; rfl; exact bsB) | (apply J.drawN; exact mixed; kernel_rfl) | (apply J.cond_t; rfl) | (apply J.cond_f; rfl) | apply J.exit | apply E.then_exit | apply E.in_exit | (apply E.in_other; rfl))
    (refine J.ret ?_; (repeat (first | refine E.then_ret ?_ | refine E.in_ret ?_)))
    exact E.ret1 rfl rfl
  obtain ⟨k, hk⟩ : ∃ k, k = which.toNat % ks.length := ⟨_, rfl⟩
  have hkl : k < ks.length := by rw [hk]; exact Nat.mod_lt _ (by omega)
  obtain ⟨tk, htk⟩ : ∃ t, ks[k]? = some t := ⟨_, List.getElem?_eq_getElem hkl⟩
  have hsh := by_shred (rs := ks.map recOf) (n := 1 + ks.length) (k := k) (t := tk) (by rw [List.getElem?_map, htk]; rfl) (by omega)
  have hok2 : MOk (mCy (shredR (ks.map recOf) k)) := by
    have := do_ok hok (sp26 10 k []) false
    rwa [hsh] at this
  repeat (first | ((first | (apply Lq.s; rfl) | apply PRun.s | (apply Lq.run; rfl; rfl; rfl; exact bsB) | (apply PRun.run; rfl; rfl; exact bsB)); first | (apply op_conv (c := (which.toNat : Int)); rfl; (apply wrapi <;> omega)) | (apply op_remn (m := which.toNat) (n := ks.length); rfl; rfl; omega) | (exact bsO)) | apply J.seq | apply E.next | apply J.lq | apply Lq.nil | apply PRun.nil | apply J.block | apply E.in_normal | apply J.skip | (apply Lq.store; rfl; rfl; exact bsP; exact bsS; rfl; rfl) | (apply PRun.al; rfl) | (apply Lq.al; rfl; rfl; intro b) | (apply Open.cons; intro b) | apply Open.nil | (apply Lq.pass; rfl; rfl; rfl) | (apply PRun.pass; rfl; rfl) | (apply Lq.skip; rfl; rfl; rfl; exact bsB) | (apply PRun.skip; rfl; rfl; exact bsB) | (apply J.cond_t; rfl) | (apply J.cond_f; rfl) | apply J.exit | apply E.then_exit | apply E.in_exit | (apply E.in_other; rfl))
  rw [← hk]
  repeat (first | ((first | (apply Lq.s; rfl) | apply PRun.s | (apply Lq.run; rfl; rfl; rfl; exact bsB) | (apply PRun.run; rfl; rfl; exact bsB)); first | (apply op_call (step_fn 10 k []); exact bsD) | (exact bsO)) | apply J.seq | apply E.next | apply J.lq | apply Lq.nil | apply PRun.nil | apply J.block | apply E.in_normal | apply J.skip | (apply Lq.store; rfl; rfl; exact bsP; exact bsS; rfl; rfl) | (apply PRun.al; rfl) | (apply Lq.al; rfl; rfl; intro b) | (apply Open.cons; intro b) | apply Open.nil | (apply Lq.pass; rfl; rfl; rfl) | (apply PRun.pass; rfl; rfl) | (apply Lq.skip; rfl; rfl; rfl; exact bsB) | (apply PRun.skip; rfl; rfl; exact bsB) | (apply J.cond_t; rfl) | (apply J.cond_f; rfl) | apply J.exit | apply E.then_exit | apply E.in_exit | (apply E.in_other; rfl))
  refine Lq.callS (Δ0 := D') (Δf := [_]) (does_t hok hsh D' hV) rfl bsD (List.perm_append_comm (l₁ := [_])) ?_
  rintro _ D2 ⟨rfl, hV⟩
  refine Lq.perm (List.perm_append_comm (l₂ := [_])) ?_
  refine Lq.freeze 7 rfl (List.Perm.refl _) ?_
  repeat (first | ((first | (apply Lq.s; rfl) | apply PRun.s | (apply Lq.run; rfl; rfl; rfl; exact bsB) | (apply PRun.run; rfl; rfl; exact bsB)); first | (exact bsO)) | apply J.seq | apply E.next | apply J.lq | apply Lq.nil | apply PRun.nil | apply J.block | apply E.in_normal | apply J.skip | (apply Lq.store; rfl; rfl; exact bsP; exact bsS; rfl; rfl) | (apply PRun.al; rfl) | (apply Lq.al; rfl; rfl; intro b) | (apply Open.cons; intro b) | apply Open.nil | (apply Lq.pass; rfl; rfl; rfl) | (apply PRun.pass; rfl; rfl) | (apply Lq.skip; rfl; rfl; rfl; exact bsB) | (apply PRun.skip; rfl; rfl; exact bsB) | (apply J.cond_t; rfl) | (apply J.cond_f; rfl) | apply J.exit | apply E.then_exit | apply E.in_exit | (apply E.in_other; rfl))
  refine Lq.callS (Δ0 := D2) (Δf := []) (mhashesV [97] hok2 D2 hV) rfl bsD (by rw [List.append_nil]; exact List.Perm.refl _) ?_
  rintro _ D3 ⟨rfl, hV⟩
  rw [List.append_nil, cy_hashes]
  dsimp only
  obtain ⟨hs, hhs⟩ : ∃ hs, hs = ks.map leafH := ⟨_, rfl⟩
  have hhl : hs.length = ks.length := by rw [hhs, List.length_map]
  rw [← hhs]
  repeat (first | ((first | (apply Lq.s; rfl) | apply PRun.s | (apply Lq.run; rfl; rfl; rfl; exact bsB) | (apply PRun.run; rfl; rfl; exact bsB)); first | (apply op_len (xs := hs); rfl) | (exact bsO)) | apply J.seq | apply E.next | apply J.lq | apply Lq.nil | apply PRun.nil | apply J.block | apply E.in_normal | apply J.skip | (apply Lq.store; rfl; rfl; exact bsP; exact bsS; rfl; rfl) | (apply PRun.al; rfl) | (apply Lq.al; rfl; rfl; intro b) | (apply Open.cons; intro b) | apply Open.nil | (apply Lq.pass; rfl; rfl; rfl) | (apply PRun.pass; rfl; rfl) | (apply Lq.skip; rfl; rfl; rfl; exact bsB) | (apply PRun.skip; rfl; rfl; exact bsB) | (apply J.cond_t; rfl) | (apply J.cond_f; rfl) | apply J.exit | apply E.then_exit | apply E.in_exit | (apply E.in_other; rfl))
  refine J.loop (fun p : Nat × List Res => p.1 ≤ ks.length ∧ mdV B (mCy (shredR (ks.map recOf) k)) p.2) (fun p => [(5, is (.pointer (some ⟨B, 0, none⟩))), (6, is (.int .i64 (ks.length : Int))), (7, sl strT.toTy ks), (9, is (.int .i64 (k : Int))), (10, sl hashT.toTy hs), (12, is (.int .i64 (p.1 : Int)))]) (fun p => p.2) (fun p => ks.length - p.1) (0, D3) ⟨Nat.zero_le _, hV⟩ (Sub.same (by repeat' (first | exact trivial | refine ⟨rfl, ?_⟩))) ?_
  rintro ⟨i, D4⟩ ⟨hi, hV⟩
  dsimp only at hi hV ⊢
  by_cases hlt : i < ks.length
  · obtain ⟨t, ht⟩ : ∃ x, ks[i]? = some x := ⟨_, List.getElem?_eq_getElem hlt⟩
    have htl := hks t (List.mem_of_getElem? ht)
    have hh : hs[i]? = some (leafH t) := by rw [hhs, List.getElem?_map, ht]; rfl
    have hrd := cy_read (cy_at (k := k) ht)
    repeat (first | ((first | (apply Lq.s; rfl) | apply PRun.s | (apply Lq.run; rfl; rfl; rfl; exact bsB) | (apply PRun.run; rfl; rfl; exact bsB)); first | (exact bsO)) | apply J.seq | apply E.next | apply J.lq | apply Lq.nil | apply PRun.nil | apply J.block | apply E.in_normal | apply J.skip | (apply Lq.store; rfl; rfl; exact bsP; exact bsS; rfl; rfl) | (apply PRun.al; rfl) | (apply Lq.al; rfl; rfl; intro b) | (apply Open.cons; intro b) | apply Open.nil | (apply Lq.pass; rfl; rfl; rfl) | (apply PRun.pass; rfl; rfl) | (apply Lq.skip; rfl; rfl; rfl; exact bsB) | (apply PRun.skip; rfl; rfl; exact bsB) | (apply J.cond_t; rfl) | (apply J.cond_f; rfl) | apply J.exit | apply E.then_exit | apply E.in_exit | (apply E.in_other; rfl))
    refine Lq.callS (Δ0 := D4) (Δf := []) (mreadV [97] (i : Int) hok2 D4 hV) rfl bsD (by rw [List.append_nil]) ?_
    rintro _ D5 ⟨rfl, hV⟩
    rw [List.append_nil, hrd]
    by_cases hik : k = i
    · rw [if_pos hik, if_pos rfl]
      dsimp only
      repeat (first | ((first | (apply Lq.s; rfl) | apply PRun.s | (apply Lq.run; rfl; rfl; rfl; exact bsB) | (apply PRun.run; rfl; rfl; exact bsB)); first | (apply op_iaddr hashT.toTy (x := leafH t); rfl; rfl; exact Int.natCast_nonneg _; (rw [Int.toNat_natCast]; exact hh)) | (apply op_load hashT; rfl) | (apply op_iaddr strT.toTy (x := t); rfl; rfl; exact Int.natCast_nonneg _; (rw [Int.toNat_natCast]; exact ht)) | (apply op_load strT; rfl) | (apply op_call (mleaf_fn t (by omega)); exact bsD) | (apply op_neA_f (T := hashT) (m := 2) (eqd_arr eqd_u8) rfl rfl; rfl; rfl; rfl) | (apply op_sneF (a := []) (b := []); rfl; rfl; rfl) | (exact bsO)) | apply J.seq | apply E.next | apply J.lq | apply Lq.nil | apply PRun.nil | apply J.block | apply E.in_normal | apply J.skip | (apply Lq.store; rfl; rfl; exact bsP; exact bsS; rfl; rfl) | (apply PRun.al; rfl) | (apply Lq.al; rfl; rfl; intro b) | (apply Open.cons; intro b) | apply Open.nil | (apply Lq.pass; rfl; rfl; rfl) | (apply PRun.pass; rfl; rfl) | (apply Lq.skip; rfl; rfl; rfl; exact bsB) | (apply PRun.skip; rfl; rfl; exact bsB) | (apply J.drawN; exact mixed; kernel_rfl) | (apply J.cond_t; rfl) | (apply J.cond_f; rfl) | apply J.exit | apply E.then_exit | apply E.in_exit | (apply E.in_other; rfl))
      exact E.again (i + 1, D5) (by dsimp only; omega) ⟨by dsimp only; omega, hV⟩ (Sub.same (by repeat' (first | exact trivial | refine ⟨rfl, ?_⟩)))
    · have hik2 : i ≠ k := fun e => hik e.symm
      rw [if_neg hik, show (recOf t).shred = false by unfold recOf; rfl, show (recOf t).text = t by unfold recOf; rfl, if_neg (by decide)]
      dsimp only
      repeat (first | ((first | (apply Lq.s; rfl) | apply PRun.s | (apply Lq.run; rfl; rfl; rfl; exact bsB) | (apply PRun.run; rfl; rfl; exact bsB)); first | (apply op_iaddr hashT.toTy (x := leafH t); rfl; rfl; exact Int.natCast_nonneg _; (rw [Int.toNat_natCast]; exact hh)) | (apply op_load hashT; rfl) | (apply op_iaddr strT.toTy (x := t); rfl; rfl; exact Int.natCast_nonneg _; (rw [Int.toNat_natCast]; exact ht)) | (apply op_load strT; rfl) | (apply op_call (mleaf_fn t (by omega)); exact bsD) | (apply op_neA_f (T := hashT) (m := 2) (eqd_arr eqd_u8) rfl rfl; rfl; rfl; rfl) | (apply op_sneF (a := t) (b := t); rfl; rfl; rfl) | (exact bsO)) | apply J.seq | apply E.next | apply J.lq | apply Lq.nil | apply PRun.nil | apply J.block | apply E.in_normal | apply J.skip | (apply Lq.store; rfl; rfl; exact bsP; exact bsS; rfl; rfl) | (apply PRun.al; rfl) | (apply Lq.al; rfl; rfl; intro b) | (apply Open.cons; intro b) | apply Open.nil | (apply Lq.pass; rfl; rfl; rfl) | (apply PRun.pass; rfl; rfl) | (apply Lq.skip; rfl; rfl; rfl; exact bsB) | (apply PRun.skip; rfl; rfl; exact bsB) | (apply J.drawN; exact mixed; kernel_rfl) | (apply J.cond_t; rfl) | (apply J.cond_f; rfl) | apply J.exit | apply E.then_exit | apply E.in_exit | (apply E.in_other; rfl))
      exact E.again (i + 1, D5) (by dsimp only; omega) ⟨by dsimp only; omega, hV⟩ (Sub.same (by repeat' (first | exact trivial | refine ⟨rfl, ?_⟩)))
  · obtain rfl : i = ks.length := by omega
    repeat (first | ((first | (apply Lq.s; rfl) | apply PRun.s | (apply Lq.run; rfl; rfl; rfl; exact bsB) | (apply PRun.run; rfl; rfl; exact bsB)); first | (apply op_call lives26_fn; exact bsD) | (exact bsO)) | apply J.seq | apply E.next | apply J.lq | apply Lq.nil | apply PRun.nil | apply J.block | apply E.in_normal | apply J.skip | (apply Lq.store; rfl; rfl; exact bsP; exact bsS; rfl; rfl) | (apply PRun.al; rfl) | (apply Lq.al; rfl; rfl; intro b) | (apply Open.cons; intro b) | apply Open.nil | (apply Lq.pass; rfl; rfl; rfl) | (apply PRun.pass; rfl; rfl) | (apply Lq.skip; rfl; rfl; rfl; exact bsB) | (apply PRun.skip; rfl; rfl; exact bsB) | (apply J.drawN; exact mixed; kernel_rfl) | (apply J.cond_t; rfl) | (apply J.cond_f; rfl) | apply J.exit | apply E.then_exit | apply E.in_exit | (apply E.in_other; rfl))
    (refine J.ret ?_; (repeat (first | refine E.then_ret ?_ | refine E.in_ret ?_)))
    exact E.ret1 rfl rfl
end Go.Proofs.YtljbbajelkkafaaDoor.L
