import Derived.Test.YtafbkgijahinkaaDoorTb
import Derived.Test.YtafbkgijahinkaaDoorLx
/-
  Leaves by a number, and the chapter's examples of roots, walked.
-/
namespace Go.Proofs.YtafbkgijahinkaaDoor.L
open Go
set_option linter.unusedSectionVars false
variable [Globs] [Has_sha_table] [Has_sha_begin]
def leafOf (s i : Nat) : Hash := leafH [UInt8.ofNat i, UInt8.ofNat (i / 256), UInt8.ofNat s, UInt8.ofNat (s / 2 ^ 8), UInt8.ofNat (s / 2 ^ 16), UInt8.ofNat (s / 2 ^ 24)]
def someL (n s : Nat) : List Hash := (List.range n).map (leafOf s)
theorem someL_len (n s : Nat) : (someL n s).length = n := by simp [someL]
theorem someL_0 (s : Nat) : someL 0 s = [] := rfl
theorem someL_s (n s : Nat) : someL (n + 1) s = someL n s ++ [leafOf s n] := by simp [someL, List.range_succ]
theorem hash_ne {a b : Hash} (h : a.1 ≠ b.1) : a ≠ b := fun e => h (by rw [e])
theorem leafOf_val (s i : Nat) : (leafOf s i).1 = sha ([0] ++ [UInt8.ofNat i, UInt8.ofNat (i / 256), UInt8.ofNat s, UInt8.ofNat (s / 2 ^ 8), UInt8.ofNat (s / 2 ^ 16), UInt8.ofNat (s / 2 ^ 24)]) := rfl
set_option maxRecDepth 100000 in
theorem leaf01 : leafOf 0 0 ≠ leafOf 0 1 := hash_ne (by rw [leafOf_val, leafOf_val]; decide +kernel)
theorem split1 : split 1 = 0 := by decide +kernel
theorem split2 : split 2 = 1 := by decide +kernel
theorem split3 : split 3 = 2 := by decide +kernel
theorem split8 : split 8 = 4 := by decide +kernel
theorem split9 : split 9 = 8 := by decide +kernel
theorem mroot2 (a b : Hash) : mroot [a, b] = nodeH a b := by
  rw [mroot_split (Nat.le_of_ble_eq_true rfl), show [a, b].length = 2 from rfl, split2]
  rfl
theorem mroot3 (a b c : Hash) : mroot [a, b, c] = nodeH (nodeH a b) c := by
  rw [mroot_split (Nat.le_of_ble_eq_true rfl), show [a, b, c].length = 3 from rfl, split3]
  show nodeH (mroot [a, b]) (mroot [c]) = _
  rw [mroot2, mroot_one]
theorem op_convnb {P : Program} {Γ : Env} {Δ : List Res} {d : Option Nat} {ty t t' : Nat} {pos : String} {af : Array Edge} {g : Option (Nat × Bool)} {x : Operand} {k : IntKind} {n : Nat} [TInt P t k] [TInt P t' .u8] (h : opd Γ x = some (is (.int k (n : Int)))) : OpP P Γ Δ ⟨d, .convert t t' x, ty, pos, af, g⟩ (is (.int .u8 ((UInt8.ofNat n).toNat : Int))) :=
  op_conv h (wrapb n)
set_option linter.unusedVariables false
set_option linter.unusedSimpArgs false
attribute [local irreducible] J Lq E OpP PRun is any agg tup ptr sl
attribute [local irreducible] up2 mroot nodeH leafH emptyH shaH ownAt row someL leafOf
end Go.Proofs.YtafbkgijahinkaaDoor.L
/-
  The document's greatest power of two below a number, walked; the law RootsSplit, walked.
-/
namespace Go.Proofs.YtafbkgijahinkaaDoor.L
open Go
set_option linter.unusedSectionVars false
variable [Globs] [Has_sha_table] [Has_sha_begin]
set_option linter.unusedVariables false
set_option linter.unusedSimpArgs false
attribute [local irreducible] J Lq E OpP PRun is any agg tup ptr sl
attribute [local irreducible] up2 mroot nodeH leafH emptyH shaH ownAt row someL leafOf splitZ
end Go.Proofs.YtafbkgijahinkaaDoor.L
/-
  Laws of roots, walked: RootsParts, RootsLevels.
-/
namespace Go.Proofs.YtafbkgijahinkaaDoor.L
open Go
set_option linter.unusedSectionVars false
variable [Globs] [Has_sha_table] [Has_sha_begin]
theorem splitZ_nat (n : Nat) : splitZ (n : Int) = ((split n : Nat) : Int) := by unfold splitZ; rw [Int.toNat_natCast]
theorem and_pow {k i : Nat} (h : k = 2 ^ i) (hi : i < 7) : IntKind.i64.wrap ((BitVec.ofInt IntKind.i64.bits (k : Int) &&& BitVec.ofInt IntKind.i64.bits ((k : Int) - 1)).toNat : Int) = 0 := by
  have : ∀ j : Fin 7, IntKind.i64.wrap ((BitVec.ofInt IntKind.i64.bits ((2 ^ j.1 : Nat) : Int) &&& BitVec.ofInt IntKind.i64.bits (((2 ^ j.1 : Nat) : Int) - 1)).toNat : Int) = 0 := by decide
  subst h
  exact this ⟨i, hi⟩
theorem splitN_fn (n : Nat) (h : n ≤ 9223372036854775807) : Fn Tryd.prog 46 [is (.int .i64 (n : Int))] (is (.int .i64 ((split n : Nat) : Int))) :=
  (split_fn (n : Int) (by omega) (by omega)).to (by rw [splitZ_nat])
set_option linter.unusedVariables false
set_option linter.unusedSimpArgs false
attribute [local irreducible] J Lq E OpP PRun is any agg tup ptr sl
attribute [local irreducible] up2 mroot nodeH leafH emptyH shaH ownAt row someL leafOf splitZ split
end Go.Proofs.YtafbkgijahinkaaDoor.L
/-
  Laws of roots, walked: RootsGrown, RootsApart.
-/
namespace Go.Proofs.YtafbkgijahinkaaDoor.L
open Go
set_option linter.unusedSectionVars false
variable [Globs] [Has_sha_table] [Has_sha_begin]
theorem Lq.open {α : Type} {C : Cx} {Γ : Env} {Δ Δ' : List Res} {ops : Array Oper} {rest : List Oper} {Q : Exit → Act → World → Prop} {T : Ty α} {v : Value} {e : Nat} {xs : List α} (hp : Δ.Perm (row v e T xs :: Δ')) (hne : xs ≠ []) (k : ∀ b o cap pre post, RowAt T v xs b o cap pre post → Lq C Γ (own b e (pre ++ flat T xs ++ post) :: Δ') ops rest Q) : Lq C Γ Δ ops rest Q := fun H a w S => by
  obtain ⟨b, o, cap, pre, post, h, S'⟩ := S.open hp hne
  exact k b o cap pre post h H a w S'
def pairT : Td (Arr Hash 2) := arrT 2 hashT (by decide)
theorem op_pairH {P : Program} {Γ : Env} {Δ : List Res} {d : Option Nat} {ty t : Nat} {pos : String} {af : Array Edge} {g : Option (Nat × Bool)} {x y : Operand} {p q : Hash} {z : Value} {pl : Nat → Option (Nat × Nat)} [hz : TZero P t z] [hp : TPl P t pl] (h1 : opd Γ x = some (hashT.val p)) (h2 : opd Γ y = some (hashT.val q)) (e0 : pl 0 = some (0, 32)) (e1 : pl 1 = some (32, 32)) (ho : z.cells.toList.all (fun v => v.oneCell') = true) (hl : z.cells.toList.length = 64) :
    OpP P Γ Δ ⟨d, .build t #[(0, x), (1, y)], ty, pos, af, g⟩ (pairT.val ⟨[p, q], rfl⟩) := by
  have hc : ∀ r : Hash, (hashT.cells r).length = 32 := fun r => hashT.len r
  have l1 : (splice (z.cells.toList.map is) 0 (hashT.cells p)).length = 64 := by
    unfold splice
    simp only [List.length_append, List.length_take, List.length_drop, List.length_map, hl, hc]
    rfl
  have key : splice (splice (z.cells.toList.map is) 0 (hashT.cells p)) 32 (hashT.cells q) = pairT.cells ⟨[p, q], rfl⟩ := by
    show _ = hashT.cells p ++ (hashT.cells q ++ [])
    have s1 : splice (z.cells.toList.map is) 0 (hashT.cells p) = hashT.cells p ++ (z.cells.toList.map is).drop 32 := by
      unfold splice
      rw [List.take_zero, List.nil_append, Nat.zero_add, hc]
    rw [s1]
    have := splice_pre (hashT.cells p) ((z.cells.toList.map is).drop 32) (hashT.cells q) 0 (hc p)
    rw [Nat.add_zero] at this
    rw [this, splice_all (by rw [List.length_drop, List.length_map, hl, hc]), List.append_nil]
  have hb := op_build (P := P) (Γ := Γ) (Δ := Δ) (d := d) (ty := ty) (pos := pos) (af := af) (g := g) (t := t) (z := z) (pl := pl) (ps := [(0, x), (1, y)]) (φs := pairT.cells ⟨[p, q], rfl⟩) ho
    (BP.cons e0 h1 (Seg.val hashT p) (hc p) (by rw [List.length_map, hl]; rfl) (BP.cons e1 h2 (Seg.val hashT q) (hc q) (by rw [l1]; rfl) (by rw [key]; exact BP.nil _)))
  exact hb
set_option linter.unusedVariables false
set_option linter.unusedSimpArgs false
attribute [local irreducible] J Lq E OpP PRun is any agg tup ptr sl PRunW OpE
attribute [local irreducible] up2 mroot nodeH leafH emptyH shaH ownAt row someL leafOf splitZ split
theorem wrap_pow62 {p : Nat} (h : p ≤ 2 ^ 62) : IntKind.i64.wrap ((1 * p : Nat) : Int) = (p : Int) := wrap_pow h
end Go.Proofs.YtafbkgijahinkaaDoor.L
