/-
  Streams, as data.
-/
import Derived.Test.YtkhgebacgkgpcaaDoorRr
import Derived.Test.YtkhgebacgkgpcaaDoorUh
namespace Go.Proofs.YtkhgebacgkgpcaaDoor.L
open Go Go.RowKit
set_option linter.unusedSectionVars false
variable [Globs] [Has_sha_table] [Has_sha_begin]
set_option linter.unusedVariables false
structure StreamS where
  name : List UInt8
  retain : Int
  holds : List (List UInt8)
  recs : List Rec
def streamT : Td StreamS where
  sz := 4
  cells s := [is (str s.name), is (.int .i64 s.retain), sl strT.toTy s.holds, sl recT.toTy s.recs]
  len _ := rfl
  ag := true
  one h := by cases h
  sc x H v h _ := by cases h
  pos := by decide
theorem stream_name : Fld streamT.toTy strT.toTy StreamS.name 0 := ⟨fun s => ⟨[], _, rfl, rfl⟩⟩
theorem stream_retain : Fld streamT.toTy (intT .i64).toTy StreamS.retain 1 := ⟨fun s => ⟨[is (str s.name)], _, rfl, rfl⟩⟩
theorem stream_holds : Fld streamT.toTy (slT strT).toTy StreamS.holds 2 := ⟨fun s => ⟨[is (str s.name), is (.int .i64 s.retain)], _, rfl, rfl⟩⟩
theorem stream_recs : Fld streamT.toTy (slT recT).toTy StreamS.recs 3 := ⟨fun s => ⟨[is (str s.name), is (.int .i64 s.retain), sl strT.toTy s.holds], [], rfl, rfl⟩⟩
def RecOk (r : Rec) : Prop := I64 r.time ∧ I64 r.len ∧ I64 r.run.start ∧ I64 r.run.count
def StreamOk (s : StreamS) : Prop := s.name.length ≤ maxLen ∧ I64 s.retain ∧ s.holds.length ≤ maxLen ∧ s.recs.length ≤ maxLen
section
variable {P : Program} {t : Nat}
theorem Rd.Stream {tn ti tl to tx tr th tu tb te : Nat} [TFld P t 0 0 tn] [TFld P t 1 1 ti] [TFld P t 2 2 tl] [TFld P t 3 3 tx] [TSz P t 4] [TSz P tn 1] [TStr P tn] [TSz P ti 1] [TInt P ti .i64] [TSz P tl 1] [TSl P tl to] [TStr P to] [TSz P to 1] [TSz P tx 1] [TSl P tx tr]
    [TFld P tr 0 0 ti] [TFld P tr 1 1 ti] [TFld P tr 2 2 th] [TFld P tr 3 34 tu] [TFld P tr 4 36 tb] [TSz P tr 37] [TArr P th 32 te] [TSz P th 32] [TSz P te 1] [TInt P te .u8] [TSz P tu 2] [TFld P tu 0 0 ti] [TFld P tu 1 1 ti] [TSz P tb 1] [TBool P tb] : Rd P t streamT StreamOk := ⟨fun {H} enc W fuel cs d ps h => by
  have hl := Rd.lenOf (n := 4) (i := 0) (off := 0) (ft := tn) h
  haveI : TSz P tn strT.sz := (inferInstance : TSz P tn 1)
  haveI : TSz P to strT.sz := (inferInstance : TSz P to 1)
  haveI : TSz P tr recT.sz := (inferInstance : TSz P tr 37)
  haveI : TSz P tl (slT strT).sz := (inferInstance : TSz P tl 1)
  haveI : TSz P tx (slT recT).sz := (inferInstance : TSz P tx 1)
  obtain ⟨a, ha, h0⟩ := Rd.fld (n := 4) (i := 0) (off := 0) (ft := tn) (T := strT) Rd.str h
  obtain ⟨b, hb, h1⟩ := Rd.fld (n := 4) (i := 1) (off := 1) (ft := ti) (T := intT .i64) Rd.i64 h
  obtain ⟨c, hc, h2⟩ := Rd.fld (n := 4) (i := 2) (off := 2) (ft := tl) (T := slT strT) (Rd.slice Rd.str) h
  obtain ⟨r, hr, h3⟩ := Rd.fld (n := 4) (i := 3) (off := 3) (ft := tx) (T := slT recT) (Rd.slice (Rd.Rec (ti := ti) (th := th) (tr := tu) (tb := tb) (te := te))) h
  refine ⟨⟨a, b, c, r⟩, ⟨ha, hb, hc.1, hr.1⟩, ?_⟩
  exact fld_step (off := 0) (sz := 1) (a := [is (L.str a)]) h0 (fld_step (off := 1) (sz := 1) (a := [is (.int .i64 b)]) h1 (fld_step (off := 2) (sz := 1) (a := [sl strT.toTy c]) h2 (fld_step (off := 3) (sz := 1) (a := [sl recT.toTy r]) h3 (fld_end hl))))⟩
end
end Go.Proofs.YtkhgebacgkgpcaaDoor.L
