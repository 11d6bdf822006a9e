/-
  Records,read as data.
-/
import Derived.Test.YtljbbajelkkafaaDoorLr
namespace Go.Proofs.YtljbbajelkkafaaDoor.L
open Go Go.RowKit
set_option linter.unusedSectionVars false
variable [Globs]
theorem fld_step {cs:List Value} {H:IH} {a b:List Pr} {off sz:Nat} (h1:All2 (fun φ c=>φ.c H c) a ((cs.drop off).take sz)) (h2:All2 (fun φ c=>φ.c H c) b (cs.drop (off+sz))):All2 (fun φ c=>φ.c H c) (a++b) (cs.drop off):=by
  have e:cs.drop off=(cs.drop off).take sz++cs.drop (off+sz):=by rw [← List.drop_drop,List.take_append_drop]
  rw [e]
  exact h1.append h2
theorem fld_end {cs:List Value} {H:IH} {n:Nat} (h:cs.length=n):All2 (fun (φ:Pr) c=>φ.c H c) [] (cs.drop n):=by
  rw [List.drop_eq_nil_of_le (by omega)]
  exact trivial
def I64 (n:Int):Prop := -9223372036854775808≤n∧n≤9223372036854775807
section
variable {P:Program} {t:Nat}
theorem Rd.Run {ti:Nat} [TFld P t 0 0 ti] [TFld P t 1 1 ti] [TSz P t 2] [TSz P ti 1] [TInt P ti .i64]:Rd P t runT fun r=>I64 r.start∧I64 r.count:=⟨fun {H} enc W fuel cs d ps h=>by
  have hl:=Rd.lenOf (n:=2) (i:=0) (off:=0) (ft:=ti) h
  obtain ⟨a,ha,h0⟩:=Rd.fld (n:=2) (i:=0) (off:=0) (ft:=ti) (T:=intT .i64) Rd.i64 h
  obtain ⟨b,hb,h1⟩:=Rd.fld (n:=2) (i:=1) (off:=1) (ft:=ti) (T:=intT .i64) Rd.i64 h
  exact ⟨⟨a,b⟩,⟨ha,hb⟩,fld_step (off:=0) (sz:=1) (a:=(intT .i64).cells a) h0 (fld_step (off:=1) (sz:=1) (a:=(intT .i64).cells b) h1 (fld_end hl))⟩⟩
theorem Rd.Rec {ti th tr tb te:Nat} [TFld P t 0 0 ti] [TFld P t 1 1 ti] [TFld P t 2 2 th] [TFld P t 3 34 tr] [TFld P t 4 36 tb] [TSz P t 37] [TSz P ti 1] [TInt P ti .i64] [TArr P th 32 te] [TSz P th 32] [TSz P te 1] [TInt P te .u8] [TSz P tr 2] [TFld P tr 0 0 ti] [TFld P tr 1 1 ti] [TSz P tb 1] [TBool P tb]:Rd P t recT fun r=>I64 r.time∧I64 r.len∧I64 r.run.start∧I64 r.run.count:=⟨fun {H} enc W fuel cs d ps h=>by
  have hl:=Rd.lenOf (n:=37) (i:=0) (off:=0) (ft:=ti) h
  obtain ⟨a,ha,h0⟩:=Rd.fld (n:=37) (i:=0) (off:=0) (ft:=ti) (T:=intT .i64) Rd.i64 h
  obtain ⟨b,hb,h1⟩:=Rd.fld (n:=37) (i:=1) (off:=1) (ft:=ti) (T:=intT .i64) Rd.i64 h
  haveI:TSz P th (32*u8T.sz):=(inferInstance:TSz P th 32)
  haveI:TSz P te u8T.sz:=(inferInstance:TSz P te 1)
  haveI:TSz P th hashT.sz:=(inferInstance:TSz P th 32)
  haveI:TSz P tr runT.sz:=(inferInstance:TSz P tr 2)
  obtain ⟨c,hc,h2⟩:=Rd.fld (n:=37) (i:=2) (off:=2) (ft:=th) (T:=hashT) (Rd.arr (by decide) Rd.u8) h
  obtain ⟨r,hr,h3⟩:=Rd.fld (n:=37) (i:=3) (off:=34) (ft:=tr) (T:=runT) (Rd.Run (ti:=ti)) h
  obtain ⟨s,hs,h4⟩:=Rd.fld (n:=37) (i:=4) (off:=36) (ft:=tb) (T:=boolT) Rd.bool h
  have e:recT.cells ⟨a,b,c,r,s⟩=(intT .i64).cells a++((intT .i64).cells b++(hashT.cells c++(runT.cells r++(boolT.cells s++[])))):=by
    simp [recT,intT,runT,boolT]
  refine ⟨⟨a,b,c,r,s⟩,⟨ha,hb,hr.1,hr.2⟩,?_⟩
  rw [e]
  exact fld_step (off:=0) (sz:=1) h0 (fld_step (off:=1) (sz:=1) h1 (fld_step (off:=2) (sz:=32) h2 (fld_step (off:=34) (sz:=2) h3 (fld_step (off:=36) (sz:=1) h4 (fld_end hl)))))⟩
end
end Go.Proofs.YtljbbajelkkafaaDoor.L
