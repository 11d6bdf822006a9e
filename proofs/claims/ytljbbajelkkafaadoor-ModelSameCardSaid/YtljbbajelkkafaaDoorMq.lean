/-
  Steps and views,read as data.
-/
import Derived.Test.YtljbbajelkkafaaDoorMb
import Derived.Test.YtljbbajelkkafaaDoorLr
namespace Go.Proofs.YtljbbajelkkafaaDoor.L
open Go Go.RowKit
set_option linter.unusedSectionVars false
variable [Globs] [Has_sha_table] [Has_sha_begin]
set_option linter.unusedVariables false
def StepOk (s:StepS):Prop:=I64 s.kind∧I64 s.n∧s.name.length≤maxLen∧s.text.length≤maxLen∧s.keep.length≤maxLen
def RecVOk (r:RecV):Prop:=I64 r.time∧r.text.length≤maxLen
def SeenOk (s:SeenV):Prop:=s.name.length≤maxLen∧I64 s.retain∧(s.holds.length≤maxLen ∧ ∀ x ∈ s.holds,x.length≤maxLen)∧s.recs.length≤maxLen ∧ ∀ r ∈ s.recs,RecVOk r
def ViewOk (v:ViewV):Prop:=I64 v.clock∧v.streams.length≤maxLen ∧ ∀ s ∈ v.streams,SeenOk s
section
variable {P:Program} {t:Nat}
theorem Rd.Step {ti tn tk:Nat} [TFld P t 0 0 ti] [TFld P t 1 1 ti] [TFld P t 2 2 tn] [TFld P t 3 3 tn] [TFld P t 4 4 tk] [TSz P t 5] [TSz P ti 1] [TInt P ti .i64] [TSz P tn 1] [TStr P tn] [TSz P tk 1] [TSl P tk ti]:Rd P t stepT StepOk:=⟨fun {H} enc W fuel cs d ps h=>by
  have hl:=Rd.lenOf (n:=5) (i:=0) (off:=0) (ft:=ti) h
  haveI:TSz P tn strT.sz:=(inferInstance:TSz P tn 1)
  haveI:TSz P ti (intT .i64).sz:=(inferInstance:TSz P ti 1)
  haveI:TSz P tk (slT (intT .i64)).sz:=(inferInstance:TSz P tk 1)
  obtain ⟨a,ha,h0⟩:=Rd.fld (n:=5) (i:=0) (off:=0) (ft:=ti) (T:=intT .i64) Rd.i64 h
  obtain ⟨b,hb,h1⟩:=Rd.fld (n:=5) (i:=1) (off:=1) (ft:=ti) (T:=intT .i64) Rd.i64 h
  obtain ⟨c,hc,h2⟩:=Rd.fld (n:=5) (i:=2) (off:=2) (ft:=tn) (T:=strT) Rd.str h
  obtain ⟨e,he,h3⟩:=Rd.fld (n:=5) (i:=3) (off:=3) (ft:=tn) (T:=strT) Rd.str h
  obtain ⟨k,hk,h4⟩:=Rd.fld (n:=5) (i:=4) (off:=4) (ft:=tk) (T:=slT (intT .i64)) (Rd.slice Rd.i64) h
  refine ⟨⟨a,b,c,e,k⟩,⟨ha,hb,hc,he,hk.1⟩,?_⟩
  exact fld_step (off:=0) (sz:=1) (a:=[is (.int .i64 a)]) h0 (fld_step (off:=1) (sz:=1) (a:=[is (.int .i64 b)]) h1 (fld_step (off:=2) (sz:=1) (a:=[is (L.str c)]) h2 (fld_step (off:=3) (sz:=1) (a:=[is (L.str e)]) h3 (fld_step (off:=4) (sz:=1) (a:=[sl (intT .i64).toTy k]) h4 (fld_end hl)))))⟩
theorem Rd.RecV {ti tn tb:Nat} [TFld P t 0 0 ti] [TFld P t 1 1 tn] [TFld P t 2 2 tb] [TSz P t 3] [TSz P ti 1] [TInt P ti .i64] [TSz P tn 1] [TStr P tn] [TSz P tb 1] [TBool P tb]:Rd P t recVT RecVOk:=⟨fun {H} enc W fuel cs d ps h=>by
  have hl:=Rd.lenOf (n:=3) (i:=0) (off:=0) (ft:=ti) h
  haveI:TSz P tn strT.sz:=(inferInstance:TSz P tn 1)
  haveI:TSz P tb boolT.sz:=(inferInstance:TSz P tb 1)
  obtain ⟨a,ha,h0⟩:=Rd.fld (n:=3) (i:=0) (off:=0) (ft:=ti) (T:=intT .i64) Rd.i64 h
  obtain ⟨b,hb,h1⟩:=Rd.fld (n:=3) (i:=1) (off:=1) (ft:=tn) (T:=strT) Rd.str h
  obtain ⟨c,hc,h2⟩:=Rd.fld (n:=3) (i:=2) (off:=2) (ft:=tb) (T:=boolT) Rd.bool h
  refine ⟨⟨a,b,c⟩,⟨ha,hb⟩,?_⟩
  exact fld_step (off:=0) (sz:=1) (a:=[is (.int .i64 a)]) h0 (fld_step (off:=1) (sz:=1) (a:=[is (L.str b)]) h1 (fld_step (off:=2) (sz:=1) (a:=[is (.bool c)]) h2 (fld_end hl)))⟩
theorem Rd.Seen {ti tn tl tx tr:Nat} (hr:Rd P tr recVT RecVOk) [TFld P t 0 0 tn] [TFld P t 1 1 ti] [TFld P t 2 2 tl] [TFld P t 3 3 tx] [TSz P t 4] [TSz P tn 1] [TStr P tn] [TSz P ti 1] [TInt P ti .i64] [TSz P tl 1] [TSl P tl tn] [TSz P tx 1] [TSl P tx tr] [TSz P tr 3]:Rd P t seenT SeenOk:=⟨fun {H} enc W fuel cs d ps h=>by
  have hl:=Rd.lenOf (n:=4) (i:=0) (off:=0) (ft:=tn) h
  haveI:TSz P tn strT.sz:=(inferInstance:TSz P tn 1)
  haveI:TSz P tl (slT strT).sz:=(inferInstance:TSz P tl 1)
  haveI:TSz P tr recVT.sz:=(inferInstance:TSz P tr 3)
  haveI:TSz P tx (slT recVT).sz:=(inferInstance:TSz P tx 1)
  obtain ⟨a,ha,h0⟩:=Rd.fld (n:=4) (i:=0) (off:=0) (ft:=tn) (T:=strT) Rd.str h
  obtain ⟨b,hb,h1⟩:=Rd.fld (n:=4) (i:=1) (off:=1) (ft:=ti) (T:=intT .i64) Rd.i64 h
  obtain ⟨c,hc,h2⟩:=Rd.fld (n:=4) (i:=2) (off:=2) (ft:=tl) (T:=slT strT) (Rd.slice Rd.str) h
  obtain ⟨r,hr,h3⟩:=Rd.fld (n:=4) (i:=3) (off:=3) (ft:=tx) (T:=slT recVT) (Rd.slice hr) h
  refine ⟨⟨a,b,c,r⟩,⟨ha,hb,hc,hr⟩,?_⟩
  exact fld_step (off:=0) (sz:=1) (a:=[is (L.str a)]) h0 (fld_step (off:=1) (sz:=1) (a:=[is (.int .i64 b)]) h1 (fld_step (off:=2) (sz:=1) (a:=[sl strT.toTy c]) h2 (fld_step (off:=3) (sz:=1) (a:=[sl recVT.toTy r]) h3 (fld_end hl))))⟩
theorem Rd.View {ti ts tst:Nat} (hst:Rd P tst seenT SeenOk) [TFld P t 0 0 ti] [TFld P t 1 1 ts] [TSz P t 2] [TSz P ti 1] [TInt P ti .i64] [TSz P ts 1] [TSl P ts tst] [TSz P tst 4]:Rd P t viewT ViewOk:=⟨fun {H} enc W fuel cs d ps h=>by
  have hl:=Rd.lenOf (n:=2) (i:=0) (off:=0) (ft:=ti) h
  haveI:TSz P ts (slT seenT).sz:=(inferInstance:TSz P ts 1)
  haveI:TSz P tst seenT.sz:=(inferInstance:TSz P tst 4)
  obtain ⟨a,ha,h0⟩:=Rd.fld (n:=2) (i:=0) (off:=0) (ft:=ti) (T:=intT .i64) Rd.i64 h
  obtain ⟨b,hb,h1⟩:=Rd.fld (n:=2) (i:=1) (off:=1) (ft:=ts) (T:=slT seenT) (Rd.slice hst) h
  exact ⟨⟨a,b⟩,⟨ha,hb.1,hb.2⟩,fld_step (off:=0) (sz:=1) (a:=[is (.int .i64 a)]) h0 (fld_step (off:=1) (sz:=1) (a:=[sl seenT.toTy b]) h1 (fld_end hl))⟩⟩
end
end Go.Proofs.YtljbbajelkkafaaDoor.L
