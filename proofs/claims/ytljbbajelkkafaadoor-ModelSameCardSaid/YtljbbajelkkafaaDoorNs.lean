/-
  Streams,entries and states,as data.
-/
import Derived.Test.YtljbbajelkkafaaDoorRr
namespace Go.Proofs.YtljbbajelkkafaaDoor.L
open Go Go.RowKit
set_option linter.unusedSectionVars false
variable [Globs]
set_option linter.unusedVariables false
structure StreamS where
  name:List UInt8
  retain:Int
  holds:List (List UInt8)
  recs:List Rec
deriving DecidableEq
def streamT:Td StreamS where
  sz:=4
  cells s:=[is (str s.name),is (.int .i64 s.retain),sl strT.toTy s.holds,sl recT.toTy s.recs]
  len _:=rfl
  ag:=true
  one h:=by cases h
  sc x H v h _:=by cases h
  pos:=by decide
theorem stream_name:Fld streamT.toTy strT.toTy StreamS.name 0:=⟨fun s=>⟨[],_,rfl,rfl⟩⟩
theorem stream_retain:Fld streamT.toTy (intT .i64).toTy StreamS.retain 1:=⟨fun s=>⟨[is (str s.name)],_,rfl,rfl⟩⟩
theorem stream_holds:Fld streamT.toTy (slT strT).toTy StreamS.holds 2:=⟨fun s=>⟨[is (str s.name),is (.int .i64 s.retain)],_,rfl,rfl⟩⟩
theorem stream_recs:Fld streamT.toTy (slT recT).toTy StreamS.recs 3:=⟨fun s=>⟨[is (str s.name),is (.int .i64 s.retain),sl strT.toTy s.holds],[],rfl,rfl⟩⟩
def RecOk (r:Rec):Prop:=I64 r.time∧I64 r.len∧I64 r.run.start∧I64 r.run.count
def StreamOk (s:StreamS):Prop:=s.name.length≤maxLen∧I64 s.retain∧s.holds.length≤maxLen∧s.recs.length≤maxLen
def StreamOkF (s:StreamS):Prop:=StreamOk s∧(∀ x ∈ s.holds,x.length≤maxLen) ∧ ∀ r ∈ s.recs,RecOk r
structure EntryS where
  kind:Int
  stream:Int
  n:Int
  len:Int
  name:List UInt8
  hash:Hash
  run:Run
deriving DecidableEq
def entryT:Td EntryS where
  sz:=39
  cells e:=[is (.int .i64 e.kind),is (.int .i64 e.stream),is (.int .i64 e.n),is (.int .i64 e.len),is (str e.name)]++hashT.cells e.hash++[is (.int .i64 e.run.start),is (.int .i64 e.run.count)]
  len e:=by simp [hashT.len];rfl
  ag:=true
  one h:=by cases h
  sc x H v h _:=by cases h
  pos:=by decide
theorem entry_kind:Fld entryT.toTy (intT .i64).toTy EntryS.kind 0:=⟨fun s=>⟨[],_,rfl,rfl⟩⟩
theorem entry_stream:Fld entryT.toTy (intT .i64).toTy EntryS.stream 1:=⟨fun s=>⟨[is (.int .i64 s.kind)],_,rfl,rfl⟩⟩
theorem entry_n:Fld entryT.toTy (intT .i64).toTy EntryS.n 2:=⟨fun s=>⟨[is (.int .i64 s.kind),is (.int .i64 s.stream)],_,rfl,rfl⟩⟩
theorem entry_len:Fld entryT.toTy (intT .i64).toTy EntryS.len 3:=⟨fun s=>⟨[is (.int .i64 s.kind),is (.int .i64 s.stream),is (.int .i64 s.n)],_,rfl,rfl⟩⟩
theorem entry_name:Fld entryT.toTy strT.toTy EntryS.name 4:=⟨fun s=>⟨[is (.int .i64 s.kind),is (.int .i64 s.stream),is (.int .i64 s.n),is (.int .i64 s.len)],_,rfl,rfl⟩⟩
theorem entry_hash:Fld entryT.toTy hashT.toTy EntryS.hash 5:=⟨fun s=>⟨[is (.int .i64 s.kind),is (.int .i64 s.stream),is (.int .i64 s.n),is (.int .i64 s.len),is (str s.name)],_,rfl,rfl⟩⟩
theorem entry_run:Fld entryT.toTy runT.toTy EntryS.run 37:=⟨fun s=>⟨[is (.int .i64 s.kind),is (.int .i64 s.stream),is (.int .i64 s.n),is (.int .i64 s.len),is (str s.name)]++hashT.cells s.hash,[],by simp [entryT,runT],by simp [hashT.len];rfl⟩⟩
def EntryOk (e:EntryS):Prop:=I64 e.kind∧I64 e.stream∧I64 e.n∧I64 e.len∧e.name.length≤maxLen∧I64 e.run.start∧I64 e.run.count
section
variable {P:Program} {t:Nat}
theorem Rd.StreamF {tn ti tl to tx tr th tu tb te:Nat} [TFld P t 0 0 tn] [TFld P t 1 1 ti] [TFld P t 2 2 tl] [TFld P t 3 3 tx] [TSz P t 4] [TSz P tn 1] [TStr P tn] [TSz P ti 1] [TInt P ti .i64] [TSz P tl 1] [TSl P tl to] [TStr P to] [TSz P to 1] [TSz P tx 1] [TSl P tx tr]
    [TFld P tr 0 0 ti] [TFld P tr 1 1 ti] [TFld P tr 2 2 th] [TFld P tr 3 34 tu] [TFld P tr 4 36 tb] [TSz P tr 37] [TArr P th 32 te] [TSz P th 32] [TSz P te 1] [TInt P te .u8] [TSz P tu 2] [TFld P tu 0 0 ti] [TFld P tu 1 1 ti] [TSz P tb 1] [TBool P tb]:Rd P t streamT StreamOkF:=⟨fun {H} enc W fuel cs d ps h=>by
  have hl:=Rd.lenOf (n:=4) (i:=0) (off:=0) (ft:=tn) h
  haveI:TSz P tn strT.sz:=(inferInstance:TSz P tn 1)
  haveI:TSz P to strT.sz:=(inferInstance:TSz P to 1)
  haveI:TSz P tr recT.sz:=(inferInstance:TSz P tr 37)
  haveI:TSz P tl (slT strT).sz:=(inferInstance:TSz P tl 1)
  haveI:TSz P tx (slT recT).sz:=(inferInstance:TSz P tx 1)
  obtain ⟨a,ha,h0⟩:=Rd.fld (n:=4) (i:=0) (off:=0) (ft:=tn) (T:=strT) Rd.str h
  obtain ⟨b,hb,h1⟩:=Rd.fld (n:=4) (i:=1) (off:=1) (ft:=ti) (T:=intT .i64) Rd.i64 h
  obtain ⟨c,hc,h2⟩:=Rd.fld (n:=4) (i:=2) (off:=2) (ft:=tl) (T:=slT strT) (Rd.slice Rd.str) h
  obtain ⟨r,hr,h3⟩:=Rd.fld (n:=4) (i:=3) (off:=3) (ft:=tx) (T:=slT recT) (Rd.slice (Rd.Rec (ti:=ti) (th:=th) (tr:=tu) (tb:=tb) (te:=te))) h
  refine ⟨⟨a,b,c,r⟩,⟨⟨ha,hb,hc.1,hr.1⟩,hc.2,hr.2⟩,?_⟩
  exact fld_step (off:=0) (sz:=1) (a:=[is (L.str a)]) h0 (fld_step (off:=1) (sz:=1) (a:=[is (.int .i64 b)]) h1 (fld_step (off:=2) (sz:=1) (a:=[sl strT.toTy c]) h2 (fld_step (off:=3) (sz:=1) (a:=[sl recT.toTy r]) h3 (fld_end hl))))⟩
theorem Rd.Stream {tn ti tl to tx tr th tu tb te:Nat} [TFld P t 0 0 tn] [TFld P t 1 1 ti] [TFld P t 2 2 tl] [TFld P t 3 3 tx] [TSz P t 4] [TSz P tn 1] [TStr P tn] [TSz P ti 1] [TInt P ti .i64] [TSz P tl 1] [TSl P tl to] [TStr P to] [TSz P to 1] [TSz P tx 1] [TSl P tx tr]
    [TFld P tr 0 0 ti] [TFld P tr 1 1 ti] [TFld P tr 2 2 th] [TFld P tr 3 34 tu] [TFld P tr 4 36 tb] [TSz P tr 37] [TArr P th 32 te] [TSz P th 32] [TSz P te 1] [TInt P te .u8] [TSz P tu 2] [TFld P tu 0 0 ti] [TFld P tu 1 1 ti] [TSz P tb 1] [TBool P tb]:Rd P t streamT StreamOk:=⟨fun {H} enc W fuel cs d ps h=>by
  obtain ⟨x,hx,hc⟩:=(Rd.StreamF (tn:=tn) (ti:=ti) (tl:=tl) (to:=to) (tx:=tx) (tr:=tr) (th:=th) (tu:=tu) (tb:=tb) (te:=te)).h enc W fuel cs d ps h
  exact ⟨x,hx.1,hc⟩⟩
theorem Rd.Entry {ti tn th tu te:Nat} [TFld P t 0 0 ti] [TFld P t 1 1 ti] [TFld P t 2 2 ti] [TFld P t 3 3 ti] [TFld P t 4 4 tn] [TFld P t 5 5 th] [TFld P t 6 37 tu] [TSz P t 39] [TSz P ti 1] [TInt P ti .i64] [TSz P tn 1] [TStr P tn] [TArr P th 32 te] [TSz P th 32] [TSz P te 1] [TInt P te .u8] [TSz P tu 2] [TFld P tu 0 0 ti] [TFld P tu 1 1 ti]:Rd P t entryT EntryOk:=⟨fun {H} enc W fuel cs d ps h=>by
  have hl:=Rd.lenOf (n:=39) (i:=0) (off:=0) (ft:=ti) h
  haveI:TSz P tn strT.sz:=(inferInstance:TSz P tn 1)
  haveI:TSz P th (32*u8T.sz):=(inferInstance:TSz P th 32)
  haveI:TSz P te u8T.sz:=(inferInstance:TSz P te 1)
  haveI:TSz P th hashT.sz:=(inferInstance:TSz P th 32)
  haveI:TSz P tu runT.sz:=(inferInstance:TSz P tu 2)
  obtain ⟨a,ha,h0⟩:=Rd.fld (n:=39) (i:=0) (off:=0) (ft:=ti) (T:=intT .i64) Rd.i64 h
  obtain ⟨b,hb,h1⟩:=Rd.fld (n:=39) (i:=1) (off:=1) (ft:=ti) (T:=intT .i64) Rd.i64 h
  obtain ⟨n,hn,h2⟩:=Rd.fld (n:=39) (i:=2) (off:=2) (ft:=ti) (T:=intT .i64) Rd.i64 h
  obtain ⟨l,hle,h3⟩:=Rd.fld (n:=39) (i:=3) (off:=3) (ft:=ti) (T:=intT .i64) Rd.i64 h
  obtain ⟨s,hs,h4⟩:=Rd.fld (n:=39) (i:=4) (off:=4) (ft:=tn) (T:=strT) Rd.str h
  obtain ⟨c,hc,h5⟩:=Rd.fld (n:=39) (i:=5) (off:=5) (ft:=th) (T:=hashT) (Rd.arr (by decide) Rd.u8) h
  obtain ⟨r,hr,h6⟩:=Rd.fld (n:=39) (i:=6) (off:=37) (ft:=tu) (T:=runT) (Rd.Run (ti:=ti)) h
  have e:entryT.cells ⟨a,b,n,l,s,c,r⟩=(intT .i64).cells a++((intT .i64).cells b++((intT .i64).cells n++((intT .i64).cells l++(strT.cells s++(hashT.cells c++(runT.cells r++[])))))):=by
    simp [entryT,intT,runT,strT]
  refine ⟨⟨a,b,n,l,s,c,r⟩,⟨ha,hb,hn,hle,hs,hr.1,hr.2⟩,?_⟩
  rw [e]
  exact fld_step (off:=0) (sz:=1) h0 (fld_step (off:=1) (sz:=1) h1 (fld_step (off:=2) (sz:=1) h2 (fld_step (off:=3) (sz:=1) h3 (fld_step (off:=4) (sz:=1) h4 (fld_step (off:=5) (sz:=32) h5 (fld_step (off:=37) (sz:=2) h6 (fld_end hl)))))))⟩
end
end Go.Proofs.YtljbbajelkkafaaDoor.L
