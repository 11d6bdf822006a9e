/-
  The model's and the document's types;streams in memory.
-/
import Derived.Test.YtljbbajelkkafaaDoorMp
import Derived.Test.YtljbbajelkkafaaDoorLo
namespace Go.Proofs.YtljbbajelkkafaaDoor.L
open Go
set_option linter.unusedSectionVars false
variable [Globs] [Has_sha_table] [Has_sha_begin]
set_option linter.unusedVariables false
def recVT:Td RecV where
  sz:=3
  cells r:=[is (.int .i64 r.time),is (str r.text),is (.bool r.shred)]
  len _:=rfl
  ag:=true
  one h:=by cases h
  sc x H v h _:=by cases h
  pos:=by decide
def mrecT:Td MRec where
  sz:=35
  cells r:=[is (.int .i64 r.time),is (str r.text),is (.bool r.shred)]++hashT.cells r.hash
  len r:=by simp [hashT.len];rfl
  ag:=true
  one h:=by cases h
  sc x H v h _:=by cases h
  pos:=by decide
def seenT:Td SeenV where
  sz:=4
  cells s:=[is (str s.name),is (.int .i64 s.retain),sl strT.toTy s.holds,sl recVT.toTy s.recs]
  len _:=rfl
  ag:=true
  one h:=by cases h
  sc x H v h _:=by cases h
  pos:=by decide
def viewT:Td ViewV where
  sz:=2
  cells s:=[is (.int .i64 s.clock),sl seenT.toTy s.streams]
  len _:=rfl
  ag:=true
  one h:=by cases h
  sc x H v h _:=by cases h
  pos:=by decide
def stepT:Td StepS where
  sz:=5
  cells s:=[is (.int .i64 s.kind),is (.int .i64 s.n),is (str s.name),is (str s.text),sl (intT .i64).toTy s.keep]
  len _:=rfl
  ag:=true
  one h:=by cases h
  sc x H v h _:=by cases h
  pos:=by decide
def statVT:Td StatV where
  sz:=5
  cells s:=[is (str s.name),is (.int .i64 s.retain),sl strT.toTy s.holds,is (.int .i64 s.recs),is (.int .i64 s.live)]
  len _:=rfl
  ag:=true
  one h:=by cases h
  sc x H v h _:=by cases h
  pos:=by decide
theorem step_kind:Fld stepT.toTy (intT .i64).toTy StepS.kind 0:=⟨fun s=>⟨[],_,rfl,rfl⟩⟩
theorem step_n:Fld stepT.toTy (intT .i64).toTy StepS.n 1:=⟨fun s=>⟨[is (.int .i64 s.kind)],_,rfl,rfl⟩⟩
theorem step_name:Fld stepT.toTy strT.toTy StepS.name 2:=⟨fun s=>⟨[is (.int .i64 s.kind),is (.int .i64 s.n)],_,rfl,rfl⟩⟩
theorem step_text:Fld stepT.toTy strT.toTy StepS.text 3:=⟨fun s=>⟨[is (.int .i64 s.kind),is (.int .i64 s.n),is (str s.name)],_,rfl,rfl⟩⟩
theorem step_keep:Fld stepT.toTy (slT (intT .i64)).toTy StepS.keep 4:=⟨fun s=>⟨[is (.int .i64 s.kind),is (.int .i64 s.n),is (str s.name),is (str s.text)],[],rfl,rfl⟩⟩
/-- A step's fields. -/
theorem bsE {p:Prop} (h:p:=by first|(apply op_box stepT;rfl)|(apply op_faddr step_kind;rfl;decide)|(apply op_faddr step_n;rfl;decide)|(apply op_faddr step_name;rfl;decide)|(apply op_faddr step_text;rfl;decide)|(apply op_load (intT .i64);rfl)|(apply op_load strT;rfl)|(apply op_load stepT;rfl)|fail):p:=h
theorem seen_name:Fld seenT.toTy strT.toTy SeenV.name 0:=⟨fun s=>⟨[],_,rfl,rfl⟩⟩
theorem seen_retain:Fld seenT.toTy (intT .i64).toTy SeenV.retain 1:=⟨fun s=>⟨[is (str s.name)],_,rfl,rfl⟩⟩
theorem seen_holds:Fld seenT.toTy (slT strT).toTy SeenV.holds 2:=⟨fun s=>⟨[is (str s.name),is (.int .i64 s.retain)],_,rfl,rfl⟩⟩
theorem seen_recs:Fld seenT.toTy (slT recVT).toTy SeenV.recs 3:=⟨fun s=>⟨[is (str s.name),is (.int .i64 s.retain),sl strT.toTy s.holds],[],rfl,rfl⟩⟩
theorem view_clock:Fld viewT.toTy (intT .i64).toTy ViewV.clock 0:=⟨fun s=>⟨[],_,rfl,rfl⟩⟩
theorem view_streams:Fld viewT.toTy (slT seenT).toTy ViewV.streams 1:=⟨fun s=>⟨[is (.int .i64 s.clock)],[],rfl,rfl⟩⟩
theorem recv_time:Fld recVT.toTy (intT .i64).toTy RecV.time 0:=⟨fun s=>⟨[],_,rfl,rfl⟩⟩
theorem recv_text:Fld recVT.toTy strT.toTy RecV.text 1:=⟨fun s=>⟨[is (.int .i64 s.time)],_,rfl,rfl⟩⟩
theorem recv_shred:Fld recVT.toTy boolT.toTy RecV.shred 2:=⟨fun s=>⟨[is (.int .i64 s.time),is (str s.text)],_,rfl,rfl⟩⟩
theorem statv_name:Fld statVT.toTy strT.toTy StatV.name 0:=⟨fun s=>⟨[],_,rfl,rfl⟩⟩
theorem statv_retain:Fld statVT.toTy (intT .i64).toTy StatV.retain 1:=⟨fun s=>⟨[is (str s.name)],_,rfl,rfl⟩⟩
theorem statv_holds:Fld statVT.toTy (slT strT).toTy StatV.holds 2:=⟨fun s=>⟨[is (str s.name),is (.int .i64 s.retain)],_,rfl,rfl⟩⟩
theorem statv_recs:Fld statVT.toTy (intT .i64).toTy StatV.recs 3:=⟨fun s=>⟨[is (str s.name),is (.int .i64 s.retain),sl strT.toTy s.holds],_,rfl,rfl⟩⟩
theorem statv_live:Fld statVT.toTy (intT .i64).toTy StatV.live 4:=⟨fun s=>⟨[is (str s.name),is (.int .i64 s.retain),sl strT.toTy s.holds,is (.int .i64 s.recs)],[],rfl,rfl⟩⟩
/-- A stream whose records are a row that is owned. -/
abbrev MO:=MStr × Option Addr × Nat
def mstrO:Td MO where
  sz:=4
  cells x:=[is (str x.1.name),is (.int .i64 x.1.retain),sl strT.toTy x.1.holds,is (.slice x.2.1 x.1.recs.length x.2.2)]
  len _:=rfl
  ag:=true
  one h:=by cases h
  sc x H v h _:=by cases h
  pos:=by decide
/-- The clock, and a slice of streams. -/
def stO (A:Option Addr) (n c:Nat):Td Int where
  sz:=2
  cells t:=[is (.int .i64 t),is (.slice A n c)]
  len _:=rfl
  ag:=true
  one h:=by cases h
  sc x H v h _:=by cases h
  pos:=by decide
def recR (x:MO):Res:=row (.slice x.2.1 x.1.recs.length x.2.2) 81 mrecT.toTy x.1.recs
def recsR (xs:List MO):List Res:=xs.map recR
def stL (A:Option Addr) (c:Nat) (xs:List MO):List Res:=row (.slice A xs.length c) 79 mstrO.toTy xs::recsR xs
def mdC (m:MM) (A1:Option Addr) (n1 c1:Nat) (A2:Option Addr) (n2 c2:Nat):List Pr:=[is (.bool true),is (.bool m.fmt),is (.bool m.mnt),is (.int .i64 m.sure.clock),is (.slice A1 n1 c1),is (.int .i64 m.cur.clock),is (.slice A2 n2 c2),is (.int .i64 (m.todo:Int))]
/-- A model in memory: what is sealed, and what is there. -/
def mdl (B:Nat) (m:MM) (A1:Option Addr) (c1:Nat) (xs1:List MO) (A2:Option Addr) (c2:Nat) (xs2:List MO):List Res :=
  own B 66 (mdC m A1 xs1.length c1 A2 xs2.length c2)::(stL A2 c2 xs2++stL A1 c1 xs1)
def fits (m:MM) (xs1 xs2:List MO):Prop:=xs1.map (·.1)=m.sure.streams∧xs2.map (·.1)=m.cur.streams
def mdV (B:Nat) (m:MM):VS:=fun Δ => ∃ A1 c1 xs1 A2 c2 xs2,fits m xs1 xs2∧Δ=mdl B m A1 c1 xs1 A2 c2 xs2
theorem recsR_pick {xs:List MO} {i:Nat} {x:MO} (h:xs[i]?=some x):(recsR xs).Perm (recR x::recsR (xs.eraseIdx i)):=by
  unfold recsR
  induction xs generalizing i with
  | nil=>simp at h
  | cons y ys ih =>
    cases i with
    | zero=>simp at h;subst h;exact List.Perm.refl _
    | succ i =>
      have:=ih (by simpa using h)
      rw [List.eraseIdx_cons_succ,List.map_cons,List.map_cons]
      exact (List.Perm.cons _ this).trans (List.Perm.swap _ _ _)
theorem recsR_put {xs:List MO} {i:Nat} (x:MO) (h:i < xs.length):(recsR (xs.set i x)).Perm (recR x::recsR (xs.eraseIdx i)):=by
  have:=recsR_pick (xs:=xs.set i x) (i:=i) (x:=x) (by rw [List.getElem?_set_self h])
  have he:(xs.set i x).eraseIdx i=xs.eraseIdx i:=by
    induction xs generalizing i with
    | nil=>rfl
    | cons y ys ih =>
      cases i with
      | zero=>rfl
      | succ i =>
        rw [List.set_cons_succ,List.eraseIdx_cons_succ,List.eraseIdx_cons_succ,ih (by simpa using h)]
        exact recsR_pick (by rw [List.getElem?_set_self (by simpa using h)])
  rwa [he] at this
theorem mrec_hash:Fld mrecT.toTy hashT.toTy MRec.hash 3:=⟨fun s=>⟨[is (.int .i64 s.time),is (str s.text),is (.bool s.shred)],[],by simp [mrecT],rfl⟩⟩
theorem mrec_rec:Fld mrecT.toTy recVT.toTy MRec.v 0:=⟨fun s=>⟨[],_,rfl,rfl⟩⟩
theorem map_at {α β:Type} {f:α→β} {xs:List α} {ys:List β} (h:xs.map f=ys) {i:Nat} {x:α} (hx:xs[i]?=some x):ys[i]?=some (f x):=by
  rw [← h,List.getElem?_map,hx];rfl
theorem map_at' {α β:Type} {f:α→β} {xs:List α} {ys:List β} (h:xs.map f=ys) {i:Nat} {y:β} (hy:ys[i]?=some y) : ∃ x,xs[i]?=some x∧f x=y:=by
  rw [← h,List.getElem?_map] at hy
  exact Option.map_eq_some_iff.1 hy
theorem map_len {α β:Type} {f:α→β} {xs:List α} {ys:List β} (h:xs.map f=ys):xs.length=ys.length:=by rw [← h,List.length_map]
theorem map_set' {α β:Type} {f:α→β} {xs:List α} {ys:List β} (h:xs.map f=ys) (i:Nat) (x:α):(xs.set i x).map f=ys.set i (f x):=by
  rw [← h,List.map_set]
end Go.Proofs.YtljbbajelkkafaaDoor.L
