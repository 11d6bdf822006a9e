/-
  The data of the program: how each type's values lie in cells.
-/
import Derived.Test.YtljbbajelkkafaaDoorLe
set_option linter.unusedVariables false
set_option linter.unusedSimpArgs false
namespace Go.Proofs.YtljbbajelkkafaaDoor.L
open Go
set_option linter.unusedSectionVars false
variable [Globs]

def u8T:Td UInt8 where
  sz:=1
  cells b:=[is (.int .u8 (b.toNat:Int))]
  len _:=rfl
  ag:=false
  one _:=rfl
  sc x H v _ h:=by have:v = .int .u8 (x.toNat:Int):=h;subst this;rfl
  pos:=by decide
def u32T:Td Nat where
  sz:=1
  cells n:=[is (.int .u32 (n:Int))]
  len _:=rfl
  ag:=false
  one _:=rfl
  sc x H v _ h:=by have:v = .int .u32 (x:Int):=h;subst this;rfl
  pos:=by decide
/-- Lists of one length. -/
abbrev Arr (α:Type) (n:Nat):={ l:List α // l.length=n }
def arrT {α:Type} (n:Nat) (T:Td α) (hn:0 < n):Td (Arr α n) where
  sz:=n*T.sz
  cells x:=flat T.toTy x.1
  len x:=by rw [flat_len,x.2]
  ag:=true
  one h:=by cases h
  sc x H v h _:=by cases h
  pos:=Nat.mul_pos hn T.pos
abbrev Hash:=Arr UInt8 32
def hashT:Td Hash:=arrT 32 u8T (by decide)
def zeroH:Hash:=⟨List.replicate 32 0,rfl⟩

structure Run where
  start:Int
  count:Int
deriving DecidableEq
structure Rec where
  time:Int
  len:Int
  hash:Hash
  run:Run
  shredded:Bool
deriving DecidableEq
def runT:Td Run where
  sz:=2
  cells r:=[is (.int .i64 r.start),is (.int .i64 r.count)]
  len _:=rfl
  ag:=true
  one h:=by cases h
  sc x H v h _:=by cases h
  pos:=by decide
def recT:Td Rec where
  sz:=37
  cells r:=[is (.int .i64 r.time),is (.int .i64 r.len)]++hashT.cells r.hash++[is (.int .i64 r.run.start),is (.int .i64 r.run.count),is (.bool r.shredded)]
  len r:=by simp [hashT.len];rfl
  ag:=true
  one h:=by cases h
  sc x H v h _:=by cases h
  pos:=by decide
theorem rec_time:Fld recT.toTy (intT .i64).toTy Rec.time 0:=⟨fun s=>⟨[],_,rfl,rfl⟩⟩
theorem rec_len:Fld recT.toTy (intT .i64).toTy Rec.len 1:=⟨fun s=>⟨[is (.int .i64 s.time)],_,rfl,rfl⟩⟩
theorem rec_hash:Fld recT.toTy hashT.toTy Rec.hash 2:=⟨fun s=>⟨[is (.int .i64 s.time),is (.int .i64 s.len)],_,rfl,rfl⟩⟩
theorem rec_run:Fld recT.toTy runT.toTy Rec.run 34:=⟨fun s=>⟨[is (.int .i64 s.time),is (.int .i64 s.len)]++hashT.cells s.hash,[is (.bool s.shredded)],by simp [recT,runT],by simp [hashT.len];rfl⟩⟩
theorem rec_shredded:Fld recT.toTy boolT.toTy Rec.shredded 36:=⟨fun s=>⟨[is (.int .i64 s.time),is (.int .i64 s.len)]++hashT.cells s.hash++[is (.int .i64 s.run.start),is (.int .i64 s.run.count)],[],by simp [recT,boolT],by simp [hashT.len];rfl⟩⟩
theorem run_start:Fld runT.toTy (intT .i64).toTy Run.start 0:=⟨fun s=>⟨[],_,rfl,rfl⟩⟩
theorem run_count:Fld runT.toTy (intT .i64).toTy Run.count 1:=⟨fun s=>⟨[is (.int .i64 s.start)],[],rfl,rfl⟩⟩
def zeroRec:Rec:=⟨0,0,zeroH,⟨0,0⟩,false⟩

section
variable {P:Program} {Γ:Env} {Δ:List Res} {d:Option Nat} {ty:Nat} {pos:String} {af:Array Edge} {g:Option (Nat × Bool)}
/-- A literal, as a value of its type. -/
theorem op_buildT {α:Type} (T:Td α) (x:α) {t:Nat} {z:Value} {pl:Nat→Option (Nat × Nat)} {ps:List (Nat × Operand)} {φs:List Pr} (hag:T.ag=true) [hz:TZero P t z] [hp:TPl P t pl] (h1:z.cells.toList.all (fun v=>v.oneCell')=true) (h:BP pl Γ ps (z.cells.toList.map is) φs) (he:φs=T.cells x) :
    OpP P Γ Δ ⟨d, .build t ps.toArray,ty,pos,af,g⟩ (T.val x):=by
  have e:T.val x=agg (T.cells x):=by unfold Td.val;rw [hag]
  rw [e, ← he]
  exact op_build h1 h
end
end Go.Proofs.YtljbbajelkkafaaDoor.L
