import Derived.Test.YtljbbajelkkafaaDoorNe
import Derived.Test.YtljbbajelkkafaaDoorPol
import Derived.Test.YtljbbajelkkafaaDoorTm
/-
  A file system as lists: streams,what is sealed,and the steps (plain).
-/
namespace Go.Proofs.YtljbbajelkkafaaDoor.L
open Go
set_option linter.unusedSectionVars false
variable [Globs] [Has_sha_table] [Has_sha_begin]
set_option linter.unusedVariables false
structure MRec where
  time:Int
  text:Str
  shred:Bool
  hash:Hash
deriving DecidableEq
structure MStr where
  name:Str
  retain:Int
  holds:List Str
  recs:List MRec
deriving DecidableEq
structure MSt where
  clock:Int
  streams:List MStr
deriving DecidableEq
/-- A model: what is sealed, what is there, how many entries are to be done. -/
structure MM where
  fmt:Bool
  mnt:Bool
  sure:MSt
  cur:MSt
  todo:Nat
structure RecV where
  time:Int
  text:Str
  shred:Bool
deriving DecidableEq
structure SeenV where
  name:Str
  retain:Int
  holds:List Str
  recs:List RecV
deriving DecidableEq
structure ViewV where
  clock:Int
  streams:List SeenV
deriving DecidableEq
structure StepS where
  kind:Int
  n:Int
  name:Str
  text:Str
  keep:List Int
structure StatV where
  name:Str
  retain:Int
  holds:List Str
  recs:Int
  live:Int
def MRec.v (r:MRec):RecV:=⟨r.time,r.text,r.shred⟩
def MStr.v (s:MStr):SeenV:=⟨s.name,s.retain,s.holds,s.recs.map MRec.v⟩
def MSt.v (s:MSt):ViewV:=⟨s.clock,s.streams.map MStr.v⟩
def emptyV:ViewV:=⟨0,[]⟩
def emptyS:MSt:=⟨0,[]⟩
def newMM:MM:=⟨false,false,emptyS,emptyS,0⟩
/-- Where a stream is. -/
def isN (x:Str) (s:MStr):Bool:=decide (s.name=x)
def findN (l:List MStr) (x:Str):Nat:=l.findIdx (isN x)
def hasN (l:List MStr) (x:Str):Bool:=l.any (isN x)
def errFind (m:MM) (x:Str):Int:=if m.mnt then (if hasN m.cur.streams x then 0 else 4) else 240
def findS (m:MM) (x:Str):MStr:=m.cur.streams.getD (findN m.cur.streams x) ⟨[],0,[],[]⟩
def errRead (s:MStr) (i:Int):Int:=if i < 0 ∨ (s.recs.length:Int)≤i then 161 else match s.recs[i.toNat]? with|some r=>if r.shred then 162 else 0|none=>0
def textAt (s:MStr) (i:Int):Str:=match s.recs[i.toNat]? with|some r=>r.text|none=>[]
def readM (m:MM) (x:Str) (i:Int):Str × Int :=
  if errFind m x=0 then (if errRead (findS m x) i=0 then (textAt (findS m x) i,0) else ([],errRead (findS m x) i)) else ([],errFind m x)
def liveM (l:List MRec):Nat:=(l.filter fun r => !r.shred).length
def zeroStat:StatV:=⟨[],0,[],0,0⟩
def statS (s:MStr):StatV:=⟨s.name,s.retain,s.holds,s.recs.length,liveM s.recs⟩
def statMM (m:MM) (x:Str):StatV × Int:=if errFind m x=0 then (statS (findS m x),0) else (zeroStat,errFind m x)
def hashesM (m:MM) (x:Str):List Hash × Int:=if errFind m x=0 then ((findS m x).recs.map MRec.hash,0) else ([],errFind m x)
def errDone (todo:Nat) (full:Bool):Int:=if 200≤todo then 3 else if full then 241 else 0
def errCreate (m:MM) (x:Str):Int:=if m.mnt then (if nameOk x then (if hasN m.cur.streams x then 160 else if m.cur.streams.length=8 then 3 else 0) else 130) else 240
def createMM (m:MM) (x:Str) (full:Bool):MM × Int :=
  if errCreate m x=0 then (if errDone m.todo full=0 then ({ m with cur:=⟨m.cur.clock,m.cur.streams++[⟨x,0,[],[]⟩]⟩,todo:=m.todo+1 },0) else (m,errDone m.todo full)) else (m,errCreate m x)
def zRec (r:Int) (b:Bool):Rec:=⟨r,0,zeroH,⟨0,0⟩,b⟩
def errShredM (s:MStr) (clock i:Int):Int :=
  if i < 0 ∨ (s.recs.length:Int)≤i then 161 else match s.recs[i.toNat]? with|some r=>mayM (zRec r.time r.shred) s.retain s.holds.length clock|none=>0
/-- Why a step of a stream may not be. -/
def errS (s:MStr) (clock:Int) (x:StepS):Int :=
  if x.kind=5 then (if 300 < x.text.length ∨ s.recs.length=64 then 3 else 0)
  else if x.kind=7 then longerM s.retain x.n
  else if x.kind=8 then (if nameOk x.text then (if x.text ∈ s.holds then 142 else if s.holds.length=4 then 3 else 0) else 130)
  else if x.kind=9 then (if x.text ∈ s.holds then 0 else 143)
  else errShredM s clock x.n
def shredR (l:List MRec) (i:Nat):List MRec:=match l[i]? with|some r=>l.set i { r with shred:=true,text:=[] }|none=>l
def resS (s:MStr) (clock:Int) (x:StepS):MStr :=
  if x.kind=5 then { s with recs:=s.recs++[⟨clock,x.text,false,leafH x.text⟩] }
  else if x.kind=7 then { s with retain:=x.n }
  else if x.kind=8 then { s with holds:=addM s.holds x.text }
  else if x.kind=9 then { s with holds:=remM s.holds x.text }
  else { s with recs:=shredR s.recs x.n.toNat }
def sealM (m:MM):MM:={ m with sure:=m.cur,todo:=0 }
def putM (m:MM) (i:Nat) (s:MStr):MM:={ m with cur:=⟨m.cur.clock,m.cur.streams.set i s⟩ }
def resOf (m:MM) (x:StepS):MM :=
  if x.kind=10 then sealM { putM m (findN m.cur.streams x.name) (resS (findS m x.name) m.cur.clock x) with todo:=m.todo+1 }
  else { putM m (findN m.cur.streams x.name) (resS (findS m x.name) m.cur.clock x) with todo:=m.todo+1 }
def ofM (m:MM) (x:StepS) (full:Bool):MM × Int × Int :=
  if errFind m x.name=0 then
    (if errS (findS m x.name) m.cur.clock x=0 then
      (if errDone m.todo full=0 then (resOf m x,(if x.kind=5 then ((findS m x.name).recs.length:Int) else 0),0) else (m,0,errDone m.todo full))
    else (m,0,errS (findS m x.name) m.cur.clock x))
  else (m,0,errFind m x.name)
def syncM (m:MM) (full:Bool):MM × Int :=
  if m.mnt then (if m.todo=0∧m.cur.clock=m.sure.clock then (m,0) else if full then (m,241) else (sealM m,0)) else (m,240)
def errTurn (m:MM) (k:Int) (full:Bool):Int :=
  if m.mnt=decide (k=3) then (if k=1 then (if m.fmt then 160 else if full then 241 else 0) else if k=2 then (if m.fmt then 0 else 4) else 0) else 240
def turnM (m:MM) (k:Int) (full:Bool):MM × Int :=
  if errTurn m k full=0 then (⟨m.fmt || decide (k=1),decide (k=2),m.sure,m.sure,0⟩,0) else (m,errTurn m k full)
def tickMM (m:MM) (n:Int):MM × Int :=
  if m.mnt then (if (tickM m.cur.clock n).2=0 then ({ m with cur:=⟨(tickM m.cur.clock n).1,m.cur.streams⟩ },0) else (m,(tickM m.cur.clock n).2)) else (m,240)
def flat0 (q:MM × Int):MM × Int × Int:=(q.1,0,q.2)
def doM (m:MM) (x:StepS) (full:Bool):MM × Int × Int :=
  if x.kind=1 ∨ x.kind=2 ∨ x.kind=3 then flat0 (turnM m x.kind full)
  else if x.kind=4 then flat0 (createMM m x.name full)
  else if x.kind=6 then flat0 (syncM m full)
  else if x.kind=11 then flat0 (tickMM m x.n)
  else if x.kind=5 ∨ x.kind=7 ∨ x.kind=8 ∨ x.kind=9 ∨ x.kind=10 then ofM m x full
  else (m,0,2)
/-- What stays so in each step. -/
def StrOk (s:MStr):Prop:=s.recs.length≤64∧s.holds.length≤4∧adj slt s.holds=true ∧ ∀ r ∈ s.recs,r.text.length≤300
def StOk (t:MSt):Prop:=t.streams.length≤8 ∧ ∀ s ∈ t.streams,StrOk s
structure MOk (m:MM):Prop where
  sure:StOk m.sure
  cur:StOk m.cur
  todo:m.todo≤200
theorem zeroRec_len:(⟨[],0,[],[]⟩:MStr).recs.length≤64:=by decide
theorem new_ok:MOk newMM:=⟨⟨by decide,fun s h=>by cases h⟩,⟨by decide,fun s h=>by cases h⟩,by decide⟩
/-- A stream of a name is there, or none is. -/
theorem find_cases (l:List MStr) (x:Str):(hasN l x=false∧(∀ y ∈ l,y.name ≠ x) ∧ ∀ (j:Nat) (z:MStr),l[j]?=some z→z.name ≠ x) ∨ ∃ (s:MStr),hasN l x=true∧l[findN l x]?=some s∧s.name=x ∧ ∀ (j:Nat) (z:MStr),j < findN l x→l[j]?=some z→z.name ≠ x:=by
  cases h:hasN l x with
  | false =>
    left
    have hn : ∀ y ∈ l,y.name ≠ x:=fun y hy e=>by
      have:=List.any_eq_false.1 h y hy
      exact this (by unfold isN;exact decide_eq_true e)
    exact ⟨rfl,hn,fun j z hz=>hn z (List.mem_of_getElem? hz)⟩
  | true =>
    right
    obtain ⟨y,hy,hyn⟩:=List.any_eq_true.1 h
    have hlt:findN l x < l.length:=List.findIdx_lt_length_of_exists ⟨y,hy,hyn⟩
    refine ⟨l[findN l x],rfl,List.getElem?_eq_getElem hlt,?_,fun j z hj hz=>?_⟩
    · have:=List.findIdx_getElem (p:=isN x) (xs:=l) (w:=hlt)
      exact of_decide_eq_true this
    · have:=List.not_of_lt_findIdx (p:=isN x) (xs:=l) hj
      have hjl:=(List.getElem?_eq_some_iff.1 hz)
      obtain ⟨h1,h2⟩:=hjl
      rw [h2] at this
      intro e
      rw [show isN x z=true from decide_eq_true e] at this;cases this
theorem findS_of {m:MM} {x:Str} {s:MStr} (h:m.cur.streams[findN m.cur.streams x]?=some s):findS m x=s:=by
  unfold findS;rw [List.getD_eq_getElem?_getD,h];rfl
theorem errFind_0 {m:MM} {x:Str} (h1:m.mnt=true) (h2:hasN m.cur.streams x=true):errFind m x=0:=by unfold errFind;rw [h1,h2];rfl
theorem errFind_4 {m:MM} {x:Str} (h1:m.mnt=true) (h2:hasN m.cur.streams x=false):errFind m x=4:=by unfold errFind;rw [h1,h2];rfl
theorem errFind_m {m:MM} {x:Str} (h1:m.mnt=false):errFind m x=240:=by unfold errFind;rw [h1];rfl
theorem findN_at {l:List MStr} {x:Str} {s:MStr} {i:Nat} (h:l[i]?=some s) (hs:s.name=x) (hb : ∀ (j:Nat) (z:MStr),j < i→l[j]?=some z→z.name ≠ x):findN l x=i∧hasN l x=true:=by
  have h1:isN x s=true:=decide_eq_true hs
  refine ⟨?_,List.any_eq_true.2 ⟨s,List.mem_of_getElem? h,h1⟩⟩
  have hlt:=(List.getElem?_eq_some_iff.1 h).1
  have he:=(List.getElem?_eq_some_iff.1 h).2
  refine (List.findIdx_eq hlt).2 ⟨by rw [he];exact h1,fun j hj=>?_⟩
  have:=hb j l[j] hj (List.getElem?_eq_getElem (by omega))
  exact decide_eq_false this
end Go.Proofs.YtljbbajelkkafaaDoor.L
/-
  What a model's steps keep,and what grows (plain).
-/
namespace Go.Proofs.YtljbbajelkkafaaDoor.L
open Go
set_option linter.unusedSectionVars false
variable [Globs] [Has_sha_table] [Has_sha_begin]
set_option linter.unusedVariables false
theorem remM_asc' {l:List Str} {x:Str} (h:adj slt l=true):adj slt (remM l x)=true:=remM_asc h
theorem shredR_len (l:List MRec) (i:Nat):(shredR l i).length=l.length:=by unfold shredR;split <;> simp
theorem shredR_at {l:List MRec} {i k:Nat} {r:MRec} (h:l[k]?=some r):(shredR l i)[k]?=some (if i=k then { r with shred:=true,text:=[] } else r):=by
  unfold shredR
  split
  · rename_i q hq
    rw [List.getElem?_set]
    split
    · rename_i e
      subst e
      rw [hq] at h;injection h with h;subst h
      rw [if_pos (List.getElem?_eq_some_iff.1 hq).1]
    · exact h
  · rename_i hq
    split
    · rename_i e
      subst e
      rw [hq] at h;cases h
    · exact h
theorem res_ok {s:MStr} {clock:Int} {x:StepS} (h:StrOk s) (he:errS s clock x=0):StrOk (resS s clock x):=by
  obtain ⟨h1,h2,h3,h4⟩:=h
  unfold errS at he
  unfold resS
  by_cases k5:x.kind=5
  · rw [if_pos k5] at he ⊢
    have hn : ¬ (300 < x.text.length ∨ s.recs.length=64):=fun h=>by rw [if_pos h] at he;cases he
    refine ⟨by show (s.recs++[_]).length≤64;rw [List.length_append];show s.recs.length+1≤64;omega,h2,h3,fun r hr=>?_⟩
    rcases List.mem_append.1 hr with hr|hr
    · exact h4 r hr
    · rw [List.mem_singleton] at hr;subst hr;show x.text.length≤300;omega
  rw [if_neg k5] at he ⊢
  by_cases k7:x.kind=7
  · rw [if_pos k7] at he ⊢
    exact ⟨h1,h2,h3,h4⟩
  rw [if_neg k7] at he ⊢
  by_cases k8:x.kind=8
  · rw [if_pos k8] at he ⊢
    cases hn:nameOk x.text with
    | false=>rw [hn] at he;cases he
    | true =>
      rw [hn,if_pos rfl] at he
      by_cases hx:x.text ∈ s.holds
      · rw [if_pos hx] at he;cases he
      rw [if_neg hx] at he
      have hl : ¬ s.holds.length=4:=fun h=>by rw [if_pos h] at he;cases he
      exact ⟨h1,by show (addM _ _).length≤4;rw [addM_len];omega,addM_asc h3 hx,h4⟩
  rw [if_neg k8] at he ⊢
  by_cases k9:x.kind=9
  · rw [if_pos k9] at he ⊢
    exact ⟨h1,by show (remM _ _).length≤4;have:=remM_len s.holds x.text;omega,remM_asc h3,h4⟩
  rw [if_neg k9] at he ⊢
  refine ⟨by show (shredR _ _).length≤64;rw [shredR_len];exact h1,h2,h3,fun r hr=>?_⟩
  obtain ⟨k,hk,hkr⟩:=List.mem_iff_getElem.1 hr
  have hk2:k < s.recs.length:=by rw [← shredR_len s.recs x.n.toNat];exact hk
  have:=shredR_at (i:=x.n.toNat) (List.getElem?_eq_getElem hk2)
  rw [List.getElem?_eq_getElem hk,hkr] at this
  injection this with this
  rw [this]
  split
  · exact Nat.zero_le _
  · exact h4 _ (List.getElem_mem hk2)
theorem set_ok {l:List MStr} {i:Nat} {s:MStr} (h : ∀ x ∈ l,StrOk x) (hs:StrOk s) : ∀ x ∈ l.set i s,StrOk x:=fun x hx=>by
  rcases List.mem_or_eq_of_mem_set hx with h1|h1
  · exact h x h1
  · subst h1;exact hs
theorem findS_mem {m:MM} {x:Str} (h:hasN m.cur.streams x=true):findS m x ∈ m.cur.streams∧m.cur.streams[findN m.cur.streams x]?=some (findS m x)∧(findS m x).name=x:=by
  rcases find_cases m.cur.streams x with ⟨h1,_⟩|⟨s,h1,h2,h3,h4⟩
  · rw [h1] at h;cases h
  · rw [findS_of h2];exact ⟨List.mem_of_getElem? h2,h2,h3⟩
theorem find_ok0 {m:MM} {x:Str} (h:errFind m x=0):m.mnt=true∧hasN m.cur.streams x=true:=by
  unfold errFind at h
  cases h1:m.mnt with
  | false=>rw [h1] at h;cases h
  | true =>
    cases h2:hasN m.cur.streams x with
    | false=>rw [h1,h2] at h;cases h
    | true=>exact ⟨rfl,rfl⟩
theorem done_ok {t:Nat} {full:Bool} (h:errDone t full=0):t < 200∧full=false:=by
  unfold errDone at h
  by_cases h1:200≤t
  · rw [if_pos h1] at h;cases h
  · rw [if_neg h1] at h
    cases full with
    | true=>cases h
    | false=>exact ⟨by omega,rfl⟩
/-- A step's result: one of these. -/
theorem do_cases (m:MM) (x:StepS) (full:Bool) :
    ((doM m x full).1=m∧(doM m x full).2.2 ≠ 0∧(doM m x full).2.1=0)
    ∨ ((x.kind=1 ∨ x.kind=2 ∨ x.kind=3)∧errTurn m x.kind full=0∧doM m x full=(⟨m.fmt || decide (x.kind=1),decide (x.kind=2),m.sure,m.sure,0⟩,0,0))
    ∨ (x.kind=4∧errCreate m x.name=0∧m.todo < 200∧doM m x full=({ m with cur:=⟨m.cur.clock,m.cur.streams++[⟨x.name,0,[],[]⟩]⟩,todo:=m.todo+1 },0,0))
    ∨ (x.kind=6∧m.mnt=true∧m.todo=0∧m.cur.clock=m.sure.clock∧doM m x full=(m,0,0))
    ∨ (x.kind=6∧m.mnt=true∧doM m x full=(sealM m,0,0))
    ∨ (x.kind=11∧m.mnt=true∧(tickM m.cur.clock x.n).2=0∧doM m x full=({ m with cur:=⟨(tickM m.cur.clock x.n).1,m.cur.streams⟩ },0,0))
    ∨ ((x.kind=5 ∨ x.kind=7 ∨ x.kind=8 ∨ x.kind=9 ∨ x.kind=10)∧m.mnt=true∧hasN m.cur.streams x.name=true∧errS (findS m x.name) m.cur.clock x=0∧m.todo < 200∧doM m x full=(resOf m x,(if x.kind=5 then ((findS m x.name).recs.length:Int) else 0),0)):=by
  unfold doM
  by_cases k1:x.kind=1 ∨ x.kind=2 ∨ x.kind=3
  · rw [if_pos k1]
    unfold turnM flat0
    by_cases h:errTurn m x.kind full=0
    · rw [if_pos h];exact .inr (.inl ⟨k1,h,rfl⟩)
    · rw [if_neg h];exact .inl ⟨rfl,h,rfl⟩
  rw [if_neg k1]
  by_cases k4:x.kind=4
  · rw [if_pos k4]
    unfold createMM flat0
    by_cases h:errCreate m x.name=0
    · rw [if_pos h]
      by_cases h2:errDone m.todo full=0
      · rw [if_pos h2];exact .inr (.inr (.inl ⟨k4,h,(done_ok h2).1,rfl⟩))
      · rw [if_neg h2];exact .inl ⟨rfl,h2,rfl⟩
    · rw [if_neg h];exact .inl ⟨rfl,h,rfl⟩
  rw [if_neg k4]
  by_cases k6:x.kind=6
  · rw [if_pos k6]
    unfold syncM flat0
    cases hm:m.mnt with
    | false=>exact .inl ⟨rfl,(show (240:Int) ≠ 0 by decide),rfl⟩
    | true =>
      rw [if_pos rfl]
      by_cases h:m.todo=0∧m.cur.clock=m.sure.clock
      · rw [if_pos h];exact .inr (.inr (.inr (.inl ⟨k6,rfl,h.1,h.2,rfl⟩)))
      · rw [if_neg h]
        cases full with
        | true=>exact .inl ⟨rfl,(show (241:Int) ≠ 0 by decide),rfl⟩
        | false=>exact .inr (.inr (.inr (.inr (.inl ⟨k6,rfl,rfl⟩))))
  rw [if_neg k6]
  by_cases k11:x.kind=11
  · rw [if_pos k11]
    unfold tickMM flat0
    cases hm:m.mnt with
    | false=>exact .inl ⟨rfl,(show (240:Int) ≠ 0 by decide),rfl⟩
    | true =>
      rw [if_pos rfl]
      by_cases h:(tickM m.cur.clock x.n).2=0
      · rw [if_pos h];exact .inr (.inr (.inr (.inr (.inr (.inl ⟨k11,rfl,h,by rfl⟩)))))
      · rw [if_neg h];exact .inl ⟨rfl,h,rfl⟩
  rw [if_neg k11]
  by_cases kk:x.kind=5 ∨ x.kind=7 ∨ x.kind=8 ∨ x.kind=9 ∨ x.kind=10
  · rw [if_pos kk]
    unfold ofM
    by_cases h:errFind m x.name=0
    · rw [if_pos h]
      by_cases h2:errS (findS m x.name) m.cur.clock x=0
      · rw [if_pos h2]
        by_cases h3:errDone m.todo full=0
        · rw [if_pos h3];exact .inr (.inr (.inr (.inr (.inr (.inr ⟨kk,(find_ok0 h).1,(find_ok0 h).2,h2,(done_ok h3).1,rfl⟩)))))
        · rw [if_neg h3];exact .inl ⟨rfl,h3,rfl⟩
      · rw [if_neg h2];exact .inl ⟨rfl,h2,rfl⟩
    · rw [if_neg h];exact .inl ⟨rfl,h,rfl⟩
  · rw [if_neg kk];exact .inl ⟨rfl,(show (2:Int) ≠ 0 by decide),rfl⟩
theorem create_ok {m:MM} {x:Str} (h:errCreate m x=0):m.mnt=true∧m.cur.streams.length ≠ 8:=by
  unfold errCreate at h
  cases h1:m.mnt with
  | false=>rw [h1] at h;cases h
  | true =>
    rw [h1,if_pos rfl] at h
    cases h2:nameOk x with
    | false=>rw [h2] at h;cases h
    | true =>
      rw [h2,if_pos rfl] at h
      cases h3:hasN m.cur.streams x with
      | true=>rw [h3] at h;cases h
      | false =>
        rw [h3] at h
        exact ⟨rfl,fun h4=>by rw [if_neg (by simp),if_pos h4] at h;cases h⟩
theorem put_ok {m:MM} (h:MOk m) {x:StepS} (hh:hasN m.cur.streams x.name=true) (he:errS (findS m x.name) m.cur.clock x=0):StOk (putM m (findN m.cur.streams x.name) (resS (findS m x.name) m.cur.clock x)).cur:=by
  obtain ⟨h1,h2⟩:=h.cur
  refine ⟨?_,set_ok h2 (res_ok (h2 _ (findS_mem hh).1) he)⟩
  show (List.set _ _ _).length≤8
  rw [List.length_set];exact h1
theorem do_ok {m:MM} (h:MOk m) (x:StepS) (full:Bool):MOk (doM m x full).1:=by
  rcases do_cases m x full with ⟨e,_⟩|⟨_,_,e⟩|⟨_,hc,ht,e⟩|⟨_,_,_,_,e⟩|⟨_,_,e⟩|⟨_,_,_,e⟩|⟨_,_,hh,he,ht,e⟩ <;> rw [e]
  · exact h
  · exact ⟨h.sure,h.sure,Nat.zero_le _⟩
  · obtain ⟨h1,h2⟩:=h.cur
    have:=create_ok hc
    refine ⟨h.sure,⟨by show (_++[_]).length≤8;rw [List.length_append];show m.cur.streams.length+1≤8;omega,fun s hs=>?_⟩,by show m.todo+1≤200;omega⟩
    rcases List.mem_append.1 hs with hs|hs
    · exact h2 s hs
    · rw [List.mem_singleton] at hs;subst hs;exact ⟨Nat.zero_le _,Nat.zero_le _,rfl,fun r hr=>by cases hr⟩
  · exact h
  · exact ⟨h.cur,h.cur,Nat.zero_le _⟩
  · exact ⟨h.sure,h.cur,h.todo⟩
  · have hp:=put_ok h hh he
    unfold resOf
    split
    · exact ⟨hp,hp,Nat.zero_le _⟩
    · exact ⟨h.sure,hp,by show m.todo+1≤200;omega⟩
/-! ### What grows -/
def growR (p q:MRec):Prop:=p.time=q.time∧(p.shred=true→q.shred=true)∧(q.shred=false→p.text=q.text)
def growS (a b:MStr):Prop:=a.name=b.name∧a.retain≤b.retain ∧ ∀ (k:Nat) (p:MRec),a.recs[k]?=some p → ∃ q,b.recs[k]?=some q∧growR p q
def growT (a b:MSt):Prop:=a.clock≤b.clock ∧ ∀ (i:Nat) (x:MStr),a.streams[i]?=some x → ∃ y,b.streams[i]?=some y∧growS x y
theorem growS_refl (s:MStr):growS s s:=⟨rfl,Int.le_refl _,fun k p h=>⟨p,h,rfl,id,fun _=>rfl⟩⟩
theorem growT_refl (t:MSt):growT t t:=⟨Int.le_refl _,fun i x h=>⟨x,h,growS_refl x⟩⟩
theorem growS_trans {a b c:MStr} (h:growS a b) (k:growS b c):growS a c:=by
  refine ⟨h.1.trans k.1,Int.le_trans h.2.1 k.2.1,fun j p hp=>?_⟩
  obtain ⟨q,hq,h1,h2,h3⟩:=h.2.2 j p hp
  obtain ⟨r,hr,k1,k2,k3⟩:=k.2.2 j q hq
  refine ⟨r,hr,h1.trans k1,fun h=>k2 (h2 h),fun h=>?_⟩
  cases hs:q.shred with
  | true=>rw [k2 hs] at h;cases h
  | false=>exact (h3 hs).trans (k3 h)
theorem growT_trans {a b c:MSt} (h:growT a b) (k:growT b c):growT a c:=by
  refine ⟨Int.le_trans h.1 k.1,fun i x hx=>?_⟩
  obtain ⟨y,hy,h1⟩:=h.2 i x hx
  obtain ⟨z,hz,k1⟩:=k.2 i y hy
  exact ⟨z,hz,growS_trans h1 k1⟩
theorem longer_ok {o n:Int} (h:longerM o n=0):o≤n:=by
  unfold longerM at h
  split at h
  · split at h
    · cases h
    · omega
  · cases h
theorem tick_ok {c n:Int} (h:(tickM c n).2=0):c≤(tickM c n).1∧0≤c:=by
  unfold tickM at h ⊢
  split
  · rename_i h1
    rw [if_pos h1] at h
    rw [Bool.and_eq_true] at h1
    have a1:=timeB_iff h1.1
    have a2:=timeB_iff h1.2
    split
    · rename_i h2;exact ⟨by show c≤c+n;omega,a1.1⟩
    · rename_i h2;rw [if_neg h2] at h;cases h
  · rename_i h1;rw [if_neg h1] at h;cases h
theorem res_grow {s:MStr} {clock:Int} {x:StepS} (he:errS s clock x=0):growS s (resS s clock x):=by
  unfold errS at he
  unfold resS
  by_cases k5:x.kind=5
  · rw [if_pos k5]
    exact ⟨rfl,Int.le_refl _,fun k p h=>⟨p,by show (_++_)[k]?=_;rw [List.getElem?_append_left (List.getElem?_eq_some_iff.1 h).1];exact h,rfl,id,fun _=>rfl⟩⟩
  rw [if_neg k5] at he ⊢
  by_cases k7:x.kind=7
  · rw [if_pos k7] at he ⊢
    exact ⟨rfl,longer_ok he,fun k p h=>⟨p,h,rfl,id,fun _=>rfl⟩⟩
  rw [if_neg k7] at he ⊢
  by_cases k8:x.kind=8
  · rw [if_pos k8];exact ⟨rfl,Int.le_refl _,fun k p h=>⟨p,h,rfl,id,fun _=>rfl⟩⟩
  rw [if_neg k8] at he ⊢
  by_cases k9:x.kind=9
  · rw [if_pos k9];exact ⟨rfl,Int.le_refl _,fun k p h=>⟨p,h,rfl,id,fun _=>rfl⟩⟩
  rw [if_neg k9]
  refine ⟨rfl,Int.le_refl _,fun k p h=>⟨_,shredR_at h,?_⟩⟩
  split
  · exact ⟨rfl,fun _=>rfl,fun h=>by cases h⟩
  · exact ⟨rfl,id,fun _=>rfl⟩
theorem set_grow {t:MSt} {i:Nat} {s s':MStr} (h:t.streams[i]?=some s) (hg:growS s s'):growT t ⟨t.clock,t.streams.set i s'⟩:=by
  refine ⟨Int.le_refl _,fun j x hx=>?_⟩
  have hlt:=(List.getElem?_eq_some_iff.1 hx).1
  show ∃ y,(t.streams.set i s')[j]?=some y∧_
  rw [List.getElem?_set]
  by_cases e:i=j
  · subst e
    rw [if_pos rfl,if_pos hlt]
    rw [h] at hx;injection hx with hx;subst hx
    exact ⟨s',rfl,hg⟩
  · rw [if_neg e];exact ⟨x,hx,growS_refl x⟩
/-- What a model keeps: what is there has grown out of what is sealed. -/
structure MGr (m:MM):Prop where
  fm:m.mnt=true→m.fmt=true
  un:m.fmt=false→m.sure=emptyS
  gr:m.mnt=true→growT m.sure m.cur
  z:m.mnt=true→m.todo=0→m.cur.streams=m.sure.streams
  c0:0≤m.sure.clock
theorem new_gr:MGr newMM:=⟨fun h=>(by cases h),fun _=>rfl,fun h=>(by cases h),fun h=>(by cases h),Int.le_refl _⟩
theorem turn_fmt {m:MM} {full:Bool} (h:errTurn m 2 full=0):m.fmt=true:=by
  unfold errTurn at h
  split at h
  · rw [if_neg (by decide),if_pos rfl] at h
    cases hf:m.fmt with
    | false=>rw [hf] at h;cases h
    | true=>rfl
  · cases h
theorem do_gr {m:MM} (h:MGr m) (x:StepS) (full:Bool):MGr (doM m x full).1:=by
  rcases do_cases m x full with ⟨e,_⟩|⟨kk,ht,e⟩|⟨_,hc,ht,e⟩|⟨_,_,_,_,e⟩|⟨_,hm,e⟩|⟨_,hm,ht,e⟩|⟨_,hm,hh,he,ht,e⟩ <;> rw [e]
  · exact h
  · refine ⟨fun hk=>?_,fun hk=>?_,fun _=>growT_refl _,fun _ _=>rfl,h.c0⟩
    · have k2:x.kind=2:=of_decide_eq_true hk
      rw [k2] at ht
      show (m.fmt || _)=true
      rw [turn_fmt ht];rfl
    · have:(m.fmt || decide (x.kind=1))=false:=hk
      rw [Bool.or_eq_false_iff] at this
      exact h.un this.1
  · have hm:=(create_ok hc).1
    refine ⟨h.fm,h.un,fun _=>growT_trans (h.gr hm) ⟨Int.le_refl _,fun i y hy=>⟨y,?_,growS_refl y⟩⟩,fun _ hz=>(by cases hz),h.c0⟩
    show (_++_)[i]?=_
    rw [List.getElem?_append_left (List.getElem?_eq_some_iff.1 hy).1];exact hy
  · exact h
  · exact ⟨h.fm,fun hf=>(by have:=h.fm hm;have hf:m.fmt=false:=hf;rw [hf] at this;cases this),fun _=>growT_refl _,fun _ _=>rfl,by have:=(h.gr hm).1;have:=h.c0;show 0≤m.cur.clock;omega⟩
  · refine ⟨h.fm,h.un,fun _=>growT_trans (h.gr hm) ⟨(tick_ok ht).1,fun i y hy=>⟨y,hy,growS_refl y⟩⟩,h.z,h.c0⟩
  · have hg:=set_grow (t:=m.cur) (findS_mem hh).2.1 (res_grow he)
    have hg2:=growT_trans (h.gr hm) hg
    unfold resOf
    split
    · refine ⟨h.fm,fun hf=>(by have:=h.fm hm;have hf:m.fmt=false:=hf;rw [hf] at this;cases this),fun _=>growT_refl _,fun _ _=>rfl,by have:=(h.gr hm).1;have:=h.c0;show 0≤m.cur.clock;omega⟩
    · exact ⟨h.fm,h.un,fun _=>hg2,fun _ hz=>(by cases hz),h.c0⟩
/-- With an error nothing is changed. -/
theorem do_err {m:MM} {x:StepS} {full:Bool} (h:(doM m x full).2.2 ≠ 0):(doM m x full).1=m:=by
  rcases do_cases m x full with ⟨e,_⟩|⟨_,_,e⟩|⟨_,_,_,e⟩|⟨_,_,_,_,e⟩|⟨_,_,e⟩|⟨_,_,_,e⟩|⟨_,_,_,_,_,e⟩
  · exact e
  all_goals rw [e] at h;exact absurd rfl h
/-- What is sealed is changed by a sync, a shred, a format alone. -/
theorem do_sure {m:MM} {x:StepS} {full:Bool} (h1:x.kind ≠ 6) (h2:x.kind ≠ 10) (h3:x.kind ≠ 1):(doM m x full).1.sure=m.sure∧(doM m x full).1.fmt=m.fmt:=by
  rcases do_cases m x full with ⟨e,_⟩|⟨_,_,e⟩|⟨_,_,_,e⟩|⟨k,_,_,_,e⟩|⟨k,_,e⟩|⟨_,_,_,e⟩|⟨_,_,_,_,_,e⟩
  · rw [e];exact ⟨rfl,rfl⟩
  · rw [e];exact ⟨rfl,by show (m.fmt || _)=_;rw [decide_eq_false h3,Bool.or_false]⟩
  · rw [e];exact ⟨rfl,rfl⟩
  · exact absurd k h1
  · exact absurd k h1
  · rw [e];exact ⟨rfl,rfl⟩
  · rw [e]
    unfold resOf
    rw [if_neg h2]
    exact ⟨rfl,rfl⟩
/-- Behind a mount, a sync, a shred what is there is sealed. -/
theorem do_same {m:MM} (h:MGr m) {x:StepS} {full:Bool} (he:(doM m x full).2.2=0) (hk:x.kind=2 ∨ x.kind=6 ∨ x.kind=10) :
    (doM m x full).1.mnt=true∧(doM m x full).1.fmt=true∧(doM m x full).1.cur=(doM m x full).1.sure:=by
  rcases do_cases m x full with ⟨_,e,_⟩|⟨kk,ht,e⟩|⟨k,_,_,e⟩|⟨_,hm,hz,hc,e⟩|⟨_,hm,e⟩|⟨k,_,_,e⟩|⟨kk,hm,_,_,_,e⟩
  · exact absurd he e
  · have k2:x.kind=2:=by omega
    rw [k2] at ht
    rw [e]
    exact ⟨decide_eq_true k2,by show (m.fmt || _)=true;rw [turn_fmt ht];rfl,rfl⟩
  · omega
  · rw [e]
    refine ⟨hm,h.fm hm,?_⟩
    have:=h.z hm hz
    show m.cur=m.sure
    cases hcur:m.cur
    cases hsure:m.sure
    rw [hcur,hsure] at this hc
    simp at this hc
    subst this;subst hc;rfl
  · rw [e];exact ⟨hm,h.fm hm,rfl⟩
  · omega
  · have k10:x.kind=10:=by omega
    rw [e]
    unfold resOf
    rw [if_pos k10]
    exact ⟨hm,h.fm hm,rfl⟩
/-- What is sealed grows. -/
theorem do_growT {m:MM} (h:MGr m) (x:StepS) (full:Bool):growT m.sure (doM m x full).1.sure:=by
  rcases do_cases m x full with ⟨e,_⟩|⟨_,_,e⟩|⟨_,_,_,e⟩|⟨_,_,_,_,e⟩|⟨_,hm,e⟩|⟨_,_,_,e⟩|⟨_,hm,hh,he,_,e⟩ <;> rw [e]
  · exact growT_refl _
  · exact growT_refl _
  · exact growT_refl _
  · exact growT_refl _
  · exact h.gr hm
  · exact growT_refl _
  · have hg2:=growT_trans (h.gr hm) (set_grow (t:=m.cur) (findS_mem hh).2.1 (res_grow he))
    unfold resOf
    split
    · exact hg2
    · exact growT_refl _
end Go.Proofs.YtljbbajelkkafaaDoor.L
