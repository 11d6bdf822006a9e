/-
  What a model does to its streams,walked: entries counted,streams made.
-/
import Derived.Test.YtljbbajelkkafaaDoorMf
namespace Go.Proofs.YtljbbajelkkafaaDoor.L
open Go
set_option linter.unusedSectionVars false
variable [Globs] [Has_sha_table] [Has_sha_begin]
set_option linter.unusedVariables false
def updM (m:MM) (i:Nat) (s:MStr):MM:={ putM m i s with todo:=m.todo+1 }
theorem fits_upd {m:MM} {xs1 xs2:List MO} (h:fits m xs1 xs2) (i:Nat) (s:MO):fits (updM m i s.1) xs1 (xs2.set i s):=⟨h.1,map_set' h.2 i s⟩
/-- A step of one stream. -/
def stepOf (m:MM) (i:Nat) (s:MStr) (x:StepS) (full:Bool):MM × Int × Int :=
  if errS s m.cur.clock x=0 then
    (if errDone m.todo full=0 then ((if x.kind=10 then sealM (updM m i (resS s m.cur.clock x)) else updM m i (resS s m.cur.clock x)),(if x.kind=5 then (s.recs.length:Int) else 0),0) else (m,0,errDone m.todo full))
  else (m,0,errS s m.cur.clock x)
theorem stepOf_err {m:MM} {i:Nat} {s:MStr} {x:StepS} {full:Bool} {e:Int} (h:errS s m.cur.clock x=e) (hne:e ≠ 0):stepOf m i s x full=(m,0,e):=by
  unfold stepOf;rw [h,if_neg hne]
theorem stepOf_done {m:MM} {i:Nat} {s:MStr} {x:StepS} {full:Bool} (h:errS s m.cur.clock x=0) (hd:errDone m.todo full ≠ 0):stepOf m i s x full=(m,0,errDone m.todo full):=by
  unfold stepOf;rw [if_pos h,if_neg hd]
theorem stepOf_ok {m:MM} {i:Nat} {s:MStr} {x:StepS} {full:Bool} (h:errS s m.cur.clock x=0) (hd:errDone m.todo full=0) (hk:x.kind ≠ 10):stepOf m i s x full=(updM m i (resS s m.cur.clock x),(if x.kind=5 then (s.recs.length:Int) else 0),0):=by
  unfold stepOf;rw [if_pos h,if_pos hd,if_neg hk]
theorem ofM_ok {m:MM} {x:StepS} {full:Bool} (h:errFind m x.name=0):ofM m x full=stepOf m (findN m.cur.streams x.name) (findS m x.name) x full:=by
  unfold ofM
  rw [if_pos h]
  rfl
theorem hold_conv (x:Str) : ∀ H,All2 (fun (p q:Pr) => ∀ v,p.h H v→q.h H v) [is (str x),is (.int .i64 0),is (.slice none 0 0),is (.slice none 0 0)] (mstrO.cells (⟨x,0,[],[]⟩,none,0)):=fun H=>⟨fun _ h=>h,fun _ h=>h,fun v h=>sl_nil H v h,fun _ h=>h,trivial⟩
theorem errCreate_eq {m:MM} {x:Str} (hm:m.mnt=true) (hn:nameOk x=true) (hh:hasN m.cur.streams x=false):errCreate m x=if m.cur.streams.length=8 then 3 else 0:=by
  unfold errCreate;rw [hm,hn,hh];rfl
def zeroMRec:MRec:=⟨0,[],false,zeroH⟩
theorem mrec_setH (r:MRec) (h:Hash):splice (mrecT.cells r) 3 (hashT.cells h)=mrecT.cells { r with hash:=h }:=by
  unfold splice
  have h1:(mrecT.cells r).take 3=[is (.int .i64 r.time),is (str r.text),is (.bool r.shred)]:=rfl
  have h2:(mrecT.cells r).drop (3+(hashT.cells h).length)=[]:=by
    rw [hashT.len]
    exact List.drop_of_length_le (Nat.le_of_eq (mrecT.len r))
  rw [h1,h2,List.append_nil]
  rfl
section
variable {P:Program} {Γ:Env} {Δ:List Res} {d:Option Nat} {ty t:Nat} {pos:String} {af:Array Edge} {g:Option (Nat × Bool)}
theorem op_mrec {r:MRec} {x y:Operand} {z:Value} {pl:Nat→Option (Nat × Nat)} [hz:TZero P t z] [hp:TPl P t pl] (h1:opd Γ x=some (recVT.val r.v)) (h2:opd Γ y=some (hashT.val r.hash))
    (hl:z.cells.toList.map is=mrecT.cells zeroMRec) (ho:z.cells.toList.all (fun v=>v.oneCell')=true) (e0:pl 0=some (0,3)) (e1:pl 1=some (3,32)) :
    OpP P Γ Δ ⟨d, .build t #[(0,x),(1,y)],ty,pos,af,g⟩ (mrecT.val r):=by
  have s1:splice (mrecT.cells zeroMRec) 0 (recVT.cells r.v)=mrecT.cells { zeroMRec with time:=r.time,text:=r.text,shred:=r.shred }:=rfl
  have s2:=mrec_setH { zeroMRec with time:=r.time,text:=r.text,shred:=r.shred } r.hash
  exact op_build (P:=P) (Γ:=Γ) (Δ:=Δ) (d:=d) (ty:=ty) (pos:=pos) (af:=af) (g:=g) (t:=t) (z:=z) (pl:=pl) (ps:=[(0,x),(1,y)]) (φs:=mrecT.cells r) ho (by
    rw [hl]
    refine BP.cons e0 h1 (Seg.val recVT _) (recVT.len _) (by rw [mrecT.len];rfl) ?_
    rw [s1]
    refine BP.cons e1 h2 (Seg.val hashT _) (hashT.len _) (by rw [mrecT.len];rfl) ?_
    rw [s2]
    exact BP.nil _)
end
set_option linter.unusedVariables false
set_option linter.unusedSimpArgs false
attribute [local irreducible] J Lq E OpP PRun is any agg tup ptr sl PRunW OpE
attribute [local irreducible] slt row leafH shaH recsR OpR stL mdl
theorem mleaf_fn (s:Str) (hs:s.length≤900000):Fn Tryd.prog 15 [is (str s)] (hashT.val (leafH s)):=(leaf_fn s hs).to (by unfold leafH;rfl)
theorem mdone_bad {B:Nat} {m:MM} {A1:Option Addr} {n1 c1:Nat} {A2:Option Addr} {n2 c2:Nat} (full:Bool) (h:errDone m.todo full ≠ 0):FnR Tryd.prog 57 [is (.pointer (some ⟨B,0,none⟩)),is (.bool full)] [own B 66 (mdC m A1 n1 c1 A2 n2 c2)]
    (fun ψ Δ=>ψ=is (.int .i64 (errDone m.todo full))∧Δ=[own B 66 (mdC m A1 n1 c1 A2 n2 c2)]):=by
  refine FnR.mk' 20 Tryd.func57 rfl rfl rfl rfl fun w0 H0=>?_
  unfold mdC
  by_cases h1:200≤m.todo
  · have e:errDone m.todo full=3:=by unfold errDone;rw [if_pos h1]
    rw [e]
    repeat (first|((first|(apply Lq.s;rfl)|apply PRun.s|(apply Lq.run;rfl;rfl;rfl;exact bsB)|(apply PRun.run;rfl;rfl;exact bsB));first|(apply op_ocell;rfl;exact bsM;rfl)|(apply op_slen;rfl)|(exact bsO))|refine bsA ?_|(apply Lq.al;rfl;rfl;intro b)|(apply Open.cons;intro b)|refine bsC ?_)
    (refine J.ret ?_;(repeat (first|refine E.then_ret ?_|refine E.in_ret ?_)))
    exact E.retR1 (G:=[]) rfl rfl ⟨rfl,rfl⟩ (List.Perm.refl _)
  · cases full with
    | true =>
      have e:errDone m.todo true=241:=by unfold errDone;rw [if_neg h1];rfl
      rw [e]
      repeat (first|((first|(apply Lq.s;rfl)|apply PRun.s|(apply Lq.run;rfl;rfl;rfl;exact bsB)|(apply PRun.run;rfl;rfl;exact bsB));first|(apply op_ocell;rfl;exact bsM;rfl)|(apply op_slen;rfl)|(exact bsO))|refine bsA ?_|(apply Lq.al;rfl;rfl;intro b)|(apply Open.cons;intro b)|refine bsC ?_)
      (refine J.ret ?_;(repeat (first|refine E.then_ret ?_|refine E.in_ret ?_)))
      exact E.retR1 (G:=[]) rfl rfl ⟨rfl,rfl⟩ (List.Perm.refl _)
    | false=>exact absurd (show errDone m.todo false=0 by unfold errDone;rw [if_neg h1];rfl) h
theorem mdone_ok {B:Nat} {m:MM} {A1:Option Addr} {n1 c1:Nat} {A2:Option Addr} {n2 c2:Nat} (full:Bool) (h:errDone m.todo full=0):FnR Tryd.prog 57 [is (.pointer (some ⟨B,0,none⟩)),is (.bool full)] [own B 66 (mdC m A1 n1 c1 A2 n2 c2)]
    (fun ψ Δ=>ψ=is (.int .i64 0)∧Δ=[own B 66 (mdC { m with todo:=m.todo+1 } A1 n1 c1 A2 n2 c2)]):=by
  obtain ⟨h1,rfl⟩:=done_ok h
  refine FnR.mk' 20 Tryd.func57 rfl rfl rfl rfl fun w0 H0=>?_
  unfold mdC
  repeat (first|((first|(apply Lq.s;rfl)|apply PRun.s|(apply Lq.run;rfl;rfl;rfl;exact bsB)|(apply PRun.run;rfl;rfl;exact bsB));first|(apply op_ocell;rfl;exact bsM;rfl)|(apply op_slen;rfl)|(apply op_add (c:=((m.todo+1:Nat):Int));rfl;rfl;(rw [show (m.todo:Int)+1=((m.todo+1:Nat):Int) by omega];apply wrapi <;> omega))|(exact bsO))|refine bsA ?_|(apply Lq.al;rfl;rfl;intro b)|(apply Open.cons;intro b)|refine bsC ?_)
  (refine J.ret ?_;(repeat (first|refine E.then_ret ?_|refine E.in_ret ?_)))
  exact E.retR1 (G:=[]) rfl rfl ⟨rfl,rfl⟩ (List.Perm.refl _)
theorem mfind_any {B:Nat} {m:MM} {A1:Option Addr} {c1:Nat} {xs1:List MO} {A2:Option Addr} {c2:Nat} {xs2:List MO} (x:Str) (hf:fits m xs1 xs2) (hk:MOk m):FnR Tryd.prog 28 [is (.pointer (some ⟨B,0,none⟩)),is (str x)] (mdl B m A1 c1 xs1 A2 c2 xs2)
    (fun ψ Δ => ∃ v,ψ=tup [is v,is (.int .i64 (errFind m x))]∧Δ=mdl B m A1 c1 xs1 A2 c2 xs2):=by
  by_cases h:errFind m x=0
  · rw [h]
    exact (mfind_ok x hf hk h).to fun ψ Δ ⟨b,o,_,h1,h2⟩=>⟨_,h1,h2⟩
  · exact (mfind_bad x hf hk h).to fun ψ Δ ⟨h1,h2⟩=>⟨_,h1,h2⟩
set_option maxHeartbeats 2000000 in
theorem mcreate_fnR {B:Nat} {m:MM} {A1:Option Addr} {c1:Nat} {xs1:List MO} {A2:Option Addr} {c2:Nat} {xs2:List MO} (x:Str) (full:Bool) (hf:fits m xs1 xs2) (hk:MOk m):FnR Tryd.prog 33 [is (.pointer (some ⟨B,0,none⟩)),is (str x),is (.bool full)] (mdl B m A1 c1 xs1 A2 c2 xs2)
    (fun ψ Δ=>ψ=is (.int .i64 (createMM m x full).2)∧mdV B (createMM m x full).1 Δ):=by
  have hfa:=mfind_any (B:=B) (A1:=A1) (c1:=c1) (A2:=A2) (c2:=c2) x hf hk
  have hnc:=ncheck_fn x
  have hmd:mdV B m (mdl B m A1 c1 xs1 A2 c2 xs2):=⟨A1,c1,xs1,A2,c2,xs2,hf,rfl⟩
  refine FnR.mk' 56 Tryd.func33 rfl rfl rfl rfl fun w0 H0=>?_
  repeat (first|((first|(apply Lq.s;rfl)|apply PRun.s|(apply Lq.run;rfl;rfl;rfl;exact bsB)|(apply PRun.run;rfl;rfl;exact bsB));first|(exact bsO))|refine bsA ?_|(apply Lq.al;rfl;rfl;intro b)|(apply Open.cons;intro b)|refine bsC ?_)
  refine Lq.callS (Δ0:=mdl B m A1 c1 xs1 A2 c2 xs2) (Δf:=[]) hfa rfl bsD (by rw [List.append_nil]) ?_
  rintro _ _ ⟨v,rfl,rfl⟩
  rw [List.append_nil]
  cases hm:m.mnt with
  | false =>
    have e:createMM m x full=(m,240):=by unfold createMM errCreate;rw [hm];rfl
    rw [e,errFind_m hm]
    repeat (first|((first|(apply Lq.s;rfl)|apply PRun.s|(apply Lq.run;rfl;rfl;rfl;exact bsB)|(apply PRun.run;rfl;rfl;exact bsB));first|(exact bsO))|refine bsA ?_|(apply Lq.al;rfl;rfl;intro b)|(apply Open.cons;intro b)|refine bsC ?_)
    (refine J.ret ?_;(repeat (first|refine E.then_ret ?_|refine E.in_ret ?_)))
    exact E.retR1 (G:=[]) rfl rfl ⟨rfl,hmd⟩ (by rw [List.append_nil])
  | true =>
    have he:errFind m x=0 ∨ errFind m x=4:=by unfold errFind;rw [hm];cases hasN m.cur.streams x <;> simp
    cases hn:nameOk x with
    | false =>
      have e:createMM m x full=(m,130):=by unfold createMM errCreate;rw [hm,hn];rfl
      rw [nameE_bad hn] at hnc
      rw [e]
      generalize errFind m x=ef at *
      repeat (first|((first|(apply Lq.s;rfl)|apply PRun.s|(apply Lq.run;rfl;rfl;rfl;exact bsB)|(apply PRun.run;rfl;rfl;exact bsB));first|(apply op_call hnc;exact bsD)|(exact bsO))|refine bsA ?_|(apply Lq.al;rfl;rfl;intro b)|(apply Open.cons;intro b)|refine bsC ?_)
      (refine J.ret ?_;(repeat (first|refine E.then_ret ?_|refine E.in_ret ?_)))
      exact E.retR1 (G:=[]) rfl rfl ⟨rfl,hmd⟩ (by rw [List.append_nil])
    | true =>
      rw [nameE_ok hn] at hnc
      cases hh:hasN m.cur.streams x with
      | true =>
        have e:createMM m x full=(m,160):=by unfold createMM errCreate;rw [hm,hn,hh];rfl
        rw [e,errFind_0 hm hh]
        repeat (first|((first|(apply Lq.s;rfl)|apply PRun.s|(apply Lq.run;rfl;rfl;rfl;exact bsB)|(apply PRun.run;rfl;rfl;exact bsB));first|(apply op_call hnc;exact bsD)|(exact bsO))|refine bsA ?_|(apply Lq.al;rfl;rfl;intro b)|(apply Open.cons;intro b)|refine bsC ?_)
        (refine J.ret ?_;(repeat (first|refine E.then_ret ?_|refine E.in_ret ?_)))
        exact E.retR1 (G:=[]) rfl rfl ⟨rfl,hmd⟩ (by rw [List.append_nil])
      | false =>
        have hxl:xs2.length=m.cur.streams.length:=map_len hf.2
        have hx8:=hk.cur.1
        rw [errFind_4 hm hh]
        rw [mdl_eq]
        obtain ⟨D,hD⟩ : ∃ D,D=recsR xs2++stL A1 c1 xs1:=⟨_,rfl⟩
        rw [← hD]
        by_cases h8:m.cur.streams.length=8
        · have ec:errCreate m x=3:=by rw [errCreate_eq hm hn hh,if_pos h8]
          have e:createMM m x full=(m,3):=by unfold createMM;rw [ec];rfl
          rw [e]
          repeat (first|((first|(apply Lq.s;rfl)|apply PRun.s|(apply Lq.run;rfl;rfl;rfl;exact bsB)|(apply PRun.run;rfl;rfl;exact bsB));first|(apply op_call hnc;exact bsD)|(apply op_ocell;rfl;exact bsM;rfl)|(apply op_slen;rfl)|(exact bsO))|refine bsA ?_|(apply Lq.al;rfl;rfl;intro b)|(apply Open.cons;intro b)|refine bsC ?_)
          (refine J.ret ?_;(repeat (first|refine E.then_ret ?_|refine E.in_ret ?_)))
          exact E.retR1 (G:=[]) rfl rfl ⟨rfl,hmd⟩ (by rw [List.append_nil,mdl_eq,hD])
        · have ec:errCreate m x=0:=by rw [errCreate_eq hm hn hh,if_neg h8]
          have e:createMM m x full=if errDone m.todo full=0 then ({ m with cur:=⟨m.cur.clock,m.cur.streams++[⟨x,0,[],[]⟩]⟩,todo:=m.todo+1 },0) else (m,errDone m.todo full):=by unfold createMM;rw [if_pos ec]
          rw [e]
          repeat (first|((first|(apply Lq.s;rfl)|apply PRun.s|(apply Lq.run;rfl;rfl;rfl;exact bsB)|(apply PRun.run;rfl;rfl;exact bsB));first|(apply op_call hnc;exact bsD)|(apply op_ocell;rfl;exact bsM;rfl)|(apply op_slen;rfl)|(exact bsO))|refine bsA ?_|(apply Lq.al;rfl;rfl;intro b)|(apply Open.cons;intro b)|refine bsC ?_)
          by_cases hd:errDone m.todo full=0
          · refine Lq.callS (Δ0:=[_]) (Δf:=_::D) (mdone_ok full hd) rfl bsD (List.Perm.refl _) ?_
            rintro _ _ ⟨rfl,rfl⟩
            rw [if_pos hd]
            unfold mdC
            repeat (first|((first|(apply Lq.s;rfl)|apply PRun.s|(apply Lq.run;rfl;rfl;rfl;exact bsB)|(apply PRun.run;rfl;rfl;exact bsB));first|(apply op_ocell;rfl;exact bsM;rfl)|(apply op_slen;rfl)|(exact bsO))|refine bsA ?_|(apply Lq.al;rfl;rfl;intro b)|(apply Open.cons;intro b)|refine bsC ?_)
            refine Lq.conv 50 rfl (ψ:=mstrO.val (⟨x,0,[],[]⟩,none,0)) (agg_convM (hold_conv x)) ?_
            refine Lq.nilrow 81 mrecT.toTy ?_
            repeat (first|((first|(apply Lq.s;rfl)|apply PRun.s|(apply Lq.run;rfl;rfl;rfl;exact bsB)|(apply PRun.run;rfl;rfl;exact bsB));first|(apply op_bslice mstrO (xs:=[(⟨x,0,[],[]⟩,none,0)]);(repeat (first|exact PO.nil _|(apply PO.cons;rfl)));rfl;rfl;rfl)|(exact bsO))|refine bsA ?_|(apply Lq.al;rfl;rfl;intro b)|(apply Open.cons;intro b)|refine bsC ?_)
            (apply Lq.append (T:=mstrO) (xs:=xs2) (ys:=[(⟨x,0,[],[]⟩,none,0)]);rfl;exact permP [[_],[_],[_],_] [0,1,2,3] [2,0,1,3] (by decide);(apply From.sl;rfl);rfl;rfl;rfl;(show _+1≤maxLen;unfold maxLen;omega);(show (_+1)*72≤_;omega))
            intro A3 c3
            refine Lq.perm (permP [[_],[_],[_],_] [0,1,2,3] [2,0,1,3] (by decide)) ?_
            repeat (first|((first|(apply Lq.s;rfl)|apply PRun.s|(apply Lq.run;rfl;rfl;rfl;exact bsB)|(apply PRun.run;rfl;rfl;exact bsB));first|(exact bsO))|refine bsA ?_|(apply Lq.al;rfl;rfl;intro b)|(apply Open.cons;intro b)|refine bsC ?_)
            (refine J.ret ?_;(repeat (first|refine E.then_ret ?_|refine E.in_ret ?_)))
            refine E.retR1 (Δ':=mdl B { m with cur:=⟨m.cur.clock,m.cur.streams++[⟨x,0,[],[]⟩]⟩,todo:=m.todo+1 } A1 c1 xs1 A3 c3 (xs2++[(⟨x,0,[],[]⟩,none,0)])) (G:=[]) rfl rfl ⟨rfl,A1,c1,xs1,A3,c3,_,⟨hf.1,by rw [List.map_append,hf.2];rfl⟩,rfl⟩ ?_
            rw [List.append_nil,mdl_eq,recsR_app,hD,List.append_assoc,show recsR [(⟨x,0,[],[]⟩,none,0)]=[row (.slice none 0 0) 81 mrecT.toTy []] by unfold recsR;rfl]
            exact permP [[_],[_],[_],_,_] [0,1,2,3,4] [0,1,3,2,4] (by decide)
          · have hdb:=mdone_bad (B:=B) (m:=m) (A1:=A1) (n1:=xs1.length) (c1:=c1) (A2:=A2) (n2:=xs2.length) (c2:=c2) full hd
            refine Lq.callS (Δ0:=[_]) (Δf:=_::D) hdb rfl bsD (List.Perm.refl _) ?_
            rintro _ _ ⟨rfl,rfl⟩
            rw [if_neg hd]
            generalize errDone m.todo full=ed at *
            repeat (first|((first|(apply Lq.s;rfl)|apply PRun.s|(apply Lq.run;rfl;rfl;rfl;exact bsB)|(apply PRun.run;rfl;rfl;exact bsB));first|(exact bsO))|refine bsA ?_|(apply Lq.al;rfl;rfl;intro b)|(apply Open.cons;intro b)|refine bsC ?_)
            (refine J.ret ?_;(repeat (first|refine E.then_ret ?_|refine E.in_ret ?_)))
            exact E.retR1 (G:=[]) rfl rfl ⟨rfl,hmd⟩ (by rw [List.append_nil,mdl_eq,hD];exact List.Perm.refl _)
set_option maxHeartbeats 4000000 in
theorem madd_fnR {B:Nat} {m:MM} {A1:Option Addr} {c1:Nat} {xs1:List MO} {nb no c2:Nat} {xs2:List MO} {K:Nat} {ss:MStr} {sa:Option Addr} {sc:Nat} (x:StepS) (full:Bool) (hf:fits m xs1 xs2) (hk:MOk m) (hs:xs2[K]?=some (ss,sa,sc)) (hkind:x.kind=5) :
    FnR Tryd.prog 60 [is (.pointer (some ⟨B,0,none⟩)),is (.pointer (some ⟨nb,no+K*4,none⟩)),is (str x.text),is (.bool full)] (mdl B m A1 c1 xs1 (some ⟨nb,no,none⟩) c2 xs2)
    (fun ψ Δ=>ψ=tup [is (.int .i64 (stepOf m K ss x full).2.1),is (.int .i64 (stepOf m K ss x full).2.2)]∧mdV B (stepOf m K ss x full).1 Δ):=by
  have hmd:mdV B m (mdl B m A1 c1 xs1 (some ⟨nb,no,none⟩) c2 xs2):=⟨A1,c1,xs1,_,c2,xs2,hf,rfl⟩
  obtain ⟨hl2,hg2⟩:=fits_g hf.2 hk.cur
  obtain ⟨hrl,hhl⟩:ss.recs.length≤1000∧ss.holds.length≤1000:=hg2 _ (List.mem_of_getElem? hs)
  have hKl:=(List.getElem?_eq_some_iff.1 hs).1
  have hES:errS ss m.cur.clock x=if 300 < x.text.length ∨ ss.recs.length=64 then 3 else 0:=by unfold errS;rw [if_pos hkind]
  refine FnR.mk' 53 Tryd.func60 rfl rfl rfl rfl fun w0 H0=>?_
  refine J.perm (mdl_open hs) ?_;obtain ⟨D,hD⟩ : ∃ D,D=recsR (xs2.eraseIdx K)++stL A1 c1 xs1:=⟨_,rfl⟩;rw [← hD];refine J.open (List.Perm.swap _ _ _) (by intro h;rw [h] at hs;simp at hs) ?_;intro mb mo cap pre post hR;obtain ⟨hv,hpre,hle,hcap,hroom,_⟩:=hR;injection hv with hA _ hc;cases hA;cases hc
  by_cases hb1:300 < x.text.length
  · have e:stepOf m K ss x full=(m,0,3):=stepOf_err (by rw [hES,if_pos (.inl hb1)]) (by decide)
    rw [e]
    repeat (first|((first|(apply Lq.s;rfl)|apply PRun.s|(apply Lq.run;rfl;rfl;rfl;exact bsB)|(apply PRun.run;rfl;rfl;exact bsB));first|(apply op_ocell (φ:=is (str ss.name));rfl;exact bsM;exact cell_rfld mstrO.toTy (k:=0) hpre hs (show 0 < 4 by decide))|(apply op_ocell (φ:=is (.int .i64 ss.retain));rfl;exact bsM;exact cell_rfld mstrO.toTy (k:=1) hpre hs (show 1 < 4 by decide))|(apply op_ocell (φ:=sl strT.toTy ss.holds);rfl;exact bsM;exact cell_rfld mstrO.toTy (k:=2) hpre hs (show 2 < 4 by decide))|(apply op_ocell (φ:=is (.slice sa ss.recs.length sc));rfl;exact bsM;exact cell_rfld mstrO.toTy (k:=3) hpre hs (show 3 < 4 by decide))|(apply op_slen;rfl)|(exact bsO))|refine bsA ?_|(apply Lq.al;rfl;rfl;intro b)|(apply Open.cons;intro b)|refine bsC ?_)
    (refine J.ret ?_;(repeat (first|refine E.then_ret ?_|refine E.in_ret ?_)))
    refine E.close mstrO.toTy xs2 (b:=nb) (o:=no) (cap:=c2) (by first|exact List.Perm.refl _|exact List.Perm.swap _ _ _) hroom hle hcap (take_rowT mstrO.toTy hpre) ?_
    exact E.retR2 (G:=[]) rfl rfl rfl ⟨rfl,hmd⟩ (by rw [List.append_nil,hD];exact (List.Perm.swap _ _ _).trans (mdl_open hs).symm)
  by_cases hb2:ss.recs.length=64
  · have e:stepOf m K ss x full=(m,0,3):=stepOf_err (by rw [hES,if_pos (.inr hb2)]) (by decide)
    rw [e]
    repeat (first|((first|(apply Lq.s;rfl)|apply PRun.s|(apply Lq.run;rfl;rfl;rfl;exact bsB)|(apply PRun.run;rfl;rfl;exact bsB));first|(apply op_ocell (φ:=is (str ss.name));rfl;exact bsM;exact cell_rfld mstrO.toTy (k:=0) hpre hs (show 0 < 4 by decide))|(apply op_ocell (φ:=is (.int .i64 ss.retain));rfl;exact bsM;exact cell_rfld mstrO.toTy (k:=1) hpre hs (show 1 < 4 by decide))|(apply op_ocell (φ:=sl strT.toTy ss.holds);rfl;exact bsM;exact cell_rfld mstrO.toTy (k:=2) hpre hs (show 2 < 4 by decide))|(apply op_ocell (φ:=is (.slice sa ss.recs.length sc));rfl;exact bsM;exact cell_rfld mstrO.toTy (k:=3) hpre hs (show 3 < 4 by decide))|(apply op_slen;rfl)|(exact bsO))|refine bsA ?_|(apply Lq.al;rfl;rfl;intro b)|(apply Open.cons;intro b)|refine bsC ?_)
    (refine J.ret ?_;(repeat (first|refine E.then_ret ?_|refine E.in_ret ?_)))
    refine E.close mstrO.toTy xs2 (b:=nb) (o:=no) (cap:=c2) (by first|exact List.Perm.refl _|exact List.Perm.swap _ _ _) hroom hle hcap (take_rowT mstrO.toTy hpre) ?_
    exact E.retR2 (G:=[]) rfl rfl rfl ⟨rfl,hmd⟩ (by rw [List.append_nil,hD];exact (List.Perm.swap _ _ _).trans (mdl_open hs).symm)
  have hE0:errS ss m.cur.clock x=0:=by rw [hES,if_neg (by omega)]
  repeat (first|((first|(apply Lq.s;rfl)|apply PRun.s|(apply Lq.run;rfl;rfl;rfl;exact bsB)|(apply PRun.run;rfl;rfl;exact bsB));first|(apply op_ocell (φ:=is (str ss.name));rfl;exact bsM;exact cell_rfld mstrO.toTy (k:=0) hpre hs (show 0 < 4 by decide))|(apply op_ocell (φ:=is (.int .i64 ss.retain));rfl;exact bsM;exact cell_rfld mstrO.toTy (k:=1) hpre hs (show 1 < 4 by decide))|(apply op_ocell (φ:=sl strT.toTy ss.holds);rfl;exact bsM;exact cell_rfld mstrO.toTy (k:=2) hpre hs (show 2 < 4 by decide))|(apply op_ocell (φ:=is (.slice sa ss.recs.length sc));rfl;exact bsM;exact cell_rfld mstrO.toTy (k:=3) hpre hs (show 3 < 4 by decide))|(apply op_slen;rfl)|(exact bsO))|refine bsA ?_|(apply Lq.al;rfl;rfl;intro b)|(apply Open.cons;intro b)|refine bsC ?_)
  by_cases hd:errDone m.todo full=0
  · have e:stepOf m K ss x full=(updM m K { ss with recs:=ss.recs++[⟨m.cur.clock,x.text,false,leafH x.text⟩] },(ss.recs.length:Int),0):=by
      rw [stepOf_ok hE0 hd (by rw [hkind];decide),if_pos hkind];unfold resS;rw [if_pos hkind]
    rw [e]
    refine Lq.callS (Δ0:=[_]) (Δf:=own nb 79 _::row _ _ _ _::D) (mdone_ok full hd) rfl bsD (List.Perm.swap _ _ _) ?_
    rintro _ _ ⟨rfl,rfl⟩
    unfold mdC
    repeat (first|((first|(apply Lq.s;rfl)|apply PRun.s|(apply Lq.run;rfl;rfl;rfl;exact bsB)|(apply PRun.run;rfl;rfl;exact bsB));first|(exact bsO))|refine bsA ?_|(apply Lq.al;rfl;rfl;intro b)|(apply Open.cons;intro b)|refine bsC ?_)
    refine J.drawW1 (Δ:=own B 66 _::own nb 79 _::D) 17 [(none,none),(none,none),(none,none),(none,none),(none,none),(none,none),(none,none),(none,none),(none,none),(none,none),(none,none),(none,none),(none,none),(none,none),(none,none),(none,none),(some 0,some 44)] 0 (itemK (row (.slice sa ss.recs.length sc) 81 mrecT.toTy ss.recs)) rfl (permP [[_],[_],[_],_] [0,1,2,3] [2,0,1,3] (by decide)) mixed (by kernel_rfl) ?_
    repeat (first|((first|apply PRunW.s|(apply PRunW.run;rfl;rfl;exact bsB)|(apply Lq.s;rfl)|apply PRun.s|(apply Lq.run;rfl;rfl;rfl;exact bsB)|(apply PRun.run;rfl;rfl;exact bsB));first|(apply op_ocell (φ:=is (str ss.name));rfl;exact bsM;exact cell_rfld mstrO.toTy (k:=0) hpre hs (show 0 < 4 by decide))|(apply op_ocell (φ:=is (.int .i64 ss.retain));rfl;exact bsM;exact cell_rfld mstrO.toTy (k:=1) hpre hs (show 1 < 4 by decide))|(apply op_ocell (φ:=sl strT.toTy ss.holds);rfl;exact bsM;exact cell_rfld mstrO.toTy (k:=2) hpre hs (show 2 < 4 by decide))|(apply op_ocell (φ:=is (.slice sa ss.recs.length sc));rfl;exact bsM;exact cell_rfld mstrO.toTy (k:=3) hpre hs (show 3 < 4 by decide))|(apply op_ocell;rfl;exact bsM;rfl)|(apply op_slen;rfl)|(apply op_call (mleaf_fn x.text (by omega));exact bsD)|(apply op_mrec (r:=⟨m.cur.clock,x.text,false,leafH x.text⟩);rfl;rfl;rfl;rfl;rfl;rfl)|(apply op_bslice mrecT (xs:=[⟨m.cur.clock,x.text,false,leafH x.text⟩]);(repeat (first|exact PO.nil _|(apply PO.cons;rfl)));rfl;rfl;rfl)|(exact bsO))|refine bsA ?_|(apply Lq.al;rfl;rfl;intro b)|(apply Open.cons;intro b)|refine bsC ?_|apply PRunW.nil|(apply PRunW.al;rfl)|(apply PRunW.pass;rfl;rfl)|(apply PRunW.skip;rfl;rfl;exact bsB)|(apply Open.pv;intro b)|apply Open.av|(apply Open.rv;intro A c))
    (apply PRunW.apK (T:=mrecT) (xs:=ss.recs) (ys:=[⟨m.cur.clock,x.text,false,leafH x.text⟩]);rfl;rfl;rfl;exact (fun H w k=>⟨k,rfl⟩);(apply From.sl;rfl);rfl;rfl;(show _+1≤maxLen;unfold maxLen;omega);(show (_+1)*64≤_;omega))
    refine PRunW.nil (Open.rv fun A3 c3=>Open.nil ?_)
    obtain ⟨S',hS'⟩ : ∃ S':MStr,S'={ ss with recs:=ss.recs++[⟨m.cur.clock,x.text,false,leafH x.text⟩] }:=⟨_,rfl⟩
    rw [← hS']
    have hrr:S'.recs=ss.recs++[⟨m.cur.clock,x.text,false,leafH x.text⟩]:=by rw [hS']
    have hrl2:S'.recs.length=ss.recs.length+1:=by rw [hrr,List.length_append];rfl
    rw [← hrr]
    have hs2:(xs2.set K (S',A3,c3))[K]?=some (S',A3,c3):=List.getElem?_set_self hKl
    repeat (first|((first|(apply Lq.s;rfl)|apply PRun.s|(apply Lq.run;rfl;rfl;rfl;exact bsB)|(apply PRun.run;rfl;rfl;exact bsB));first|(exact bsO))|refine bsA ?_|(apply Lq.al;rfl;rfl;intro b)|(apply Open.cons;intro b)|refine bsC ?_)
    refine Lq.storeE (φs':=pre++flat mstrO.toTy (xs2.set K (S',A3,c3))++post) rfl rfl (permP [[_],[_],[_],_] [0,1,2,3] [2,0,1,3] (by decide)) (Seg.is rfl) rfl (room_rfld mstrO.toTy (k:=3) (n:=1) hpre hs (show 3+1≤4 by decide)) (set_rfld mstrO.toTy (post:=post) (v:=(S',A3,c3)) hpre hs (k:=3) (show 3+1≤4 by decide) (by rw [hS'];rfl)) ?_
    repeat (first|((first|(apply Lq.s;rfl)|apply PRun.s|(apply Lq.run;rfl;rfl;rfl;exact bsB)|(apply PRun.run;rfl;rfl;exact bsB));first|(apply op_ocell (φ:=is (.slice A3 S'.recs.length c3));rfl;exact bsM;exact cell_rfld mstrO.toTy (k:=3) hpre hs2 (show 3 < 4 by decide))|(apply op_slen;rfl)|(apply op_sub (c:=(ss.recs.length:Int));rfl;rfl;(rw [show (S'.recs.length:Int) - 1=(ss.recs.length:Int) by omega];apply wrapi <;> omega))|(exact bsO))|refine bsA ?_|(apply Lq.al;rfl;rfl;intro b)|(apply Open.cons;intro b)|refine bsC ?_)
    (refine J.ret ?_;(repeat (first|refine E.then_ret ?_|refine E.in_ret ?_)))
    refine E.close mstrO.toTy (xs2.set K (S',A3,c3)) (b:=nb) (o:=no) (cap:=c2) (List.Perm.refl _) (set_len' mstrO.toTy hroom) (by rw [List.length_set];exact hle) hcap (take_rowT mstrO.toTy hpre) ?_
    refine E.retR2 (Δ':=mdl B (updM m K S') A1 c1 xs1 (some ⟨nb,no,none⟩) c2 (xs2.set K (S',A3,c3))) (G:=[]) rfl rfl rfl ⟨rfl,_,_,_,_,_,_,fits_upd hf K (S',A3,c3),rfl⟩ ?_
    have:=mdl_put (B:=B) (m:=updM m K S') (A1:=A1) (c1:=c1) (xs1:=xs1) (A2:=some ⟨nb,no,none⟩) (c2:=c2) (S',A3,c3) hKl
    rw [List.append_nil]
    rw [List.length_set] at this ⊢
    refine List.Perm.trans ?_ this
    rw [hD]
    exact permP [[_],[_],[_],_] [0,1,2,3] [2,0,1,3] (by decide)
  · have e:stepOf m K ss x full=(m,0,errDone m.todo full):=stepOf_done hE0 hd
    rw [e]
    have hdb:=mdone_bad (B:=B) (m:=m) (A1:=A1) (n1:=xs1.length) (c1:=c1) (A2:=some ⟨nb,no,none⟩) (n2:=xs2.length) (c2:=c2) full hd
    refine Lq.callS (Δ0:=[_]) (Δf:=own nb 79 _::row _ _ _ _::D) hdb rfl bsD (List.Perm.swap _ _ _) ?_
    rintro _ _ ⟨rfl,rfl⟩
    generalize errDone m.todo full=ed at *
    repeat (first|((first|(apply Lq.s;rfl)|apply PRun.s|(apply Lq.run;rfl;rfl;rfl;exact bsB)|(apply PRun.run;rfl;rfl;exact bsB));first|(exact bsO))|refine bsA ?_|(apply Lq.al;rfl;rfl;intro b)|(apply Open.cons;intro b)|refine bsC ?_)
    (refine J.ret ?_;(repeat (first|refine E.then_ret ?_|refine E.in_ret ?_)))
    refine E.close mstrO.toTy xs2 (b:=nb) (o:=no) (cap:=c2) (by first|exact List.Perm.refl _|exact List.Perm.swap _ _ _) hroom hle hcap (take_rowT mstrO.toTy hpre) ?_
    exact E.retR2 (G:=[]) rfl rfl rfl ⟨rfl,hmd⟩ (by rw [List.append_nil,hD];exact (List.Perm.swap _ _ _).trans (mdl_open hs).symm)
set_option maxHeartbeats 4000000 in
theorem mretain_fnR {B:Nat} {m:MM} {A1:Option Addr} {c1:Nat} {xs1:List MO} {nb no c2:Nat} {xs2:List MO} {K:Nat} {ss:MStr} {sa:Option Addr} {sc:Nat} (x:StepS) (full:Bool) (hf:fits m xs1 xs2) (hk:MOk m) (hs:xs2[K]?=some (ss,sa,sc)) (hkind:x.kind=7) :
    FnR Tryd.prog 61 [is (.pointer (some ⟨B,0,none⟩)),is (.pointer (some ⟨nb,no+K*4,none⟩)),is (.int .i64 x.n),is (.bool full)] (mdl B m A1 c1 xs1 (some ⟨nb,no,none⟩) c2 xs2)
    (fun ψ Δ=>ψ=is (.int .i64 (stepOf m K ss x full).2.2)∧mdV B (stepOf m K ss x full).1 Δ):=by
  have hmd:mdV B m (mdl B m A1 c1 xs1 (some ⟨nb,no,none⟩) c2 xs2):=⟨A1,c1,xs1,_,c2,xs2,hf,rfl⟩
  obtain ⟨hl2,hg2⟩:=fits_g hf.2 hk.cur
  obtain ⟨hrl,hhl⟩:ss.recs.length≤1000∧ss.holds.length≤1000:=hg2 _ (List.mem_of_getElem? hs)
  have hKl:=(List.getElem?_eq_some_iff.1 hs).1
  have hso:StrOk ss:=hk.cur.2 ss (List.mem_of_getElem? (map_at hf.2 hs))
  have hES:errS ss m.cur.clock x=longerM ss.retain x.n:=by unfold errS;simp [hkind]
  have hlf:=longer_fn ss.retain x.n
  refine FnR.mk' 30 Tryd.func61 rfl rfl rfl rfl fun w0 H0=>?_
  refine J.perm (mdl_open hs) ?_;obtain ⟨D,hD⟩ : ∃ D,D=recsR (xs2.eraseIdx K)++stL A1 c1 xs1:=⟨_,rfl⟩;rw [← hD];refine J.open (List.Perm.swap _ _ _) (by intro h;rw [h] at hs;simp at hs) ?_;intro mb mo cap pre post hR;obtain ⟨hv,hpre,hle,hcap,hroom,_⟩:=hR;injection hv with hA _ hc;cases hA;cases hc
  by_cases hl0:longerM ss.retain x.n=0
  · have hE0:errS ss m.cur.clock x=0:=by rw [hES,hl0]
    rw [hl0] at hlf
    repeat (first|((first|(apply Lq.s;rfl)|apply PRun.s|(apply Lq.run;rfl;rfl;rfl;exact bsB)|(apply PRun.run;rfl;rfl;exact bsB));first|(apply op_ocell (φ:=is (str ss.name));rfl;exact bsM;exact cell_rfld mstrO.toTy (k:=0) hpre hs (show 0 < 4 by decide))|(apply op_ocell (φ:=is (.int .i64 ss.retain));rfl;exact bsM;exact cell_rfld mstrO.toTy (k:=1) hpre hs (show 1 < 4 by decide))|(apply op_ocell (φ:=sl strT.toTy ss.holds);rfl;exact bsM;exact cell_rfld mstrO.toTy (k:=2) hpre hs (show 2 < 4 by decide))|(apply op_ocell (φ:=is (.slice sa ss.recs.length sc));rfl;exact bsM;exact cell_rfld mstrO.toTy (k:=3) hpre hs (show 3 < 4 by decide))|(apply op_call hlf;exact bsD)|(exact bsO))|refine bsA ?_|(apply Lq.al;rfl;rfl;intro b)|(apply Open.cons;intro b)|refine bsC ?_)
    by_cases hd:errDone m.todo full=0
    · rw [stepOf_ok hE0 hd (by rw [hkind];decide)]
      refine Lq.callS (Δ0:=[_]) (Δf:=own nb 79 _::row _ _ _ _::D) (mdone_ok full hd) rfl bsD (List.Perm.swap _ _ _) ?_
      rintro _ _ ⟨rfl,rfl⟩
      obtain ⟨S',hS'⟩ : ∃ S':MStr,S'={ ss with retain:=x.n }:=⟨_,rfl⟩
      have hres:resS ss m.cur.clock x=S':=by rw [hS'];unfold resS;simp [hkind]
      rw [hres]
      repeat (first|((first|(apply Lq.s;rfl)|apply PRun.s|(apply Lq.run;rfl;rfl;rfl;exact bsB)|(apply PRun.run;rfl;rfl;exact bsB));first|(exact bsO))|refine bsA ?_|(apply Lq.al;rfl;rfl;intro b)|(apply Open.cons;intro b)|refine bsC ?_)
      refine Lq.storeE (φs':=pre++flat mstrO.toTy (xs2.set K (S',sa,sc))++post) rfl rfl (List.Perm.swap _ _ _) (Seg.is rfl) rfl (room_rfld mstrO.toTy (k:=1) (n:=1) hpre hs (show 1+1≤4 by decide)) (set_rfld mstrO.toTy (post:=post) (v:=(S',sa,sc)) hpre hs (k:=1) (show 1+1≤4 by decide) (by rw [hS'];rfl)) ?_
      repeat (first|((first|(apply Lq.s;rfl)|apply PRun.s|(apply Lq.run;rfl;rfl;rfl;exact bsB)|(apply PRun.run;rfl;rfl;exact bsB));first|(exact bsO))|refine bsA ?_|(apply Lq.al;rfl;rfl;intro b)|(apply Open.cons;intro b)|refine bsC ?_)
      (refine J.ret ?_;(repeat (first|refine E.then_ret ?_|refine E.in_ret ?_)))
      refine E.close mstrO.toTy (xs2.set K (S',sa,sc)) (b:=nb) (o:=no) (cap:=c2) (List.Perm.refl _) (set_len' mstrO.toTy hroom) (by rw [List.length_set];exact hle) hcap (take_rowT mstrO.toTy hpre) ?_
      refine E.retR1 (Δ':=mdl B (updM m K S') A1 c1 xs1 (some ⟨nb,no,none⟩) c2 (xs2.set K (S',sa,sc))) (G:=[]) rfl rfl ⟨rfl,_,_,_,_,_,_,fits_upd hf K (S',sa,sc),rfl⟩ ?_
      have:=mdl_put (B:=B) (m:=updM m K S') (A1:=A1) (c1:=c1) (xs1:=xs1) (A2:=some ⟨nb,no,none⟩) (c2:=c2) (S',sa,sc) hKl
      rw [List.append_nil]
      rw [List.length_set] at this ⊢
      refine List.Perm.trans ?_ this
      rw [hD,show S'.recs=ss.recs by rw [hS']]
      exact List.Perm.swap _ _ _
    · rw [stepOf_done hE0 hd]
      have hdb:=mdone_bad (B:=B) (m:=m) (A1:=A1) (n1:=xs1.length) (c1:=c1) (A2:=some ⟨nb,no,none⟩) (n2:=xs2.length) (c2:=c2) full hd
      refine Lq.callS (Δ0:=[_]) (Δf:=own nb 79 _::row _ _ _ _::D) hdb rfl bsD (List.Perm.swap _ _ _) ?_
      rintro _ _ ⟨rfl,rfl⟩
      generalize errDone m.todo full=ed at *
      repeat (first|((first|(apply Lq.s;rfl)|apply PRun.s|(apply Lq.run;rfl;rfl;rfl;exact bsB)|(apply PRun.run;rfl;rfl;exact bsB));first|(exact bsO))|refine bsA ?_|(apply Lq.al;rfl;rfl;intro b)|(apply Open.cons;intro b)|refine bsC ?_)
      (refine J.ret ?_;(repeat (first|refine E.then_ret ?_|refine E.in_ret ?_)))
      refine E.close mstrO.toTy xs2 (b:=nb) (o:=no) (cap:=c2) (by first|exact List.Perm.refl _|exact List.Perm.swap _ _ _) hroom hle hcap (take_rowT mstrO.toTy hpre) ?_
      exact E.retR1 (G:=[]) rfl rfl ⟨rfl,hmd⟩ (by rw [List.append_nil,hD];exact (List.Perm.swap _ _ _).trans (mdl_open hs).symm)
  · rw [stepOf_err hES hl0]
    generalize longerM ss.retain x.n=le at *
    repeat (first|((first|(apply Lq.s;rfl)|apply PRun.s|(apply Lq.run;rfl;rfl;rfl;exact bsB)|(apply PRun.run;rfl;rfl;exact bsB));first|(apply op_ocell (φ:=is (str ss.name));rfl;exact bsM;exact cell_rfld mstrO.toTy (k:=0) hpre hs (show 0 < 4 by decide))|(apply op_ocell (φ:=is (.int .i64 ss.retain));rfl;exact bsM;exact cell_rfld mstrO.toTy (k:=1) hpre hs (show 1 < 4 by decide))|(apply op_ocell (φ:=sl strT.toTy ss.holds);rfl;exact bsM;exact cell_rfld mstrO.toTy (k:=2) hpre hs (show 2 < 4 by decide))|(apply op_ocell (φ:=is (.slice sa ss.recs.length sc));rfl;exact bsM;exact cell_rfld mstrO.toTy (k:=3) hpre hs (show 3 < 4 by decide))|(apply op_call hlf;exact bsD)|(exact bsO))|refine bsA ?_|(apply Lq.al;rfl;rfl;intro b)|(apply Open.cons;intro b)|refine bsC ?_)
    (refine J.ret ?_;(repeat (first|refine E.then_ret ?_|refine E.in_ret ?_)))
    refine E.close mstrO.toTy xs2 (b:=nb) (o:=no) (cap:=c2) (by first|exact List.Perm.refl _|exact List.Perm.swap _ _ _) hroom hle hcap (take_rowT mstrO.toTy hpre) ?_
    exact E.retR1 (G:=[]) rfl rfl ⟨rfl,hmd⟩ (by rw [List.append_nil,hD];exact (List.Perm.swap _ _ _).trans (mdl_open hs).symm)
set_option maxHeartbeats 4000000 in
theorem mrelease_fnR {B:Nat} {m:MM} {A1:Option Addr} {c1:Nat} {xs1:List MO} {nb no c2:Nat} {xs2:List MO} {K:Nat} {ss:MStr} {sa:Option Addr} {sc:Nat} (x:StepS) (full:Bool) (hf:fits m xs1 xs2) (hk:MOk m) (hs:xs2[K]?=some (ss,sa,sc)) (hkind:x.kind=9) :
    FnR Tryd.prog 62 [is (.pointer (some ⟨B,0,none⟩)),is (.pointer (some ⟨nb,no+K*4,none⟩)),is (str x.text),is (.bool true),is (.bool full)] (mdl B m A1 c1 xs1 (some ⟨nb,no,none⟩) c2 xs2)
    (fun ψ Δ=>ψ=is (.int .i64 (stepOf m K ss x full).2.2)∧mdV B (stepOf m K ss x full).1 Δ):=by
  have hmd:mdV B m (mdl B m A1 c1 xs1 (some ⟨nb,no,none⟩) c2 xs2):=⟨A1,c1,xs1,_,c2,xs2,hf,rfl⟩
  obtain ⟨hl2,hg2⟩:=fits_g hf.2 hk.cur
  obtain ⟨hrl,hhl⟩:ss.recs.length≤1000∧ss.holds.length≤1000:=hg2 _ (List.mem_of_getElem? hs)
  have hKl:=(List.getElem?_eq_some_iff.1 hs).1
  have hso:StrOk ss:=hk.cur.2 ss (List.mem_of_getElem? (map_at hf.2 hs))
  have hES:errS ss m.cur.clock x=if x.text ∈ ss.holds then 0 else 143:=by unfold errS;simp [hkind]
  refine FnR.mk' 60 Tryd.func62 rfl rfl rfl rfl fun w0 H0=>?_
  refine J.perm (mdl_open hs) ?_;obtain ⟨D,hD⟩ : ∃ D,D=recsR (xs2.eraseIdx K)++stL A1 c1 xs1:=⟨_,rfl⟩;rw [← hD];refine J.open (List.Perm.swap _ _ _) (by intro h;rw [h] at hs;simp at hs) ?_;intro mb mo cap pre post hR;obtain ⟨hv,hpre,hle,hcap,hroom,_⟩:=hR;injection hv with hA _ hc;cases hA;cases hc
  by_cases hin:x.text ∈ ss.holds
  · have hE0:errS ss m.cur.clock x=0:=by rw [hES,if_pos hin]
    have hrm:=rem_ok ss.holds x.text (by omega) hso.2.2.1 hin
    repeat (first|((first|(apply Lq.s;rfl)|apply PRun.s|(apply Lq.run;rfl;rfl;rfl;exact bsB)|(apply PRun.run;rfl;rfl;exact bsB));first|(apply op_ocell (φ:=is (str ss.name));rfl;exact bsM;exact cell_rfld mstrO.toTy (k:=0) hpre hs (show 0 < 4 by decide))|(apply op_ocell (φ:=is (.int .i64 ss.retain));rfl;exact bsM;exact cell_rfld mstrO.toTy (k:=1) hpre hs (show 1 < 4 by decide))|(apply op_ocell (φ:=sl strT.toTy ss.holds);rfl;exact bsM;exact cell_rfld mstrO.toTy (k:=2) hpre hs (show 2 < 4 by decide))|(apply op_ocell (φ:=is (.slice sa ss.recs.length sc));rfl;exact bsM;exact cell_rfld mstrO.toTy (k:=3) hpre hs (show 3 < 4 by decide))|(apply op_call hrm;exact bsD)|(exact bsO))|refine bsA ?_|(apply Lq.al;rfl;rfl;intro b)|(apply Open.cons;intro b)|refine bsC ?_)
    by_cases hd:errDone m.todo full=0
    · rw [stepOf_ok hE0 hd (by rw [hkind];decide)]
      refine Lq.callS (Δ0:=[_]) (Δf:=own nb 79 _::row _ _ _ _::D) (mdone_ok full hd) rfl bsD (List.Perm.swap _ _ _) ?_
      rintro _ _ ⟨rfl,rfl⟩
      obtain ⟨S',hS'⟩ : ∃ S':MStr,S'={ ss with holds:=remM ss.holds x.text }:=⟨_,rfl⟩
      have hres:resS ss m.cur.clock x=S':=by rw [hS'];unfold resS;simp [hkind]
      rw [hres]
      repeat (first|((first|(apply Lq.s;rfl)|apply PRun.s|(apply Lq.run;rfl;rfl;rfl;exact bsB)|(apply PRun.run;rfl;rfl;exact bsB));first|(exact bsO))|refine bsA ?_|(apply Lq.al;rfl;rfl;intro b)|(apply Open.cons;intro b)|refine bsC ?_)
      refine Lq.storeE (φs':=pre++flat mstrO.toTy (xs2.set K (S',sa,sc))++post) rfl rfl (List.Perm.swap _ _ _) (Seg.sl) rfl (room_rfld mstrO.toTy (k:=2) (n:=1) hpre hs (show 2+1≤4 by decide)) (set_rfld mstrO.toTy (post:=post) (v:=(S',sa,sc)) hpre hs (k:=2) (show 2+1≤4 by decide) (by rw [hS'];rfl)) ?_
      repeat (first|((first|(apply Lq.s;rfl)|apply PRun.s|(apply Lq.run;rfl;rfl;rfl;exact bsB)|(apply PRun.run;rfl;rfl;exact bsB));first|(exact bsO))|refine bsA ?_|(apply Lq.al;rfl;rfl;intro b)|(apply Open.cons;intro b)|refine bsC ?_)
      (refine J.ret ?_;(repeat (first|refine E.then_ret ?_|refine E.in_ret ?_)))
      refine E.close mstrO.toTy (xs2.set K (S',sa,sc)) (b:=nb) (o:=no) (cap:=c2) (List.Perm.refl _) (set_len' mstrO.toTy hroom) (by rw [List.length_set];exact hle) hcap (take_rowT mstrO.toTy hpre) ?_
      refine E.retR1 (Δ':=mdl B (updM m K S') A1 c1 xs1 (some ⟨nb,no,none⟩) c2 (xs2.set K (S',sa,sc))) (G:=[]) rfl rfl ⟨rfl,_,_,_,_,_,_,fits_upd hf K (S',sa,sc),rfl⟩ ?_
      have:=mdl_put (B:=B) (m:=updM m K S') (A1:=A1) (c1:=c1) (xs1:=xs1) (A2:=some ⟨nb,no,none⟩) (c2:=c2) (S',sa,sc) hKl
      rw [List.append_nil]
      rw [List.length_set] at this ⊢
      refine List.Perm.trans ?_ this
      rw [hD,show S'.recs=ss.recs by rw [hS']]
      exact List.Perm.swap _ _ _
    · rw [stepOf_done hE0 hd]
      have hdb:=mdone_bad (B:=B) (m:=m) (A1:=A1) (n1:=xs1.length) (c1:=c1) (A2:=some ⟨nb,no,none⟩) (n2:=xs2.length) (c2:=c2) full hd
      refine Lq.callS (Δ0:=[_]) (Δf:=own nb 79 _::row _ _ _ _::D) hdb rfl bsD (List.Perm.swap _ _ _) ?_
      rintro _ _ ⟨rfl,rfl⟩
      generalize errDone m.todo full=ed at *
      repeat (first|((first|(apply Lq.s;rfl)|apply PRun.s|(apply Lq.run;rfl;rfl;rfl;exact bsB)|(apply PRun.run;rfl;rfl;exact bsB));first|(exact bsO))|refine bsA ?_|(apply Lq.al;rfl;rfl;intro b)|(apply Open.cons;intro b)|refine bsC ?_)
      (refine J.ret ?_;(repeat (first|refine E.then_ret ?_|refine E.in_ret ?_)))
      refine E.close mstrO.toTy xs2 (b:=nb) (o:=no) (cap:=c2) (by first|exact List.Perm.refl _|exact List.Perm.swap _ _ _) hroom hle hcap (take_rowT mstrO.toTy hpre) ?_
      exact E.retR1 (G:=[]) rfl rfl ⟨rfl,hmd⟩ (by rw [List.append_nil,hD];exact (List.Perm.swap _ _ _).trans (mdl_open hs).symm)
  · rw [stepOf_err (hES.trans (if_neg hin)) (by decide)]
    have hrm:=rem_bad ss.holds x.text (by omega) (.inr hin)
    repeat (first|((first|(apply Lq.s;rfl)|apply PRun.s|(apply Lq.run;rfl;rfl;rfl;exact bsB)|(apply PRun.run;rfl;rfl;exact bsB));first|(apply op_ocell (φ:=is (str ss.name));rfl;exact bsM;exact cell_rfld mstrO.toTy (k:=0) hpre hs (show 0 < 4 by decide))|(apply op_ocell (φ:=is (.int .i64 ss.retain));rfl;exact bsM;exact cell_rfld mstrO.toTy (k:=1) hpre hs (show 1 < 4 by decide))|(apply op_ocell (φ:=sl strT.toTy ss.holds);rfl;exact bsM;exact cell_rfld mstrO.toTy (k:=2) hpre hs (show 2 < 4 by decide))|(apply op_ocell (φ:=is (.slice sa ss.recs.length sc));rfl;exact bsM;exact cell_rfld mstrO.toTy (k:=3) hpre hs (show 3 < 4 by decide))|(apply op_call hrm;exact bsD)|(exact bsO))|refine bsA ?_|(apply Lq.al;rfl;rfl;intro b)|(apply Open.cons;intro b)|refine bsC ?_)
    (refine J.ret ?_;(repeat (first|refine E.then_ret ?_|refine E.in_ret ?_)))
    refine E.close mstrO.toTy xs2 (b:=nb) (o:=no) (cap:=c2) (by first|exact List.Perm.refl _|exact List.Perm.swap _ _ _) hroom hle hcap (take_rowT mstrO.toTy hpre) ?_
    exact E.retR1 (G:=[]) rfl rfl ⟨rfl,hmd⟩ (by rw [List.append_nil,hD];exact (List.Perm.swap _ _ _).trans (mdl_open hs).symm)
set_option maxHeartbeats 4000000 in
theorem mhold_fnR {B:Nat} {m:MM} {A1:Option Addr} {c1:Nat} {xs1:List MO} {nb no c2:Nat} {xs2:List MO} {K:Nat} {ss:MStr} {sa:Option Addr} {sc:Nat} (x:StepS) (full:Bool) (hf:fits m xs1 xs2) (hk:MOk m) (hs:xs2[K]?=some (ss,sa,sc)) (hkind:x.kind=8) :
    FnR Tryd.prog 62 [is (.pointer (some ⟨B,0,none⟩)),is (.pointer (some ⟨nb,no+K*4,none⟩)),is (str x.text),is (.bool false),is (.bool full)] (mdl B m A1 c1 xs1 (some ⟨nb,no,none⟩) c2 xs2)
    (fun ψ Δ=>ψ=is (.int .i64 (stepOf m K ss x full).2.2)∧mdV B (stepOf m K ss x full).1 Δ):=by
  have hmd:mdV B m (mdl B m A1 c1 xs1 (some ⟨nb,no,none⟩) c2 xs2):=⟨A1,c1,xs1,_,c2,xs2,hf,rfl⟩
  obtain ⟨hl2,hg2⟩:=fits_g hf.2 hk.cur
  obtain ⟨hrl,hhl⟩:ss.recs.length≤1000∧ss.holds.length≤1000:=hg2 _ (List.mem_of_getElem? hs)
  have hKl:=(List.getElem?_eq_some_iff.1 hs).1
  have hso:StrOk ss:=hk.cur.2 ss (List.mem_of_getElem? (map_at hf.2 hs))
  have hES:errS ss m.cur.clock x=if nameOk x.text then (if x.text ∈ ss.holds then 142 else if ss.holds.length=4 then 3 else 0) else 130:=by unfold errS;simp [hkind]
  have hnc:=ncheck_fn x.text
  refine FnR.mk' 60 Tryd.func62 rfl rfl rfl rfl fun w0 H0=>?_
  refine J.perm (mdl_open hs) ?_;obtain ⟨D,hD⟩ : ∃ D,D=recsR (xs2.eraseIdx K)++stL A1 c1 xs1:=⟨_,rfl⟩;rw [← hD];refine J.open (List.Perm.swap _ _ _) (by intro h;rw [h] at hs;simp at hs) ?_;intro mb mo cap pre post hR;obtain ⟨hv,hpre,hle,hcap,hroom,_⟩:=hR;injection hv with hA _ hc;cases hA;cases hc
  by_cases hin:x.text ∈ ss.holds
  · have hrm:=rem_ok ss.holds x.text (by omega) hso.2.2.1 hin
    have had:=add_bad ss.holds x.text (by omega) (.inr hin)
    cases hn:nameOk x.text with
    | false =>
      rw [nameE_bad hn] at hnc
      rw [hn,if_neg (by decide)] at hES
      rw [stepOf_err hES (by decide)]
      repeat (first|((first|(apply Lq.s;rfl)|apply PRun.s|(apply Lq.run;rfl;rfl;rfl;exact bsB)|(apply PRun.run;rfl;rfl;exact bsB));first|(apply op_ocell (φ:=is (str ss.name));rfl;exact bsM;exact cell_rfld mstrO.toTy (k:=0) hpre hs (show 0 < 4 by decide))|(apply op_ocell (φ:=is (.int .i64 ss.retain));rfl;exact bsM;exact cell_rfld mstrO.toTy (k:=1) hpre hs (show 1 < 4 by decide))|(apply op_ocell (φ:=sl strT.toTy ss.holds);rfl;exact bsM;exact cell_rfld mstrO.toTy (k:=2) hpre hs (show 2 < 4 by decide))|(apply op_ocell (φ:=is (.slice sa ss.recs.length sc));rfl;exact bsM;exact cell_rfld mstrO.toTy (k:=3) hpre hs (show 3 < 4 by decide))|(apply op_call hrm;exact bsD)|(apply op_call hnc;exact bsD)|(exact bsO))|refine bsA ?_|(apply Lq.al;rfl;rfl;intro b)|(apply Open.cons;intro b)|refine bsC ?_)
      (refine J.ret ?_;(repeat (first|refine E.then_ret ?_|refine E.in_ret ?_)))
      refine E.close mstrO.toTy xs2 (b:=nb) (o:=no) (cap:=c2) (by first|exact List.Perm.refl _|exact List.Perm.swap _ _ _) hroom hle hcap (take_rowT mstrO.toTy hpre) ?_
      exact E.retR1 (G:=[]) rfl rfl ⟨rfl,hmd⟩ (by rw [List.append_nil,hD];exact (List.Perm.swap _ _ _).trans (mdl_open hs).symm)
    | true =>
      rw [nameE_ok hn] at hnc
      rw [hn,if_pos rfl,if_pos hin] at hES
      rw [stepOf_err hES (by decide)]
      repeat (first|((first|(apply Lq.s;rfl)|apply PRun.s|(apply Lq.run;rfl;rfl;rfl;exact bsB)|(apply PRun.run;rfl;rfl;exact bsB));first|(apply op_ocell (φ:=is (str ss.name));rfl;exact bsM;exact cell_rfld mstrO.toTy (k:=0) hpre hs (show 0 < 4 by decide))|(apply op_ocell (φ:=is (.int .i64 ss.retain));rfl;exact bsM;exact cell_rfld mstrO.toTy (k:=1) hpre hs (show 1 < 4 by decide))|(apply op_ocell (φ:=sl strT.toTy ss.holds);rfl;exact bsM;exact cell_rfld mstrO.toTy (k:=2) hpre hs (show 2 < 4 by decide))|(apply op_ocell (φ:=is (.slice sa ss.recs.length sc));rfl;exact bsM;exact cell_rfld mstrO.toTy (k:=3) hpre hs (show 3 < 4 by decide))|(apply op_call hrm;exact bsD)|(apply op_call hnc;exact bsD)|(apply op_call had;exact bsD)|(exact bsO))|refine bsA ?_|(apply Lq.al;rfl;rfl;intro b)|(apply Open.cons;intro b)|refine bsC ?_)
      (refine J.ret ?_;(repeat (first|refine E.then_ret ?_|refine E.in_ret ?_)))
      refine E.close mstrO.toTy xs2 (b:=nb) (o:=no) (cap:=c2) (by first|exact List.Perm.refl _|exact List.Perm.swap _ _ _) hroom hle hcap (take_rowT mstrO.toTy hpre) ?_
      exact E.retR1 (G:=[]) rfl rfl ⟨rfl,hmd⟩ (by rw [List.append_nil,hD];exact (List.Perm.swap _ _ _).trans (mdl_open hs).symm)
  · have hrm:=rem_bad ss.holds x.text (by omega) (.inr hin)
    have had:=add_ok ss.holds x.text (by omega) hso.2.2.1 hin
    have hal:=addM_len ss.holds x.text
    cases hn:nameOk x.text with
    | false =>
      rw [nameE_bad hn] at hnc
      rw [hn,if_neg (by decide)] at hES
      rw [stepOf_err hES (by decide)]
      repeat (first|((first|(apply Lq.s;rfl)|apply PRun.s|(apply Lq.run;rfl;rfl;rfl;exact bsB)|(apply PRun.run;rfl;rfl;exact bsB));first|(apply op_ocell (φ:=is (str ss.name));rfl;exact bsM;exact cell_rfld mstrO.toTy (k:=0) hpre hs (show 0 < 4 by decide))|(apply op_ocell (φ:=is (.int .i64 ss.retain));rfl;exact bsM;exact cell_rfld mstrO.toTy (k:=1) hpre hs (show 1 < 4 by decide))|(apply op_ocell (φ:=sl strT.toTy ss.holds);rfl;exact bsM;exact cell_rfld mstrO.toTy (k:=2) hpre hs (show 2 < 4 by decide))|(apply op_ocell (φ:=is (.slice sa ss.recs.length sc));rfl;exact bsM;exact cell_rfld mstrO.toTy (k:=3) hpre hs (show 3 < 4 by decide))|(apply op_call hrm;exact bsD)|(apply op_call hnc;exact bsD)|(exact bsO))|refine bsA ?_|(apply Lq.al;rfl;rfl;intro b)|(apply Open.cons;intro b)|refine bsC ?_)
      (refine J.ret ?_;(repeat (first|refine E.then_ret ?_|refine E.in_ret ?_)))
      refine E.close mstrO.toTy xs2 (b:=nb) (o:=no) (cap:=c2) (by first|exact List.Perm.refl _|exact List.Perm.swap _ _ _) hroom hle hcap (take_rowT mstrO.toTy hpre) ?_
      exact E.retR1 (G:=[]) rfl rfl ⟨rfl,hmd⟩ (by rw [List.append_nil,hD];exact (List.Perm.swap _ _ _).trans (mdl_open hs).symm)
    | true =>
      rw [nameE_ok hn] at hnc
      rw [hn,if_pos rfl,if_neg hin] at hES
      by_cases h4:ss.holds.length=4
      · rw [if_pos h4] at hES
        rw [stepOf_err hES (by decide)]
        repeat (first|((first|(apply Lq.s;rfl)|apply PRun.s|(apply Lq.run;rfl;rfl;rfl;exact bsB)|(apply PRun.run;rfl;rfl;exact bsB));first|(apply op_ocell (φ:=is (str ss.name));rfl;exact bsM;exact cell_rfld mstrO.toTy (k:=0) hpre hs (show 0 < 4 by decide))|(apply op_ocell (φ:=is (.int .i64 ss.retain));rfl;exact bsM;exact cell_rfld mstrO.toTy (k:=1) hpre hs (show 1 < 4 by decide))|(apply op_ocell (φ:=sl strT.toTy ss.holds);rfl;exact bsM;exact cell_rfld mstrO.toTy (k:=2) hpre hs (show 2 < 4 by decide))|(apply op_ocell (φ:=is (.slice sa ss.recs.length sc));rfl;exact bsM;exact cell_rfld mstrO.toTy (k:=3) hpre hs (show 3 < 4 by decide))|(apply op_call hrm;exact bsD)|(apply op_call hnc;exact bsD)|(apply op_call had;exact bsD)|(apply op_len (xs:=addM ss.holds x.text);rfl)|(exact bsO))|refine bsA ?_|(apply Lq.al;rfl;rfl;intro b)|(apply Open.cons;intro b)|refine bsC ?_)
        (refine J.ret ?_;(repeat (first|refine E.then_ret ?_|refine E.in_ret ?_)))
        refine E.close mstrO.toTy xs2 (b:=nb) (o:=no) (cap:=c2) (by first|exact List.Perm.refl _|exact List.Perm.swap _ _ _) hroom hle hcap (take_rowT mstrO.toTy hpre) ?_
        exact E.retR1 (G:=[]) rfl rfl ⟨rfl,hmd⟩ (by rw [List.append_nil,hD];exact (List.Perm.swap _ _ _).trans (mdl_open hs).symm)
      · rw [if_neg h4] at hES
        have hE0:=hES
        have h4':=hso.2.1
        repeat (first|((first|(apply Lq.s;rfl)|apply PRun.s|(apply Lq.run;rfl;rfl;rfl;exact bsB)|(apply PRun.run;rfl;rfl;exact bsB));first|(apply op_ocell (φ:=is (str ss.name));rfl;exact bsM;exact cell_rfld mstrO.toTy (k:=0) hpre hs (show 0 < 4 by decide))|(apply op_ocell (φ:=is (.int .i64 ss.retain));rfl;exact bsM;exact cell_rfld mstrO.toTy (k:=1) hpre hs (show 1 < 4 by decide))|(apply op_ocell (φ:=sl strT.toTy ss.holds);rfl;exact bsM;exact cell_rfld mstrO.toTy (k:=2) hpre hs (show 2 < 4 by decide))|(apply op_ocell (φ:=is (.slice sa ss.recs.length sc));rfl;exact bsM;exact cell_rfld mstrO.toTy (k:=3) hpre hs (show 3 < 4 by decide))|(apply op_call hrm;exact bsD)|(apply op_call hnc;exact bsD)|(apply op_call had;exact bsD)|(apply op_len (xs:=addM ss.holds x.text);rfl)|(exact bsO))|refine bsA ?_|(apply Lq.al;rfl;rfl;intro b)|(apply Open.cons;intro b)|refine bsC ?_)
        by_cases hd:errDone m.todo full=0
        · rw [stepOf_ok hE0 hd (by rw [hkind];decide)]
          refine Lq.callS (Δ0:=[_]) (Δf:=own nb 79 _::row _ _ _ _::D) (mdone_ok full hd) rfl bsD (List.Perm.swap _ _ _) ?_
          rintro _ _ ⟨rfl,rfl⟩
          obtain ⟨S',hS'⟩ : ∃ S':MStr,S'={ ss with holds:=addM ss.holds x.text }:=⟨_,rfl⟩
          have hres:resS ss m.cur.clock x=S':=by rw [hS'];unfold resS;simp [hkind]
          rw [hres]
          repeat (first|((first|(apply Lq.s;rfl)|apply PRun.s|(apply Lq.run;rfl;rfl;rfl;exact bsB)|(apply PRun.run;rfl;rfl;exact bsB));first|(exact bsO))|refine bsA ?_|(apply Lq.al;rfl;rfl;intro b)|(apply Open.cons;intro b)|refine bsC ?_)
          refine Lq.storeE (φs':=pre++flat mstrO.toTy (xs2.set K (S',sa,sc))++post) rfl rfl (List.Perm.swap _ _ _) (Seg.sl) rfl (room_rfld mstrO.toTy (k:=2) (n:=1) hpre hs (show 2+1≤4 by decide)) (set_rfld mstrO.toTy (post:=post) (v:=(S',sa,sc)) hpre hs (k:=2) (show 2+1≤4 by decide) (by rw [hS'];rfl)) ?_
          repeat (first|((first|(apply Lq.s;rfl)|apply PRun.s|(apply Lq.run;rfl;rfl;rfl;exact bsB)|(apply PRun.run;rfl;rfl;exact bsB));first|(exact bsO))|refine bsA ?_|(apply Lq.al;rfl;rfl;intro b)|(apply Open.cons;intro b)|refine bsC ?_)
          (refine J.ret ?_;(repeat (first|refine E.then_ret ?_|refine E.in_ret ?_)))
          refine E.close mstrO.toTy (xs2.set K (S',sa,sc)) (b:=nb) (o:=no) (cap:=c2) (List.Perm.refl _) (set_len' mstrO.toTy hroom) (by rw [List.length_set];exact hle) hcap (take_rowT mstrO.toTy hpre) ?_
          refine E.retR1 (Δ':=mdl B (updM m K S') A1 c1 xs1 (some ⟨nb,no,none⟩) c2 (xs2.set K (S',sa,sc))) (G:=[]) rfl rfl ⟨rfl,_,_,_,_,_,_,fits_upd hf K (S',sa,sc),rfl⟩ ?_
          have:=mdl_put (B:=B) (m:=updM m K S') (A1:=A1) (c1:=c1) (xs1:=xs1) (A2:=some ⟨nb,no,none⟩) (c2:=c2) (S',sa,sc) hKl
          rw [List.append_nil]
          rw [List.length_set] at this ⊢
          refine List.Perm.trans ?_ this
          rw [hD,show S'.recs=ss.recs by rw [hS']]
          exact List.Perm.swap _ _ _
        · rw [stepOf_done hE0 hd]
          have hdb:=mdone_bad (B:=B) (m:=m) (A1:=A1) (n1:=xs1.length) (c1:=c1) (A2:=some ⟨nb,no,none⟩) (n2:=xs2.length) (c2:=c2) full hd
          refine Lq.callS (Δ0:=[_]) (Δf:=own nb 79 _::row _ _ _ _::D) hdb rfl bsD (List.Perm.swap _ _ _) ?_
          rintro _ _ ⟨rfl,rfl⟩
          generalize errDone m.todo full=ed at *
          repeat (first|((first|(apply Lq.s;rfl)|apply PRun.s|(apply Lq.run;rfl;rfl;rfl;exact bsB)|(apply PRun.run;rfl;rfl;exact bsB));first|(exact bsO))|refine bsA ?_|(apply Lq.al;rfl;rfl;intro b)|(apply Open.cons;intro b)|refine bsC ?_)
          (refine J.ret ?_;(repeat (first|refine E.then_ret ?_|refine E.in_ret ?_)))
          refine E.close mstrO.toTy xs2 (b:=nb) (o:=no) (cap:=c2) (by first|exact List.Perm.refl _|exact List.Perm.swap _ _ _) hroom hle hcap (take_rowT mstrO.toTy hpre) ?_
          exact E.retR1 (G:=[]) rfl rfl ⟨rfl,hmd⟩ (by rw [List.append_nil,hD];exact (List.Perm.swap _ _ _).trans (mdl_open hs).symm)
end Go.Proofs.YtljbbajelkkafaaDoor.L
