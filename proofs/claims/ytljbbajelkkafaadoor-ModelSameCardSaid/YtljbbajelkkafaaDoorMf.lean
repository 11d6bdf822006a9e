/-
  A stream's records,told,walked.
-/
import Derived.Test.YtljbbajelkkafaaDoorMe
namespace Go.Proofs.YtljbbajelkkafaaDoor.L
open Go
set_option linter.unusedSectionVars false
variable [Globs] [Has_sha_table] [Has_sha_begin]
set_option linter.unusedVariables false
theorem readM_bad {m:MM} {x:Str} {i:Int} (h:errFind m x ≠ 0):readM m x i=([],errFind m x):=by unfold readM;rw [if_neg h]
theorem readM_err {m:MM} {x:Str} {i:Int} (h:errFind m x=0) (h2:errRead (findS m x) i ≠ 0):readM m x i=([],errRead (findS m x) i):=by unfold readM;rw [if_pos h,if_neg h2]
theorem readM_ok {m:MM} {x:Str} {i:Int} (h:errFind m x=0) (h2:errRead (findS m x) i=0):readM m x i=(textAt (findS m x) i,0):=by unfold readM;rw [if_pos h,if_pos h2]
theorem errRead_range {s:MStr} {i:Int} (h:i < 0 ∨ (s.recs.length:Int)≤i):errRead s i=161:=by unfold errRead;rw [if_pos h]
theorem errRead_in {s:MStr} {k:Nat} {r:MRec} (h:s.recs[k]?=some r):errRead s (k:Int)=if r.shred then 162 else 0:=by
  have:=(List.getElem?_eq_some_iff.1 h).1
  unfold errRead
  rw [if_neg (by omega),Int.toNat_natCast,h]
theorem textAt_in {s:MStr} {k:Nat} {r:MRec} (h:s.recs[k]?=some r):textAt s (k:Int)=r.text:=by unfold textAt;rw [Int.toNat_natCast,h]
theorem liveM_step {l:List MRec} {i:Nat} {r:MRec} (h:l[i]?=some r):liveM (l.take (i+1))=liveM (l.take i)+(if r.shred then 0 else 1):=by
  unfold liveM
  rw [List.take_add_one,h,List.filter_append,List.length_append]
  cases hs:r.shred <;> simp [hs]
theorem liveM_le (l:List MRec):liveM l≤l.length:=List.length_filter_le _ _
set_option linter.unusedVariables false
set_option linter.unusedSimpArgs false
attribute [local irreducible] J Lq E OpP PRun is any agg tup ptr sl PRunW OpE
attribute [local irreducible] slt row leafH shaH recsR OpR stL mdl mdC
set_option maxHeartbeats 2000000 in
theorem mRead_fnR {B:Nat} {m:MM} {A1:Option Addr} {c1:Nat} {xs1:List MO} {A2:Option Addr} {c2:Nat} {xs2:List MO} (x:Str) (i:Int) (hf:fits m xs1 xs2) (hk:MOk m):FnR Tryd.prog 14 [is (.pointer (some ⟨B,0,none⟩)),is (str x),is (.int .i64 i)] (mdl B m A1 c1 xs1 A2 c2 xs2)
    (fun ψ Δ=>ψ=tup [is (str (readM m x i).1),is (.int .i64 (readM m x i).2)]∧Δ=mdl B m A1 c1 xs1 A2 c2 xs2):=by
  by_cases h:errFind m x=0
  · obtain ⟨⟨ss,sa,sc⟩,hs,hs1,hlt⟩:=find_x hf.2 (find_ok0 h).2
    dsimp only at hs1
    obtain ⟨hl2,hg2⟩:=fits_g hf.2 hk.cur
    have hrl:ss.recs.length≤1000:=(hg2 _ (List.mem_of_getElem? hs)).1
    by_cases hi0:i < 0
    · have he:errRead (findS m x) i=161:=errRead_range (.inl hi0)
      rw [readM_err h (by rw [he];decide),he]
      refine FnR.mk' 51 Tryd.func14 rfl rfl rfl rfl fun w0 H0=>?_
      repeat (first|((first|(apply Lq.s;rfl)|apply PRun.s|(apply Lq.run;rfl;rfl;rfl;exact bsB)|(apply PRun.run;rfl;rfl;exact bsB));first|(exact bsO))|refine bsA ?_|(apply Lq.al;rfl;rfl;intro b)|(apply Open.cons;intro b)|refine bsC ?_)
      refine Lq.callS (Δ0:=mdl B m A1 c1 xs1 A2 c2 xs2) (Δf:=[]) (mfind_ok x hf hk h) rfl bsD (by rw [List.append_nil]) ?_;rintro _ _ ⟨nb,no,rfl,rfl,rfl⟩;rw [List.append_nil];refine Lq.perm (mdl_open hs) ?_;obtain ⟨D,hD⟩ : ∃ D,D=recsR (xs2.eraseIdx (findN m.cur.streams x))++stL A1 c1 xs1:=⟨_,rfl⟩;rw [← hD];refine Lq.openM (List.Perm.swap _ _ _) (by intro h;rw [h] at hlt;simp at hlt) ?_;intro mb mo cap pre post hR;obtain ⟨hv,hpre,hle,hcap,hroom,_⟩:=hR;injection hv with hA _ hc;cases hA;cases hc
      repeat (first|((first|(apply Lq.s;rfl)|apply PRun.s|(apply Lq.run;rfl;rfl;rfl;exact bsB)|(apply PRun.run;rfl;rfl;exact bsB));first|(exact bsO))|refine bsA ?_|(apply Lq.al;rfl;rfl;intro b)|(apply Open.cons;intro b)|refine bsC ?_)
      (refine J.ret ?_;(repeat (first|refine E.then_ret ?_|refine E.in_ret ?_)))
      refine E.close mstrO.toTy xs2 (b:=nb) (o:=no) (cap:=c2) (List.Perm.refl _) hroom hle hcap (take_rowT mstrO.toTy hpre) ?_
      exact E.retR2 (G:=[]) rfl rfl rfl ⟨rfl,rfl⟩ (by rw [List.append_nil,hD];exact (List.Perm.swap _ _ _).trans (mdl_open hs).symm)
    by_cases hi1:(ss.recs.length:Int)≤i
    · have he:errRead (findS m x) i=161:=errRead_range (.inr (by rw [← hs1];exact hi1))
      rw [readM_err h (by rw [he];decide),he]
      refine FnR.mk' 51 Tryd.func14 rfl rfl rfl rfl fun w0 H0=>?_
      repeat (first|((first|(apply Lq.s;rfl)|apply PRun.s|(apply Lq.run;rfl;rfl;rfl;exact bsB)|(apply PRun.run;rfl;rfl;exact bsB));first|(exact bsO))|refine bsA ?_|(apply Lq.al;rfl;rfl;intro b)|(apply Open.cons;intro b)|refine bsC ?_)
      refine Lq.callS (Δ0:=mdl B m A1 c1 xs1 A2 c2 xs2) (Δf:=[]) (mfind_ok x hf hk h) rfl bsD (by rw [List.append_nil]) ?_;rintro _ _ ⟨nb,no,rfl,rfl,rfl⟩;rw [List.append_nil];refine Lq.perm (mdl_open hs) ?_;obtain ⟨D,hD⟩ : ∃ D,D=recsR (xs2.eraseIdx (findN m.cur.streams x))++stL A1 c1 xs1:=⟨_,rfl⟩;rw [← hD];refine Lq.openM (List.Perm.swap _ _ _) (by intro h;rw [h] at hlt;simp at hlt) ?_;intro mb mo cap pre post hR;obtain ⟨hv,hpre,hle,hcap,hroom,_⟩:=hR;injection hv with hA _ hc;cases hA;cases hc
      repeat (first|((first|(apply Lq.s;rfl)|apply PRun.s|(apply Lq.run;rfl;rfl;rfl;exact bsB)|(apply PRun.run;rfl;rfl;exact bsB));first|(apply op_ocell (φ:=is (.slice sa ss.recs.length sc));rfl;exact bsM;exact cell_rfld mstrO.toTy (k:=3) hpre hs (show 3 < 4 by decide))|(apply op_slen;rfl)|(exact bsO))|refine bsA ?_|(apply Lq.al;rfl;rfl;intro b)|(apply Open.cons;intro b)|refine bsC ?_)
      (refine J.ret ?_;(repeat (first|refine E.then_ret ?_|refine E.in_ret ?_)))
      refine E.close mstrO.toTy xs2 (b:=nb) (o:=no) (cap:=c2) (List.Perm.refl _) hroom hle hcap (take_rowT mstrO.toTy hpre) ?_
      exact E.retR2 (G:=[]) rfl rfl rfl ⟨rfl,rfl⟩ (by rw [List.append_nil,hD];exact (List.Perm.swap _ _ _).trans (mdl_open hs).symm)
    obtain ⟨k,rfl⟩ : ∃ k:Nat,i=k:=⟨i.toNat,by omega⟩
    obtain ⟨r,hr⟩ : ∃ r,ss.recs[k]?=some r:=⟨_,List.getElem?_eq_getElem (by omega)⟩
    have hr2:(findS m x).recs[k]?=some r:=by rw [← hs1];exact hr
    have he:=errRead_in hr2
    have htx:=textAt_in hr2
    cases hsh:r.shred with
    | true =>
      rw [hsh,if_pos rfl] at he
      rw [readM_err h (by rw [he];decide),he]
      refine FnR.mk' 51 Tryd.func14 rfl rfl rfl rfl fun w0 H0=>?_
      repeat (first|((first|(apply Lq.s;rfl)|apply PRun.s|(apply Lq.run;rfl;rfl;rfl;exact bsB)|(apply PRun.run;rfl;rfl;exact bsB));first|(exact bsO))|refine bsA ?_|(apply Lq.al;rfl;rfl;intro b)|(apply Open.cons;intro b)|refine bsC ?_)
      refine Lq.callS (Δ0:=mdl B m A1 c1 xs1 A2 c2 xs2) (Δf:=[]) (mfind_ok x hf hk h) rfl bsD (by rw [List.append_nil]) ?_;rintro _ _ ⟨nb,no,rfl,rfl,rfl⟩;rw [List.append_nil];refine Lq.perm (mdl_open hs) ?_;obtain ⟨D,hD⟩ : ∃ D,D=recsR (xs2.eraseIdx (findN m.cur.streams x))++stL A1 c1 xs1:=⟨_,rfl⟩;rw [← hD];refine Lq.openM (List.Perm.swap _ _ _) (by intro h;rw [h] at hlt;simp at hlt) ?_;intro mb mo cap pre post hR;obtain ⟨hv,hpre,hle,hcap,hroom,_⟩:=hR;injection hv with hA _ hc;cases hA;cases hc
      refine Lq.openM (permP [[_],[_],[_],_] [0,1,2,3] [2,0,1,3] (by decide)) (by intro h;rw [h] at hr;simp at hr) ?_;intro ob oo ocap pre2 post2 hR2;obtain ⟨hv2,hpre2,hle2,hcap2,hroom2,_⟩:=hR2;injection hv2 with hA2 _ hc2;cases hA2;cases hc2
      repeat (first|((first|(apply Lq.s;rfl)|apply PRun.s|(apply Lq.run;rfl;rfl;rfl;exact bsB)|(apply PRun.run;rfl;rfl;exact bsB));first|(apply op_ocell (φ:=is (.slice (some ⟨ob,oo,none⟩) ss.recs.length sc));rfl;exact bsM;exact cell_rfld mstrO.toTy (k:=3) hpre hs (show 3 < 4 by decide))|(apply op_slen;rfl)|(apply op_siaddr;rfl;rfl;omega;omega)|(apply op_ocell (φ:=is (.bool r.shred));rfl;exact bsM;rw [Int.toNat_natCast];exact cell_rfld mrecT.toTy (k:=2) hpre2 hr (show 2 < 35 by decide))|(apply op_ocell (φ:=is (str r.text));rfl;exact bsM;rw [Int.toNat_natCast];exact cell_rfld mrecT.toTy (k:=1) hpre2 hr (show 1 < 35 by decide))|(exact bsO))|refine bsA ?_|(apply Lq.al;rfl;rfl;intro b)|(apply Open.cons;intro b)|refine bsC ?_)
      rw [hsh]
      repeat (first|((first|(apply Lq.s;rfl)|apply PRun.s|(apply Lq.run;rfl;rfl;rfl;exact bsB)|(apply PRun.run;rfl;rfl;exact bsB));first|(apply op_ocell (φ:=is (.slice (some ⟨ob,oo,none⟩) ss.recs.length sc));rfl;exact bsM;exact cell_rfld mstrO.toTy (k:=3) hpre hs (show 3 < 4 by decide))|(apply op_slen;rfl)|(apply op_siaddr;rfl;rfl;omega;omega)|(apply op_ocell (φ:=is (.bool r.shred));rfl;exact bsM;rw [Int.toNat_natCast];exact cell_rfld mrecT.toTy (k:=2) hpre2 hr (show 2 < 35 by decide))|(apply op_ocell (φ:=is (str r.text));rfl;exact bsM;rw [Int.toNat_natCast];exact cell_rfld mrecT.toTy (k:=1) hpre2 hr (show 1 < 35 by decide))|(exact bsO))|refine bsA ?_|(apply Lq.al;rfl;rfl;intro b)|(apply Open.cons;intro b)|refine bsC ?_)
      (refine J.ret ?_;(repeat (first|refine E.then_ret ?_|refine E.in_ret ?_)))
      refine E.close mrecT.toTy ss.recs (b:=ob) (o:=oo) (cap:=sc) (List.Perm.refl _) hroom2 hle2 hcap2 (take_rowT mrecT.toTy hpre2) ?_
      refine E.close mstrO.toTy xs2 (b:=nb) (o:=no) (cap:=c2) (List.Perm.swap _ _ _) hroom hle hcap (take_rowT mstrO.toTy hpre) ?_
      exact E.retR2 (G:=[]) rfl rfl rfl ⟨rfl,rfl⟩ (by rw [List.append_nil,hD];exact (permP [[_],[_],[_],_] [0,1,2,3] [2,0,1,3] (by decide)).trans (mdl_open hs).symm)
    | false =>
      rw [hsh,if_neg (by decide)] at he
      rw [readM_ok h he,htx]
      refine FnR.mk' 51 Tryd.func14 rfl rfl rfl rfl fun w0 H0=>?_
      repeat (first|((first|(apply Lq.s;rfl)|apply PRun.s|(apply Lq.run;rfl;rfl;rfl;exact bsB)|(apply PRun.run;rfl;rfl;exact bsB));first|(exact bsO))|refine bsA ?_|(apply Lq.al;rfl;rfl;intro b)|(apply Open.cons;intro b)|refine bsC ?_)
      refine Lq.callS (Δ0:=mdl B m A1 c1 xs1 A2 c2 xs2) (Δf:=[]) (mfind_ok x hf hk h) rfl bsD (by rw [List.append_nil]) ?_;rintro _ _ ⟨nb,no,rfl,rfl,rfl⟩;rw [List.append_nil];refine Lq.perm (mdl_open hs) ?_;obtain ⟨D,hD⟩ : ∃ D,D=recsR (xs2.eraseIdx (findN m.cur.streams x))++stL A1 c1 xs1:=⟨_,rfl⟩;rw [← hD];refine Lq.openM (List.Perm.swap _ _ _) (by intro h;rw [h] at hlt;simp at hlt) ?_;intro mb mo cap pre post hR;obtain ⟨hv,hpre,hle,hcap,hroom,_⟩:=hR;injection hv with hA _ hc;cases hA;cases hc
      refine Lq.openM (permP [[_],[_],[_],_] [0,1,2,3] [2,0,1,3] (by decide)) (by intro h;rw [h] at hr;simp at hr) ?_;intro ob oo ocap pre2 post2 hR2;obtain ⟨hv2,hpre2,hle2,hcap2,hroom2,_⟩:=hR2;injection hv2 with hA2 _ hc2;cases hA2;cases hc2
      repeat (first|((first|(apply Lq.s;rfl)|apply PRun.s|(apply Lq.run;rfl;rfl;rfl;exact bsB)|(apply PRun.run;rfl;rfl;exact bsB));first|(apply op_ocell (φ:=is (.slice (some ⟨ob,oo,none⟩) ss.recs.length sc));rfl;exact bsM;exact cell_rfld mstrO.toTy (k:=3) hpre hs (show 3 < 4 by decide))|(apply op_slen;rfl)|(apply op_siaddr;rfl;rfl;omega;omega)|(apply op_ocell (φ:=is (.bool r.shred));rfl;exact bsM;rw [Int.toNat_natCast];exact cell_rfld mrecT.toTy (k:=2) hpre2 hr (show 2 < 35 by decide))|(apply op_ocell (φ:=is (str r.text));rfl;exact bsM;rw [Int.toNat_natCast];exact cell_rfld mrecT.toTy (k:=1) hpre2 hr (show 1 < 35 by decide))|(exact bsO))|refine bsA ?_|(apply Lq.al;rfl;rfl;intro b)|(apply Open.cons;intro b)|refine bsC ?_)
      rw [hsh]
      repeat (first|((first|(apply Lq.s;rfl)|apply PRun.s|(apply Lq.run;rfl;rfl;rfl;exact bsB)|(apply PRun.run;rfl;rfl;exact bsB));first|(apply op_ocell (φ:=is (.slice (some ⟨ob,oo,none⟩) ss.recs.length sc));rfl;exact bsM;exact cell_rfld mstrO.toTy (k:=3) hpre hs (show 3 < 4 by decide))|(apply op_slen;rfl)|(apply op_siaddr;rfl;rfl;omega;omega)|(apply op_ocell (φ:=is (.bool r.shred));rfl;exact bsM;rw [Int.toNat_natCast];exact cell_rfld mrecT.toTy (k:=2) hpre2 hr (show 2 < 35 by decide))|(apply op_ocell (φ:=is (str r.text));rfl;exact bsM;rw [Int.toNat_natCast];exact cell_rfld mrecT.toTy (k:=1) hpre2 hr (show 1 < 35 by decide))|(exact bsO))|refine bsA ?_|(apply Lq.al;rfl;rfl;intro b)|(apply Open.cons;intro b)|refine bsC ?_)
      (refine J.ret ?_;(repeat (first|refine E.then_ret ?_|refine E.in_ret ?_)))
      refine E.close mrecT.toTy ss.recs (b:=ob) (o:=oo) (cap:=sc) (List.Perm.refl _) hroom2 hle2 hcap2 (take_rowT mrecT.toTy hpre2) ?_
      refine E.close mstrO.toTy xs2 (b:=nb) (o:=no) (cap:=c2) (List.Perm.swap _ _ _) hroom hle hcap (take_rowT mstrO.toTy hpre) ?_
      exact E.retR2 (G:=[]) rfl rfl rfl ⟨rfl,rfl⟩ (by rw [List.append_nil,hD];exact (permP [[_],[_],[_],_] [0,1,2,3] [2,0,1,3] (by decide)).trans (mdl_open hs).symm)
  · rw [readM_bad h]
    have hfb:=mfind_bad (B:=B) (A1:=A1) (c1:=c1) (A2:=A2) (c2:=c2) x hf hk h
    generalize errFind m x=e at *
    refine FnR.mk' 51 Tryd.func14 rfl rfl rfl rfl fun w0 H0=>?_
    repeat (first|((first|(apply Lq.s;rfl)|apply PRun.s|(apply Lq.run;rfl;rfl;rfl;exact bsB)|(apply PRun.run;rfl;rfl;exact bsB));first|(exact bsO))|refine bsA ?_|(apply Lq.al;rfl;rfl;intro b)|(apply Open.cons;intro b)|refine bsC ?_)
    refine Lq.callS (Δ0:=mdl B m A1 c1 xs1 A2 c2 xs2) (Δf:=[]) hfb rfl bsD (by rw [List.append_nil]) ?_
    rintro _ _ ⟨rfl,rfl⟩
    rw [List.append_nil]
    repeat (first|((first|(apply Lq.s;rfl)|apply PRun.s|(apply Lq.run;rfl;rfl;rfl;exact bsB)|(apply PRun.run;rfl;rfl;exact bsB));first|(exact bsO))|refine bsA ?_|(apply Lq.al;rfl;rfl;intro b)|(apply Open.cons;intro b)|refine bsC ?_)
    (refine J.ret ?_;(repeat (first|refine E.then_ret ?_|refine E.in_ret ?_)))
    exact E.retR2 (G:=[]) rfl rfl rfl ⟨rfl,rfl⟩ (by rw [List.append_nil])
theorem stat_zero : ∀ H,All2 (fun (p q:Pr) => ∀ v,p.h H v→q.h H v) [is (str []),is (.int .i64 0),is (.slice none 0 0),is (.int .i64 0),is (.int .i64 0)] (statVT.cells zeroStat):=fun H=>⟨fun _ h=>h,fun _ h=>h,fun v h=>sl_nil H v h,fun _ h=>h,fun _ h=>h,trivial⟩
theorem statMM_bad {m:MM} {x:Str} (h:errFind m x ≠ 0):statMM m x=(zeroStat,errFind m x):=by unfold statMM;rw [if_neg h]
theorem statMM_ok {m:MM} {x:Str} (h:errFind m x=0):statMM m x=(statS (findS m x),0):=by unfold statMM;rw [if_pos h]
theorem hashesM_bad {m:MM} {x:Str} (h:errFind m x ≠ 0):hashesM m x=([],errFind m x):=by unfold hashesM;rw [if_neg h]
theorem hashesM_ok {m:MM} {x:Str} (h:errFind m x=0):hashesM m x=((findS m x).recs.map MRec.hash,0):=by unfold hashesM;rw [if_pos h]
set_option maxHeartbeats 2000000 in
theorem mStat_fnR {B:Nat} {m:MM} {A1:Option Addr} {c1:Nat} {xs1:List MO} {A2:Option Addr} {c2:Nat} {xs2:List MO} (x:Str) (hf:fits m xs1 xs2) (hk:MOk m):FnR Tryd.prog 25 [is (.pointer (some ⟨B,0,none⟩)),is (str x)] (mdl B m A1 c1 xs1 A2 c2 xs2)
    (fun ψ Δ=>ψ=tup [statVT.val (statMM m x).1,is (.int .i64 (statMM m x).2)]∧Δ=mdl B m A1 c1 xs1 A2 c2 xs2):=by
  by_cases h:errFind m x=0
  · obtain ⟨⟨ss,sa,sc⟩,hs,hs1,hlt⟩:=find_x hf.2 (find_ok0 h).2
    dsimp only at hs1
    obtain ⟨hl2,hg2⟩:=fits_g hf.2 hk.cur
    obtain ⟨hrl,hhl⟩:ss.recs.length≤1000∧ss.holds.length≤1000:=hg2 _ (List.mem_of_getElem? hs)
    rw [statMM_ok h, ← hs1]
    refine FnR.mk' 59 Tryd.func25 rfl rfl rfl rfl fun w0 H0=>?_
    repeat (first|((first|(apply Lq.s;rfl)|apply PRun.s|(apply Lq.run;rfl;rfl;rfl;exact bsB)|(apply PRun.run;rfl;rfl;exact bsB));first|(exact bsO))|refine bsA ?_|(apply Lq.al;rfl;rfl;intro b)|(apply Open.cons;intro b)|refine bsC ?_)
    refine Lq.callS (Δ0:=mdl B m A1 c1 xs1 A2 c2 xs2) (Δf:=[_]) (mfind_ok x hf hk h) rfl bsD (List.perm_append_comm (l₁:=[_])) ?_
    rintro _ _ ⟨nb,no,rfl,rfl,rfl⟩
    obtain ⟨D,hD⟩ : ∃ D,D=recsR (xs2.eraseIdx (findN m.cur.streams x))++stL A1 c1 xs1:=⟨_,rfl⟩
    refine Lq.perm (Δ':=own b 59 _::own B 66 _::row _ _ _ _::row _ _ _ _::D) (by
      rw [hD]
      exact ((mdl_open hs).append_right _).trans List.perm_append_comm) ?_
    refine Lq.openM (permP [[_],[_],[_],_] [0,1,2,3] [2,0,1,3] (by decide)) (by intro h;rw [h] at hlt;simp at hlt) ?_
    intro mb mo cap pre post hR
    obtain ⟨hv,hpre,hle,hcap,hroom,_⟩:=hR
    injection hv with hA _ hc
    cases hA;cases hc
    repeat (first|((first|(apply Lq.s;rfl)|apply PRun.s|(apply Lq.run;rfl;rfl;rfl;exact bsB)|(apply PRun.run;rfl;rfl;exact bsB));first|(exact bsO))|refine bsA ?_|(apply Lq.al;rfl;rfl;intro b)|(apply Open.cons;intro b)|refine bsC ?_)
    refine J.drawW 20 [(none,none),(none,none),(none,none),(none,none),(none,none),(none,none),(none,none),(none,none),(none,none),(none,none),(none,none),(none,none),(none,none),(none,none),(none,none),(none,none),(none,none),(none,none),(none,none),(none,some 8)] mixed (by kernel_rfl) ?_
    repeat (first|((first|apply PRunW.s|(apply PRunW.run;rfl;rfl;exact bsB)|(apply Lq.s;rfl)|apply PRun.s|(apply Lq.run;rfl;rfl;rfl;exact bsB)|(apply PRun.run;rfl;rfl;exact bsB));first|(apply op_ocell (φ:=is (str ss.name));rfl;exact bsM;exact cell_rfld mstrO.toTy (k:=0) hpre hs (show 0 < 4 by decide))|(apply op_ocell (φ:=is (.int .i64 ss.retain));rfl;exact bsM;exact cell_rfld mstrO.toTy (k:=1) hpre hs (show 1 < 4 by decide))|(apply op_ocell (φ:=sl strT.toTy ss.holds);rfl;exact bsM;exact cell_rfld mstrO.toTy (k:=2) hpre hs (show 2 < 4 by decide))|(apply op_ocell (φ:=is (.slice sa ss.recs.length sc));rfl;exact bsM;exact cell_rfld mstrO.toTy (k:=3) hpre hs (show 3 < 4 by decide))|(apply op_slen;rfl)|(apply op_call (sclone_fn ss.holds (by omega));exact bsD)|(exact bsO))|refine bsA ?_|(apply Lq.al;rfl;rfl;intro b)|(apply Open.cons;intro b)|refine bsC ?_|apply PRunW.nil|(apply PRunW.al;rfl)|(apply PRunW.pass;rfl;rfl)|(apply PRunW.skip;rfl;rfl;exact bsB)|(apply Open.pv;intro b)|apply Open.av|(apply Open.rv;intro A c))
    revert b
    intro tb
    revert b
    intro rb
    refine J.close mstrO.toTy xs2 (b:=nb) (o:=no) (cap:=c2) (Δ':=own tb 59 _::own rb 59 _::own B 66 _::row _ _ _ _::D) (List.Perm.swap _ _ _) hroom hle hcap (take_rowT mstrO.toTy hpre) ?_
    refine J.loop (fun k:Nat=>k≤ss.recs.length)
      (fun k=>[(4,is (.pointer (some ⟨rb,0,none⟩))),(8,is (.pointer (some ⟨tb,0,none⟩))),(43,is (.slice sa ss.recs.length sc)),(44,is (.int .i64 (ss.recs.length:Int))),(45,is (.int .i64 (k:Int)))])
      (fun k=>own tb 59 [is (str ss.name),is (.int .i64 ss.retain),sl strT.toTy ss.holds,is (.int .i64 (ss.recs.length:Int)),is (.int .i64 ((liveM (ss.recs.take k):Nat):Int))]::row (.slice (some ⟨nb,no,none⟩) xs2.length c2) 79 mstrO.toTy xs2::own rb 59 [is (str []),is (.int .i64 0),is (.slice none 0 0),is (.int .i64 0),is (.int .i64 0)]::own B 66 (mdC m A1 xs1.length c1 (some ⟨nb,no,none⟩) xs2.length c2)::row (.slice sa ss.recs.length sc) 81 mrecT.toTy ss.recs::D)
      (fun k=>ss.recs.length - k) 0 (Nat.zero_le _) ⟨(by repeat' (first|exact trivial|refine ⟨rfl,?_⟩)),[],by rw [List.append_nil];exact List.Perm.swap _ _ _⟩ ?_
    intro k hk0
    have hlv:=liveM_le (ss.recs.take k)
    rw [List.length_take] at hlv
    by_cases hlk:k < ss.recs.length
    · obtain ⟨r,hr⟩ : ∃ r,ss.recs[k]?=some r:=⟨_,List.getElem?_eq_getElem hlk⟩
      have hst:=liveM_step hr
      generalize hz:liveM (ss.recs.take (k+1))=z at *
      generalize liveM (ss.recs.take k)=y at *
      refine J.open (permP [[_],[_],[_],[_],[_],_] [0,1,2,3,4,5] [4,0,1,2,3,5] (by decide)) (by intro h;rw [h] at hlk;simp at hlk) ?_
      intro ob oo ocap pre2 post2 hR2
      obtain ⟨hv2,hpre2,hle2,hcap2,hroom2,_⟩:=hR2
      injection hv2 with hA2 _ hc2
      rw [hA2,hc2]
      repeat (first|((first|(apply Lq.s;rfl)|apply PRun.s|(apply Lq.run;rfl;rfl;rfl;exact bsB)|(apply PRun.run;rfl;rfl;exact bsB));first|(apply op_siaddr;rfl;rfl;omega;omega)|(apply op_oload mrecT (x:=r);rfl;exact bsM;exact at_row mrecT.toTy hpre2 (by rw [Int.toNat_natCast];exact hr))|(exact bsO))|refine bsA ?_|(apply Lq.al;rfl;rfl;intro b)|(apply Open.cons;intro b)|refine bsC ?_)
      (apply Lq.storeE (φs':=mrecT.cells r);rfl;rfl;exact List.Perm.refl _;exact Seg.val _ _;exact mrecT.len _;exact Nat.le_refl 35;exact splice_all (by rw [mrecT.len];rfl))
      repeat (first|((first|(apply Lq.s;rfl)|apply PRun.s|(apply Lq.run;rfl;rfl;rfl;exact bsB)|(apply PRun.run;rfl;rfl;exact bsB));first|(apply op_ocell;rfl;exact bsM;rfl)|(apply op_slen;rfl)|(exact bsO))|refine bsA ?_|(apply Lq.al;rfl;rfl;intro b)|(apply Open.cons;intro b)|refine bsC ?_)
      refine J.cond _ rfl (fun hb=>?_) (fun hb=>?_)
      · have hb:r.shred=false:=by simpa using hb
        rw [hb,if_neg (by decide)] at hst
        repeat (first|((first|(apply Lq.s;rfl)|apply PRun.s|(apply Lq.run;rfl;rfl;rfl;exact bsB)|(apply PRun.run;rfl;rfl;exact bsB));first|(apply op_ocell;rfl;exact bsM;rfl)|(apply op_slen;rfl)|(apply op_add (c:=(z:Int));rfl;rfl;(rw [show (y:Int)+1=(z:Int) by omega];apply wrapi <;> omega))|(apply op_add (c:=((k+1:Nat):Int));rfl;rfl;(rw [show (k:Int)+1=((k+1:Nat):Int) by omega];apply wrapi <;> omega))|(exact bsO))|refine bsA ?_|(apply Lq.al;rfl;rfl;intro b)|(apply Open.cons;intro b)|refine bsC ?_)
        refine E.close mrecT.toTy ss.recs (b:=ob) (o:=oo) (cap:=ocap) (Δ':=own tb 59 _::own _ 81 _::row _ _ _ _::own rb 59 _::own B 66 _::D) (permP [[_],[_],[_],_] [0,1,2,3] [2,0,1,3] (by decide)) hroom2 hle2 hcap2 (take_rowT mrecT.toTy hpre2) ?_
        exact E.again (k+1) (by omega) (by omega) ⟨(by repeat' (first|exact trivial|refine ⟨rfl,?_⟩)),[own _ 81 _],by
          rw [hz]
          exact permP [[_],[_],[_],[_],[_],[_],_] [0,1,2,3,4,5,6] [1,3,4,5,0,6,2] (by decide)⟩
      · have hb:r.shred=true:=by simpa using hb
        rw [hb,if_pos rfl,Nat.add_zero] at hst
        repeat (first|((first|(apply Lq.s;rfl)|apply PRun.s|(apply Lq.run;rfl;rfl;rfl;exact bsB)|(apply PRun.run;rfl;rfl;exact bsB));first|(apply op_ocell;rfl;exact bsM;rfl)|(apply op_slen;rfl)|(apply op_add (c:=((k+1:Nat):Int));rfl;rfl;(rw [show (k:Int)+1=((k+1:Nat):Int) by omega];apply wrapi <;> omega))|(exact bsO))|refine bsA ?_|(apply Lq.al;rfl;rfl;intro b)|(apply Open.cons;intro b)|refine bsC ?_)
        refine E.close mrecT.toTy ss.recs (b:=ob) (o:=oo) (cap:=ocap) (Δ':=own tb 59 _::own _ 81 _::row _ _ _ _::own rb 59 _::own B 66 _::D) (permP [[_],[_],[_],_] [0,1,2,3] [1,2,0,3] (by decide)) hroom2 hle2 hcap2 (take_rowT mrecT.toTy hpre2) ?_
        exact E.again (k+1) (by omega) (by omega) ⟨(by repeat' (first|exact trivial|refine ⟨rfl,?_⟩)),[own _ 81 _],by
          rw [hz,hst]
          exact permP [[_],[_],[_],[_],[_],[_],_] [0,1,2,3,4,5,6] [1,3,4,5,0,6,2] (by decide)⟩
    · obtain rfl:k=ss.recs.length:=by omega
      rw [List.take_length]
      repeat (first|((first|(apply Lq.s;rfl)|apply PRun.s|(apply Lq.run;rfl;rfl;rfl;exact bsB)|(apply PRun.run;rfl;rfl;exact bsB));first|(apply op_oload statVT (x:=statS ss);rfl;exact bsM;rfl)|(exact bsO))|refine bsA ?_|(apply Lq.al;rfl;rfl;intro b)|(apply Open.cons;intro b)|refine bsC ?_)
      (refine J.ret ?_;(repeat (first|refine E.then_ret ?_|refine E.in_ret ?_)))
      exact E.retRct statVT (x:=statS ss) (G:=[_,_]) rfl rfl rfl List.mem_cons_self rfl ⟨rfl,rfl⟩ (by
        refine (permP [[_],[_],[_],[_],[_],_] [0,1,2,3,4,5] [3,2,4,5,0,1] (by decide)).trans ?_
        have:=mdl_open (B:=B) (m:=m) (A1:=A1) (c1:=c1) (xs1:=xs1) (A2:=some ⟨nb,no,none⟩) (c2:=c2) hs
        rw [← hD] at this
        exact this.symm.append_right [_,_])
  · rw [statMM_bad h]
    have hfb:=mfind_bad (B:=B) (A1:=A1) (c1:=c1) (A2:=A2) (c2:=c2) x hf hk h
    generalize errFind m x=e at *
    refine FnR.mk' 59 Tryd.func25 rfl rfl rfl rfl fun w0 H0=>?_
    repeat (first|((first|(apply Lq.s;rfl)|apply PRun.s|(apply Lq.run;rfl;rfl;rfl;exact bsB)|(apply PRun.run;rfl;rfl;exact bsB));first|(exact bsO))|refine bsA ?_|(apply Lq.al;rfl;rfl;intro b)|(apply Open.cons;intro b)|refine bsC ?_)
    refine Lq.callS (Δ0:=mdl B m A1 c1 xs1 A2 c2 xs2) (Δf:=[_]) hfb rfl bsD (List.perm_append_comm (l₁:=[_])) ?_
    rintro _ _ ⟨rfl,rfl⟩
    refine Lq.perm (List.perm_append_comm (l₂:=[_])) ?_
    repeat (first|((first|(apply Lq.s;rfl)|apply PRun.s|(apply Lq.run;rfl;rfl;rfl;exact bsB)|(apply PRun.run;rfl;rfl;exact bsB));first|(exact bsO))|refine bsA ?_|(apply Lq.al;rfl;rfl;intro b)|(apply Open.cons;intro b)|refine bsC ?_)
    refine J.res1 (r':=own b 59 (statVT.cells zeroStat)) (List.Perm.refl _) (own_conv stat_zero) ?_
    (refine J.ret ?_;(repeat (first|refine E.then_ret ?_|refine E.in_ret ?_)))
    exact E.retRct statVT (x:=zeroStat) (G:=[_]) rfl rfl rfl List.mem_cons_self rfl ⟨rfl,rfl⟩ (List.perm_append_comm (l₁:=[_]))
theorem at_mrec (r:MRec):((mrecT.cells r).drop (0+3)).take hashT.sz=hashT.cells r.hash:=by
  show (hashT.cells r.hash).take 32=hashT.cells r.hash
  exact List.take_of_length_le (Nat.le_of_eq (hashT.len _))
set_option maxHeartbeats 2000000 in
theorem mHashes_fnR {B:Nat} {m:MM} {A1:Option Addr} {c1:Nat} {xs1:List MO} {A2:Option Addr} {c2:Nat} {xs2:List MO} (x:Str) (hf:fits m xs1 xs2) (hk:MOk m):FnR Tryd.prog 13 [is (.pointer (some ⟨B,0,none⟩)),is (str x)] (mdl B m A1 c1 xs1 A2 c2 xs2)
    (fun ψ Δ=>ψ=tup [sl hashT.toTy (hashesM m x).1,is (.int .i64 (hashesM m x).2)]∧Δ=mdl B m A1 c1 xs1 A2 c2 xs2):=by
  by_cases h:errFind m x=0
  · obtain ⟨⟨ss,sa,sc⟩,hs,hs1,hlt⟩:=find_x hf.2 (find_ok0 h).2
    dsimp only at hs1
    obtain ⟨hl2,hg2⟩:=fits_g hf.2 hk.cur
    obtain ⟨hrl,hhl⟩:ss.recs.length≤1000∧ss.holds.length≤1000:=hg2 _ (List.mem_of_getElem? hs)
    rw [hashesM_ok h, ← hs1]
    obtain ⟨HV,hHV⟩ : ∃ l,l=ss.recs.map MRec.hash:=⟨_,rfl⟩
    have hHl:HV.length=ss.recs.length:=by rw [hHV,List.length_map]
    rw [← hHV]
    refine FnR.mk' 36 Tryd.func13 rfl rfl rfl rfl fun w0 H0=>?_
    repeat (first|((first|(apply Lq.s;rfl)|apply PRun.s|(apply Lq.run;rfl;rfl;rfl;exact bsB)|(apply PRun.run;rfl;rfl;exact bsB));first|(exact bsO))|refine bsA ?_|(apply Lq.al;rfl;rfl;intro b)|(apply Open.cons;intro b)|refine bsC ?_)
    refine Lq.callS (Δ0:=mdl B m A1 c1 xs1 A2 c2 xs2) (Δf:=[]) (mfind_ok x hf hk h) rfl bsD (by rw [List.append_nil]) ?_;rintro _ _ ⟨nb,no,rfl,rfl,rfl⟩;rw [List.append_nil];refine Lq.perm (mdl_open hs) ?_;obtain ⟨D,hD⟩ : ∃ D,D=recsR (xs2.eraseIdx (findN m.cur.streams x))++stL A1 c1 xs1:=⟨_,rfl⟩;rw [← hD];refine Lq.openM (List.Perm.swap _ _ _) (by intro h;rw [h] at hlt;simp at hlt) ?_;intro mb mo cap pre post hR;obtain ⟨hv,hpre,hle,hcap,hroom,_⟩:=hR;injection hv with hA _ hc;cases hA;cases hc
    repeat (first|((first|(apply Lq.s;rfl)|apply PRun.s|(apply Lq.run;rfl;rfl;rfl;exact bsB)|(apply PRun.run;rfl;rfl;exact bsB));first|(apply op_ocell (φ:=is (.slice sa ss.recs.length sc));rfl;exact bsM;exact cell_rfld mstrO.toTy (k:=3) hpre hs (show 3 < 4 by decide))|(apply op_slen;rfl)|(exact bsO))|refine bsA ?_|(apply Lq.al;rfl;rfl;intro b)|(apply Open.cons;intro b)|refine bsC ?_)
    refine J.close mstrO.toTy xs2 (b:=nb) (o:=no) (cap:=c2) (List.Perm.refl _) hroom hle hcap (take_rowT mstrO.toTy hpre) ?_
    refine J.nilrow 37 hashT.toTy ?_
    refine J.loop (fun p:Nat × Option Addr × Nat=>p.1≤ss.recs.length)
      (fun p=>[(8,is (.slice p.2.1 (HV.take p.1).length p.2.2)),(23,is (.slice sa ss.recs.length sc)),(24,is (.int .i64 (ss.recs.length:Int))),(25,is (.int .i64 (p.1:Int)))])
      (fun p=>row (.slice p.2.1 (HV.take p.1).length p.2.2) 37 hashT.toTy (HV.take p.1)::row (.slice (some ⟨nb,no,none⟩) xs2.length c2) 79 mstrO.toTy xs2::own B 66 (mdC m A1 xs1.length c1 (some ⟨nb,no,none⟩) xs2.length c2)::row (.slice sa ss.recs.length sc) 81 mrecT.toTy ss.recs::D)
      (fun p=>ss.recs.length - p.1) (0,none,0) (Nat.zero_le _) (Sub.same (by repeat' (first|exact trivial|refine ⟨rfl,?_⟩))) ?_
    rintro ⟨k,A4,c4⟩ hk0
    dsimp only at hk0 ⊢
    have hHi:(HV.take k).length=k:=by rw [List.length_take];omega
    by_cases hlk:k < ss.recs.length
    · obtain ⟨r,hr⟩ : ∃ r,ss.recs[k]?=some r:=⟨_,List.getElem?_eq_getElem hlk⟩
      have hHx:HV.take k++[r.hash]=HV.take (k+1):=by rw [hHV];exact map_take_snoc MRec.hash hr
      refine J.open (permP [[_],[_],[_],[_],_] [0,1,2,3,4] [3,0,1,2,4] (by decide)) (by intro h;rw [h] at hlk;simp at hlk) ?_
      intro ob oo ocap pre2 post2 hR2
      obtain ⟨hv2,hpre2,hle2,hcap2,hroom2,_⟩:=hR2
      injection hv2 with hA2 _ hc2
      rw [hA2,hc2]
      repeat (first|((first|(apply Lq.s;rfl)|apply PRun.s|(apply Lq.run;rfl;rfl;rfl;exact bsB)|(apply PRun.run;rfl;rfl;exact bsB));first|(apply op_siaddr;rfl;rfl;omega;omega)|(apply op_oload mrecT (x:=r);rfl;exact bsM;exact at_row mrecT.toTy hpre2 (by rw [Int.toNat_natCast];exact hr))|(exact bsO))|refine bsA ?_|(apply Lq.al;rfl;rfl;intro b)|(apply Open.cons;intro b)|refine bsC ?_)
      (apply Lq.storeE (φs':=mrecT.cells r);rfl;rfl;exact List.Perm.refl _;exact Seg.val _ _;exact mrecT.len _;exact Nat.le_refl 35;exact splice_all (by rw [mrecT.len];rfl))
      repeat (first|((first|(apply Lq.s;rfl)|apply PRun.s|(apply Lq.run;rfl;rfl;rfl;exact bsB)|(apply PRun.run;rfl;rfl;exact bsB));first|(apply op_oload hashT (x:=r.hash);rfl;exact bsM;exact at_mrec r)|(apply op_bslice hashT (xs:=[r.hash]);(repeat (first|exact PO.nil _|(apply PO.cons;rfl)));rfl;rfl;rfl)|(exact bsO))|refine bsA ?_|(apply Lq.al;rfl;rfl;intro b)|(apply Open.cons;intro b)|refine bsC ?_)
      (apply Lq.append (T:=hashT) (xs:=HV.take k) (ys:=[r.hash]);rfl;exact permP [[_],[_],[_],_] [0,1,2,3] [2,0,1,3] (by decide);(apply From.sl;rfl);rfl;rfl;rfl;(show _+1≤maxLen;unfold maxLen;omega);(show (_+1)*32≤_;omega))
      intro A5 c5
      rw [hHx]
      repeat (first|((first|(apply Lq.s;rfl)|apply PRun.s|(apply Lq.run;rfl;rfl;rfl;exact bsB)|(apply PRun.run;rfl;rfl;exact bsB));first|(apply op_add (c:=((k+1:Nat):Int));rfl;rfl;(rw [show (k:Int)+1=((k+1:Nat):Int) by omega];apply wrapi <;> omega))|(exact bsO))|refine bsA ?_|(apply Lq.al;rfl;rfl;intro b)|(apply Open.cons;intro b)|refine bsC ?_)
      refine E.close mrecT.toTy ss.recs (b:=ob) (o:=oo) (cap:=ocap) (Δ':=row _ _ _ _::own _ 81 _::row _ _ _ _::own B 66 _::D) (permP [[_],[_],[_],_] [0,1,2,3] [2,0,1,3] (by decide)) hroom2 hle2 hcap2 (take_rowT mrecT.toTy hpre2) ?_
      exact E.again (k+1,A5,c5) (by dsimp only;omega) (by dsimp only;omega) ⟨(by repeat' (first|exact trivial|refine ⟨rfl,?_⟩)),[own _ 81 _],by
        dsimp only
        exact permP [[_],[_],[_],[_],[_],_] [0,1,2,3,4,5] [1,3,4,0,5,2] (by decide)⟩
    · obtain rfl:k=ss.recs.length:=by omega
      have hHt:HV.take ss.recs.length=HV:=List.take_of_length_le (by omega)
      rw [hHt]
      repeat (first|((first|(apply Lq.s;rfl)|apply PRun.s|(apply Lq.run;rfl;rfl;rfl;exact bsB)|(apply PRun.run;rfl;rfl;exact bsB));first|(exact bsO))|refine bsA ?_|(apply Lq.al;rfl;rfl;intro b)|(apply Open.cons;intro b)|refine bsC ?_)
      (refine J.ret ?_;(repeat (first|refine E.then_ret ?_|refine E.in_ret ?_)))
      refine E.freeze (T:=hashT.toTy) (xs:=HV) (e := 37) 4 rfl (List.Perm.refl _) ?_
      exact E.retR2 (G:=[]) rfl rfl rfl ⟨rfl,rfl⟩ (by rw [List.append_nil,hD];exact (List.Perm.swap _ _ _).trans (mdl_open hs).symm)
  · rw [hashesM_bad h]
    have hfb:=mfind_bad (B:=B) (A1:=A1) (c1:=c1) (A2:=A2) (c2:=c2) x hf hk h
    generalize errFind m x=e at *
    refine FnR.mk' 36 Tryd.func13 rfl rfl rfl rfl fun w0 H0=>?_
    repeat (first|((first|(apply Lq.s;rfl)|apply PRun.s|(apply Lq.run;rfl;rfl;rfl;exact bsB)|(apply PRun.run;rfl;rfl;exact bsB));first|(exact bsO))|refine bsA ?_|(apply Lq.al;rfl;rfl;intro b)|(apply Open.cons;intro b)|refine bsC ?_)
    refine Lq.callS (Δ0:=mdl B m A1 c1 xs1 A2 c2 xs2) (Δf:=[]) hfb rfl bsD (by rw [List.append_nil]) ?_
    rintro _ _ ⟨rfl,rfl⟩
    rw [List.append_nil]
    repeat (first|((first|(apply Lq.s;rfl)|apply PRun.s|(apply Lq.run;rfl;rfl;rfl;exact bsB)|(apply PRun.run;rfl;rfl;exact bsB));first|(exact bsO))|refine bsA ?_|(apply Lq.al;rfl;rfl;intro b)|(apply Open.cons;intro b)|refine bsC ?_)
    (refine J.ret ?_;(repeat (first|refine E.then_ret ?_|refine E.in_ret ?_)))
    refine E.conv 4 rfl (sl_nil (T:=hashT.toTy)) ?_
    exact E.retR2 (G:=[]) rfl rfl rfl ⟨rfl,rfl⟩ (by rw [List.append_nil])
end Go.Proofs.YtljbbajelkkafaaDoor.L
