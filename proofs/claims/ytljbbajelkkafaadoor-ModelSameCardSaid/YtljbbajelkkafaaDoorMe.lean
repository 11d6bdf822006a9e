/-
  What a model tells,walked.
-/
import Derived.Test.YtljbbajelkkafaaDoorMd
import Derived.Test.YtljbbajelkkafaaDoorMp
namespace Go.Proofs.YtljbbajelkkafaaDoor.L
open Go
set_option linter.unusedSectionVars false
variable [Globs] [Has_sha_table] [Has_sha_begin]
set_option linter.unusedVariables false
def viewM (m:MM):ViewV:=if m.mnt then m.cur.v else emptyV
def sureM (m:MM):ViewV:=if m.fmt then m.sure.v else emptyV
theorem viewM_t {m:MM} (h:m.mnt=true):viewM m=m.cur.v:=by unfold viewM;rw [h];rfl
theorem viewM_f {m:MM} (h:m.mnt=false):viewM m=emptyV:=by unfold viewM;rw [h];rfl
theorem sureM_t {m:MM} (h:m.fmt=true):sureM m=m.sure.v:=by unfold sureM;rw [h];rfl
theorem sureM_f {m:MM} (h:m.fmt=false):sureM m=emptyV:=by unfold sureM;rw [h];rfl
theorem fits_v {t:MSt} {xs:List MO} (h:xs.map (·.1)=t.streams):xs.map (fun x=>x.1.v)=t.v.streams:=by
  show _=t.streams.map MStr.v
  rw [← h,List.map_map];rfl
theorem fits_g {t:MSt} {xs:List MO} (h:xs.map (·.1)=t.streams) (hk:StOk t):xs.length≤8 ∧ ∀ x ∈ xs,x.1.recs.length≤1000∧x.1.holds.length≤1000:=by
  have hl:=map_len h
  refine ⟨by have:=hk.1;omega,fun x hx=>?_⟩
  have:x.1 ∈ t.streams:=by rw [← h];exact List.mem_map.2 ⟨x,hx,rfl⟩
  obtain ⟨h1,h2,_⟩:=hk.2 _ this
  omega
theorem view_nil : ∀ H,All2 (fun (p q:Pr) => ∀ v,p.h H v→q.h H v) [is (.int .i64 0),is (.slice none 0 0)] (viewT.cells emptyV):=fun H=>⟨fun _ h=>h,fun v h=>sl_nil H v h,trivial⟩
theorem mdl_eq (B:Nat) (m:MM) (A1:Option Addr) (c1:Nat) (xs1:List MO) (A2:Option Addr) (c2:Nat) (xs2:List MO):mdl B m A1 c1 xs1 A2 c2 xs2=own B 66 (mdC m A1 xs1.length c1 A2 xs2.length c2)::row (.slice A2 xs2.length c2) 79 mstrO.toTy xs2::(recsR xs2++stL A1 c1 xs1):=rfl
/-- The stream that is looked at, taken out. -/
theorem mdl_open {B:Nat} {m:MM} {A1:Option Addr} {c1:Nat} {xs1:List MO} {A2:Option Addr} {c2:Nat} {xs2:List MO} {k:Nat} {s:MO} (h:xs2[k]?=some s) :
    (mdl B m A1 c1 xs1 A2 c2 xs2).Perm (own B 66 (mdC m A1 xs1.length c1 A2 xs2.length c2)::row (.slice A2 xs2.length c2) 79 mstrO.toTy xs2::row (.slice s.2.1 s.1.recs.length s.2.2) 81 mrecT.toTy s.1.recs::(recsR (xs2.eraseIdx k)++stL A1 c1 xs1)):=by
  unfold mdl stL
  refine (List.Perm.append_left [_,_] ((recsR_pick h).append_right _)).trans ?_
  exact List.Perm.refl _
theorem mdl_put {B:Nat} {m:MM} {A1:Option Addr} {c1:Nat} {xs1:List MO} {A2:Option Addr} {c2:Nat} {xs2:List MO} {k:Nat} (s:MO) (h:k < xs2.length) :
    (own B 66 (mdC m A1 xs1.length c1 A2 (xs2.set k s).length c2)::row (.slice A2 (xs2.set k s).length c2) 79 mstrO.toTy (xs2.set k s)::row (.slice s.2.1 s.1.recs.length s.2.2) 81 mrecT.toTy s.1.recs::(recsR (xs2.eraseIdx k)++stL A1 c1 xs1)).Perm (mdl B m A1 c1 xs1 A2 c2 (xs2.set k s)):=by
  unfold mdl stL
  refine List.Perm.trans ?_ (List.Perm.append_left [_,_] ((recsR_put s h).append_right _)).symm
  exact List.Perm.refl _
/-- The stream of a name. -/
theorem find_x {m:MM} {x:Str} {xs2:List MO} (hf:xs2.map (·.1)=m.cur.streams) (h:hasN m.cur.streams x=true) : ∃ s,xs2[findN m.cur.streams x]?=some s∧s.1=findS m x∧findN m.cur.streams x < xs2.length:=by
  have:=(findS_mem h).2.1
  obtain ⟨s,h1,h2⟩:=map_at' hf this
  exact ⟨s,h1,h2,(List.getElem?_eq_some_iff.1 h1).1⟩
set_option linter.unusedVariables false
set_option linter.unusedSimpArgs false
attribute [local irreducible] J Lq E OpP PRun is any agg tup ptr sl PRunW OpE
attribute [local irreducible] slt row leafH shaH recsR OpR stL mdl mdC
theorem mnew_fnR:FnR Tryd.prog 10 [] [] (fun ψ Δ => ∃ B,ψ=is (.pointer (some ⟨B,0,none⟩))∧mdV B newMM Δ):=by
  refine FnR.mk' 3 Tryd.func10 rfl rfl rfl rfl fun w0 H0=>?_
  refine J.nilrow 79 mstrO.toTy ?_
  refine J.nilrow 79 mstrO.toTy ?_
  repeat (first|((first|(apply Lq.s;rfl)|apply PRun.s|(apply Lq.run;rfl;rfl;rfl;exact bsB)|(apply PRun.run;rfl;rfl;exact bsB));first|(exact bsO))|refine bsA ?_|(apply Lq.al;rfl;rfl;intro b)|(apply Open.cons;intro b)|refine bsC ?_)
  refine Lq.box rfl rfl Seg.agg ?_
  intro B
  repeat (first|((first|(apply Lq.s;rfl)|apply PRun.s|(apply Lq.run;rfl;rfl;rfl;exact bsB)|(apply PRun.run;rfl;rfl;exact bsB));first|(exact bsO))|refine bsA ?_|(apply Lq.al;rfl;rfl;intro b)|(apply Open.cons;intro b)|refine bsC ?_)
  (refine J.ret ?_;(repeat (first|refine E.then_ret ?_|refine E.in_ret ?_)))
  refine E.retR1 (Δ':=mdl B newMM none 0 [] none 0 []) (G:=[]) rfl rfl ⟨B,rfl,none,0,[],none,0,[],⟨rfl,rfl⟩,rfl⟩ ?_
  rw [List.append_nil]
  unfold mdl stL mdC recsR
  exact List.Perm.refl _
theorem mnone_fnR (B:Nat) (φs:List Pr) (h:φs[0]?=some (is (.bool true))):FnR Tryd.prog 30 [is (.pointer (some ⟨B,0,none⟩))] [own B 66 φs] (fun ψ Δ=>ψ=is (.bool false)∧Δ=[own B 66 φs]):=by
  refine FnR.mk' 12 Tryd.func30 rfl rfl rfl rfl fun w0 H0=>?_
  repeat (first|((first|(apply Lq.s;rfl)|apply PRun.s|(apply Lq.run;rfl;rfl;rfl;exact bsB)|(apply PRun.run;rfl;rfl;exact bsB));first|(apply op_peq;rfl;rfl)|(apply op_ocell (φ:=is (.bool true));rfl;exact bsM;exact h)|(exact bsO))|refine bsA ?_|(apply Lq.al;rfl;rfl;intro b)|(apply Open.cons;intro b)|refine bsC ?_)
  (refine J.ret ?_;(repeat (first|refine E.then_ret ?_|refine E.in_ret ?_)))
  exact E.retR1 (G:=[]) rfl rfl ⟨rfl,rfl⟩ (List.Perm.refl _)
set_option maxHeartbeats 1000000 in
theorem mView_fnR {B:Nat} {m:MM} {A1:Option Addr} {c1:Nat} {xs1:List MO} {A2:Option Addr} {c2:Nat} {xs2:List MO} (hf:fits m xs1 xs2) (hk:MOk m):FnR Tryd.prog 17 [is (.pointer (some ⟨B,0,none⟩))] (mdl B m A1 c1 xs1 A2 c2 xs2)
    (fun ψ Δ=>ψ=tup [viewT.val (viewM m),is (.bool m.mnt)]∧Δ=mdl B m A1 c1 xs1 A2 c2 xs2):=by
  obtain ⟨hl2,hg2⟩:=fits_g hf.2 hk.cur
  have hv:=mview_fnR m.cur.clock A2 c2 xs2 (by omega) hg2
  rw [fits_v hf.2] at hv
  refine FnR.mk' 19 Tryd.func17 rfl rfl rfl rfl fun w0 H0=>?_
  unfold mdl
  generalize stL A1 c1 xs1=D1
  generalize stL A2 c2 xs2=D2 at hv ⊢
  generalize xs1.length=n1
  generalize xs2.length=n2 at hv ⊢
  unfold mdC
  repeat (first|((first|(apply Lq.s;rfl)|apply PRun.s|(apply Lq.run;rfl;rfl;rfl;exact bsB)|(apply PRun.run;rfl;rfl;exact bsB));first|(exact bsO))|refine bsA ?_|(apply Lq.al;rfl;rfl;intro b)|(apply Open.cons;intro b)|refine bsC ?_)
  refine Lq.callS (Δ0:=[_]) (Δf:=own b 45 _::(D2++D1)) (mnone_fnR B _ rfl) rfl bsD (List.Perm.swap _ _ _) ?_
  rintro _ _ ⟨rfl,rfl⟩
  cases hm:m.mnt with
  | false =>
    rw [viewM_f hm]
    repeat (first|((first|(apply Lq.s;rfl)|apply PRun.s|(apply Lq.run;rfl;rfl;rfl;exact bsB)|(apply PRun.run;rfl;rfl;exact bsB));first|(apply op_ocell;rfl;exact bsM;rfl)|(apply op_slen;rfl)|(exact bsO))|refine bsA ?_|(apply Lq.al;rfl;rfl;intro b)|(apply Open.cons;intro b)|refine bsC ?_)
    refine J.res1 (r':=own b 45 (viewT.cells emptyV)) (List.Perm.refl _) (own_conv view_nil) ?_
    (refine J.ret ?_;(repeat (first|refine E.then_ret ?_|refine E.in_ret ?_)))
    exact E.retRct viewT (x:=emptyV) (G:=[_]) rfl rfl rfl List.mem_cons_self rfl ⟨rfl,rfl⟩ (List.perm_append_comm (l₁:=[_]))
  | true =>
    rw [viewM_t hm]
    repeat (first|((first|(apply Lq.s;rfl)|apply PRun.s|(apply Lq.run;rfl;rfl;rfl;exact bsB)|(apply PRun.run;rfl;rfl;exact bsB));first|(apply op_ocell;rfl;exact bsM;rfl)|(apply op_slen;rfl)|(apply op_oload (stO A2 n2 c2) (x:=m.cur.clock);rfl;exact bsM;rfl)|(exact bsO))|refine bsA ?_|(apply Lq.al;rfl;rfl;intro b)|(apply Open.cons;intro b)|refine bsC ?_)
    refine Lq.callS (Δ0:=D2) (Δf:=own B 66 _::own b 45 _::D1) hv rfl bsD (permP [[_],[_],_,_] [0,1,2,3] [2,0,1,3] (by decide)) ?_
    rintro _ D3 ⟨rfl,hD3⟩
    rw [hD3]
    clear hD3 D3
    refine Lq.perm (permP [D2,[_],[_],D1] [0,1,2,3] [2,1,0,3] (by decide)) ?_
    repeat (first|((first|(apply Lq.s;rfl)|apply PRun.s|(apply Lq.run;rfl;rfl;rfl;exact bsB)|(apply PRun.run;rfl;rfl;exact bsB));first|(exact bsO))|refine bsA ?_|(apply Lq.al;rfl;rfl;intro b)|(apply Open.cons;intro b)|refine bsC ?_)
    (refine J.ret ?_;(repeat (first|refine E.then_ret ?_|refine E.in_ret ?_)))
    exact E.retRct viewT (x:=m.cur.v) (Δ':=own B 66 _::(D2++D1)) (G:=[_]) rfl rfl rfl List.mem_cons_self rfl ⟨rfl,rfl⟩ (List.perm_append_comm (l₁:=[_]))
set_option maxHeartbeats 1000000 in
theorem mSure_fnR {B:Nat} {m:MM} {A1:Option Addr} {c1:Nat} {xs1:List MO} {A2:Option Addr} {c2:Nat} {xs2:List MO} (hf:fits m xs1 xs2) (hk:MOk m):FnR Tryd.prog 18 [is (.pointer (some ⟨B,0,none⟩))] (mdl B m A1 c1 xs1 A2 c2 xs2)
    (fun ψ Δ=>ψ=tup [viewT.val (sureM m),is (.bool m.fmt)]∧Δ=mdl B m A1 c1 xs1 A2 c2 xs2):=by
  obtain ⟨hl2,hg2⟩:=fits_g hf.1 hk.sure
  have hv:=mview_fnR m.sure.clock A1 c1 xs1 (by omega) hg2
  rw [fits_v hf.1] at hv
  refine FnR.mk' 19 Tryd.func18 rfl rfl rfl rfl fun w0 H0=>?_
  unfold mdl
  generalize stL A2 c2 xs2=D1
  generalize stL A1 c1 xs1=D2 at hv ⊢
  generalize xs2.length=n1
  generalize xs1.length=n2 at hv ⊢
  unfold mdC
  repeat (first|((first|(apply Lq.s;rfl)|apply PRun.s|(apply Lq.run;rfl;rfl;rfl;exact bsB)|(apply PRun.run;rfl;rfl;exact bsB));first|(exact bsO))|refine bsA ?_|(apply Lq.al;rfl;rfl;intro b)|(apply Open.cons;intro b)|refine bsC ?_)
  refine Lq.callS (Δ0:=[_]) (Δf:=own b 45 _::(D1++D2)) (mnone_fnR B _ rfl) rfl bsD (List.Perm.swap _ _ _) ?_
  rintro _ _ ⟨rfl,rfl⟩
  cases hm:m.fmt with
  | false =>
    rw [sureM_f hm]
    repeat (first|((first|(apply Lq.s;rfl)|apply PRun.s|(apply Lq.run;rfl;rfl;rfl;exact bsB)|(apply PRun.run;rfl;rfl;exact bsB));first|(apply op_ocell;rfl;exact bsM;rfl)|(apply op_slen;rfl)|(exact bsO))|refine bsA ?_|(apply Lq.al;rfl;rfl;intro b)|(apply Open.cons;intro b)|refine bsC ?_)
    refine J.res1 (r':=own b 45 (viewT.cells emptyV)) (List.Perm.refl _) (own_conv view_nil) ?_
    (refine J.ret ?_;(repeat (first|refine E.then_ret ?_|refine E.in_ret ?_)))
    exact E.retRct viewT (x:=emptyV) (G:=[_]) rfl rfl rfl List.mem_cons_self rfl ⟨rfl,rfl⟩ (List.perm_append_comm (l₁:=[_]))
  | true =>
    rw [sureM_t hm]
    repeat (first|((first|(apply Lq.s;rfl)|apply PRun.s|(apply Lq.run;rfl;rfl;rfl;exact bsB)|(apply PRun.run;rfl;rfl;exact bsB));first|(apply op_ocell;rfl;exact bsM;rfl)|(apply op_slen;rfl)|(apply op_oload (stO A1 n2 c1) (x:=m.sure.clock);rfl;exact bsM;rfl)|(exact bsO))|refine bsA ?_|(apply Lq.al;rfl;rfl;intro b)|(apply Open.cons;intro b)|refine bsC ?_)
    refine Lq.callS (Δ0:=D2) (Δf:=own B 66 _::own b 45 _::D1) hv rfl bsD (permP [[_],[_],_,_] [0,1,2,3] [3,0,1,2] (by decide)) ?_
    rintro _ D3 ⟨rfl,hD3⟩
    rw [hD3]
    clear hD3 D3
    refine Lq.perm (permP [D2,[_],[_],D1] [0,1,2,3] [2,1,3,0] (by decide)) ?_
    repeat (first|((first|(apply Lq.s;rfl)|apply PRun.s|(apply Lq.run;rfl;rfl;rfl;exact bsB)|(apply PRun.run;rfl;rfl;exact bsB));first|(exact bsO))|refine bsA ?_|(apply Lq.al;rfl;rfl;intro b)|(apply Open.cons;intro b)|refine bsC ?_)
    (refine J.ret ?_;(repeat (first|refine E.then_ret ?_|refine E.in_ret ?_)))
    exact E.retRct viewT (x:=m.sure.v) (Δ':=own B 66 _::(D1++D2)) (G:=[_]) rfl rfl rfl List.mem_cons_self rfl ⟨rfl,rfl⟩ (List.perm_append_comm (l₁:=[_]))
theorem mfind_bad {B:Nat} {m:MM} {A1:Option Addr} {c1:Nat} {xs1:List MO} {A2:Option Addr} {c2:Nat} {xs2:List MO} (x:Str) (hf:fits m xs1 xs2) (hk:MOk m) (h:errFind m x ≠ 0):FnR Tryd.prog 28 [is (.pointer (some ⟨B,0,none⟩)),is (str x)] (mdl B m A1 c1 xs1 A2 c2 xs2)
    (fun ψ Δ=>ψ=tup [is (.pointer none),is (.int .i64 (errFind m x))]∧Δ=mdl B m A1 c1 xs1 A2 c2 xs2):=by
  obtain ⟨hl2,_⟩:=fits_g hf.2 hk.cur
  refine FnR.mk' 44 Tryd.func28 rfl rfl rfl rfl fun w0 H0=>?_
  rw [mdl_eq]
  generalize recsR xs2++stL A1 c1 xs1=D
  unfold mdC
  repeat (first|((first|(apply Lq.s;rfl)|apply PRun.s|(apply Lq.run;rfl;rfl;rfl;exact bsB)|(apply PRun.run;rfl;rfl;exact bsB));first|(exact bsO))|refine bsA ?_|(apply Lq.al;rfl;rfl;intro b)|(apply Open.cons;intro b)|refine bsC ?_)
  refine Lq.callS (Δ0:=[_]) (Δf:=_::D) (mnone_fnR B _ rfl) rfl bsD (List.Perm.refl _) ?_
  rintro _ _ ⟨rfl,rfl⟩
  cases hm:m.mnt with
  | false =>
    rw [errFind_m hm] at h ⊢
    repeat (first|((first|(apply Lq.s;rfl)|apply PRun.s|(apply Lq.run;rfl;rfl;rfl;exact bsB)|(apply PRun.run;rfl;rfl;exact bsB));first|(apply op_ocell;rfl;exact bsM;rfl)|(apply op_slen;rfl)|(exact bsO))|refine bsA ?_|(apply Lq.al;rfl;rfl;intro b)|(apply Open.cons;intro b)|refine bsC ?_)
    (refine J.ret ?_;(repeat (first|refine E.then_ret ?_|refine E.in_ret ?_)))
    exact E.retR2 (G:=[]) rfl rfl rfl ⟨rfl,rfl⟩ (by rw [List.append_nil];exact List.Perm.refl _)
  | true =>
    have hn:hasN m.cur.streams x=false:=by
      cases hh:hasN m.cur.streams x with
      | false=>rfl
      | true=>rw [errFind_0 hm hh] at h;exact absurd rfl h
    rw [errFind_4 hm hn] at h ⊢
    rcases find_cases m.cur.streams x with ⟨_,_,hno⟩|⟨s,h1,_⟩
    · repeat (first|((first|(apply Lq.s;rfl)|apply PRun.s|(apply Lq.run;rfl;rfl;rfl;exact bsB)|(apply PRun.run;rfl;rfl;exact bsB));first|(apply op_ocell;rfl;exact bsM;rfl)|(apply op_slen;rfl)|(exact bsO))|refine bsA ?_|(apply Lq.al;rfl;rfl;intro b)|(apply Open.cons;intro b)|refine bsC ?_)
      refine J.loop (fun i:Nat=>i≤xs2.length) (fun i=>[(0,is (.pointer (some ⟨B,0,none⟩))),(1,is (str x)),(21,is (.int .i64 (xs2.length:Int))),(22,is (.int .i64 (i:Int)))])
        (fun _=>own B 66 (mdC m A1 xs1.length c1 A2 xs2.length c2)::row (.slice A2 xs2.length c2) 79 mstrO.toTy xs2::D) (fun i=>xs2.length - i) 0 (Nat.zero_le _) ⟨(by repeat' (first|exact trivial|refine ⟨rfl,?_⟩)),[],by
          unfold mdC
          rw [hm,List.append_nil]
          exact List.Perm.refl _⟩ ?_
      intro i hi
      by_cases hlt:i < xs2.length
      · obtain ⟨s,hs⟩ : ∃ s,xs2[i]?=some s:=⟨_,List.getElem?_eq_getElem hlt⟩
        have hne:s.1.name ≠ x:=hno i s.1 (map_at hf.2 hs)
        refine J.open (List.Perm.swap _ _ _) (by intro h;rw [h] at hlt;simp at hlt) ?_
        intro nb no cap pre post hR
        obtain ⟨hv,hpre,hle,hcap,hroom,_⟩:=hR
        injection hv with hA _ hc
        subst hA;subst hc
        unfold mdC
        repeat (first|((first|(apply Lq.s;rfl)|apply PRun.s|(apply Lq.run;rfl;rfl;rfl;exact bsB)|(apply PRun.run;rfl;rfl;exact bsB));first|(apply op_ocell (φ:=is (str s.1.name));rfl;exact bsM;exact cell_rfld mstrO.toTy (k:=0) hpre hs (show 0 < 4 by decide))|(apply op_ocell;rfl;exact bsM;rfl)|(apply op_slen;rfl)|(apply op_siaddr;rfl;rfl;omega;omega)|(apply op_seqF;rfl;rfl;exact hne)|(apply op_add (c:=((i+1:Nat):Int));rfl;rfl;(rw [show (i:Int)+1=((i+1:Nat):Int) by omega];apply wrapi <;> omega))|(exact bsO))|refine bsA ?_|(apply Lq.al;rfl;rfl;intro b)|(apply Open.cons;intro b)|refine bsC ?_)
        refine E.close mstrO.toTy xs2 (b:=nb) (o:=no) (cap:=c2) (List.Perm.refl _) hroom hle hcap (take_rowT mstrO.toTy hpre) ?_
        exact E.again (i+1) (by omega) (by omega) ⟨(by repeat' (first|exact trivial|refine ⟨rfl,?_⟩)),[],by
          rw [List.append_nil]
          exact List.Perm.swap _ _ _⟩
      · obtain rfl:i=xs2.length:=by omega
        repeat (first|((first|(apply Lq.s;rfl)|apply PRun.s|(apply Lq.run;rfl;rfl;rfl;exact bsB)|(apply PRun.run;rfl;rfl;exact bsB));first|(exact bsO))|refine bsA ?_|(apply Lq.al;rfl;rfl;intro b)|(apply Open.cons;intro b)|refine bsC ?_)
        (refine J.ret ?_;(repeat (first|refine E.then_ret ?_|refine E.in_ret ?_)))
        exact E.retR2 (G:=[]) rfl rfl rfl ⟨rfl,rfl⟩ (by
          unfold mdC
          rw [hm,List.append_nil])
    · rw [h1] at hn;cases hn
theorem mfind_ok {B:Nat} {m:MM} {A1:Option Addr} {c1:Nat} {xs1:List MO} {A2:Option Addr} {c2:Nat} {xs2:List MO} (x:Str) (hf:fits m xs1 xs2) (hk:MOk m) (h:errFind m x=0):FnR Tryd.prog 28 [is (.pointer (some ⟨B,0,none⟩)),is (str x)] (mdl B m A1 c1 xs1 A2 c2 xs2)
    (fun ψ Δ => ∃ b o,A2=some ⟨b,o,none⟩∧ψ=tup [is (.pointer (some ⟨b,o+findN m.cur.streams x*4,none⟩)),is (.int .i64 0)]∧Δ=mdl B m A1 c1 xs1 A2 c2 xs2):=by
  obtain ⟨hl2,_⟩:=fits_g hf.2 hk.cur
  obtain ⟨hm,hh⟩:=find_ok0 h
  rcases find_cases m.cur.streams x with ⟨h1,_⟩|⟨sx,_,hsx,hnx,hbef⟩
  · rw [h1] at hh;cases hh
  obtain ⟨s0,hs0,hs1⟩:=map_at' hf.2 hsx
  have hlt0:=(List.getElem?_eq_some_iff.1 hs0).1
  generalize findN m.cur.streams x=K at *
  refine FnR.mk' 44 Tryd.func28 rfl rfl rfl rfl fun w0 H0=>?_
  rw [mdl_eq]
  generalize recsR xs2++stL A1 c1 xs1=D
  unfold mdC
  rw [hm]
  repeat (first|((first|(apply Lq.s;rfl)|apply PRun.s|(apply Lq.run;rfl;rfl;rfl;exact bsB)|(apply PRun.run;rfl;rfl;exact bsB));first|(exact bsO))|refine bsA ?_|(apply Lq.al;rfl;rfl;intro b)|(apply Open.cons;intro b)|refine bsC ?_)
  refine Lq.callS (Δ0:=[_]) (Δf:=_::D) (mnone_fnR B _ rfl) rfl bsD (List.Perm.refl _) ?_
  rintro _ _ ⟨rfl,rfl⟩
  repeat (first|((first|(apply Lq.s;rfl)|apply PRun.s|(apply Lq.run;rfl;rfl;rfl;exact bsB)|(apply PRun.run;rfl;rfl;exact bsB));first|(apply op_ocell;rfl;exact bsM;rfl)|(apply op_slen;rfl)|(exact bsO))|refine bsA ?_|(apply Lq.al;rfl;rfl;intro b)|(apply Open.cons;intro b)|refine bsC ?_)
  refine J.open (Δ':=_::D) (List.Perm.swap _ _ _) (by intro h;rw [h] at hlt0;simp at hlt0) ?_
  intro nb no cap pre post hR
  obtain ⟨hv,hpre,hle,hcap,hroom,_⟩:=hR
  injection hv with hA _ hc
  subst hA;subst hc
  refine J.loop (fun i:Nat=>i≤K) (fun i=>[(0,is (.pointer (some ⟨B,0,none⟩))),(1,is (str x)),(21,is (.int .i64 (xs2.length:Int))),(22,is (.int .i64 (i:Int)))])
    (fun _=>own nb 79 (pre++flat mstrO.toTy xs2++post)::own B 66 (mdC m A1 xs1.length c1 (some ⟨nb,no,none⟩) xs2.length c2)::D) (fun i=>K - i) 0 (Nat.zero_le _) ⟨(by repeat' (first|exact trivial|refine ⟨rfl,?_⟩)),[],by
      unfold mdC
      rw [hm,List.append_nil]⟩ ?_
  intro i hi
  obtain ⟨s,hs⟩ : ∃ s,xs2[i]?=some s:=⟨_,List.getElem?_eq_getElem (by omega)⟩
  unfold mdC
  by_cases hlt:i < K
  · have hne:s.1.name ≠ x:=hbef i s.1 hlt (map_at hf.2 hs)
    repeat (first|((first|(apply Lq.s;rfl)|apply PRun.s|(apply Lq.run;rfl;rfl;rfl;exact bsB)|(apply PRun.run;rfl;rfl;exact bsB));first|(apply op_ocell (φ:=is (str s.1.name));rfl;exact bsM;exact cell_rfld mstrO.toTy (k:=0) hpre hs (show 0 < 4 by decide))|(apply op_ocell;rfl;exact bsM;rfl)|(apply op_slen;rfl)|(apply op_siaddr;rfl;rfl;omega;omega)|(apply op_seqF;rfl;rfl;exact hne)|(apply op_add (c:=((i+1:Nat):Int));rfl;rfl;(rw [show (i:Int)+1=((i+1:Nat):Int) by omega];apply wrapi <;> omega))|(exact bsO))|refine bsA ?_|(apply Lq.al;rfl;rfl;intro b)|(apply Open.cons;intro b)|refine bsC ?_)
    exact E.again (i+1) (by omega) (by omega) ⟨(by repeat' (first|exact trivial|refine ⟨rfl,?_⟩)),[],by rw [List.append_nil]⟩
  · obtain rfl:i=K:=by omega
    have heq:s.1.name=x:=by
      rw [hs0] at hs;injection hs with hs;subst hs
      rw [hs1];exact hnx
    repeat (first|((first|(apply Lq.s;rfl)|apply PRun.s|(apply Lq.run;rfl;rfl;rfl;exact bsB)|(apply PRun.run;rfl;rfl;exact bsB));first|(apply op_ocell (φ:=is (str s.1.name));rfl;exact bsM;exact cell_rfld mstrO.toTy (k:=0) hpre hs (show 0 < 4 by decide))|(apply op_ocell;rfl;exact bsM;rfl)|(apply op_slen;rfl)|(apply op_siaddr;rfl;rfl;omega;omega)|(apply op_seqT;rfl;rfl;exact heq)|(exact bsO))|refine bsA ?_|(apply Lq.al;rfl;rfl;intro b)|(apply Open.cons;intro b)|refine bsC ?_)
    (refine J.ret ?_;(repeat (first|refine E.then_ret ?_|refine E.in_ret ?_)))
    refine E.close mstrO.toTy xs2 (b:=nb) (o:=no) (cap:=c2) (List.Perm.refl _) hroom hle hcap (take_rowT mstrO.toTy hpre) ?_
    exact E.retR2 (G:=[]) rfl rfl rfl ⟨nb,no,rfl,rfl,rfl⟩ (by
      rw [hm,List.append_nil]
      exact List.Perm.swap _ _ _)
end Go.Proofs.YtljbbajelkkafaaDoor.L
