/-
  ModelSame,walked.
-/
import Derived.Test.YtljbbajelkkafaaDoorMzj
import Derived.Test.YtljbbajelkkafaaDoorMzh
import Derived.Test.YtljbbajelkkafaaDoorMl
namespace Go.Proofs.YtljbbajelkkafaaDoor.L
open Go
set_option linter.unusedSectionVars false
variable [Globs] [Has_sha_table] [Has_sha_begin]
set_option linter.unusedVariables false
/-! ### A number whose last digit is another one -/
def flipT (n:Int):Int:=IntKind.i64.wrap ((BitVec.ofInt 64 n ^^^ BitVec.ofInt 64 1).toNat:Int)
theorem flip_def (n:Int):IntKind.i64.wrap ((BitVec.ofInt IntKind.i64.bits n ^^^ BitVec.ofInt IntKind.i64.bits 1).toNat:Int)=flipT n:=rfl
theorem flip_ne (n:Int):flipT n ≠ n:=fun e=>by
  have hX:(BitVec.ofInt 64 n ^^^ BitVec.ofInt 64 1).toNat < 2 ^ 64:=BitVec.isLt _
  have hb:(BitVec.ofInt 64 n ^^^ BitVec.ofInt 64 1).toNat=(BitVec.ofInt 64 n).toNat:=by
    rw [BitVec.toNat_ofInt]
    unfold flipT at e
    generalize (BitVec.ofInt 64 n ^^^ BitVec.ofInt 64 1).toNat=m at e hX
    unfold IntKind.wrap at e
    simp only [IntKind.signed,IntKind.bits,Bool.true_and] at e
    split at e <;> omega
  have h2:=BitVec.eq_of_toNat_eq hb
  have h3:BitVec.ofInt 64 n ^^^ (BitVec.ofInt 64 n ^^^ BitVec.ofInt 64 1)=BitVec.ofInt 64 n ^^^ BitVec.ofInt 64 n:=by rw [h2]
  rw [← BitVec.xor_assoc,BitVec.xor_self,BitVec.zero_xor] at h3
  exact absurd h3 (by decide)
/-! ### What a clone has become -/
def Small (ys:List FO):Prop := ∀ y ∈ ys,y.1.recs.length≤80∧y.1.holds.length≤9223372036854775807
def Tail (l:List SeenV) (i:Nat) (ys:List FO):Prop:=ys.length=l.length∧(∀ j,i≤j→(ys[j]?).map (·.1)=l[j]?)∧Small ys
def At (l:List SeenV) (s:SeenV) (i k:Nat) (ys:List FO):Prop:=ys.length=l.length∧(∀ j,i < j→(ys[j]?).map (·.1)=l[j]?)∧Small ys ∧ ∃ y,ys[i]?=some y∧y.1.name=s.name∧y.1.recs.length=s.recs.length ∧ ∀ j,k≤j→y.1.recs[j]?=s.recs[j]?
theorem small_set {ys:List FO} (h:Small ys) (i:Nat) {y:FO} (hy:y.1.recs.length≤80∧y.1.holds.length≤9223372036854775807):Small (ys.set i y):=fun z hz=>by
  rcases List.mem_or_eq_of_mem_set hz with h1|h1
  · exact h z h1
  · rw [h1];exact hy
theorem tail_at {l:List SeenV} {s:SeenV} {i:Nat} {ys:List FO} (h:Tail l i ys) (hs:l[i]?=some s):At l s i 0 ys:=by
  obtain ⟨h1,h2,h3⟩:=h
  refine ⟨h1,fun j hj=>h2 j (by omega),h3,?_⟩
  have:=h2 i (Nat.le_refl _)
  rw [hs] at this
  obtain ⟨y,hy,e⟩:=Option.map_eq_some_iff.1 this
  exact ⟨y,hy,by rw [e],by rw [e],fun j _=>by rw [e]⟩
theorem fst_set {ys:List FO} {i j:Nat} {y:FO} (h:j ≠ i):((ys.set i y)[j]?).map (·.1)=(ys[j]?).map (·.1):=by
  rw [List.getElem?_set_ne (by omega)]
theorem ne_fst {l:List SeenV} {ys:List FO} {i:Nat} {s:SeenV} {y:FO} (hs:l[i]?=some s) (hy:ys[i]?=some y) (h:s ≠ y.1):l ≠ ys.map (·.1):=fun e=>by
  rw [e,List.getElem?_map,hy] at hs
  injection hs with hs
  exact h hs.symm
def timed (y:FO) (k:Nat) (r:RecV):FO:=({ y.1 with recs:=y.1.recs.set k { r with time:=flipT r.time } },y.2)
def named (y:FO):FO:=({ y.1 with name:=y.1.name++[120] },y.2)
theorem at_step {l:List SeenV} {s:SeenV} {i k:Nat} {ys:List FO} {y:FO} {r:RecV} (h:At l s i k ys) (hs:l[i]?=some s) (hy:ys[i]?=some y) (hr:y.1.recs[k]?=some r):At l s i (k+1) (ys.set i (timed y k r))∧l ≠ (ys.set i (timed y k r)).map (·.1):=by
  obtain ⟨h1,h2,h3,y',hy',h4,h5,h6⟩:=h
  rw [hy] at hy';injection hy' with hy';subst hy'
  have hi:i < ys.length:=(List.getElem?_eq_some_iff.1 hy).1
  have hg:(ys.set i (timed y k r))[i]?=some (timed y k r):=List.getElem?_set_self hi
  have hk:k < y.1.recs.length:=(List.getElem?_eq_some_iff.1 hr).1
  refine ⟨⟨by rw [List.length_set];exact h1,fun j hj=>(fst_set (by omega)).trans (h2 j hj),small_set h3 i ?_,_,hg,h4,?_,fun j hj=>?_⟩,ne_fst hs hg fun e=>?_⟩
  · have:=h3 y (List.mem_of_getElem? hy)
    exact ⟨by show (y.1.recs.set _ _).length≤80;rw [List.length_set];exact this.1,this.2⟩
  · show (y.1.recs.set _ _).length=_;rw [List.length_set];exact h5
  · show (y.1.recs.set _ _)[j]?=_;rw [List.getElem?_set_ne (by omega)];exact h6 j (by omega)
  · have h7:=h6 k (Nat.le_refl _)
    rw [hr,e] at h7
    have h8:(timed y k r).1.recs[k]?=some { r with time:=flipT r.time }:=List.getElem?_set_self hk
    rw [h8] at h7
    injection h7 with h7
    exact flip_ne r.time (congrArg RecV.time h7).symm
theorem at_name {l:List SeenV} {s:SeenV} {i k:Nat} {ys:List FO} {y:FO} (h:At l s i k ys) (hs:l[i]?=some s) (hy:ys[i]?=some y):Tail l (i+1) (ys.set i (named y))∧l ≠ (ys.set i (named y)).map (·.1):=by
  obtain ⟨h1,h2,h3,y',hy',h4,h5,h6⟩:=h
  rw [hy] at hy';injection hy' with hy';subst hy'
  have hi:i < ys.length:=(List.getElem?_eq_some_iff.1 hy).1
  have hg:(ys.set i (named y))[i]?=some (named y):=List.getElem?_set_self hi
  refine ⟨⟨by rw [List.length_set];exact h1,fun j hj=>(fst_set (by omega)).trans (h2 j (by omega)),small_set h3 i (h3 y (List.mem_of_getElem? hy))⟩,ne_fst hs hg fun e=>?_⟩
  have h7:(named y).1.name=y.1.name++[120]:=rfl
  rw [← e,h4] at h7
  have:=congrArg List.length h7
  rw [List.length_append] at this
  simp at this
theorem small_good {clock:Int} {l:List SeenV} {ys:List FO} (h:Small ys) (hl:ys.length=l.length) (h10:l.length≤10):GoodV ⟨clock,ys.map (·.1)⟩:=by
  refine ⟨by show (ys.map _).length≤_;rw [List.length_map];omega,fun x hx=>?_⟩
  obtain ⟨y,hy,rfl⟩:=List.mem_map.1 hx
  have:=h y hy
  exact ⟨by omega,this.2⟩
theorem flat_same {α:Type} {T:Ty α} {xs:List α} {i:Nat} {x y:α} (hx:xs[i]?=some x) (h:T.cells y=T.cells x):flat T (xs.set i y)=flat T xs:=by
  unfold flat
  congr 1
  rw [List.map_set,h]
  exact set_same (by rw [List.getElem?_map,hx];rfl)
theorem op_bneK {P:Program} {Γ:Env} {Δ:List Res} {d:Option Nat} {ty t yt:Nat} {pos:String} {af:Array Edge} {g:Option (Nat × Bool)} {x y:Operand} {a:Bool} [hb:TBool P t] (h1:opd Γ x=some (is (.bool a))) (h2:opd Γ y=some (is (.bool a))):OpP P Γ Δ ⟨d, .binOp .neq t x y yt,ty,pos,af,g⟩ (is (.bool false)):=by
  have:=op_bne (P:=P) (Δ:=Δ) (d:=d) (ty:=ty) (pos:=pos) (af:=af) (g:=g) (t:=t) (yt:=yt) h1 h2
  rwa [show (!(a == a))=false by cases a <;> rfl] at this
theorem flat_isK (v:Value):Flat (is v):=fun _ _ _ h=>h
theorem fR_same (ys:List FO) {i:Nat} {y y':FO} (hy:ys[i]?=some y) (h:fR y'=fR y):fRs (ys.set i y')=fRs ys:=by
  unfold fRs
  rw [List.map_set,h]
  exact set_same (by rw [List.getElem?_map,hy];rfl)
theorem look_view {Δ:List Res} {v:ViewV} {clock:Int} {A:Option Addr} {n c:Nat} {xs:List FO} (hn:xs.length=n) (h1:row (.slice A n c) 70 seenF.toTy xs ∈ Δ) (h2 : ∀ r ∈ fRs xs,r ∈ Δ) : ∀ H w,Sat H w→(∀ r ∈ Δ,r.ok H w) → ∀ vs,All2 (fun (φ:Pr) v=>φ.h H v) [viewT.val v,(stO A n c).val clock] vs→All2 (fun (φ:Pr) v=>φ.h (fullK w) v) [viewT.val v,viewT.val ⟨clock,xs.map (·.1)⟩] vs:=fun H w hs hr vs hvs=>by
  subst hn
  match vs,hvs with
  | [x,y],⟨k1,k2,_⟩=>exact ⟨(viewT.val v).mono (fullK_le hs) k1,view_full hs (hr _ h1) (fun r h=>hr r (h2 r h)) k2,trivial⟩
set_option linter.unusedVariables false
set_option linter.unusedSimpArgs false
attribute [local irreducible] J Lq E OpP PRun is any agg tup ptr sl PRunW OpE
attribute [local irreducible] slt row leafH shaH recsR OpR stL mdl fRs flipT
set_option maxRecDepth 100000 in
set_option maxHeartbeats 16000000 in
theorem modelSame (va vb:ViewV) (ha:ViewW va) (hb:ViewW vb):Fn Tryd.prog 8 [viewT.val va,viewT.val vb] (is (.bool true)):=by
  have good : ∀ v:ViewV,ViewW v→GoodV v:=fun v h=>⟨by have:=h.2.1;unfold maxLen at this;exact this,fun x hx=>by
    obtain ⟨_,_,h1,h2,_⟩:=h.2.2 x hx
    unfold maxLen at h1 h2
    exact ⟨h2,h1.1⟩⟩
  have hga:=good va ha
  have hgb:=good vb hb
  by_cases h1:10 < va.streams.length
  · refine Fn.mk' 114 Tryd.func8 rfl rfl rfl rfl fun w0 H0=>?_
    repeat (first|((first|(apply Lq.s;rfl)|apply PRun.s|(apply Lq.run;rfl;rfl;rfl;exact bsB)|(apply PRun.run;rfl;rfl;exact bsB));first|(apply op_box viewT;rfl)|(apply op_faddr view_clock;rfl;decide)|(apply op_faddr view_streams;rfl;decide)|(apply op_load (slT seenT);rfl)|(apply op_load viewT;rfl)|(apply op_load seenT;rfl)|(apply op_len (xs:=va.streams);rfl)|(apply op_len (xs:=vb.streams);rfl)|(apply op_call lives26_fn;exact bsD)|(exact bsO))|refine bsA ?_|(apply Lq.al;rfl;rfl;intro b)|(apply Open.cons;intro b)|(apply J.drawN;exact mixed;kernel_rfl)|refine bsC ?_)
    (refine J.ret ?_;(repeat (first|refine E.then_ret ?_|refine E.in_ret ?_)))
    exact E.ret1 rfl rfl
  by_cases h2:10 < vb.streams.length
  · refine Fn.mk' 114 Tryd.func8 rfl rfl rfl rfl fun w0 H0=>?_
    repeat (first|((first|(apply Lq.s;rfl)|apply PRun.s|(apply Lq.run;rfl;rfl;rfl;exact bsB)|(apply PRun.run;rfl;rfl;exact bsB));first|(apply op_box viewT;rfl)|(apply op_faddr view_clock;rfl;decide)|(apply op_faddr view_streams;rfl;decide)|(apply op_load (slT seenT);rfl)|(apply op_load viewT;rfl)|(apply op_load seenT;rfl)|(apply op_len (xs:=va.streams);rfl)|(apply op_len (xs:=vb.streams);rfl)|(apply op_call lives26_fn;exact bsD)|(exact bsO))|refine bsA ?_|(apply Lq.al;rfl;rfl;intro b)|(apply Open.cons;intro b)|(apply J.drawN;exact mixed;kernel_rfl)|refine bsC ?_)
    (refine J.ret ?_;(repeat (first|refine E.then_ret ?_|refine E.in_ret ?_)))
    exact E.ret1 rfl rfl
  refine Fn.mk' 114 Tryd.func8 rfl rfl rfl rfl fun w0 H0=>?_
  repeat (first|((first|(apply Lq.s;rfl)|apply PRun.s|(apply Lq.run;rfl;rfl;rfl;exact bsB)|(apply PRun.run;rfl;rfl;exact bsB));first|(apply op_box viewT;rfl)|(apply op_faddr view_clock;rfl;decide)|(apply op_faddr view_streams;rfl;decide)|(apply op_load (slT seenT);rfl)|(apply op_load viewT;rfl)|(apply op_load seenT;rfl)|(apply op_len (xs:=va.streams);rfl)|(apply op_len (xs:=vb.streams);rfl)|(exact bsO))|refine bsA ?_|(apply Lq.al;rfl;rfl;intro b)|(apply Open.cons;intro b)|(apply J.drawN;exact mixed;kernel_rfl)|refine bsC ?_)
  refine J.loop (fun i:Nat=>i≤va.streams.length ∧ ∀ (j:Nat) (x:SeenV),j < i→va.streams[j]?=some x→x.recs.length≤80) (fun i=>[(2,ptr (viewT.cells va)),(3,ptr (viewT.cells vb)),(5,is (.int .i64 (i:Int)))]) (fun _=>[]) (fun i=>va.streams.length - i) 0 ⟨Nat.zero_le _,fun j x hj=>by omega⟩ (Sub.same (by repeat' (first|exact trivial|refine ⟨rfl,?_⟩))) ?_
  rintro i ⟨hi,hp⟩
  by_cases hlt:i < va.streams.length
  · obtain ⟨x,hx⟩ : ∃ x,va.streams[i]?=some x:=⟨_,List.getElem?_eq_getElem hlt⟩
    by_cases h80:80 < x.recs.length
    · repeat (first|((first|(apply Lq.s;rfl)|apply PRun.s|(apply Lq.run;rfl;rfl;rfl;exact bsB)|(apply PRun.run;rfl;rfl;exact bsB));first|(apply op_box viewT;rfl)|(apply op_faddr view_clock;rfl;decide)|(apply op_faddr view_streams;rfl;decide)|(apply op_load (slT seenT);rfl)|(apply op_load viewT;rfl)|(apply op_load seenT;rfl)|(apply op_len (xs:=va.streams);rfl)|(apply op_len (xs:=vb.streams);rfl)|(apply op_iaddr seenT.toTy (x:=x);rfl;rfl;exact Int.natCast_nonneg _;(rw [Int.toNat_natCast];exact hx))|(apply op_faddr seen_recs;rfl;decide)|(apply op_load (slT recVT);rfl)|(apply op_len (xs:=x.recs);rfl)|(apply op_call lives26_fn;exact bsD)|(exact bsO))|refine bsA ?_|(apply Lq.al;rfl;rfl;intro b)|(apply Open.cons;intro b)|(apply J.drawN;exact mixed;kernel_rfl)|refine bsC ?_)
      (refine J.ret ?_;(repeat (first|refine E.then_ret ?_|refine E.in_ret ?_)))
      exact E.ret1 rfl rfl
    · repeat (first|((first|(apply Lq.s;rfl)|apply PRun.s|(apply Lq.run;rfl;rfl;rfl;exact bsB)|(apply PRun.run;rfl;rfl;exact bsB));first|(apply op_box viewT;rfl)|(apply op_faddr view_clock;rfl;decide)|(apply op_faddr view_streams;rfl;decide)|(apply op_load (slT seenT);rfl)|(apply op_load viewT;rfl)|(apply op_load seenT;rfl)|(apply op_len (xs:=va.streams);rfl)|(apply op_len (xs:=vb.streams);rfl)|(apply op_iaddr seenT.toTy (x:=x);rfl;rfl;exact Int.natCast_nonneg _;(rw [Int.toNat_natCast];exact hx))|(apply op_faddr seen_recs;rfl;decide)|(apply op_load (slT recVT);rfl)|(apply op_len (xs:=x.recs);rfl)|(exact bsO))|refine bsA ?_|(apply Lq.al;rfl;rfl;intro b)|(apply Open.cons;intro b)|(apply J.drawN;exact mixed;kernel_rfl)|refine bsC ?_)
      refine E.again (i+1) (by omega) ⟨by omega,fun j u hj hu=>?_⟩ (Sub.same (by repeat' (first|exact trivial|refine ⟨rfl,?_⟩)))
      rcases Nat.lt_or_eq_of_le (Nat.le_of_lt_succ hj) with h'|rfl
      · exact hp j u h' hu
      · rw [hx] at hu;injection hu with hu;subst hu;omega
  obtain rfl:i=va.streams.length:=by omega
  have h80 : ∀ x ∈ va.streams,x.recs.length≤80:=fun x hx=>by
    obtain ⟨j,hj,rfl⟩:=List.mem_iff_getElem.1 hx
    exact hp j _ hj (List.getElem?_eq_getElem hj)
  clear hp hi hlt
  repeat (first|((first|(apply Lq.s;rfl)|apply PRun.s|(apply Lq.run;rfl;rfl;rfl;exact bsB)|(apply PRun.run;rfl;rfl;exact bsB));first|(apply op_box viewT;rfl)|(apply op_faddr view_clock;rfl;decide)|(apply op_faddr view_streams;rfl;decide)|(apply op_load (slT seenT);rfl)|(apply op_load viewT;rfl)|(apply op_load seenT;rfl)|(apply op_len (xs:=va.streams);rfl)|(apply op_len (xs:=vb.streams);rfl)|(exact bsO))|refine bsA ?_|(apply Lq.al;rfl;rfl;intro b)|(apply Open.cons;intro b)|(apply J.drawN;exact mixed;kernel_rfl)|refine bsC ?_)
  refine Lq.callS (Δ0:=[]) (Δf:=[]) (mClone_fnR va (by omega) fun x hx=>⟨by have:=h80 x hx;omega,by
    have h3:=(ha.2.2 x hx).2.2.1.2.1
    unfold reachBytes at h3
    omega⟩) rfl bsD (List.Perm.refl _) ?_
  rintro _ D ⟨A0,c0,ys,hm,rfl,rfl⟩
  have hyl:ys.length=va.streams.length:=map_len hm
  rw [List.append_nil,hyl]
  have hc0:(⟨va.clock,ys.map (·.1)⟩:ViewV)=va:=by rw [hm]
  have hT0:Tail va.streams 0 ys:=⟨hyl,fun j _=>by rw [← hm,List.getElem?_map],fun y hy=>by
    have hmem:y.1 ∈ va.streams:=by rw [← hm];exact List.mem_map.2 ⟨y,hy,rfl⟩
    exact ⟨h80 _ hmem,(hga.2 _ hmem).2⟩⟩
  (apply Lq.al;rfl;rfl;intro cb)
  (apply Lq.storeE (φs':=[is (.int .i64 va.clock),is (.slice A0 va.streams.length c0)]);rfl;rfl;exact List.Perm.refl _;exact Seg.val _ _;rfl;exact Nat.le_refl 2;exact splice_all rfl)
  have hsame:=msame_fn va va hga hga
  rw [decide_eq_true rfl] at hsame
  have hsv:=sameView_fn va va hga hga
  rw [decide_eq_true rfl] at hsv
  have hlk:=look_view (Δ:=own cb 45 [is (.int .i64 va.clock),is (.slice A0 va.streams.length c0)]::row (.slice A0 va.streams.length c0) 70 seenF.toTy ys::fRs ys) (v:=va) (clock:=va.clock) hyl (List.mem_cons_of_mem _ List.mem_cons_self) (fun r h=>List.mem_cons_of_mem _ (List.mem_cons_of_mem _ h))
  rw [hc0] at hlk
  repeat (first|((first|(apply Lq.s;rfl)|apply PRun.s|(apply Lq.run;rfl;rfl;rfl;exact bsB)|(apply PRun.run;rfl;rfl;exact bsB));first|(apply op_box viewT;rfl)|(apply op_faddr view_clock;rfl;decide)|(apply op_faddr view_streams;rfl;decide)|(apply op_load (slT seenT);rfl)|(apply op_load viewT;rfl)|(apply op_load seenT;rfl)|(apply op_len (xs:=va.streams);rfl)|(apply op_len (xs:=vb.streams);rfl)|(apply op_call (msame_fn va vb hga hgb);exact bsD)|(apply op_call (sameView_fn va vb hga hgb);exact bsD)|(apply op_bneK;rfl;rfl)|(apply op_oload (stO A0 va.streams.length c0) (x:=va.clock);rfl;exact bsM;rfl)|(apply op_look hsame (flat_isK _) (φs:=[viewT.val va,(stO A0 va.streams.length c0).val va.clock]);exact bsD;exact hlk)|(apply op_look hsv (flat_isK _) (φs:=[viewT.val va,(stO A0 va.streams.length c0).val va.clock]);exact bsD;exact hlk)|(exact bsO))|refine bsA ?_|(apply Lq.al;rfl;rfl;intro b)|(apply Open.cons;intro b)|(apply J.drawN;exact mixed;kernel_rfl)|refine bsC ?_)
  clear hlk hsame hsv hc0 hm hyl
  refine J.loop (fun p:Nat × List FO=>p.1≤va.streams.length∧Tail va.streams p.1 p.2) (fun p=>[(2,ptr (viewT.cells va)),(6,is (.pointer (some ⟨cb,0,none⟩))),(7,is (.int .i64 (p.1:Int)))])
    (fun p=>own cb 45 [is (.int .i64 va.clock),is (.slice A0 va.streams.length c0)]::row (.slice A0 va.streams.length c0) 70 seenF.toTy p.2::fRs p.2)
    (fun p=>va.streams.length - p.1) (0,ys) ⟨Nat.zero_le _,hT0⟩ (Sub.same (by repeat' (first|exact trivial|refine ⟨rfl,?_⟩))) ?_
  clear hT0 ys
  rintro ⟨i,ys⟩ ⟨hi,hT⟩
  dsimp only at hi hT ⊢
  by_cases hlt:i < va.streams.length
  case neg =>
    obtain rfl:i=va.streams.length:=by omega
    repeat (first|((first|(apply Lq.s;rfl)|apply PRun.s|(apply Lq.run;rfl;rfl;rfl;exact bsB)|(apply PRun.run;rfl;rfl;exact bsB));first|(apply op_ocell;rfl;exact bsM;rfl)|(apply op_slen;rfl)|(apply op_call lives26_fn;exact bsD)|(exact bsO))|refine bsA ?_|(apply Lq.al;rfl;rfl;intro b)|(apply Open.cons;intro b)|refine bsC ?_)
    (refine J.ret ?_;(repeat (first|refine E.then_ret ?_|refine E.in_ret ?_)))
    exact E.ret1 rfl rfl
  obtain ⟨s,hs⟩ : ∃ s,va.streams[i]?=some s:=⟨_,List.getElem?_eq_getElem hlt⟩
  have hA0:=tail_at hT hs
  repeat (first|((first|(apply Lq.s;rfl)|apply PRun.s|(apply Lq.run;rfl;rfl;rfl;exact bsB)|(apply PRun.run;rfl;rfl;exact bsB));first|(apply op_ocell;rfl;exact bsM;rfl)|(apply op_slen;rfl)|(exact bsO))|refine bsA ?_|(apply Lq.al;rfl;rfl;intro b)|(apply Open.cons;intro b)|refine bsC ?_)
  refine J.loop (fun q:Nat × List FO=>q.1≤s.recs.length∧At va.streams s i q.1 q.2) (fun q=>[(2,ptr (viewT.cells va)),(6,is (.pointer (some ⟨cb,0,none⟩))),(7,is (.int .i64 (i:Int))),(8,is (.int .i64 (q.1:Int)))])
    (fun q=>own cb 45 [is (.int .i64 va.clock),is (.slice A0 va.streams.length c0)]::row (.slice A0 va.streams.length c0) 70 seenF.toTy q.2::fRs q.2)
    (fun q=>s.recs.length - q.1) (0,ys) ⟨Nat.zero_le _,hA0⟩ (Sub.same (by repeat' (first|exact trivial|refine ⟨rfl,?_⟩))) ?_
  clear hA0 hT ys
  rintro ⟨k,ys⟩ ⟨hk,hT⟩
  dsimp only at hk hT ⊢
  have hyl:ys.length=va.streams.length:=hT.1
  have hsm:s.recs.length≤80:=h80 s (List.mem_of_getElem? hs)
  obtain ⟨⟨s1,A1,c1⟩,hy,hnm,hrl⟩ : ∃ y,ys[i]?=some y∧y.1.name=s.name∧y.1.recs.length=s.recs.length:=by
    obtain ⟨_,_,_,y,hy,h4,h5,_⟩:=hT
    exact ⟨y,hy,h4,h5⟩
  dsimp only at hnm hrl
  refine J.open (Δ':=own cb 45 _::fRs ys) (List.Perm.swap _ _ _) (by intro h;rw [h] at hyl;simp at hyl;omega) ?_
  intro nb no cap pre post hR
  obtain ⟨hv,hpre,hle,hcap,hroom,_⟩:=hR
  injection hv with hA _ hc
  subst hA;subst hc
  by_cases hkr:k < s.recs.length
  · obtain ⟨r,hr⟩ : ∃ r,s1.recs[k]?=some r:=⟨_,List.getElem?_eq_getElem (by omega)⟩
    obtain ⟨hT2,hne⟩:=at_step hT hs hy hr
    have hcell:seenF.cells (timed (s1,A1,c1) k r)=seenF.cells (s1,A1,c1):=by
      show [_,_,_,is (.slice A1 (s1.recs.set k _).length c1)]=[_,_,_,is (.slice A1 s1.recs.length c1)]
      rw [List.length_set];rfl
    have hflat:flat seenF.toTy (ys.set i (timed (s1,A1,c1) k r))=flat seenF.toTy ys:=flat_same hy hcell
    have hgc:=small_good (clock:=va.clock) hT2.2.2.1 hT2.1 (by omega)
    have hfR:fR (timed (s1,A1,c1) k r)=row (.slice A1 s1.recs.length c1) 73 recVT.toTy (s1.recs.set k { r with time:=flipT r.time }):=by
      show row (.slice A1 (s1.recs.set k _).length c1) _ _ _=_
      rw [List.length_set];rfl
    have hput:=fRs_put (timed (s1,A1,c1) k r) (show i < ys.length by omega)
    rw [hfR] at hput
    have hsame:=msame_fn va ⟨va.clock,(ys.set i (timed (s1,A1,c1) k r)).map (·.1)⟩ hga hgc
    rw [decide_eq_false (fun e=>hne (congrArg ViewV.streams e))] at hsame
    have hl2:(ys.set i (timed (s1,A1,c1) k r)).length=va.streams.length:=by rw [List.length_set];exact hyl
    obtain ⟨zs,hzs⟩ : ∃ zs,zs=ys.set i (timed (s1,A1,c1) k r):=⟨_,rfl⟩
    rw [← hzs] at hT2 hflat hput hsame hl2
    repeat (first|((first|(apply Lq.s;rfl)|apply PRun.s|(apply Lq.run;rfl;rfl;rfl;exact bsB)|(apply PRun.run;rfl;rfl;exact bsB));first|(apply op_ocell (φ:=is (.slice A1 s1.recs.length c1));rfl;exact bsM;(rw [Int.toNat_natCast];exact cell_rfld seenF.toTy (k:=3) hpre hy (show 3 < 4 by decide)))|(apply op_ocell;rfl;exact bsM;rfl)|(apply op_slen;rfl)|(apply op_siaddr;rfl;rfl;omega;omega)|(exact bsO))|refine bsA ?_|(apply Lq.al;rfl;rfl;intro b)|(apply Open.cons;intro b)|refine bsC ?_)
    refine J.open (T:=recVT.toTy) (xs:=s1.recs) (v := .slice A1 s1.recs.length c1) (e := 73) (Δ':=own nb 70 _::own cb 45 _::fRs (ys.eraseIdx i)) ((List.Perm.append_left [_,_] (fRs_pick hy)).trans (permP [[_],[_],[_],_] [0,1,2,3] [2,0,1,3] (by decide))) (by intro h;rw [h] at hr;simp at hr) ?_
    intro ob oo ocap pre2 post2 hR2
    obtain ⟨hv2,hpre2,hle2,hcap2,hroom2,_⟩:=hR2
    injection hv2 with hA2 _ hc2
    subst hA2;subst hc2
    repeat (first|((first|(apply Lq.s;rfl)|apply PRun.s|(apply Lq.run;rfl;rfl;rfl;exact bsB)|(apply PRun.run;rfl;rfl;exact bsB));first|(apply op_ocell (φ:=is (.slice (some ⟨ob,oo,none⟩) s1.recs.length c1));rfl;exact bsM;(rw [Int.toNat_natCast];exact cell_rfld seenF.toTy (k:=3) hpre hy (show 3 < 4 by decide)))|(apply op_ocell;rfl;exact bsM;rfl)|(apply op_slen;rfl)|(apply op_siaddr;rfl;rfl;omega;omega)|(apply op_oload (intT .i64) (x:=r.time);rfl;exact bsM;(rw [Int.toNat_natCast];exact at_rfld recVT.toTy (k:=0) (m:=1) hpre2 hr (show 0+1≤3 by decide)))|(apply op_xorI (c:=flipT r.time);rfl;rfl;exact flip_def r.time)|(exact bsO))|refine bsA ?_|(apply Lq.al;rfl;rfl;intro b)|(apply Open.cons;intro b)|(apply J.drawN;exact mixed;kernel_rfl)|refine bsC ?_)
    refine Lq.storeE (φs':=pre2++flat recVT.toTy (s1.recs.set k { r with time:=flipT r.time })++post2) rfl rfl (List.Perm.refl _) (Seg.is rfl) rfl (by rw [Int.toNat_natCast];exact room_rfld recVT.toTy (k:=0) (n:=1) hpre2 hr (show 0+1≤3 by decide)) (by rw [Int.toNat_natCast];exact set_rfld recVT.toTy (post:=post2) (v:={ r with time:=flipT r.time }) hpre2 hr (k:=0) (show 0+1≤3 by decide) rfl) ?_
    refine Lq.close recVT.toTy (s1.recs.set k { r with time:=flipT r.time }) (b:=ob) (o:=oo) (cap:=c1) (List.Perm.refl _) (set_len' recVT.toTy hroom2) (by rw [List.length_set];exact hle2) hcap2 (take_rowT recVT.toTy hpre2) ?_
    rw [List.length_set, ← hflat]
    refine Lq.close seenF.toTy zs (b:=nb) (o:=no) (cap:=c0) (Δ':=row _ _ _ _::own cb 45 _::fRs (ys.eraseIdx i)) (List.Perm.swap _ _ _) (by rw [hflat];exact hroom) (by omega) hcap (take_rowT seenF.toTy hpre) ?_
    rw [hl2]
    refine Lq.perm (Δ':=own cb 45 [is (.int .i64 va.clock),is (.slice (some ⟨nb,no,none⟩) va.streams.length c0)]::row (.slice (some ⟨nb,no,none⟩) va.streams.length c0) 70 seenF.toTy zs::fRs zs) ((permP [[_],[_],[_],_] [0,1,2,3] [2,0,1,3] (by decide)).trans (List.Perm.append_left [_,_] hput.symm)) ?_
    have hlk:=look_view (Δ:=own cb 45 [is (.int .i64 va.clock),is (.slice (some ⟨nb,no,none⟩) va.streams.length c0)]::row (.slice (some ⟨nb,no,none⟩) va.streams.length c0) 70 seenF.toTy zs::fRs zs) (v:=va) (clock:=va.clock) hl2 (List.mem_cons_of_mem _ List.mem_cons_self) (fun r h=>List.mem_cons_of_mem _ (List.mem_cons_of_mem _ h))
    repeat (first|((first|(apply Lq.s;rfl)|apply PRun.s|(apply Lq.run;rfl;rfl;rfl;exact bsB)|(apply PRun.run;rfl;rfl;exact bsB));first|(apply op_load viewT;rfl)|(apply op_oload (stO (some ⟨nb,no,none⟩) va.streams.length c0) (x:=va.clock);rfl;exact bsM;rfl)|(apply op_look hsame (flat_isK _) (φs:=[viewT.val va,(stO (some ⟨nb,no,none⟩) va.streams.length c0).val va.clock]);exact bsD;exact hlk)|(exact bsO))|refine bsA ?_|(apply Lq.al;rfl;rfl;intro b)|(apply Open.cons;intro b)|(apply J.drawN;exact mixed;kernel_rfl)|refine bsC ?_)
    exact E.again (k+1,zs) (by dsimp only;omega) ⟨by dsimp only;omega,hT2⟩ (Sub.same (by repeat' (first|exact trivial|refine ⟨rfl,?_⟩)))
  obtain rfl:k=s.recs.length:=by omega
  obtain ⟨hT2,hne⟩:=at_name hT hs hy
  have hgc:=small_good (clock:=va.clock) hT2.2.2 hT2.1 (by omega)
  have hfR:=fR_same ys hy (show fR (named (s1,A1,c1))=fR (s1,A1,c1) from rfl)
  have hsame:=msame_fn va ⟨va.clock,(ys.set i (named (s1,A1,c1))).map (·.1)⟩ hga hgc
  rw [decide_eq_false (fun e=>hne (congrArg ViewV.streams e))] at hsame
  have hl2:(ys.set i (named (s1,A1,c1))).length=va.streams.length:=by rw [List.length_set];exact hyl
  have hnl:s1.name.length≤140737488351232:=by
    rw [hnm]
    have:=(ha.2.2 s (List.mem_of_getElem? hs)).1
    unfold reachBytes at this
    omega
  repeat (first|((first|(apply Lq.s;rfl)|apply PRun.s|(apply Lq.run;rfl;rfl;rfl;exact bsB)|(apply PRun.run;rfl;rfl;exact bsB));first|(apply op_ocell (φ:=is (.slice A1 s1.recs.length c1));rfl;exact bsM;(rw [Int.toNat_natCast];exact cell_rfld seenF.toTy (k:=3) hpre hy (show 3 < 4 by decide)))|(apply op_ocell;rfl;exact bsM;rfl)|(apply op_slen;rfl)|(apply op_siaddr;rfl;rfl;omega;omega)|(exact bsO))|refine bsA ?_|(apply Lq.al;rfl;rfl;intro b)|(apply Open.cons;intro b)|refine bsC ?_)
  repeat (first|((first|(apply Lq.s;rfl)|apply PRun.s|(apply Lq.run;rfl;rfl;rfl;exact bsB)|(apply PRun.run;rfl;rfl;exact bsB));first|(apply op_ocell;rfl;exact bsM;rfl)|(apply op_slen;rfl)|(apply op_siaddr;rfl;rfl;omega;omega)|(apply op_oload strT (x:=s1.name);rfl;exact bsM;(rw [Int.toNat_natCast];exact at_rfld seenF.toTy (k:=0) (m:=1) hpre hy (show 0+1≤4 by decide)))|(apply op_sadd (a:=s1.name) (b:=[120]);rfl;rfl;(show _+1≤_;omega))|(exact bsO))|refine bsA ?_|(apply Lq.al;rfl;rfl;intro b)|(apply Open.cons;intro b)|(apply J.drawN;exact mixed;kernel_rfl)|refine bsC ?_)
  refine Lq.storeE (φs':=pre++flat seenF.toTy (ys.set i (named (s1,A1,c1)))++post) rfl rfl (List.Perm.refl _) (Seg.is rfl) rfl (by rw [Int.toNat_natCast];exact room_rfld seenF.toTy (k:=0) (n:=1) hpre hy (show 0+1≤4 by decide)) (by rw [Int.toNat_natCast];exact set_rfld seenF.toTy (post:=post) (v:=named (s1,A1,c1)) hpre hy (k:=0) (show 0+1≤4 by decide) rfl) ?_
  refine Lq.close seenF.toTy (ys.set i (named (s1,A1,c1))) (b:=nb) (o:=no) (cap:=c0) (List.Perm.refl _) (set_len' seenF.toTy hroom) (by rw [List.length_set];exact hle) hcap (take_rowT seenF.toTy hpre) ?_
  rw [hl2, ← hfR]
  obtain ⟨zs,hzs⟩ : ∃ zs,zs=ys.set i (named (s1,A1,c1)):=⟨_,rfl⟩
  rw [← hzs] at hT2 hsame hl2 ⊢
  refine Lq.perm (List.Perm.swap _ _ _) ?_
  have hlk:=look_view (Δ:=own cb 45 [is (.int .i64 va.clock),is (.slice (some ⟨nb,no,none⟩) va.streams.length c0)]::row (.slice (some ⟨nb,no,none⟩) va.streams.length c0) 70 seenF.toTy zs::fRs zs) (v:=va) (clock:=va.clock) hl2 (List.mem_cons_of_mem _ List.mem_cons_self) (fun r h=>List.mem_cons_of_mem _ (List.mem_cons_of_mem _ h))
  repeat (first|((first|(apply Lq.s;rfl)|apply PRun.s|(apply Lq.run;rfl;rfl;rfl;exact bsB)|(apply PRun.run;rfl;rfl;exact bsB));first|(apply op_load viewT;rfl)|(apply op_oload (stO (some ⟨nb,no,none⟩) va.streams.length c0) (x:=va.clock);rfl;exact bsM;rfl)|(apply op_look hsame (flat_isK _) (φs:=[viewT.val va,(stO (some ⟨nb,no,none⟩) va.streams.length c0).val va.clock]);exact bsD;exact hlk)|(exact bsO))|refine bsA ?_|(apply Lq.al;rfl;rfl;intro b)|(apply Open.cons;intro b)|(apply J.drawN;exact mixed;kernel_rfl)|refine bsC ?_)
  exact E.again (i+1,zs) (by dsimp only;omega) ⟨by dsimp only;omega,hT2⟩ (Sub.same (by repeat' (first|exact trivial|refine ⟨rfl,?_⟩)))
end Go.Proofs.YtljbbajelkkafaaDoor.L
