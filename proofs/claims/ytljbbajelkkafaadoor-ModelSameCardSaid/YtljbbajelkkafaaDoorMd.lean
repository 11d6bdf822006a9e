import Derived.Test.YtljbbajelkkafaaDoorMb
import Derived.Test.YtljbbajelkkafaaDoorNf
import Derived.Test.YtljbbajelkkafaaDoorNx
/-
  Rules: rows given up inside values;calls that are lent a row;clones of rows,walked.
-/
namespace Go.Proofs.YtljbbajelkkafaaDoor.L
open Go
set_option linter.unusedSectionVars false
variable [Globs] [Has_sha_table] [Has_sha_begin]
set_option linter.unusedVariables false
theorem Lq.frzA {C:Cx} {Γ:Env} {Δ Δ':List Res} {Q:Exit→Act→World→Prop} {ops:Array Oper} {rest:List Oper} {α:Type} {T:Ty α} {xs:List α} {v:Value} {e:Nat} {ps:List Pr} (d i:Nat) (h:look Γ d=some (agg ps)) (hi:ps[i]?=some (is v)) (hp:Δ.Perm (row v e T xs::Δ'))
    (k:Lq C ((d,agg (ps.set i (sl T xs)))::Γ) Δ' ops rest Q):Lq C Γ Δ ops rest Q:=fun H a w S=>by
  obtain ⟨H',S',hle,hsl⟩:=S.freeze hp
  refine k H' a w (S'.weak fun t χ ht=>?_)
  unfold look at ht
  split at ht
  · rename_i hk
    have hk:=Nat.eq_of_beq_eq_true hk
    subst hk
    injection ht with ht;subst ht
    obtain ⟨u,hu,h2⟩:=S'.env d _ h
    refine ⟨u,hu,?_⟩
    obtain ⟨cs,hcv,hc⟩:=h2
    refine ⟨cs,hcv,All2.of_get (by rw [List.length_set];exact hc.length) fun j φ c hj hcj=>?_⟩
    rw [List.getElem?_set] at hj
    split at hj
    · rename_i e2;subst e2
      split at hj
      · injection hj with hj;subst hj
        obtain ⟨c',hc',h3⟩:=hc.get _ _ hi
        rw [hcj] at hc';injection hc' with hc';subst hc'
        have h4:c=v:=h3.1
        exact ⟨by rw [h4];exact hsl,h3.2⟩
      · cases hj
    · obtain ⟨c',hc',h3⟩:=hc.get _ _ hj
      rw [hcj] at hc';injection hc' with hc';subst hc'
      exact h3
  · exact S'.env t χ ht
theorem plain_mrec:plainT mrecT.toTy:=fun x φ h=>by
  rcases List.mem_append.1 h with h|h
  · rcases List.mem_cons.1 h with rfl|h
    · exact ⟨_,rfl⟩
    rcases List.mem_cons.1 h with rfl|h
    · exact ⟨_,rfl⟩
    rw [List.mem_singleton] at h;subst h;exact ⟨_,rfl⟩
  · have h:φ ∈ flat u8T.toTy x.hash.1:=h
    unfold flat at h
    obtain ⟨l,hl,hφ⟩:=List.mem_flatten.1 h
    obtain ⟨c,_,rfl⟩:=List.mem_map.1 hl
    have hφ:φ ∈ [is (.int .u8 (c.toNat:Int))]:=hφ
    rw [List.mem_singleton] at hφ
    exact ⟨_,hφ⟩
set_option linter.unusedVariables false
set_option linter.unusedSimpArgs false
attribute [local irreducible] J Lq E OpP PRun is any agg tup ptr sl PRunW OpE
attribute [local irreducible] slt row leafH shaH
theorem mrclone_fnR (l:List MRec) (hl:l.length≤100000):FnR Tryd.prog 76 [sl mrecT.toTy l] [] (fun ψ Δ => ∃ A c,ψ=is (.slice A l.length c)∧Δ=[row (.slice A l.length c) 81 mrecT.toTy l]):=by
  refine FnR.mk' 8 Tryd.func76 rfl rfl rfl rfl fun w0 H0=>?_
  refine J.nilrow 81 mrecT.toTy ?_
  repeat (first|((first|(apply Lq.s;rfl)|apply PRun.s|(apply Lq.run;rfl;rfl;rfl;exact bsB)|(apply PRun.run;rfl;rfl;exact bsB));first|(exact bsO))|refine bsA ?_|(apply Lq.al;rfl;rfl;intro b)|(apply Open.cons;intro b)|(apply J.drawN;exact mixed;kernel_rfl)|refine bsC ?_)
  refine Lq.slOpen 3 rfl fun A c hA=>?_
  cases A with
  | none =>
    obtain rfl:=hA rfl
    repeat (first|((first|(apply Lq.s;rfl)|apply PRun.s|(apply Lq.run;rfl;rfl;rfl;exact bsB)|(apply PRun.run;rfl;rfl;exact bsB));first|(apply op_slnil;rfl;rfl)|(exact bsO))|refine bsA ?_|(apply Lq.al;rfl;rfl;intro b)|(apply Open.cons;intro b)|(apply J.drawN;exact mixed;kernel_rfl)|refine bsC ?_)
    (refine J.ret ?_;(repeat (first|refine E.then_ret ?_|refine E.in_ret ?_)))
    exact E.retR1 (Δ':=[row (.slice none 0 0) 81 mrecT.toTy []]) (G:=[]) rfl rfl ⟨none,0,rfl,rfl⟩ (List.Perm.refl _)
  | some A =>
    (apply Lq.s;rfl;(apply op_slnil;rfl;rfl))
    (repeat (first|apply J.seq|apply E.next|apply J.lq|apply Lq.nil|apply J.block|apply E.in_normal|apply J.skip|(apply J.cond_t;rfl)|(apply J.cond_f;rfl)))
    (apply Lq.bsl (T:=mrecT) (xs:=[]);rfl;(repeat (first|exact PO.nil _|(apply PO.cons;rfl)));rfl;rfl;rfl)
    intro A1 c1
    repeat (first|((first|(apply Lq.s;rfl)|apply PRun.s|(apply Lq.run;rfl;rfl;rfl;exact bsB)|(apply PRun.run;rfl;rfl;exact bsB));first|(exact bsO))|refine bsA ?_|(apply Lq.al;rfl;rfl;intro b)|(apply Open.cons;intro b)|(apply J.drawN;exact mixed;kernel_rfl)|refine bsC ?_)
    (apply Lq.append (T:=mrecT) (xs:=[]) (ys:=l);rfl;exact List.Perm.refl _;(apply From.sl;rfl);rfl;rfl;rfl;(show 0+_≤maxLen;unfold maxLen;omega);(show (0+_)*64≤_;omega))
    intro A2 c2
    rw [List.nil_append]
    repeat (first|((first|(apply Lq.s;rfl)|apply PRun.s|(apply Lq.run;rfl;rfl;rfl;exact bsB)|(apply PRun.run;rfl;rfl;exact bsB));first|(exact bsO))|refine bsA ?_|(apply Lq.al;rfl;rfl;intro b)|(apply Open.cons;intro b)|(apply J.drawN;exact mixed;kernel_rfl)|refine bsC ?_)
    (refine J.ret ?_;(repeat (first|refine E.then_ret ?_|refine E.in_ret ?_)))
    exact E.retR1 (G:=[_]) rfl rfl ⟨A2,c2,rfl,rfl⟩ (List.Perm.refl _)
theorem msclone_fnR (xs:List MO) (hl:xs.length≤100000) (A:Option Addr) (c e:Nat):FnR Tryd.prog 75 [is (.slice A xs.length c)] [row (.slice A xs.length c) e mstrO.toTy xs] (fun ψ Δ => ∃ A' c',ψ=is (.slice A' xs.length c')∧Δ=[row (.slice A' xs.length c') 79 mstrO.toTy xs,row (.slice A xs.length c) e mstrO.toTy xs]):=by
  refine FnR.mk' 8 Tryd.func75 rfl rfl rfl rfl fun w0 H0=>?_
  refine J.rowNil (List.Perm.refl _) (fun hA hn hc hx=>?_) (fun a hA=>?_)
  · subst hA;subst hx;subst hc
    refine J.nilrow 79 mstrO.toTy ?_
    repeat (first|((first|(apply Lq.s;rfl)|apply PRun.s|(apply Lq.run;rfl;rfl;rfl;exact bsB)|(apply PRun.run;rfl;rfl;exact bsB));first|(apply op_slnil;rfl;rfl)|(exact bsO))|refine bsA ?_|(apply Lq.al;rfl;rfl;intro b)|(apply Open.cons;intro b)|(apply J.drawN;exact mixed;kernel_rfl)|refine bsC ?_)
    (refine J.ret ?_;(repeat (first|refine E.then_ret ?_|refine E.in_ret ?_)))
    exact E.retR1 (G:=[]) rfl rfl ⟨none,0,rfl,rfl⟩ (List.Perm.refl _)
  · subst hA
    repeat (first|((first|(apply Lq.s;rfl)|apply PRun.s|(apply Lq.run;rfl;rfl;rfl;exact bsB)|(apply PRun.run;rfl;rfl;exact bsB));first|(apply op_slnil;rfl;rfl)|(exact bsO))|refine bsA ?_|(apply Lq.al;rfl;rfl;intro b)|(apply Open.cons;intro b)|(apply J.drawN;exact mixed;kernel_rfl)|refine bsC ?_)
    (apply Lq.bsl (T:=mstrO) (xs:=[]);rfl;(repeat (first|exact PO.nil _|(apply PO.cons;rfl)));rfl;rfl;rfl)
    intro A1 c1
    repeat (first|((first|(apply Lq.s;rfl)|apply PRun.s|(apply Lq.run;rfl;rfl;rfl;exact bsB)|(apply PRun.run;rfl;rfl;exact bsB));first|(exact bsO))|refine bsA ?_|(apply Lq.al;rfl;rfl;intro b)|(apply Open.cons;intro b)|(apply J.drawN;exact mixed;kernel_rfl)|refine bsC ?_)
    (apply Lq.append (T:=mstrO) (xs:=[]) (ys:=xs);rfl;exact List.Perm.refl _;(apply From.row;rfl;exact List.mem_cons_of_mem _ List.mem_cons_self);rfl;rfl;rfl;(show 0+_≤maxLen;unfold maxLen;omega);(show (0+_)*72≤_;omega))
    intro A2 c2
    rw [List.nil_append]
    repeat (first|((first|(apply Lq.s;rfl)|apply PRun.s|(apply Lq.run;rfl;rfl;rfl;exact bsB)|(apply PRun.run;rfl;rfl;exact bsB));first|(exact bsO))|refine bsA ?_|(apply Lq.al;rfl;rfl;intro b)|(apply Open.cons;intro b)|(apply J.drawN;exact mixed;kernel_rfl)|refine bsC ?_)
    (refine J.ret ?_;(repeat (first|refine E.then_ret ?_|refine E.in_ret ?_)))
    exact E.retR1 (G:=[]) rfl rfl ⟨A2,c2,rfl,rfl⟩ (List.Perm.refl _)
end Go.Proofs.YtljbbajelkkafaaDoor.L
/-
  Rules: orders of what is owned;cells of rows;results.
-/
namespace Go.Proofs.YtljbbajelkkafaaDoor.L
open Go
set_option linter.unusedSectionVars false
variable [Globs] [Has_sha_table] [Has_sha_begin]
set_option linter.unusedVariables false
/-- Lists, one behind the other; no empty one at the end. -/
def catL {α:Type}:List (List α)→List α
  | []=>[]
  | [x]=>x
  | x::y::r=>x++catL (y::r)
theorem catL_eq {α:Type} : ∀ l:List (List α),catL l=l.flatten
  | []=>rfl
  | [x]=>by simp [catL]
  | x::y::r=>by
    have:=catL_eq (y::r)
    show x++catL (y::r)=_
    rw [this];rfl
theorem permP (P:List (List Res)) (i j:List Nat) (h:i.isPerm j=true):(catL (i.map fun k=>P.getD k [])).Perm (catL (j.map fun k=>P.getD k [])):=by
  rw [catL_eq,catL_eq]
  exact ((List.isPerm_iff.1 h).map _).flatten
/-- Cells, as a type. -/
def consT (p:Pr) (ps:List Pr):Td Unit where
  sz:=ps.length+1
  cells _:=p::ps
  len _:=rfl
  ag:=true
  one h:=by cases h
  sc x H v h _:=by cases h
  pos:=Nat.succ_pos _
theorem J.close {α:Type} {C:Cx} {Γ:Env} {Δ Δ':List Res} {Q:Exit→Act→World→Prop} {x:Code} (T:Ty α) (xs:List α) {b o cap e:Nat} {φs:List Pr} (hp:Δ.Perm (own b e φs::Δ')) (h1:o+cap*T.sz≤φs.length) (h2:xs.length≤cap) (h3:cap≤maxLen) (h4:(φs.drop o).take (xs.length*T.sz)=flat T xs) (k:J C (Γ) (row (.slice (some ⟨b,o,none⟩) xs.length cap) e T xs::Δ') x Q):J C Γ Δ x Q :=
  fun H a w S=>k H a w (S.close T xs hp h1 h2 h3 h4)
theorem E.perm {C:Cx} {Γ:Env} {Δ Δ':List Res} {Q:Exit→Act→World→Prop} {x:Exit} (hp:Δ.Perm Δ') (k:E C x Γ Δ' Q):E C x Γ Δ Q:=fun H a w S=>k H a w (S.perm hp)
theorem All2.convM {H:IH} : ∀ {ps qs:List Pr} {cs:List Value},All2 (fun (p q:Pr) => ∀ v,p.h H v→q.h H v) ps qs→All2 (fun φ c=>φ.c H c) ps cs→All2 (fun φ c=>φ.c H c) qs cs
  | [],[],[],_,_=>trivial
  | _::_,_::_,_::_,⟨h1,h2⟩,⟨k1,k2⟩=>⟨⟨h1 _ k1.1,k1.2⟩,All2.convM h2 k2⟩
  | [],_::_,_,h,_=>h.elim
  | _::_,[],_,h,_=>h.elim
  | [],[],_::_,_,h=>h.elim
  | _::_,_::_,[],_,h=>h.elim
/-- What a block holds, said weaker. -/
theorem own_conv {b e:Nat} {φs ψs:List Pr} (h : ∀ H,All2 (fun (p q:Pr) => ∀ v,p.h H v→q.h H v) φs ψs) : ∀ H w,(own b e φs).ok H w→(own b e ψs).ok H w∧(own b e ψs).blk=(own b e φs).blk :=
  fun H w ⟨⟨cs,hc,ha⟩,hn⟩=>⟨⟨⟨cs,hc,All2.convM (h H) ha⟩,hn⟩,rfl⟩
theorem agg_convM {ps qs:List Pr} (h : ∀ H,All2 (fun (p q:Pr) => ∀ v,p.h H v→q.h H v) ps qs) : ∀ H v,(agg ps).h H v→(agg qs).h H v :=
  fun H v ⟨cs,hv,hc⟩=>⟨cs,hv,All2.convM (h H) hc⟩
theorem All2.convT {H:IH} : ∀ {ps qs:List Pr} {cs:List Value},All2 (fun (p q:Pr) => ∀ v,p.h H v→q.h H v) ps qs→All2 (fun (φ:Pr) c=>φ.h H c) ps cs→All2 (fun (φ:Pr) c=>φ.h H c) qs cs
  | [],[],[],_,_=>trivial
  | _::_,_::_,_::_,⟨h1,h2⟩,⟨k1,k2⟩=>⟨h1 _ k1,All2.convT h2 k2⟩
  | [],_::_,_,h,_=>h.elim
  | _::_,[],_,h,_=>h.elim
  | [],[],_::_,_,h=>h.elim
  | _::_,_::_,[],_,h=>h.elim
theorem tup_convM {ps qs:List Pr} (h : ∀ H,All2 (fun (p q:Pr) => ∀ v,p.h H v→q.h H v) ps qs) : ∀ H v,(tup ps).h H v→(tup qs).h H v :=
  fun H v ⟨cs,hv,hc⟩=>⟨cs,hv,All2.convT (h H) hc⟩
section
variable {P:Program} {Γ:Env} {Δ:List Res} {d:Option Nat} {ty t yt:Nat} {pos:String} {af:Array Edge} {g:Option (Nat × Bool)} {x y:Operand}
theorem op_seqT {a b:List UInt8} (h1:opd Γ x=some (is (str a))) (h2:opd Γ y=some (is (str b))) (h:a=b):OpP P Γ Δ ⟨d, .binOp .eql t x y yt,ty,pos,af,g⟩ (is (.bool true)):=by
  have:=op_seql (P:=P) (Δ:=Δ) (d:=d) (ty:=ty) (pos:=pos) (af:=af) (g:=g) (t:=t) (yt:=yt) h1 h2
  rwa [decide_eq_true h] at this
theorem op_seqF {a b:List UInt8} (h1:opd Γ x=some (is (str a))) (h2:opd Γ y=some (is (str b))) (h:a ≠ b):OpP P Γ Δ ⟨d, .binOp .eql t x y yt,ty,pos,af,g⟩ (is (.bool false)):=by
  have:=op_seql (P:=P) (Δ:=Δ) (d:=d) (ty:=ty) (pos:=pos) (af:=af) (g:=g) (t:=t) (yt:=yt) h1 h2
  rwa [decide_eq_false h] at this
end
theorem Lq.openM {α:Type} {C:Cx} {Γ:Env} {Δ Δ':List Res} {ops:Array Oper} {rest:List Oper} {Q:Exit→Act→World→Prop} {T:Ty α} {v:Value} {e:Nat} {xs:List α} (hp:Δ.Perm (row v e T xs::Δ')) (hne:xs ≠ []) (k : ∀ b o cap pre post,RowAt T v xs b o cap pre post→Lq C Γ (own b e (pre++flat T xs++post)::Δ') ops rest Q):Lq C Γ Δ ops rest Q:=fun H a w S=>by
  obtain ⟨b,o,cap,pre,post,h,S'⟩:=S.open hp hne
  exact k b o cap pre post h H a w S'
theorem Lq.close {α:Type} {C:Cx} {Γ:Env} {Δ Δ':List Res} {ops:Array Oper} {rest:List Oper} {Q:Exit→Act→World→Prop} (T:Ty α) (xs:List α) {b o cap e:Nat} {φs:List Pr} (hp:Δ.Perm (own b e φs::Δ')) (h1:o+cap*T.sz≤φs.length) (h2:xs.length≤cap) (h3:cap≤maxLen) (h4:(φs.drop o).take (xs.length*T.sz)=flat T xs) (k:Lq C Γ (row (.slice (some ⟨b,o,none⟩) xs.length cap) e T xs::Δ') ops rest Q):Lq C Γ Δ ops rest Q :=
  fun H a w S=>k H a w (S.close T xs hp h1 h2 h3 h4)
theorem splice_mid (A C B seg:List Pr) {n k:Nat} (hA:A.length=n) (h:k+seg.length≤C.length):splice (A++(C++B)) (n+k) seg=A++(splice C k seg++B):=by
  rw [splice_pre A (C++B) seg k hA]
  congr 1
  unfold splice
  rw [List.take_append_of_le_length (by omega),List.drop_append_of_le_length h]
  simp only [List.append_assoc]
theorem flat_split {α:Type} (T:Ty α) {xs:List α} {i:Nat} {r:α} (h:xs[i]?=some r):flat T xs=flat T (xs.take i)++(T.cells r++flat T (xs.drop (i+1))):=by
  obtain ⟨hl,hh⟩:=List.getElem?_eq_some_iff.1 h
  conv=>lhs;rw [← List.take_append_drop i xs,List.drop_eq_getElem_cons hl,hh]
  rw [flat_app]
  rfl
/-- A part of an item of a row, written. -/
theorem set_rfld {α:Type} (T:Ty α) {pre post seg:List Pr} {xs:List α} {o i k:Nat} {r v:α} (h:pre.length=o) (hx:xs[i]?=some r) (hk:k+seg.length≤T.sz) (e:splice (T.cells r) k seg=T.cells v):splice (pre++flat T xs++post) (o+i*T.sz+k) seg=pre++flat T (xs.set i v)++post:=by
  obtain ⟨hl,hh⟩:=List.getElem?_eq_some_iff.1 hx
  have hs:(xs.set i v)[i]?=some v:=List.getElem?_set_self hl
  rw [flat_split T hx,flat_split T hs,List.take_set_of_le (Nat.le_refl _),List.drop_set_of_lt (by omega)]
  have h1:(pre++flat T (xs.take i)).length=o+i*T.sz:=by
    rw [List.length_append,flat_len,List.length_take,Nat.min_eq_left (by omega),h]
  have:=splice_mid (pre++flat T (xs.take i)) (T.cells r) (flat T (xs.drop (i+1))++post) seg h1 (by rw [T.len];exact hk)
  rw [e] at this
  simp only [List.append_assoc] at this ⊢
  exact this
theorem cell_rfld {α:Type} (T:Ty α) {pre post:List Pr} {xs:List α} {o i k:Nat} {r:α} (h:pre.length=o) (hx:xs[i]?=some r) (hk:k < T.sz):(pre++flat T xs++post)[o+i*T.sz+k]?=(T.cells r)[k]?:=by
  have h1:(pre++flat T (xs.take i)).length=o+i*T.sz:=by
    have:=(List.getElem?_eq_some_iff.1 hx).1
    rw [List.length_append,flat_len,List.length_take,Nat.min_eq_left (by omega),h]
  have e:pre++flat T xs++post=(pre++flat T (xs.take i))++(T.cells r++(flat T (xs.drop (i+1))++post)):=by
    rw [flat_split T hx]
    simp only [List.append_assoc]
  rw [e,List.getElem?_append_right (by omega),h1,Nat.add_sub_cancel_left,List.getElem?_append_left (by rw [T.len];exact hk)]
theorem at_rfld {α:Type} (T:Ty α) {pre post:List Pr} {xs:List α} {o i k m:Nat} {r:α} (h:pre.length=o) (hx:xs[i]?=some r) (hk:k+m≤T.sz):((pre++flat T xs++post).drop (o+i*T.sz+k)).take m=((T.cells r).drop k).take m:=by
  rw [← at_row T h hx,List.drop_take,List.take_take,List.drop_drop,Nat.min_eq_left (by omega)]
theorem set_same {α:Type} {l:List α} {i:Nat} {x:α} (h:l[i]?=some x):l.set i x=l:=by
  obtain ⟨hl,hh⟩:=List.getElem?_eq_some_iff.1 h
  rw [← hh];exact List.set_getElem_self hl
theorem room_rfld {α:Type} (T:Ty α) {pre post:List Pr} {xs:List α} {o i k n:Nat} {r:α} (h:pre.length=o) (hx:xs[i]?=some r) (hk:k+n≤T.sz):o+i*T.sz+k+n≤(pre++flat T xs++post).length:=by
  have h1:=(List.getElem?_eq_some_iff.1 hx).1
  have h2:=row_room T (post:=post) h h1
  omega
theorem set_len' {α:Type} (T:Ty α) {pre post:List Pr} {xs:List α} {i:Nat} {v:α} {n:Nat} (h:n≤(pre++flat T xs++post).length):n≤(pre++flat T (xs.set i v)++post).length:=by
  simp only [List.length_append,flat_len,List.length_set] at h ⊢
  exact h
theorem map_take_snoc {α β:Type} (f:α→β) {l:List α} {i:Nat} {x:α} (h:l[i]?=some x):(l.map f).take i++[f x]=(l.map f).take (i+1):=by
  rw [List.take_add_one,List.getElem?_map,h];rfl
section
variable {P:Program} {n:Nat} {w0:World} {H0:IH} {X:List Nat} {Γ:Env} {Δ:List Res} {fn:Func} {post:Pr→List Res→Prop}
theorem E.retRct {α:Type} (T:Td α) {x:α} {r s t b e:Nat} {φs:List Pr} {χ:Pr} {Δ' G:List Res} (hr:fn.results = #[.cell r t, .tmp s]) (h:look Γ r=some (is (.pointer (some ⟨b,0,none⟩)))) (h2:look Γ s=some χ) (hm:own b e φs ∈ Δ) [TSz P t T.sz] [TAg P t T.ag] (hx:φs.take T.sz=T.cells x) (hp:post (tup [T.val x,χ]) Δ') (hΔ:Δ.Perm (Δ'++G)) :
    E ⟨P,n,w0,H0,X,none,[]⟩ .ret Γ Δ (bodyPost P fn (RetR H0 w0 X post)):=fun H a w S=>by
  obtain ⟨v1,hv1,rfl⟩:=S.env r _ h
  obtain ⟨v2,hv2,hχ⟩:=S.env s _ h2
  obtain ⟨u1,hu1,hφ1⟩:=own_load (P:=P) T (t:=t) (S.res _ hm) hx
  refine ⟨S.dfr, .tuple #[u1,v2],?_,_,H,_,Δ',rfl,hp,⟨[u1,v2],rfl,hφ1,hχ,trivial⟩,S.retR hΔ⟩
  simp [results,hr,hv1,hv2,asAddr,hu1]
theorem E.retR3 {r s t:Nat} {φ χ ξ:Pr} {Δ' G:List Res} (hr:fn.results = #[.tmp r, .tmp s, .tmp t]) (h:look Γ r=some φ) (h2:look Γ s=some χ) (h3:look Γ t=some ξ) (hp:post (tup [φ,χ,ξ]) Δ') (hΔ:Δ.Perm (Δ'++G)):E ⟨P,n,w0,H0,X,none,[]⟩ .ret Γ Δ (bodyPost P fn (RetR H0 w0 X post)):=fun H a w S=>by
  obtain ⟨v,hv,hφ⟩:=S.env r φ h
  obtain ⟨u,hu,hχ⟩:=S.env s χ h2
  obtain ⟨x,hx,hξ⟩:=S.env t ξ h3
  refine ⟨S.dfr, .tuple #[v,u,x],?_,_,H,_,Δ',rfl,hp,⟨[v,u,x],rfl,hφ,hχ,hξ,trivial⟩,S.retR hΔ⟩
  rw [results_tmp3 hr a.tmps P w,getD_of hv,getD_of hu,getD_of hx]
end
end Go.Proofs.YtljbbajelkkafaaDoor.L
/-
  States,cloned and seen,walked.
-/
namespace Go.Proofs.YtljbbajelkkafaaDoor.L
open Go
set_option linter.unusedSectionVars false
variable [Globs] [Has_sha_table] [Has_sha_begin]
set_option linter.unusedVariables false
theorem recsR_app (xs ys:List MO):recsR (xs++ys)=recsR xs++recsR ys:=List.map_append
theorem recsR_mem {xs:List MO} {i:Nat} {x:MO} (h:xs[i]?=some x):recR x ∈ recsR xs:=List.mem_map.2 ⟨x,List.mem_of_getElem? h,rfl⟩
theorem take_set_snoc {α:Type} {l:List α} {i:Nat} (h:i < l.length) (v:α):(l.set i v).take (i+1)=l.take i++[v]:=by
  rw [List.take_add_one,List.getElem?_set_self h,List.take_set_of_le (Nat.le_refl _)];rfl
set_option linter.unusedVariables false
set_option linter.unusedSimpArgs false
attribute [local irreducible] J Lq E OpP PRun is any agg tup ptr sl PRunW OpE
attribute [local irreducible] slt row leafH shaH recsR OpR
set_option maxHeartbeats 2000000 in
theorem mclone_fnR (clock:Int) (A:Option Addr) (c:Nat) (xs:List MO) (hl:xs.length≤1000) (hg : ∀ x ∈ xs,x.1.recs.length≤1000∧x.1.holds.length≤1000):FnR Tryd.prog 55 [(stO A xs.length c).val clock] (stL A c xs)
    (fun ψ Δ => ∃ A' c' ys,ys.map (·.1)=xs.map (·.1)∧ψ=(stO A' ys.length c').val clock∧Δ=stL A' c' ys++stL A c xs):=by
  refine FnR.mk' 37 Tryd.func55 rfl rfl rfl rfl fun w0 H0=>?_
  unfold stL
  apply J.seq
  apply J.lq
  refine Lq.box rfl rfl (Seg.val (stO A xs.length c) clock) ?_
  intro sb
  repeat (first|((first|(apply Lq.s;rfl)|apply PRun.s|(apply Lq.run;rfl;rfl;rfl;exact bsB)|(apply PRun.run;rfl;rfl;exact bsB));first|(exact bsO))|refine bsA ?_|(apply Lq.al;rfl;rfl;intro b)|(apply Open.cons;intro b)|refine bsC ?_)
  revert b
  intro rb
  repeat (first|((first|(apply Lq.s;rfl)|apply PRun.s|(apply Lq.run;rfl;rfl;rfl;exact bsB)|(apply PRun.run;rfl;rfl;exact bsB));first|(apply op_ocell;rfl;exact bsM;rfl)|(apply op_slen;rfl)|(exact bsO))|refine bsA ?_|(apply Lq.al;rfl;rfl;intro b)|(apply Open.cons;intro b)|refine bsC ?_)
  refine Lq.callS (Δ0:=[_]) (Δf:=own rb 64 _::own sb 64 _::recsR xs) (msclone_fnR xs (by omega) A c 79) rfl bsD (permP [[_],[_],[_],_] [0,1,2,3] [2,0,1,3] (by decide)) ?_
  rintro _ _ ⟨A',c',rfl,rfl⟩
  repeat (first|((first|(apply Lq.s;rfl)|apply PRun.s|(apply Lq.run;rfl;rfl;rfl;exact bsB)|(apply PRun.run;rfl;rfl;exact bsB));first|(apply op_ocell;rfl;exact bsM;rfl)|(apply op_slen;rfl)|(exact bsO))|refine bsA ?_|(apply Lq.al;rfl;rfl;intro b)|(apply Open.cons;intro b)|refine bsC ?_)
  have hflat:recsR ([]:List MO)=[]:=by unfold recsR;rfl
  refine J.loop (fun p:Nat × List MO=>p.1≤xs.length∧p.2.map (·.1)=xs.map (·.1) ∧ ∀ j,p.1≤j→p.2[j]?=xs[j]?)
    (fun p=>[(1,is (.pointer (some ⟨sb,0,none⟩))),(2,is (.pointer (some ⟨rb,0,none⟩))),(11,is (.int .i64 (xs.length:Int))),(12,is (.int .i64 (p.1:Int)))])
    (fun p=>own rb 64 [is (.int .i64 0),is (.slice none 0 0)]::own sb 64 [is (.int .i64 clock),is (.slice A' p.2.length c')]::row (.slice A' p.2.length c') 79 mstrO.toTy p.2::row (.slice A xs.length c) 79 mstrO.toTy xs::(recsR (p.2.take p.1)++recsR xs))
    (fun p=>xs.length - p.1) (0,xs) ⟨Nat.zero_le _,rfl,fun _ _=>rfl⟩ ⟨(by repeat' (first|exact trivial|refine ⟨rfl,?_⟩)),[],by
      dsimp only
      rw [List.take_zero,hflat,List.nil_append,List.append_nil]
      exact permP [[_],[_],[_],[_],_] [0,1,2,3,4] [3,0,1,2,4] (by decide)⟩ ?_
  rintro ⟨i,zs⟩ ⟨hi,hm,hrest⟩
  dsimp only at hi hm hrest ⊢
  have hzl:zs.length=xs.length:=by have:=congrArg List.length hm;rwa [List.length_map,List.length_map] at this
  by_cases hlt:i < xs.length
  · obtain ⟨x,hx⟩ : ∃ x,xs[i]?=some x:=⟨_,List.getElem?_eq_getElem hlt⟩
    have hzx:zs[i]?=some x:=(hrest i (Nat.le_refl _)).trans hx
    obtain ⟨hgr,hgh⟩:=hg x (List.mem_of_getElem? hx)
    have hmem:row (.slice x.2.1 x.1.recs.length x.2.2) 81 mrecT.toTy x.1.recs ∈ recsR xs:=recsR_mem hx
    refine J.open (Δ':=own rb 64 _::own sb 64 _::row _ _ _ _::(recsR (zs.take i)++recsR xs)) (permP [[_],[_],[_],[_],_] [0,1,2,3,4] [2,0,1,3,4] (by decide)) (by intro h;rw [h] at hzl;simp at hzl;omega) ?_
    intro nb no cap pre post hR
    obtain ⟨hv,hpre,hle,hcap,hroom,_⟩:=hR
    injection hv with hA _ hc
    subst hA;subst hc
    repeat (first|((first|(apply Lq.s;rfl)|apply PRun.s|(apply Lq.run;rfl;rfl;rfl;exact bsB)|(apply PRun.run;rfl;rfl;exact bsB));first|(apply op_ocell;rfl;exact bsM;rfl)|(apply op_slen;rfl)|(apply op_siaddr;rfl;rfl;omega;omega)|(exact bsO))|refine bsA ?_|(apply Lq.al;rfl;rfl;intro b)|(apply Open.cons;intro b)|refine bsC ?_)
    refine J.drawW1 15 [(none,none),(none,none),(none,none),(none,none),(none,none),(some 4,some 4),(none,none),(none,none),(none,none),(none,none),(some 4,some 4),(none,some 30),(none,none),(none,none),(some 4,some 4)] 4 (itemK (own nb 79 (pre++flat mstrO.toTy zs++post))) rfl (List.Perm.refl _) mixed (by kernel_rfl) ?_
    refine PRunW.s (op_move rfl) ?_
    refine PRunW.s (op_move rfl) ?_
    refine PRunW.s (op_move rfl) ?_
    refine PRunW.s (op_nilCheck rfl) ?_
    refine PRunW.s (op_ofaddr rfl (by decide)) ?_
    refine PRunW.ldG (slT strT) (v:=x.1.holds) (by decide) itemK_fst rfl rfl (by rw [Int.toNat_natCast];exact at_rfld mstrO.toTy (k:=2) (m:=1) hpre hzx (show 2+1≤4 by decide)) ?_
    refine PRunW.s (op_call (sclone_fn x.1.holds (by omega)) bsD) ?_
    refine PRunW.s (op_move rfl) ?_
    refine PRunW.s (op_nilCheck rfl) ?_
    refine PRunW.s (op_ofaddr rfl (by decide)) ?_
    refine PRunW.ldC (φ:=is (.slice x.2.1 x.1.recs.length x.2.2)) (by decide) itemK_fst rfl rfl (by rw [Int.toNat_natCast];exact cell_rfld mstrO.toTy (k:=3) hpre hzx (show 3 < 4 by decide)) ?_
    have hF:=mrclone_fnR x.1.recs (by omega)
    refine PRunW.mk (R:=fun v=>row v 81 mrecT.toTy x.1.recs) (φ:=anySl x.1.recs.length) anySl_row ?opr ?_
    case opr =>
      exact opR_lend plain_mrec hF rfl (List.mem_cons_of_mem _ (List.mem_cons_of_mem _ (List.mem_cons_of_mem _ (List.mem_append_right _ hmem))))
    refine PRunW.s (op_nilCheck rfl) ?_
    refine PRunW.s (op_ofaddr rfl (by decide)) ?_
    refine PRunW.stG (R1:=itemK (own nb 79 (pre++flat mstrO.toTy zs++post))) (seg:=[sl strT.toTy x.1.holds]) itemK_own rfl rfl rfl Seg.sl rfl (by rw [Int.toNat_natCast];exact room_rfld mstrO.toTy (k:=2) (n:=1) hpre hzx (show 2+1≤4 by decide)) (by rw [Int.toNat_natCast];have:=set_rfld mstrO.toTy (post:=post) (seg:=[sl strT.toTy x.1.holds]) (v:=x) hpre hzx (k:=2) (show 2+1≤4 by decide) rfl;rw [set_same hzx] at this;exact this) ?_
    refine PRunW.nil (Open.kv (v := .bool true) fun _=>Open.rv fun A2 c2=>Open.nil ?_)
    repeat (first|((first|(apply Lq.s;rfl)|apply PRun.s|(apply Lq.run;rfl;rfl;rfl;exact bsB)|(apply PRun.run;rfl;rfl;exact bsB));first|(exact bsO))|refine bsA ?_|(apply Lq.al;rfl;rfl;intro b)|(apply Open.cons;intro b)|refine bsC ?_)
    refine Lq.storeE (φs':=pre++flat mstrO.toTy (zs.set i (x.1,A2,c2))++post) rfl rfl (List.Perm.swap _ _ _) (Seg.is rfl) rfl (by rw [Int.toNat_natCast];exact room_rfld mstrO.toTy (k:=3) (n:=1) hpre hzx (show 3+1≤4 by decide)) (by rw [Int.toNat_natCast];exact set_rfld mstrO.toTy (post:=post) (v:=(x.1,A2,c2)) hpre hzx (k:=3) (show 3+1≤4 by decide) rfl) ?_
    repeat (first|((first|(apply Lq.s;rfl)|apply PRun.s|(apply Lq.run;rfl;rfl;rfl;exact bsB)|(apply PRun.run;rfl;rfl;exact bsB));first|(apply op_add (c:=((i+1:Nat):Int));rfl;rfl;(rw [show (i:Int)+1=((i+1:Nat):Int) by omega];apply wrapi <;> omega))|(exact bsO))|refine bsA ?_|(apply Lq.al;rfl;rfl;intro b)|(apply Open.cons;intro b)|refine bsC ?_)
    refine E.close mstrO.toTy (zs.set i (x.1,A2,c2)) (b:=nb) (o:=no) (cap:=c') (List.Perm.refl _) (set_len' mstrO.toTy hroom) (by rw [List.length_set];exact hle) hcap (take_rowT mstrO.toTy hpre) ?_
    have hlen2:(zs.set i (x.1,A2,c2)).length=zs.length:=List.length_set
    exact E.again (i+1,zs.set i (x.1,A2,c2)) (by dsimp only;omega) ⟨by dsimp only;omega,by
        dsimp only
        rw [List.map_set,hm]
        exact set_same (by rw [List.getElem?_map,hx];rfl),fun j hj=>by
        dsimp only at hj ⊢
        rw [List.getElem?_set_ne (by omega)]
        exact hrest j (by omega)⟩ ⟨(by repeat' (first|exact trivial|refine ⟨rfl,?_⟩)),[],by
        dsimp only
        rw [take_set_snoc (by omega),recsR_app,List.append_nil,hlen2,show recsR [(x.1,A2,c2)]=[row (.slice A2 x.1.recs.length c2) 81 mrecT.toTy x.1.recs] by unfold recsR;rfl,List.append_assoc]
        exact permP [[_],[_],[_],[_],[_],_,_] [0,1,2,3,4,5,6] [2,3,0,4,5,1,6] (by decide)⟩
  obtain rfl:i=xs.length:=by omega
  rw [List.take_of_length_le (by omega)]
  repeat (first|((first|(apply Lq.s;rfl)|apply PRun.s|(apply Lq.run;rfl;rfl;rfl;exact bsB)|(apply PRun.run;rfl;rfl;exact bsB));first|(apply op_ocell;rfl;exact bsM;rfl)|(apply op_slen;rfl)|(apply op_oload (stO A' zs.length c') (x:=clock);rfl;exact bsM;rfl)|(exact bsO))|refine bsA ?_|(apply Lq.al;rfl;rfl;intro b)|(apply Open.cons;intro b)|refine bsC ?_)
  (refine J.ret ?_;(repeat (first|refine E.then_ret ?_|refine E.in_ret ?_)))
  exact E.retRc (stO A' zs.length c') (x:=clock) (Δ':=row (.slice A' zs.length c') 79 mstrO.toTy zs::(recsR zs++row (.slice A xs.length c) 79 mstrO.toTy xs::recsR xs)) (G:=[_,_]) rfl rfl (by exact bsM) rfl ⟨A',c',zs,hm,rfl,rfl⟩ (by
    have:=permP [[own rb 64 (splice [is (.int .i64 0),is (.slice none 0 0)] 0 ((stO A' zs.length c').cells clock))],[own sb 64 [is (.int .i64 clock),is (.slice A' zs.length c')]],[row (.slice A' zs.length c') 79 mstrO.toTy zs],[row (.slice A xs.length c) 79 mstrO.toTy xs],recsR zs,recsR xs] [0,1,2,3,4,5] [2,4,3,5,0,1] (by decide)
    simp only [List.cons_append,List.append_assoc,List.nil_append]
    exact this)
set_option maxHeartbeats 2000000 in
theorem mview_fnR (clock:Int) (A:Option Addr) (c:Nat) (xs:List MO) (hl:xs.length≤1000) (hg : ∀ x ∈ xs,x.1.recs.length≤1000∧x.1.holds.length≤1000):FnR Tryd.prog 31 [(stO A xs.length c).val clock] (stL A c xs)
    (fun ψ Δ=>ψ=viewT.val ⟨clock,xs.map fun x=>x.1.v⟩∧Δ=stL A c xs):=by
  refine FnR.mk' 50 Tryd.func31 rfl rfl rfl rfl fun w0 H0=>?_
  unfold stL
  refine J.nilrow 70 seenT.toTy ?_
  apply J.seq
  apply J.lq
  refine Lq.box rfl rfl (Seg.val (stO A xs.length c) clock) ?_
  intro sb
  repeat (first|((first|(apply Lq.s;rfl)|apply PRun.s|(apply Lq.run;rfl;rfl;rfl;exact bsB)|(apply PRun.run;rfl;rfl;exact bsB));first|(apply op_ocell;rfl;exact bsM;rfl)|(apply op_slen;rfl)|(exact bsO))|refine bsA ?_|(apply Lq.al;rfl;rfl;intro b)|(apply Open.cons;intro b)|refine bsC ?_)
  revert b
  intro vb
  revert b
  intro rb
  obtain ⟨VS,hVS⟩ : ∃ l,l=xs.map fun x=>x.1.v:=⟨_,rfl⟩
  have hVl:VS.length=xs.length:=by rw [hVS,List.length_map]
  rw [← hVS]
  refine J.loop (fun p:Nat × Option Addr × Nat=>p.1≤xs.length)
    (fun p=>[(1,is (.pointer (some ⟨sb,0,none⟩))),(2,is (.pointer (some ⟨rb,0,none⟩))),(3,is (.pointer (some ⟨vb,0,none⟩))),(13,is (.slice A xs.length c)),(14,is (.int .i64 (xs.length:Int))),(15,is (.int .i64 (p.1:Int)))])
    (fun p=>own vb 45 [is (.int .i64 clock),is (.slice p.2.1 (VS.take p.1).length p.2.2)]::own rb 45 [is (.int .i64 0),is (.slice none 0 0)]::own sb 64 ((stO A xs.length c).cells clock)::row (.slice p.2.1 (VS.take p.1).length p.2.2) 70 seenT.toTy (VS.take p.1)::row (.slice A xs.length c) 79 mstrO.toTy xs::recsR xs)
    (fun p=>xs.length - p.1) (0,none,0) (Nat.zero_le _) (Sub.same (by repeat' (first|exact trivial|refine ⟨rfl,?_⟩))) ?_
  rintro ⟨i,A3,c3⟩ hi
  dsimp only at hi ⊢
  by_cases hlt:i < xs.length
  · obtain ⟨x,hx⟩ : ∃ x,xs[i]?=some x:=⟨_,List.getElem?_eq_getElem hlt⟩
    obtain ⟨hgr,hgh⟩:=hg x (List.mem_of_getElem? hx)
    have hpk:=recsR_pick hx
    have hVx:VS.take i++[x.1.v]=VS.take (i+1):=by rw [hVS];exact map_take_snoc (fun x:MO=>x.1.v) hx
    have hVi:(VS.take i).length=i:=by rw [List.length_take];omega
    refine J.open (Δ':=own vb 45 _::own rb 45 _::own sb 64 _::row _ _ _ _::recsR xs) (permP [[_],[_],[_],[_],[_],_] [0,1,2,3,4,5] [4,0,1,2,3,5] (by decide)) (by intro h;rw [h] at hlt;simp at hlt) ?_
    intro nb no cap pre post hR
    obtain ⟨hv,hpre,hle,hcap,hroom,_⟩:=hR
    injection hv with hA _ hc
    subst hA;subst hc
    repeat (first|((first|(apply Lq.s;rfl)|apply PRun.s|(apply Lq.run;rfl;rfl;rfl;exact bsB)|(apply PRun.run;rfl;rfl;exact bsB));first|(apply op_siaddr;rfl;rfl;omega;omega)|(apply op_oload mstrO (x:=x);rfl;exact bsM;exact at_row mstrO.toTy hpre (by rw [Int.toNat_natCast];exact hx))|(exact bsO))|refine bsA ?_|(apply Lq.al;rfl;rfl;intro b)|(apply Open.cons;intro b)|refine bsC ?_)
    revert b
    intro xb
    refine J.close mstrO.toTy xs (b:=nb) (o:=no) (cap:=c) (Δ':=own xb 79 _::own vb 45 _::own rb 45 _::own sb 64 _::row _ _ _ _::recsR xs) (List.Perm.swap _ _ _) hroom hle hcap (take_rowT mstrO.toTy hpre) ?_
    refine J.drawW 9 [(none,none),(none,none),(none,none),(none,none),(none,none),(none,none),(none,none),(none,none),(none,some 6)] mixed (by kernel_rfl) ?_
    repeat (first|((first|apply PRunW.s|(apply PRunW.run;rfl;rfl;exact bsB)|(apply Lq.s;rfl)|apply PRun.s|(apply Lq.run;rfl;rfl;rfl;exact bsB)|(apply PRun.run;rfl;rfl;exact bsB));first|(apply op_ocell;rfl;exact bsM;rfl)|(apply op_slen;rfl)|(apply op_call (sclone_fn x.1.holds (by omega));exact bsD)|(exact bsO))|refine bsA ?_|(apply Lq.al;rfl;rfl;intro b)|(apply Open.cons;intro b)|refine bsC ?_|apply PRunW.nil|(apply PRunW.al;rfl)|(apply PRunW.pass;rfl;rfl)|(apply PRunW.skip;rfl;rfl;exact bsB)|(apply Open.pv;intro b)|apply Open.av|(apply Open.rv;intro A c))
    revert b
    intro yb
    repeat (first|((first|(apply Lq.s;rfl)|apply PRun.s|(apply Lq.run;rfl;rfl;rfl;exact bsB)|(apply PRun.run;rfl;rfl;exact bsB));first|(apply op_ocell;rfl;exact bsM;rfl)|(apply op_slen;rfl)|(exact bsO))|refine bsA ?_|(apply Lq.al;rfl;rfl;intro b)|(apply Open.cons;intro b)|refine bsC ?_)
    obtain ⟨D,hD⟩ : ∃ D,D=row (.slice (some ⟨nb,no,none⟩) xs.length c) 79 mstrO.toTy xs::own vb 45 [is (.int .i64 clock),is (.slice A3 (VS.take i).length c3)]::own rb 45 [is (.int .i64 0),is (.slice none 0 0)]::own sb 64 [is (.int .i64 clock),is (.slice (some ⟨nb,no,none⟩) xs.length c)]::row (.slice A3 (VS.take i).length c3) 70 seenT.toTy (VS.take i)::recsR (xs.eraseIdx i):=⟨_,rfl⟩
    obtain ⟨RV,hRV⟩ : ∃ l,l=x.1.recs.map MRec.v:=⟨_,rfl⟩
    have hRl:RV.length=x.1.recs.length:=by rw [hRV,List.length_map]
    have hxv:x.1.v=⟨x.1.name,x.1.retain,x.1.holds,RV⟩:=by rw [hRV];rfl
    refine J.nilrow 73 recVT.toTy ?_
    refine J.loop (fun p:Nat × Option Addr × Nat=>p.1≤x.1.recs.length)
      (fun p=>[(1,is (.pointer (some ⟨sb,0,none⟩))),(2,is (.pointer (some ⟨rb,0,none⟩))),(3,is (.pointer (some ⟨vb,0,none⟩))),(13,is (.slice (some ⟨nb,no,none⟩) xs.length c)),(14,is (.int .i64 (xs.length:Int))),(15,is (.int .i64 (i:Int))),(6,is (.pointer (some ⟨yb,0,none⟩))),(28,is (.slice x.2.1 x.1.recs.length x.2.2)),(29,is (.int .i64 (x.1.recs.length:Int))),(30,is (.int .i64 (p.1:Int)))])
      (fun p=>own yb 70 [is (str x.1.name),is (.int .i64 x.1.retain),sl strT.toTy x.1.holds,is (.slice p.2.1 (RV.take p.1).length p.2.2)]::row (.slice x.2.1 x.1.recs.length x.2.2) 81 mrecT.toTy x.1.recs::row (.slice p.2.1 (RV.take p.1).length p.2.2) 73 recVT.toTy (RV.take p.1)::D)
      (fun p=>x.1.recs.length - p.1) (0,none,0) (Nat.zero_le _) ⟨(by repeat' (first|exact trivial|refine ⟨rfl,?_⟩)),[own xb 79 _],by
        rw [hD]
        refine (permP [[_],[_],[_],[_],[_],[_],[_],[_],_] [0,1,2,3,4,5,6,7,8] [1,0,3,4,5,6,7,2,8] (by decide)).trans ?_
        refine (List.Perm.append_left [_,_,_,_,_,_,_,_] hpk).trans ?_
        exact permP [[_],[_],[_],[_],[_],[_],[_],[_],[_],_] [0,1,2,3,4,5,6,7,8,9] [0,8,1,7,3,4,5,6,9,2] (by decide)⟩ ?_
    rintro ⟨k,A4,c4⟩ hk
    dsimp only at hk ⊢
    have hRi:(RV.take k).length=k:=by rw [List.length_take];omega
    by_cases hlk:k < x.1.recs.length
    · obtain ⟨r,hr⟩ : ∃ r,x.1.recs[k]?=some r:=⟨_,List.getElem?_eq_getElem hlk⟩
      have hRx:RV.take k++[r.v]=RV.take (k+1):=by rw [hRV];exact map_take_snoc MRec.v hr
      refine J.open (List.Perm.swap _ _ _) (by intro h;rw [h] at hlk;simp at hlk) ?_
      intro ob oo ocap pre2 post2 hR2
      obtain ⟨hv2,hpre2,hle2,hcap2,hroom2,_⟩:=hR2
      injection hv2 with hA2 _ hc2
      rw [hA2,hc2]
      repeat (first|((first|(apply Lq.s;rfl)|apply PRun.s|(apply Lq.run;rfl;rfl;rfl;exact bsB)|(apply PRun.run;rfl;rfl;exact bsB));first|(apply op_siaddr;rfl;rfl;omega;omega)|(apply op_oload mrecT (x:=r);rfl;exact bsM;exact at_row mrecT.toTy hpre2 (by rw [Int.toNat_natCast];exact hr))|(exact bsO))|refine bsA ?_|(apply Lq.al;rfl;rfl;intro b)|(apply Open.cons;intro b)|refine bsC ?_)
      (apply Lq.storeE (φs':=mrecT.cells r);rfl;rfl;exact List.Perm.refl _;exact Seg.val _ _;exact mrecT.len _;exact Nat.le_refl 35;exact splice_all (by rw [mrecT.len];rfl))
      repeat (first|((first|(apply Lq.s;rfl)|apply PRun.s|(apply Lq.run;rfl;rfl;rfl;exact bsB)|(apply PRun.run;rfl;rfl;exact bsB));first|(apply op_ocell;rfl;exact bsM;rfl)|(apply op_slen;rfl)|(apply op_oload recVT (x:=r.v);rfl;exact bsM;rfl)|(apply op_bslice recVT (xs:=[r.v]);(repeat (first|exact PO.nil _|(apply PO.cons;rfl)));rfl;rfl;rfl)|(exact bsO))|refine bsA ?_|(apply Lq.al;rfl;rfl;intro b)|(apply Open.cons;intro b)|refine bsC ?_)
      (apply Lq.append (T:=recVT) (xs:=RV.take k) (ys:=[r.v]);rfl;exact permP [[_],[_],[_],[_],_] [0,1,2,3,4] [3,0,1,2,4] (by decide);(apply From.sl;rfl);rfl;rfl;rfl;(show _+1≤maxLen;unfold maxLen;omega);(show (_+1)*32≤_;omega))
      intro A5 c5
      rw [hRx]
      repeat (first|((first|(apply Lq.s;rfl)|apply PRun.s|(apply Lq.run;rfl;rfl;rfl;exact bsB)|(apply PRun.run;rfl;rfl;exact bsB));first|(apply op_add (c:=((k+1:Nat):Int));rfl;rfl;(rw [show (k:Int)+1=((k+1:Nat):Int) by omega];apply wrapi <;> omega))|(exact bsO))|refine bsA ?_|(apply Lq.al;rfl;rfl;intro b)|(apply Open.cons;intro b)|refine bsC ?_)
      refine E.close mrecT.toTy x.1.recs (b:=ob) (o:=oo) (cap:=ocap) (Δ':=own yb 70 _::row _ _ _ _::own _ 81 _::D) (permP [[_],[_],[_],[_],_] [0,1,2,3,4] [3,0,1,2,4] (by decide)) hroom2 hle2 hcap2 (take_rowT mrecT.toTy hpre2) ?_
      exact E.again (k+1,A5,c5) (by dsimp only;omega) (by dsimp only;omega) ⟨(by repeat' (first|exact trivial|refine ⟨rfl,?_⟩)),[_],by
        dsimp only
        exact permP [[_],[_],[_],[_],_] [0,1,2,3,4] [1,0,2,4,3] (by decide)⟩
    · obtain rfl:k=x.1.recs.length:=by omega
      have hRt:RV.take x.1.recs.length=RV:=List.take_of_length_le (by omega)
      rw [hRt,hD]
      repeat (first|((first|(apply Lq.s;rfl)|apply PRun.s|(apply Lq.run;rfl;rfl;rfl;exact bsB)|(apply PRun.run;rfl;rfl;exact bsB));first|(apply op_ocell;rfl;exact bsM;rfl)|(apply op_slen;rfl)|(apply op_oload (consT (is (str x.1.name)) [is (.int .i64 x.1.retain),sl strT.toTy x.1.holds,is (.slice A4 RV.length c4)]) (x:=());rfl;exact bsM;rfl)|(exact bsO))|refine bsA ?_|(apply Lq.al;rfl;rfl;intro b)|(apply Open.cons;intro b)|refine bsC ?_)
      refine Lq.frzA (v := .slice A4 RV.length c4) (e := 73) (T:=recVT.toTy) (xs:=RV) 44 3 rfl rfl (permP [[_],[_],[_],_] [0,1,2,3] [2,0,1,3] (by decide)) ?_
      repeat (first|((first|(apply Lq.s;rfl)|apply PRun.s|(apply Lq.run;rfl;rfl;rfl;exact bsB)|(apply PRun.run;rfl;rfl;exact bsB));first|(apply op_bslice seenT (xs:=[x.1.v]);(exact PO.cons (by rw [hxv];rfl) (PO.nil _));rfl;rfl;rfl)|(exact bsO))|refine bsA ?_|(apply Lq.al;rfl;rfl;intro b)|(apply Open.cons;intro b)|refine bsC ?_)
      (apply Lq.append (T:=seenT) (xs:=VS.take i) (ys:=[x.1.v]);rfl;exact permP [[_],[_],[_],[_],[_],[_],[_],_] [0,1,2,3,4,5,6,7] [6,0,1,2,3,4,5,7] (by decide);(apply From.sl;rfl);rfl;rfl;rfl;(show _+1≤maxLen;unfold maxLen;omega);(show (_+1)*72≤_;omega))
      intro A5 c5
      rw [hVx]
      repeat (first|((first|(apply Lq.s;rfl)|apply PRun.s|(apply Lq.run;rfl;rfl;rfl;exact bsB)|(apply PRun.run;rfl;rfl;exact bsB));first|(apply op_add (c:=((i+1:Nat):Int));rfl;rfl;(rw [show (i:Int)+1=((i+1:Nat):Int) by omega];apply wrapi <;> omega))|(exact bsO))|refine bsA ?_|(apply Lq.al;rfl;rfl;intro b)|(apply Open.cons;intro b)|refine bsC ?_)
      exact E.again (i+1,A5,c5) (by dsimp only;omega) (by dsimp only;omega) ⟨(by repeat' (first|exact trivial|refine ⟨rfl,?_⟩)),[own yb 70 _],by
        dsimp only
        refine (permP [[_],[_],[_],[_],[_],[_],[_],_] [0,1,2,3,4,5,6,7] [0,5,6,1,4,2,3,7] (by decide)).trans ?_
        refine (List.Perm.append_left [_,_,_,_,_,_] hpk.symm).trans ?_
        exact permP [[_],[_],[_],[_],[_],[_],_] [0,1,2,3,4,5,6] [0,1,2,3,4,6,5] (by decide)⟩
  · obtain rfl:i=xs.length:=by omega
    have hVt:VS.take xs.length=VS:=List.take_of_length_le (by omega)
    rw [hVt]
    repeat (first|((first|(apply Lq.s;rfl)|apply PRun.s|(apply Lq.run;rfl;rfl;rfl;exact bsB)|(apply PRun.run;rfl;rfl;exact bsB));first|(exact bsO))|refine bsA ?_|(apply Lq.al;rfl;rfl;intro b)|(apply Open.cons;intro b)|refine bsC ?_)
    refine Lq.s rfl (op_oload (consT (is (.int .i64 clock)) [is (.slice A3 VS.length c3)]) (x:=()) rfl (by exact bsM) rfl) ?_
    refine Lq.frzA (v := .slice A3 VS.length c3) (e := 70) (T:=seenT.toTy) (xs:=VS) 49 1 rfl rfl (permP [[_],[_],[_],[_],_] [0,1,2,3,4] [3,0,1,2,4] (by decide)) ?_
    repeat (first|((first|(apply Lq.s;rfl)|apply PRun.s|(apply Lq.run;rfl;rfl;rfl;exact bsB)|(apply PRun.run;rfl;rfl;exact bsB));first|(exact bsO))|refine bsA ?_|(apply Lq.al;rfl;rfl;intro b)|(apply Open.cons;intro b)|refine bsC ?_)
    (refine J.ret ?_;(repeat (first|refine E.then_ret ?_|refine E.in_ret ?_)))
    exact E.retRc viewT (x:=⟨clock,VS⟩) (Δ':=_::recsR xs) (G:=[_,_,_]) rfl rfl (by exact bsM) rfl ⟨rfl,rfl⟩ (by
      exact permP [[_],[_],[_],[_],_] [0,1,2,3,4] [3,4,0,1,2] (by decide))
end Go.Proofs.YtljbbajelkkafaaDoor.L
