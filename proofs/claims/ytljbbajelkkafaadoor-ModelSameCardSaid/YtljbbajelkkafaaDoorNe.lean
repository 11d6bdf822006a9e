/-
  Lists of names,walked: ordered,find,Has,Add,Remove,and slices.Concat over texts;the document's.
-/
import Derived.Test.YtljbbajelkkafaaDoorNd
import Derived.Test.YtljbbajelkkafaaDoorLo
namespace Go.Proofs.YtljbbajelkkafaaDoor.L
open Go
set_option linter.unusedSectionVars false
variable [Globs]
set_option linter.unusedVariables false
theorem flat_snoc' {α:Type} {xss:List (List α)} {i:Nat} {x:List α} (h:xss[i]?=some x):(xss.take (i+1)).flatten=(xss.take i).flatten++x:=by
  rw [List.take_add_one,h]
  simp
theorem flat_le' {α:Type} (xss:List (List α)) (i:Nat):(xss.take i).flatten.length≤xss.flatten.length:=by
  conv=>rhs;rw [← List.take_append_drop i xss,List.flatten_append,List.length_append]
  omega
/-- What is looked for, and where. -/
def seekT:Td (List Str × Str) where
  sz:=2
  cells s:=[sl strT.toTy s.1,is (str s.2)]
  len _:=rfl
  ag:=true
  one h:=by cases h
  sc x H v h _:=by cases h
  pos:=by decide
theorem seek_list:Fld seekT.toTy (slT strT).toTy Prod.fst 0:=⟨fun s=>⟨[],_,rfl,rfl⟩⟩
theorem seek_name:Fld seekT.toTy strT.toTy Prod.snd 1:=⟨fun s=>⟨[sl strT.toTy s.1],[],rfl,rfl⟩⟩
set_option linter.unusedVariables false
set_option linter.unusedSimpArgs false
attribute [local irreducible] J Lq E OpP PRun is any agg tup ptr sl PRunW OpE
attribute [local irreducible] slt nameE lowerN cloT
theorem ordered_fn (l:List Str) (hl:l.length≤1000000):Fn Tryd.prog 97 [sl strT.toTy l] (is (.bool (adj slt l))):=by
  refine Fn.mk' 20 Tryd.func97 rfl rfl rfl rfl fun w0 H0=>?_
  repeat (first|((first|(apply Lq.s;rfl)|apply PRun.s|(apply Lq.run;rfl;rfl;rfl;exact bsB)|(apply PRun.run;rfl;rfl;exact bsB));first|(exact bsO))|refine bsA ?_|(apply Lq.al;rfl;rfl;intro b)|(apply Open.cons;intro b)|(apply J.drawN;exact mixed;kernel_rfl)|refine bsC ?_)
  refine J.loop (fun i:Nat=>1≤i∧(i≤l.length ∨ i=1) ∧ ∀ (j:Nat) (a b:Str),j+1 < i→l[j]?=some a→l[j+1]?=some b→slt a b=true) (fun i=>[(0,sl strT.toTy l),(3,is (.int .i64 (i:Int)))]) (fun _=>[]) (fun i=>l.length - i) 1 ⟨Nat.le_refl _, .inr rfl,fun j a b hj=>by omega⟩ (Sub.same (by repeat' (first|exact trivial|refine ⟨rfl,?_⟩))) ?_
  rintro i ⟨h1,hi,hp⟩
  by_cases hlt:i < l.length
  · obtain ⟨k,rfl⟩ : ∃ k,i=k+1:=⟨i - 1,by omega⟩
    obtain ⟨a,ha⟩ : ∃ a,l[k]?=some a:=⟨_,List.getElem?_eq_getElem (by omega)⟩
    obtain ⟨q,hq⟩ : ∃ q,l[k+1]?=some q:=⟨_,List.getElem?_eq_getElem hlt⟩
    cases hs:slt a q
    · repeat (first|((first|(apply Lq.s;rfl)|apply PRun.s|(apply Lq.run;rfl;rfl;rfl;exact bsB)|(apply PRun.run;rfl;rfl;exact bsB));first|(apply op_sub (c:=(k:Int));rfl;rfl;(rw [show ((k+1:Nat):Int) - 1=(k:Int) by omega];apply wrapi <;> omega))|(apply op_iaddr strT.toTy (x:=a);rfl;rfl;exact Int.natCast_nonneg _;(rw [Int.toNat_natCast];exact ha))|(apply op_iaddr strT.toTy (x:=q);rfl;rfl;exact Int.natCast_nonneg _;(rw [Int.toNat_natCast];exact hq))|(apply op_load strT;rfl)|(apply op_sgeq (a:=a) (b:=q);rfl;rfl)|(exact bsO))|refine bsA ?_|(apply Lq.al;rfl;rfl;intro b)|(apply Open.cons;intro b)|(apply J.drawN;exact mixed;kernel_rfl)|refine bsC ?_)
      rw [hs]
      repeat (first|((first|(apply Lq.s;rfl)|apply PRun.s|(apply Lq.run;rfl;rfl;rfl;exact bsB)|(apply PRun.run;rfl;rfl;exact bsB));first|(exact bsO))|refine bsA ?_|(apply Lq.al;rfl;rfl;intro b)|(apply Open.cons;intro b)|(apply J.drawN;exact mixed;kernel_rfl)|refine bsC ?_)
      (refine J.ret ?_;(repeat (first|refine E.then_ret ?_|refine E.in_ret ?_)))
      rw [adj_f k a q ha hq hs]
      exact E.ret1 rfl rfl
    · repeat (first|((first|(apply Lq.s;rfl)|apply PRun.s|(apply Lq.run;rfl;rfl;rfl;exact bsB)|(apply PRun.run;rfl;rfl;exact bsB));first|(apply op_sub (c:=(k:Int));rfl;rfl;(rw [show ((k+1:Nat):Int) - 1=(k:Int) by omega];apply wrapi <;> omega))|(apply op_iaddr strT.toTy (x:=a);rfl;rfl;exact Int.natCast_nonneg _;(rw [Int.toNat_natCast];exact ha))|(apply op_iaddr strT.toTy (x:=q);rfl;rfl;exact Int.natCast_nonneg _;(rw [Int.toNat_natCast];exact hq))|(apply op_load strT;rfl)|(apply op_sgeq (a:=a) (b:=q);rfl;rfl)|(exact bsO))|refine bsA ?_|(apply Lq.al;rfl;rfl;intro b)|(apply Open.cons;intro b)|(apply J.drawN;exact mixed;kernel_rfl)|refine bsC ?_)
      rw [hs]
      repeat (first|((first|(apply Lq.s;rfl)|apply PRun.s|(apply Lq.run;rfl;rfl;rfl;exact bsB)|(apply PRun.run;rfl;rfl;exact bsB));first|(exact bsO))|refine bsA ?_|(apply Lq.al;rfl;rfl;intro b)|(apply Open.cons;intro b)|(apply J.drawN;exact mixed;kernel_rfl)|refine bsC ?_)
      refine E.again (k+1+1) (by omega) ⟨by omega, .inl (by omega),fun j x y hj hx hy=>?_⟩ (Sub.same (by repeat' (first|exact trivial|refine ⟨rfl,?_⟩)))
      rcases Nat.lt_or_eq_of_le (Nat.le_of_lt_succ hj) with h|h
      · exact hp j x y h hx hy
      · obtain rfl:j=k:=by omega
        rw [ha] at hx;injection hx with hx;subst hx
        rw [hq] at hy;injection hy with hy;subst hy
        exact hs
  · repeat (first|((first|(apply Lq.s;rfl)|apply PRun.s|(apply Lq.run;rfl;rfl;rfl;exact bsB)|(apply PRun.run;rfl;rfl;exact bsB));first|(exact bsO))|refine bsA ?_|(apply Lq.al;rfl;rfl;intro b)|(apply Open.cons;intro b)|(apply J.drawN;exact mixed;kernel_rfl)|refine bsC ?_)
    (refine J.ret ?_;(repeat (first|refine E.then_ret ?_|refine E.in_ret ?_)))
    rw [show adj slt l=true from adj_iff.2 fun j a b ha hb=>hp j a b (by have:=(List.getElem?_eq_some_iff.1 hb).1;omega) ha hb]
    exact E.ret1 rfl rfl
theorem behind_fn (l:List Str) (x:Str) (i:Nat) (hi:i < l.length) (q:Str) (hq:l[i]?=some q):Fn Tryd.prog 99 [seekT.val (l,x),is (.int .i64 (i:Int))] (is (.bool (!slt q x))):=by
  refine Fn.mk' 13 Tryd.func99 rfl rfl rfl rfl fun w0 H0=>?_
  repeat (first|((first|(apply Lq.s;rfl)|apply PRun.s|(apply Lq.run;rfl;rfl;rfl;exact bsB)|(apply PRun.run;rfl;rfl;exact bsB));first|(apply op_box seekT;rfl)|(apply op_faddr seek_list;rfl;decide)|(apply op_faddr seek_name;rfl;decide)|(apply op_load (slT strT);rfl)|(apply op_load strT;rfl)|(apply op_iaddr strT.toTy (x:=q);rfl;rfl;exact Int.natCast_nonneg _;(rw [Int.toNat_natCast];exact hq))|(apply op_sgeq (a:=q) (b:=x);rfl;rfl)|(exact bsO))|refine bsA ?_|(apply Lq.al;rfl;rfl;intro b)|(apply Open.cons;intro b)|(apply J.drawN;exact mixed;kernel_rfl)|refine bsC ?_)
  (refine J.ret ?_;(repeat (first|refine E.then_ret ?_|refine E.in_ret ?_)))
  exact E.ret1 rfl rfl
theorem search_fn (f:Nat) (ψs χs:List Pr) (n:Nat) (p:Nat→Bool) (hn:n≤1000000) (F : ∀ i,i < n→Fn Tryd.prog f (ψs++[is (.int .i64 (i:Int))]++χs) (is (.bool (p i)))) (k:Nat) (hk:k≤n) (h1 : ∀ i,i < k→p i=false) (h2 : ∀ i,k≤i→i < n→p i=true) :
    Fn Tryd.prog 98 [is (.int .i64 (n:Int)),cloT f ψs χs] (is (.int .i64 (k:Int))):=by
  refine Fn.mk' 26 Tryd.func98 rfl rfl rfl rfl fun w0 H0=>?_
  repeat (first|((first|(apply Lq.s;rfl)|apply PRun.s|(apply Lq.run;rfl;rfl;rfl;exact bsB)|(apply PRun.run;rfl;rfl;exact bsB));first|(exact bsO))|refine bsA ?_|(apply Lq.al;rfl;rfl;intro b)|(apply Open.cons;intro b)|(apply J.drawN;exact mixed;kernel_rfl)|refine bsC ?_)
  refine J.loop (fun x:Nat × Nat=>x.1≤k∧k≤x.2∧x.2≤n) (fun x=>[(1,cloT f ψs χs),(5,is (.int .i64 (x.1:Int))),(6,is (.int .i64 (x.2:Int)))]) (fun _=>[]) (fun x=>x.2 - x.1) (0,n) ⟨Nat.zero_le _,hk,Nat.le_refl _⟩ (Sub.same (by repeat' (first|exact trivial|refine ⟨rfl,?_⟩))) ?_
  rintro ⟨i,j⟩ ⟨hi,hj,hjn⟩
  dsimp only at hi hj hjn ⊢
  by_cases hlt:i < j
  · obtain ⟨m,hm⟩ : ∃ m,(i+j) / 2 ^ 1=m:=⟨_,rfl⟩
    have hm1:i≤m:=by omega
    have hm2:m < j:=by omega
    have hf:=F m (by omega)
    cases hp:p m
    · rw [hp] at hf
      have hkm:m < k:=by
        rcases Nat.lt_or_ge m k with h|h
        · exact h
        · rw [h2 m h (by omega)] at hp;cases hp
      repeat (first|((first|(apply Lq.s;rfl)|apply PRun.s|(apply Lq.run;rfl;rfl;rfl;exact bsB)|(apply PRun.run;rfl;rfl;exact bsB));first|(apply op_add (c:=((i+j:Nat):Int));rfl;rfl;(rw [show (i:Int)+(j:Int)=((i+j:Nat):Int) by omega];apply wrapi <;> omega))|(apply op_conv (c:=((i+j:Nat):Int));rfl;exact wrapu' (by omega))|(apply op_shrn (m:=i+j) (n:=1);rfl;rfl;decide)|(exact bsO))|refine bsA ?_|(apply Lq.al;rfl;rfl;intro b)|(apply Open.cons;intro b)|(apply J.drawN;exact mixed;kernel_rfl)|refine bsC ?_)
      rw [hm]
      repeat (first|((first|(apply Lq.s;rfl)|apply PRun.s|(apply Lq.run;rfl;rfl;rfl;exact bsB)|(apply PRun.run;rfl;rfl;exact bsB));first|(apply op_conv (c:=(m:Int));rfl;(apply wrapi <;> omega))|(apply op_callC (ξs:=[is (.int .i64 (m:Int))]) hf;rfl;exact bsD)|(apply op_add (c:=((m+1:Nat):Int));rfl;rfl;(rw [show (m:Int)+1=((m+1:Nat):Int) by omega];apply wrapi <;> omega))|(exact bsO))|refine bsA ?_|(apply Lq.al;rfl;rfl;intro b)|(apply Open.cons;intro b)|(apply J.drawN;exact mixed;kernel_rfl)|refine bsC ?_)
      exact E.again (m+1,j) (by dsimp only;omega) ⟨by dsimp only;omega,hj,hjn⟩ (Sub.same (by repeat' (first|exact trivial|refine ⟨rfl,?_⟩)))
    · rw [hp] at hf
      have hkm:k≤m:=by
        rcases Nat.lt_or_ge m k with h|h
        · rw [h1 m h] at hp;cases hp
        · exact h
      repeat (first|((first|(apply Lq.s;rfl)|apply PRun.s|(apply Lq.run;rfl;rfl;rfl;exact bsB)|(apply PRun.run;rfl;rfl;exact bsB));first|(apply op_add (c:=((i+j:Nat):Int));rfl;rfl;(rw [show (i:Int)+(j:Int)=((i+j:Nat):Int) by omega];apply wrapi <;> omega))|(apply op_conv (c:=((i+j:Nat):Int));rfl;exact wrapu' (by omega))|(apply op_shrn (m:=i+j) (n:=1);rfl;rfl;decide)|(exact bsO))|refine bsA ?_|(apply Lq.al;rfl;rfl;intro b)|(apply Open.cons;intro b)|(apply J.drawN;exact mixed;kernel_rfl)|refine bsC ?_)
      rw [hm]
      repeat (first|((first|(apply Lq.s;rfl)|apply PRun.s|(apply Lq.run;rfl;rfl;rfl;exact bsB)|(apply PRun.run;rfl;rfl;exact bsB));first|(apply op_conv (c:=(m:Int));rfl;(apply wrapi <;> omega))|(apply op_callC (ξs:=[is (.int .i64 (m:Int))]) hf;rfl;exact bsD)|(exact bsO))|refine bsA ?_|(apply Lq.al;rfl;rfl;intro b)|(apply Open.cons;intro b)|(apply J.drawN;exact mixed;kernel_rfl)|refine bsC ?_)
      exact E.again (i,m) (by dsimp only;omega) ⟨hi,hkm,by dsimp only;omega⟩ (Sub.same (by repeat' (first|exact trivial|refine ⟨rfl,?_⟩)))
  · obtain rfl:i=k:=by omega
    repeat (first|((first|(apply Lq.s;rfl)|apply PRun.s|(apply Lq.run;rfl;rfl;rfl;exact bsB)|(apply PRun.run;rfl;rfl;exact bsB));first|(exact bsO))|refine bsA ?_|(apply Lq.al;rfl;rfl;intro b)|(apply Open.cons;intro b)|(apply J.drawN;exact mixed;kernel_rfl)|refine bsC ?_)
    (refine J.ret ?_;(repeat (first|refine E.then_ret ?_|refine E.in_ret ?_)))
    exact E.ret1 rfl rfl
theorem find_bad (l:List Str) (x:Str) (hl:l.length≤1000000) (h:adj slt l=false):Fn Tryd.prog 89 [sl strT.toTy l,is (str x)] (tup [is (.int .i64 0),is (.bool false),is (.bool false)]):=by
  have hf:=ordered_fn l hl
  rw [h] at hf
  refine Fn.mk' 30 Tryd.func89 rfl rfl rfl rfl fun w0 H0=>?_
  repeat (first|((first|(apply Lq.s;rfl)|apply PRun.s|(apply Lq.run;rfl;rfl;rfl;exact bsB)|(apply PRun.run;rfl;rfl;exact bsB));first|(apply op_call hf;exact bsD)|(exact bsO))|refine bsA ?_|(apply Lq.al;rfl;rfl;intro b)|(apply Open.cons;intro b)|refine bsC ?_)
  (refine J.ret ?_;(repeat (first|refine E.then_ret ?_|refine E.in_ret ?_)))
  exact E.ret3 rfl rfl rfl rfl
theorem find_ok (l:List Str) (x:Str) (hl:l.length≤1000000) (h:adj slt l=true):Fn Tryd.prog 89 [sl strT.toTy l,is (str x)] (tup [is (.int .i64 (lowerN l x:Int)),is (.bool (decide (x ∈ l))),is (.bool true)]):=by
  have hf:=ordered_fn l hl
  rw [h] at hf
  have hle:=lower_le x l
  have hs:=search_fn 99 [seekT.val (l,x)] [] l.length (fun i => !slt (l.getD i []) x) hl (fun i hi=>by
    have hq:l[i]?=some (l.getD i []):=by rw [List.getElem?_eq_getElem hi,List.getD_eq_getElem?_getD,List.getElem?_eq_getElem hi];rfl
    exact behind_fn l x i hi _ hq) (lowerN l x) hle
    (fun i hi=>by
      have hil:i < l.length:=by omega
      rw [List.getD_eq_getElem?_getD,List.getElem?_eq_getElem hil]
      rw [Option.getD_some,lower_lt i _ hi (List.getElem?_eq_getElem hil)];rfl)
    (fun i hi hil=>by
      rw [List.getD_eq_getElem?_getD,List.getElem?_eq_getElem hil]
      rw [Option.getD_some,lower_ge h hi (List.getElem?_eq_getElem hil)];rfl)
  have hm:=mem_lower (x:=x) h
  by_cases hlt:lowerN l x < l.length
  · obtain ⟨q,hq⟩ : ∃ q,l[lowerN l x]?=some q:=⟨_,List.getElem?_eq_getElem hlt⟩
    rw [show decide (x ∈ l)=decide (q=x) from decide_eq_decide.2 (by rw [hm,hq,Option.some.injEq])]
    generalize lowerN l x=k at *
    refine Fn.mk' 30 Tryd.func89 rfl rfl rfl rfl fun w0 H0=>?_
    repeat (first|((first|(apply Lq.s;rfl)|apply PRun.s|(apply Lq.run;rfl;rfl;rfl;exact bsB)|(apply PRun.run;rfl;rfl;exact bsB));first|(apply op_call hf;exact bsD)|(apply op_call hs;exact bsD)|(apply op_buildT seekT (l,x);rfl;rfl;(repeat (first|exact BP.nil _|(apply BP.cons;rfl;rfl;exact bsS;rfl;rfl)));rfl)|(apply op_makeC (xs:=[_]) (ys:=[]) (ψs:=[seekT.val (l,x)]) (χs:=[]);exact bsD;exact trivial)|(exact bsO))|refine bsA ?_|(apply Lq.al;rfl;rfl;intro b)|(apply Open.cons;intro b)|refine bsC ?_)
    refine J.drawW 16 [(none,none),(none,none),(none,none),(none,none),(none,none),(none,none),(none,none),(none,none),(none,none),(none,none),(none,none),(none,none),(none,none),(none,none),(none,none),(none,none)] mixed (by kernel_rfl) ?_
    repeat (first|((first|apply PRunW.s|(apply PRunW.run;rfl;rfl;exact bsB)|(apply Lq.s;rfl)|apply PRun.s|(apply Lq.run;rfl;rfl;rfl;exact bsB)|(apply PRun.run;rfl;rfl;exact bsB));first|(apply op_iaddr strT.toTy (x:=q);rfl;rfl;exact Int.natCast_nonneg _;(rw [Int.toNat_natCast];exact hq))|(apply op_load strT;rfl)|(apply op_seql (a:=q) (b:=x);rfl;rfl)|(exact bsO))|refine bsA ?_|(apply Lq.al;rfl;rfl;intro b)|(apply Open.cons;intro b)|refine bsC ?_|apply PRunW.nil|(apply PRunW.al;rfl)|(apply PRunW.pass;rfl;rfl)|(apply PRunW.skip;rfl;rfl;exact bsB)|(apply Open.pv;intro b)|apply Open.av|(apply Open.rv;intro A c))
    (refine J.ret ?_;(repeat (first|refine E.then_ret ?_|refine E.in_ret ?_)))
    exact E.ret3 rfl rfl rfl rfl
  · rw [show decide (x ∈ l)=false from decide_eq_false fun h=>by rw [hm] at h;exact hlt (List.getElem?_eq_some_iff.1 h).1]
    generalize lowerN l x=k at *
    refine Fn.mk' 30 Tryd.func89 rfl rfl rfl rfl fun w0 H0=>?_
    repeat (first|((first|(apply Lq.s;rfl)|apply PRun.s|(apply Lq.run;rfl;rfl;rfl;exact bsB)|(apply PRun.run;rfl;rfl;exact bsB));first|(apply op_call hf;exact bsD)|(apply op_call hs;exact bsD)|(apply op_buildT seekT (l,x);rfl;rfl;(repeat (first|exact BP.nil _|(apply BP.cons;rfl;rfl;exact bsS;rfl;rfl)));rfl)|(apply op_makeC (xs:=[_]) (ys:=[]) (ψs:=[seekT.val (l,x)]) (χs:=[]);exact bsD;exact trivial)|(exact bsO))|refine bsA ?_|(apply Lq.al;rfl;rfl;intro b)|(apply Open.cons;intro b)|refine bsC ?_)
    refine J.drawW 16 [(none,none),(none,none),(none,none),(none,none),(none,none),(none,none),(none,none),(none,none),(none,none),(none,none),(none,none),(none,none),(none,none),(none,none),(none,none),(none,none)] mixed (by kernel_rfl) ?_
    repeat (first|((first|apply PRunW.s|(apply PRunW.run;rfl;rfl;exact bsB)|(apply Lq.s;rfl)|apply PRun.s|(apply Lq.run;rfl;rfl;rfl;exact bsB)|(apply PRun.run;rfl;rfl;exact bsB));first|(exact bsO))|refine bsA ?_|(apply Lq.al;rfl;rfl;intro b)|(apply Open.cons;intro b)|refine bsC ?_|apply PRunW.nil|(apply PRunW.al;rfl)|(apply PRunW.pass;rfl;rfl)|(apply PRunW.skip;rfl;rfl;exact bsB)|(apply Open.pv;intro b)|apply Open.av|(apply Open.rv;intro A c))
    (refine J.ret ?_;(repeat (first|refine E.then_ret ?_|refine E.in_ret ?_)))
    exact E.ret3 rfl rfl rfl rfl
theorem sgrow_fnR (n:Nat) (hn:n≤2000000):FnR Tryd.prog 100 [is (.slice none 0 0),is (.int .i64 (n:Int))] [] (fun ψ Δ => ∃ A c,ψ=is (.slice A 0 c)∧Δ=[row (.slice A 0 c) 9 strT.toTy []]):=by
  refine FnR.mk' 27 Tryd.func100 rfl rfl rfl rfl fun w0 H0=>?_
  by_cases h0:n=0
  · subst h0
    refine J.nilrow 9 strT.toTy ?_
    repeat (first|((first|(apply Lq.s;rfl)|apply PRun.s|(apply Lq.run;rfl;rfl;rfl;exact bsB)|(apply PRun.run;rfl;rfl;exact bsB));first|(apply op_slen;rfl)|(apply op_scap;rfl)|(exact bsO))|refine bsA ?_|(apply Lq.al;rfl;rfl;intro b)|(apply Open.cons;intro b)|(apply J.drawN;exact mixed;kernel_rfl)|refine bsC ?_)
    (refine J.ret ?_;(repeat (first|refine E.then_ret ?_|refine E.in_ret ?_)))
    refine E.retR1 (Δ':=[row (.slice none 0 0) 9 strT.toTy []]) (G:=[]) rfl rfl ⟨none,0,rfl,rfl⟩ (List.Perm.refl _)
  · repeat (first|((first|(apply Lq.s;rfl)|apply PRun.s|(apply Lq.run;rfl;rfl;rfl;exact bsB)|(apply PRun.run;rfl;rfl;exact bsB));first|(apply op_slen;rfl)|(apply op_scap;rfl)|(apply op_nsl_hi;rfl;rfl)|(apply op_sub (c:=((n:Nat):Int));rfl;rfl;(rw [show (n:Int) - (((0:Nat):Int) - ((0:Nat):Int))=((n:Nat):Int) by omega];apply wrapi <;> omega))|(exact bsO))|refine bsA ?_|(apply Lq.al;rfl;rfl;intro b)|(apply Open.cons;intro b)|(apply J.drawN;exact mixed;kernel_rfl)|refine bsC ?_)
    (apply Lq.appendN (T:=strT) (n:=n);rfl;rfl;rfl;rfl;rfl;omega;(unfold maxLen;omega);omega)
    intro bb cap
    repeat (first|((first|(apply Lq.s;rfl)|apply PRun.s|(apply Lq.run;rfl;rfl;rfl;exact bsB)|(apply PRun.run;rfl;rfl;exact bsB));first|(apply op_slen;rfl)|(apply op_sl_hi (hi:=0);rfl;rfl;omega)|(exact bsO))|refine bsA ?_|(apply Lq.al;rfl;rfl;intro b)|(apply Open.cons;intro b)|(apply J.drawN;exact mixed;kernel_rfl)|refine bsC ?_)
    (refine J.ret ?_;(repeat (first|refine E.then_ret ?_|refine E.in_ret ?_)))
    exact E.retR1 (Δ':=[row (.slice (some ⟨bb,0,none⟩) 0 cap) 9 strT.toTy []]) (G:=[]) rfl rfl ⟨_,_,rfl,rfl⟩ (List.Perm.refl _)
set_option maxHeartbeats 1000000 in
theorem sconcat_fn (xss:List (List Str)) (hn:xss.length≤1000) (hl:xss.flatten.length≤1500000):Fn Tryd.prog 90 [sl (slT strT).toTy xss] (sl strT.toTy xss.flatten):=by
  refine Fn.mk' 36 Tryd.func90 rfl rfl rfl rfl fun w0 H0=>?_
  repeat (first|((first|(apply Lq.s;rfl)|apply PRun.s|(apply Lq.run;rfl;rfl;rfl;exact bsB)|(apply PRun.run;rfl;rfl;exact bsB));first|(exact bsO))|refine bsA ?_|(apply Lq.al;rfl;rfl;intro b)|(apply Open.cons;intro b)|(apply J.drawN;exact mixed;kernel_rfl)|refine bsC ?_)
  refine J.loop (fun i:Nat=>i≤xss.length) (fun i=>[(0,sl (slT strT).toTy xss),(9,sl (slT strT).toTy xss),(10,is (.int .i64 (xss.length:Int))),(11,is (.int .i64 (i:Int))),(3,is (.int .i64 ((xss.take i).flatten.length:Int)))]) (fun _=>[]) (fun i=>xss.length - i) 0 (Nat.zero_le _) (Sub.same (by repeat' (first|exact trivial|refine ⟨rfl,?_⟩))) ?_
  intro i hi
  have hb:=flat_le' xss i
  by_cases hlt:i < xss.length
  · obtain ⟨x,hx⟩ : ∃ x,xss[i]?=some x:=⟨_,List.getElem?_eq_getElem hlt⟩
    have hs:=flat_snoc' hx
    have hb2:=flat_le' xss (i+1)
    have hsl:=congrArg List.length hs
    rw [List.length_append] at hsl
    repeat (first|((first|(apply Lq.s;rfl)|apply PRun.s|(apply Lq.run;rfl;rfl;rfl;exact bsB)|(apply PRun.run;rfl;rfl;exact bsB));first|(apply op_iaddr (slT strT).toTy (x:=x);rfl;rfl;exact Int.natCast_nonneg _;(rw [Int.toNat_natCast];exact hx))|(apply op_load (slT strT);rfl)|(apply op_len (xs:=x);rfl)|(apply op_add (c:=((xss.take (i+1)).flatten.length:Int));rfl;rfl;(rw [hsl];apply wrapi <;> omega))|(exact bsO))|refine bsA ?_|(apply Lq.al;rfl;rfl;intro b)|(apply Open.cons;intro b)|(apply J.drawN;exact mixed;kernel_rfl)|refine bsC ?_)
    exact E.again (i+1) (by omega) (by omega) (Sub.same (by repeat' (first|exact trivial|refine ⟨rfl,?_⟩)))
  · obtain rfl:i=xss.length:=by omega
    rw [List.take_length]
    repeat (first|((first|(apply Lq.s;rfl)|apply PRun.s|(apply Lq.run;rfl;rfl;rfl;exact bsB)|(apply PRun.run;rfl;rfl;exact bsB));first|(exact bsO))|refine bsA ?_|(apply Lq.al;rfl;rfl;intro b)|(apply Open.cons;intro b)|(apply J.drawN;exact mixed;kernel_rfl)|refine bsC ?_)
    refine Lq.callS (Δ0:=[]) (Δf:=[]) (sgrow_fnR xss.flatten.length (by omega)) rfl bsD (List.Perm.refl _) ?_
    rintro _ _ ⟨A,c,rfl,rfl⟩
    repeat (first|((first|(apply Lq.s;rfl)|apply PRun.s|(apply Lq.run;rfl;rfl;rfl;exact bsB)|(apply PRun.run;rfl;rfl;exact bsB));first|(exact bsO))|refine bsA ?_|(apply Lq.al;rfl;rfl;intro b)|(apply Open.cons;intro b)|(apply J.drawN;exact mixed;kernel_rfl)|refine bsC ?_)
    refine J.loop (fun p:Nat × Option Addr × Nat=>p.1≤xss.length) (fun p=>[(25,sl (slT strT).toTy xss),(26,is (.int .i64 (xss.length:Int))),(27,is (.int .i64 (p.1:Int))),(6,is (.slice p.2.1 (xss.take p.1).flatten.length p.2.2))]) (fun p=>[row (.slice p.2.1 (xss.take p.1).flatten.length p.2.2) 9 strT.toTy (xss.take p.1).flatten]) (fun p=>xss.length - p.1) (0,A,c) (Nat.zero_le _) (Sub.same (by repeat' (first|exact trivial|refine ⟨rfl,?_⟩))) ?_
    rintro ⟨i,A1,c1⟩ hi
    dsimp only at hi ⊢
    by_cases hlt:i < xss.length
    · obtain ⟨x,hx⟩ : ∃ x,xss[i]?=some x:=⟨_,List.getElem?_eq_getElem hlt⟩
      have hs:=flat_snoc' hx
      have hb2:=flat_le' xss (i+1)
      have hsl:=congrArg List.length hs
      rw [List.length_append] at hsl
      repeat (first|((first|(apply Lq.s;rfl)|apply PRun.s|(apply Lq.run;rfl;rfl;rfl;exact bsB)|(apply PRun.run;rfl;rfl;exact bsB));first|(apply op_iaddr (slT strT).toTy (x:=x);rfl;rfl;exact Int.natCast_nonneg _;(rw [Int.toNat_natCast];exact hx))|(apply op_load (slT strT);rfl)|(exact bsO))|refine bsA ?_|(apply Lq.al;rfl;rfl;intro b)|(apply Open.cons;intro b)|(apply J.drawN;exact mixed;kernel_rfl)|refine bsC ?_)
      (apply Lq.append (T:=strT) (xs:=(xss.take i).flatten) (ys:=x);rfl;exact List.Perm.refl _;(apply From.sl;rfl);rfl;rfl;rfl;(unfold maxLen;omega);(show (_+_)*16≤_;omega))
      intro A2 c2
      rw [← hs]
      repeat (first|((first|(apply Lq.s;rfl)|apply PRun.s|(apply Lq.run;rfl;rfl;rfl;exact bsB)|(apply PRun.run;rfl;rfl;exact bsB));first|(exact bsO))|refine bsA ?_|(apply Lq.al;rfl;rfl;intro b)|(apply Open.cons;intro b)|(apply J.drawN;exact mixed;kernel_rfl)|refine bsC ?_)
      exact E.again (i+1,A2,c2) (by dsimp only;omega) (by dsimp only;omega) (Sub.same (by repeat' (first|exact trivial|refine ⟨rfl,?_⟩)))
    · obtain rfl:i=xss.length:=by omega
      rw [List.take_length]
      refine J.freeze 6 rfl (List.Perm.refl _) ?_
      repeat (first|((first|(apply Lq.s;rfl)|apply PRun.s|(apply Lq.run;rfl;rfl;rfl;exact bsB)|(apply PRun.run;rfl;rfl;exact bsB));first|(exact bsO))|refine bsA ?_|(apply Lq.al;rfl;rfl;intro b)|(apply Open.cons;intro b)|(apply J.drawN;exact mixed;kernel_rfl)|refine bsC ?_)
      (refine J.ret ?_;(repeat (first|refine E.then_ret ?_|refine E.in_ret ?_)))
      exact E.ret1 rfl rfl
theorem add_bad (l:List Str) (x:Str) (hl:l.length≤1000000) (h:adj slt l=false ∨ x ∈ l):Fn Tryd.prog 81 [sl strT.toTy l,is (str x)] (tup [is (.slice none 0 0),is (.bool false)]):=by
  cases ha:adj slt l
  · have hf:=find_bad l x hl ha
    refine Fn.mk' 31 Tryd.func81 rfl rfl rfl rfl fun w0 H0=>?_
    repeat (first|((first|(apply Lq.s;rfl)|apply PRun.s|(apply Lq.run;rfl;rfl;rfl;exact bsB)|(apply PRun.run;rfl;rfl;exact bsB));first|(apply op_call hf;exact bsD)|(exact bsO))|refine bsA ?_|(apply Lq.al;rfl;rfl;intro b)|(apply Open.cons;intro b)|refine bsC ?_)
    (refine J.ret ?_;(repeat (first|refine E.then_ret ?_|refine E.in_ret ?_)))
    exact E.ret2 rfl rfl rfl
  · have hx:x ∈ l:=h.elim (fun h=>by rw [ha] at h;cases h) id
    have hf:=find_ok l x hl ha
    rw [decide_eq_true hx] at hf
    refine Fn.mk' 31 Tryd.func81 rfl rfl rfl rfl fun w0 H0=>?_
    repeat (first|((first|(apply Lq.s;rfl)|apply PRun.s|(apply Lq.run;rfl;rfl;rfl;exact bsB)|(apply PRun.run;rfl;rfl;exact bsB));first|(apply op_call hf;exact bsD)|(exact bsO))|refine bsA ?_|(apply Lq.al;rfl;rfl;intro b)|(apply Open.cons;intro b)|refine bsC ?_)
    (refine J.ret ?_;(repeat (first|refine E.then_ret ?_|refine E.in_ret ?_)))
    exact E.ret2 rfl rfl rfl
theorem add_ok (l:List Str) (x:Str) (hl:l.length≤1000000) (h:adj slt l=true) (hx:x ∉ l):Fn Tryd.prog 81 [sl strT.toTy l,is (str x)] (tup [sl strT.toTy (addM l x),is (.bool true)]):=by
  have hf:=find_ok l x hl h
  rw [decide_eq_false hx] at hf
  have hle:=lower_le x l
  have hc:=sconcat_fn [l.take (lowerN l x),[x],l.drop (lowerN l x)] (Nat.le_of_ble_eq_true rfl) (by simp;omega)
  rw [show [l.take (lowerN l x),[x],l.drop (lowerN l x)].flatten=addM l x by simp [addM]] at hc
  generalize addM l x=m at *
  generalize lowerN l x=k at *
  refine Fn.mk' 31 Tryd.func81 rfl rfl rfl rfl fun w0 H0=>?_
  repeat (first|((first|(apply Lq.s;rfl)|apply PRun.s|(apply Lq.run;rfl;rfl;rfl;exact bsB)|(apply PRun.run;rfl;rfl;exact bsB));first|(apply op_call hf;exact bsD)|(apply op_ksl_hi (T:=strT.toTy) (hi:=k);rfl;rfl;omega)|(apply op_ksl_lo (T:=strT.toTy) (lo:=k);rfl;rfl;omega)|(apply op_bslice strT (xs:=[x]);(repeat (first|exact PO.nil _|(apply PO.cons;rfl)));rfl;rfl;rfl)|(apply op_bslice (slT strT) (xs:=[l.take k,[x],l.drop k]);(repeat (first|exact PO.nil _|(apply PO.cons;rfl)));rfl;rfl;rfl)|(apply op_call hc;exact bsD)|(exact bsO))|refine bsA ?_|(apply Lq.al;rfl;rfl;intro b)|(apply Open.cons;intro b)|(apply J.drawN;exact mixed;kernel_rfl)|refine bsC ?_)
  (refine J.ret ?_;(repeat (first|refine E.then_ret ?_|refine E.in_ret ?_)))
  exact E.ret2 rfl rfl rfl
theorem rem_bad (l:List Str) (x:Str) (hl:l.length≤1000000) (h:adj slt l=false ∨ x ∉ l):Fn Tryd.prog 80 [sl strT.toTy l,is (str x)] (tup [is (.slice none 0 0),is (.bool false)]):=by
  cases ha:adj slt l
  · have hf:=find_bad l x hl ha
    refine Fn.mk' 27 Tryd.func80 rfl rfl rfl rfl fun w0 H0=>?_
    repeat (first|((first|(apply Lq.s;rfl)|apply PRun.s|(apply Lq.run;rfl;rfl;rfl;exact bsB)|(apply PRun.run;rfl;rfl;exact bsB));first|(apply op_call hf;exact bsD)|(exact bsO))|refine bsA ?_|(apply Lq.al;rfl;rfl;intro b)|(apply Open.cons;intro b)|refine bsC ?_)
    (refine J.ret ?_;(repeat (first|refine E.then_ret ?_|refine E.in_ret ?_)))
    exact E.ret2 rfl rfl rfl
  · have hx:x ∉ l:=h.elim (fun h=>by rw [ha] at h;cases h) id
    have hf:=find_ok l x hl ha
    rw [decide_eq_false hx] at hf
    refine Fn.mk' 27 Tryd.func80 rfl rfl rfl rfl fun w0 H0=>?_
    repeat (first|((first|(apply Lq.s;rfl)|apply PRun.s|(apply Lq.run;rfl;rfl;rfl;exact bsB)|(apply PRun.run;rfl;rfl;exact bsB));first|(apply op_call hf;exact bsD)|(exact bsO))|refine bsA ?_|(apply Lq.al;rfl;rfl;intro b)|(apply Open.cons;intro b)|refine bsC ?_)
    (refine J.ret ?_;(repeat (first|refine E.then_ret ?_|refine E.in_ret ?_)))
    exact E.ret2 rfl rfl rfl
theorem rem_ok (l:List Str) (x:Str) (hl:l.length≤1000000) (h:adj slt l=true) (hx:x ∈ l):Fn Tryd.prog 80 [sl strT.toTy l,is (str x)] (tup [sl strT.toTy (remM l x),is (.bool true)]):=by
  have hf:=find_ok l x hl h
  rw [decide_eq_true hx] at hf
  have hlt:lowerN l x < l.length:=(List.getElem?_eq_some_iff.1 ((mem_lower h).1 hx)).1
  have hc:=sconcat_fn [l.take (lowerN l x),l.drop (lowerN l x+1)] (Nat.le_of_ble_eq_true rfl) (by simp;omega)
  rw [show [l.take (lowerN l x),l.drop (lowerN l x+1)].flatten=remM l x by simp [remM]] at hc
  generalize remM l x=m at *
  generalize lowerN l x=k at *
  refine Fn.mk' 27 Tryd.func80 rfl rfl rfl rfl fun w0 H0=>?_
  repeat (first|((first|(apply Lq.s;rfl)|apply PRun.s|(apply Lq.run;rfl;rfl;rfl;exact bsB)|(apply PRun.run;rfl;rfl;exact bsB));first|(apply op_call hf;exact bsD)|(apply op_ksl_hi (T:=strT.toTy) (hi:=k);rfl;rfl;omega)|(apply op_add (c:=((k+1:Nat):Int));rfl;rfl;(rw [show (k:Int)+1=((k+1:Nat):Int) by omega];apply wrapi <;> omega))|(apply op_ksl_lo (T:=strT.toTy) (lo:=k+1);rfl;rfl;omega)|(apply op_bslice (slT strT) (xs:=[l.take k,l.drop (k+1)]);(repeat (first|exact PO.nil _|(apply PO.cons;rfl)));rfl;rfl;rfl)|(apply op_call hc;exact bsD)|(exact bsO))|refine bsA ?_|(apply Lq.al;rfl;rfl;intro b)|(apply Open.cons;intro b)|(apply J.drawN;exact mixed;kernel_rfl)|refine bsC ?_)
  (refine J.ret ?_;(repeat (first|refine E.then_ret ?_|refine E.in_ret ?_)))
  exact E.ret2 rfl rfl rfl
end Go.Proofs.YtljbbajelkkafaaDoor.L
