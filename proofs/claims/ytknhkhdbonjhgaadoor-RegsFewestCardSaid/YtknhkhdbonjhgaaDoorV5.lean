/-
What the last text of this claim uses: RgEq14, RgBi, RgBj, RgEq15, RgBk, RgBl, RgBm, RgBn, RgEq16, RgBo, RgBp, RgRow, RgEq17, RgEq18, RgBq, RgBr, RgEq19, RgBs, RgBu, RgBv, RgCa, RgCb, RgCc, RgCd, RgBt, RgCe, RgCf, RgGa, RgGb, RgGc, RgGd, RgEq26, RgGe, RgGf.
-/
import Derived.Test.YtknhkhdbonjhgaaDoorV4
import Derived.Test.YtknhkhdbonjhgaaDoorRows
import Derived.ProofKit
import Derived.LaidMore
import Derived.Stop.Joined
import Derived.ChangeSame
set_option linter.unusedVariables false
set_option linter.unusedSimpArgs false
set_option maxRecDepth 100000
noncomputable section
section
namespace Go.Rg
open Go Go.VT
theorem ce9 (a:Int):vc (EV []) noL Go.Proofs.Tryd.f110 cIsNaN (a,())=((a !=a,())=(false,())):=by kernel_rfl
theorem bU0 (a:Int):vc (EV []) noL Go.Proofs.Tryd.f111 cIsNaN (a,())=((a !=a,())=(false,())):=by kernel_rfl
theorem cp9 (a b:Int):vc (EV [(111,cIsNaN)]) noL Go.Proofs.Tryd.f109 cLess (a,b,())=(
 let c:Bool:=decide (a<b);
  (false&&!false||c,())=(c,())):=by kernel_rfl
theorem cw0 (l:List Int) (t:Int):vc (EV [(109,cLess),(110,cIsNaN)]) (lBin l t) Go.Proofs.Tryd.f107 cBin (l,t,())=(
 let a:Int:=(↑(List.length l):Int);
 let c:Int:=(2:Int) ^ (1:Nat);
  Small RU (Sigma.mk (Ty.slice (3:Nat) (Ty.int IntKind.i64)) l)->
  (∃ (p:Int×Int×Unit),
  l=l/\
  t=t/\
  (0:Int)=(0:Int)/\
  false=false/\
  a=a/\
  (0:Int)=p.1/\
  a=p.2.1/\
  (0:Int)<=p.1/\
  p.1<=p.2.1/\p.2.1<=a/\(∀ (x:Int),List.Mem x (List.take (Int.toNat p.1) l)->x<t)/\∀ (x:Int),List.Mem x (List.drop (Int.toNat p.2.1) l)->t<=x)/\
  ∀ (p:Int×Int×Unit),
 let e0_1:Bool:=decide (List.getD l (Int.toNat (IntKind.i64.wrap (Int.fdiv (IntKind.wrap IntKind.u64 (IntKind.i64.wrap (p.1+p.2.1))) c))) (0:Int)<t);
 let c:Int:=IntKind.i64.wrap (Int.fdiv (IntKind.wrap IntKind.u64 (IntKind.i64.wrap (p.1+p.2.1))) c);
 let e:Bool:=decide (p.1<p.2.1);
 let d:Int:=p.2.1;
 let b:Int:=p.1;
  ((0:Int)<=b/\b<=d/\d<=a/\(∀ (x:Int),List.Mem x (List.take (Int.toNat b) l)->x<t)/\∀ (x:Int),List.Mem x (List.drop (Int.toNat d) l)->t<=x)->
  (e=true->
  (0:Int)<=(1:Int)/\
  ((0:Int)<=c/\c<a)/\
  ∃ (p':Int×Int×Unit),
  (bif e0_1 then l else l)=l/\
  (bif e0_1 then t else t)=t/\
  (bif e0_1 then (0:Int) else (0:Int))=(0:Int)/\
  (bif e0_1 then false else false)=false/\
  (bif e0_1 then a else a)=a/\
  (bif e0_1 then IntKind.i64.wrap (c+(1:Int)) else b)=p'.1/\
  (bif e0_1 then d else c)=p'.2.1/\
  ((0:Int)<=p'.1/\
  p'.1<=p'.2.1/\
  p'.2.1<=a/\(∀ (x:Int),List.Mem x (List.take (Int.toNat p'.1) l)->x<t)/\∀ (x:Int),List.Mem x (List.drop (Int.toNat p'.2.1) l)->t<=x)/\
  Int.toNat (p'.2.1-p'.1)<Int.toNat (d-b))/\
  (e=false->
  (decide (b<a)=true->(0:Int)<=b/\b<a)/\
  (decide (b<a)=true->(List.getD l (Int.toNat b) (0:Int)==t)=false->(0:Int)<=b/\b<a)/\
  (b,())=((↑(List.length (List.takeWhile (λ(x:den RU.T i64)=>decide (x<t)) l)):Int),()))):=by kernel_rfl
theorem cq0 (reg e:Int) (b:List Ins) (c d:List Int) (sp:Spans) (rd:Reads) (a:Holds) (ce:List (Int×Int)) (op ks oc:Int) (cd:List RIns) (ou:List Place):vc (EV []) (cp7 a ks reg) Go.Proofs.Tryd.f54 cSlot (reg,e,b,c,d,sp,rd,a,ce,op,ks,oc,cd,ou,())=(
 let f:Int×List Ins×List Int×List Int×List (Int×Span)×List (Int×List Int)×List (Place×Int)×List (Int×Int)×Int×Int×Int×List RIns×List Place×Unit:=
  (e,b,c,d,sp,rd,a,ce,op,ks,oc,cd,ou,());
 let g:Bool×Int×Int×List Ins×List Int×List Int×List (Int×Span)×List (Int×List Int)×List (Place×Int)×List (Int×Int)×Int×Int×Int×List RIns×List Place×Unit:=
  ((C4 a ks reg).cell,(C4 a ks reg).n,f);
  Small RU (Sigma.mk (Ty.slice (52:Nat) (Ty.user (0:Nat))) b)->
  Small RU (Sigma.mk (Ty.slice (3:Nat) (Ty.int IntKind.i64)) c)->
  Small RU (Sigma.mk (Ty.slice (3:Nat) (Ty.int IntKind.i64)) d)->
  Small RU (Sigma.mk (Ty.slice (55:Nat) (Ty.user (1:Nat))) cd)->
  Small RU (Sigma.mk (Ty.slice (59:Nat) (Ty.user (2:Nat))) ou)->
  (∃ (p:Int×Unit),
  reg=reg/\
  ks=ks/\
  (0:Int)=p.1/\
  e=e/\
  b=b/\
  c=c/\
  d=d/\
  op=op/\
  ks=ks/\
  oc=oc/\
  sp=sp/\
  rd=rd/\
  a=a/\
  ce=ce/\
  cd=cd/\
  ou=ou/\
  false=false/\
  (0:Int)=(0:Int)/\
  (0:Int)<=p.1/\(p.1<=ks\/p.1=(0:Int))/\∀ (s:Nat),List.Mem s (List.range (Int.toNat p.1))->an1 a reg s=false)/\
  ∀ (p:Int×Unit),
 let e0_1:Bool:=
  Option.isSome (mget (F7 RU (Ty.user (2:Nat))) a (Place.mk false p.1))&&Option.getD (mget (F7 RU (Ty.user (2:Nat))) a (Place.mk false p.1)) (0:Int)==reg;
 let e1_1:Bool:=decide (p.1<ks);
  ((0:Int)<=p.1/\(p.1<=ks\/p.1=(0:Int))/\∀ (s:Nat),List.Mem s (List.range (Int.toNat p.1))->an1 a reg s=false)->
  (e1_1=true->
  (e0_1=true->(false,p.1,f)=g)/\
  (e0_1=false->
  ∃ (p':Int×Unit),
  reg=reg/\
  ks=ks/\
  IntKind.i64.wrap (p.1+(1:Int))=p'.1/\
  e=e/\
  b=b/\
  c=c/\
  d=d/\
  op=op/\
  ks=ks/\
  oc=oc/\
  sp=sp/\
  rd=rd/\
  a=a/\
  ce=ce/\
  cd=cd/\
  ou=ou/\
  false=false/\
  (0:Int)=(0:Int)/\
  ((0:Int)<=p'.1/\
  (p'.1<=ks\/p'.1=(0:Int))/\∀ (s:Nat),List.Mem s (List.range (Int.toNat p'.1))->an1 a reg s=false)/\
  Int.toNat ks-Int.toNat p'.1<Int.toNat ks-Int.toNat p.1))/\
  (e1_1=false->(true,(-1:Int),f)=g)):=by kernel_rfl
theorem cq1 (k s c o n:Int) (t f:List Int) (b:List Ins) (g:Int) (a:List Ins) (d e:List Int) (sp:Spans) (rd:Reads) (h:Holds) (ce:List (Int×Int)) (op ks oc:Int) (cd:List RIns) (ou:List Place):vc (EV []) noL Go.Proofs.Tryd.f85 cPutA (k,s,c,o,n,t,f,b,g,a,d,e,sp,rd,h,ce,op,ks,oc,cd,ou,())=(
 let i:List RIns:=[RIns.mk k s c (Ins.mk o n t f b)];
  Small RU (Sigma.mk (Ty.slice (3:Nat) (Ty.int IntKind.i64)) t)->
  Small RU (Sigma.mk (Ty.slice (3:Nat) (Ty.int IntKind.i64)) f)->
  Small RU (Sigma.mk (Ty.slice (52:Nat) (Ty.user (0:Nat))) b)->
  Small RU (Sigma.mk (Ty.slice (52:Nat) (Ty.user (0:Nat))) a)->
  Small RU (Sigma.mk (Ty.slice (3:Nat) (Ty.int IntKind.i64)) d)->
  Small RU (Sigma.mk (Ty.slice (3:Nat) (Ty.int IntKind.i64)) e)->
  Small RU (Sigma.mk (Ty.slice (55:Nat) (Ty.user (1:Nat))) cd)->
  Small RU (Sigma.mk (Ty.slice (59:Nat) (Ty.user (2:Nat))) ou)->
  (List.length cd+List.length i)*(112:Nat)<=(140737488355328:Nat)/\
  (g,a,d,e,sp,rd,h,ce,op,ks,oc,cd++i,ou,())=(g,a,d,e,sp,rd,h,ce,op,ks,oc,cd++i,ou,())):=by kernel_rfl
theorem cq2 (reg fr g:Int) (a:List Ins) (d e:List Int) (sp:Spans) (rd:Reads) (h:Holds) (ce:List (Int×Int)) (op ks oc:Int) (cd:List RIns) (ou:List Place):vc (EV [(107,cBin)]) noL Go.Proofs.Tryd.f100 cNext (reg,fr,g,a,d,e,sp,rd,h,ce,op,ks,oc,cd,ou,())=(
 let b:Int:=(↑(List.length (List.takeWhile (λ(x:den RU.T i64)=>decide (x<fr)) (Option.getD (mget (λ(x y:Int)=>x==y) rd reg) []))):Int);
 let f:Int×List Ins×List Int×List Int×List (Int×Span)×List (Int×List Int)×List (Place×Int)×List (Int×Int)×Int×Int×Int×List RIns×List Place×Unit:=
  (g,a,d,e,sp,rd,h,ce,op,ks,oc,cd,ou,());
 let i:Int×Int×List Ins×List Int×List Int×List (Int×Span)×List (Int×List Int)×List (Place×Int)×List (Int×Int)×Int×Int×Int×List RIns×List Place×Unit:=
  (M6 rd (↑(List.length a):Int) reg fr,f);
 let c:List Int:=Option.getD (mget (λ(x y:Int)=>x==y) rd reg) [];
  Small RU (Sigma.mk (Ty.slice (52:Nat) (Ty.user (0:Nat))) a)->
  Small RU (Sigma.mk (Ty.slice (3:Nat) (Ty.int IntKind.i64)) d)->
  Small RU (Sigma.mk (Ty.slice (3:Nat) (Ty.int IntKind.i64)) e)->
  Small RU (Sigma.mk (Ty.slice (55:Nat) (Ty.user (1:Nat))) cd)->
  Small RU (Sigma.mk (Ty.slice (59:Nat) (Ty.user (2:Nat))) ou)->
  List.Pairwise (λ(j k:den RU.T i64)=>j<=k) c/\
  ((b==(↑(List.length c):Int))=true->((↑(List.length a):Int),f)=i)/\
  ((b==(↑(List.length c):Int))=false->((0:Int)<=b/\b<(↑(List.length c):Int))/\(List.getD c (Int.toNat b) (0:Int),f)=i)):=by kernel_rfl
theorem bU1 (a b c d e f:Int):vc (EV []) noL Go.Proofs.Tryd.f102 cBetter (a,b,c,d,e,f,())=((decide (c >f)||c==f&&decide (b >e),())=(ai4 (Held.mk a b c) (Held.mk d e f),())):=by kernel_rfl
theorem cq3 (l:List Held):vc (EV [(102,cBetter)]) (cp8 l) Go.Proofs.Tryd.f101 cBest (l,())=(
 let c:Int:=(↑(List.length (List.drop (1:Nat) l)):Int);
 let d:Held:=List.getD l (0:Nat) (Held.mk (0:Int) (0:Int) (0:Int));
 let a:List Held:=List.drop (1:Nat) l;
 let b:Value:=Value.func (Fn.func (102:Nat)) #[] #[];
  Small RU (Sigma.mk (Ty.slice (131:Nat) (Ty.user (4:Nat))) l)->
  ((0:Int)<=(0:Int)/\(0:Int)<(↑(List.length l):Int))/\
  ((0:Int)<=(1:Int)/\(1:Int)<=(↑(List.length l):Int))/\
  (∃ (p:Int×Int×Int×Int×Unit),
  b=b/\
  l=l/\
  a=a/\
  c=c/\
  (0:Int)=p.1/\
  b=b/\
  (0:Int)=(0:Int)/\
  (0:Int)=(0:Int)/\
  (0:Int)=(0:Int)/\
  d.slot=p.2.1/\
  d.reg=p.2.2.1/\
  d.next=p.2.2.2.1/\
  (0:Int)<=p.1/\
  p.1<=(↑(List.length (List.tail l)):Int)/\
  Held.mk p.2.1 p.2.2.1 p.2.2.2.1=List.foldl G7 (List.headD l held0) (List.take (Int.toNat p.1) (List.tail l)))/\
  ∀ (p:Int×Int×Int×Int×Unit),
 let e0_1:Bool:=
  ai4
  (Held.mk (List.getD a (Int.toNat p.1) (Held.mk (0:Int) (0:Int) (0:Int))).slot (List.getD a (Int.toNat p.1) (Held.mk (0:Int) (0:Int) (0:Int))).reg
  (List.getD a (Int.toNat p.1) (Held.mk (0:Int) (0:Int) (0:Int))).next)
  (Held.mk p.2.1 p.2.2.1 p.2.2.2.1);
 let d:Held:=List.getD a (Int.toNat p.1) (Held.mk (0:Int) (0:Int) (0:Int));
 let e2_1:Int:=p.1;
 let e3_1:Int:=p.2.2.2.1;
 let e:Int:=p.2.2.1;
 let f:Int:=p.2.1;
 let g:Bool:=decide (e2_1<c);
  (0:Int)<=e2_1/\e2_1<=(↑(List.length (List.tail l)):Int)/\Held.mk f e e3_1=List.foldl G7 (List.headD l held0) (List.take (Int.toNat e2_1) (List.tail l))->
  (g=true->
  ((0:Int)<=e2_1/\e2_1<c)/\
  ∃ (p':Int×Int×Int×Int×Unit),
  b=b/\
  (bif e0_1 then l else l)=l/\
  (bif e0_1 then a else a)=a/\
  (bif e0_1 then c else c)=c/\
  IntKind.i64.wrap ((bif e0_1 then e2_1 else e2_1)+(1:Int))=p'.1/\
  b=b/\
  (bif e0_1 then (0:Int) else (0:Int))=(0:Int)/\
  (bif e0_1 then (0:Int) else (0:Int))=(0:Int)/\
  (bif e0_1 then (0:Int) else (0:Int))=(0:Int)/\
  (bif e0_1 then d.slot else f)=p'.2.1/\
  (bif e0_1 then d.reg else e)=p'.2.2.1/\
  (bif e0_1 then d.next else e3_1)=p'.2.2.2.1/\
  ((0:Int)<=p'.1/\
  p'.1<=(↑(List.length (List.tail l)):Int)/\
  Held.mk p'.2.1 p'.2.2.1 p'.2.2.2.1=List.foldl G7 (List.headD l held0) (List.take (Int.toNat p'.1) (List.tail l)))/\
  List.length (List.tail l)-Int.toNat p'.1<List.length (List.tail l)-Int.toNat e2_1)/\
  (g=false->(f,e,e3_1,())=((K9 l).slot,(K9 l).reg,(K9 l).next,()))):=by kernel_rfl
theorem br8:C8 prog RG 110 cIsNaN:=E3 B7 (λ_=>noL) (by kernel_rfl) (by kernel_rfl) (by kernel_rfl) λ(a,()) _=>(ce9 a).mpr (by rw [bne_self_eq_false])
theorem bi9:C8 prog RG 111 cIsNaN:=E3 B7 (λ_=>noL) (by kernel_rfl) (by kernel_rfl) (by kernel_rfl) λ(a,()) _=>(bU0 a).mpr (by rw [bne_self_eq_false])
theorem bH9:C8 prog RG 109 cLess:=E3 (A7 bi9 B7) (λ_=>noL) (by kernel_rfl) (by kernel_rfl) (by kernel_rfl) λ(a,b,()) _=>(cp9 a b).mpr (by dsimp only;rw [Bool.false_and,Bool.false_or])
theorem aZ4 {l:List Int} {t:Int} {k:Nat} (b:k<=l.length) (h1:∀ x∈l.take k,x<t) (h2:∀ x∈l.drop k,t<=x):l.takeWhile (λx=>decide (x<t))=l.take k:=by
 induction l generalizing k with
 |nil=>simp
 |cons x r ih=>
  cases k with
  |zero=>have:=h2 x (by simp);rw [List.takeWhile_cons_of_neg (by simp;omega)];rfl
  |succ k=>have c:=h1 x (by simp);rw [List.takeWhile_cons_of_pos (by simpa using c),List.take_succ_cons,ih (by simpa using b) (λy a=>h1 y (by simp [a])) (λy a=>h2 y (by simpa using a))]
theorem bj0 {l:List Int} (h:l.Pairwise (·<=·)) {i j:Nat} (a:i<=j) (b:j<l.length):l.getD i 0<=l.getD j 0:=by
 rw [cA4,cA4,cz2 (by omega),cz2 b];rcases Nat.lt_or_eq_of_le a with h1|h1
 .exact List.pairwise_iff_getElem.1 h i j (by omega) b h1
 .subst h1;exact Int.le_refl _
theorem aZ5 {l:List Int} {k:Nat} {x:Int} (h:x∈l.take k):∃ i,i<k/\i<l.length/\x=l.getD i 0:=by obtain ⟨i,a,rfl⟩:=List.mem_iff_getElem.1 h;rw [cB9] at a;exact ⟨i,by omega,by omega,by rw [List.getElem_take,cA4,cz2 (by omega)];rfl⟩
theorem aZ6 {l:List Int} {k:Nat} {x:Int} (h:x∈l.drop k):∃ i,k<=i/\i<l.length/\x=l.getD i 0:=by obtain ⟨i,a,rfl⟩:=List.mem_iff_getElem.1 h;rw [List.length_drop] at a;exact ⟨k+i,by omega,by omega,by rw [List.getElem_drop,cA4,cz2 (by omega)];rfl⟩
theorem cw1 (l:List Int) (t:Int) (o:l.Pairwise (·<=·)):vc (EV [(109,cLess),(110,cIsNaN)]) (lBin l t) Go.Proofs.Tryd.f107 cBin (l,t,()):=by
 rw [cw0 l t];intro r p hs;have hl:l.length<=140737488355328:=hs.len;have e:p=2:=rfl;dsimp only [r];simp only [true_and,and_true,Bool.cond_self,e]
 clear_value p
 refine ⟨⟨(0,(l.length:Int),()),rfl,rfl,Int.le_refl _,by dsimp only;omega,Int.le_refl _,λx a=>?_,λx a=>?_⟩,?_⟩
 .change x∈l.take 0 at a;simp at a
 .dsimp only at a;change x∈l.drop (l.length:Int).toNat at a;simp at a
 rintro ⟨i,j,⟨⟩⟩ ⟨h0,h1,h2,h3,h4⟩;dsimp only at h0 h1 h2 h3 h4 |-;have h3:∀ x∈l.take i.toNat,x<t:=h3;have h4:∀ x∈l.drop j.toNat,t<=x:=h4;obtain ⟨i,rfl⟩:=cz6 h0;obtain ⟨j,rfl⟩:=cz6 (Int.le_trans h0 h1);simp only [cz4] at h3 h4 |-;refine ⟨λb=>?_,λf=>?_⟩
 .have b:(i:Int)<j:=cA0 b;have hm:IntKind.i64.wrap (Int.fdiv (IntKind.u64.wrap (IntKind.i64.wrap ((i:Int)+j))) 2)=((i+j) / 2:Nat):=by
   rw [F8 (n:=(i:Int)+j) (by omega) (by omega)];have s:IntKind.u64.wrap ((i:Int)+j)=(i:Int)+j:=by simp only [IntKind.wrap,IntKind.bits,IntKind.signed,Bool.false_and,Bool.false_eq_true,if_false];omega
   rw [s,Int.fdiv_eq_ediv_of_nonneg _ (by omega),F8 (by omega) (by omega)];omega
  rw [hm];have c:i<=(i+j) / 2/\(i+j) / 2<j:=by omega
  generalize (i+j) / 2=m at c |-;simp only [cz4];refine ⟨by omega,⟨by omega,by omega⟩,?_⟩;cases d:decide (l.getD m 0<t) with
  |true=>have d:l.getD m 0<t:=cA0 d;simp only [cond_true];refine ⟨((m+1:Nat),(j:Int),()),B5 (m:=l.length) (by omega) hl,rfl,⟨by omega,by dsimp only;omega,by dsimp only;omega,λx a=>?_,λx a=>h4 x a⟩,by dsimp only;omega⟩;have a:x∈l.take ((m+1:Nat):Int).toNat:=a;rw [cz4] at a;obtain ⟨q,g,h,rfl⟩:=aZ5 a;have:=bj0 o (i:=q) (j:=m) (by omega) (by omega);omega
  |false=>have d:¬ l.getD m 0<t:=cz9 d;simp only [cond_false];refine ⟨((i:Int),(m:Int),()),rfl,rfl,⟨by omega,by dsimp only;omega,by dsimp only;omega,λx a=>h3 x a,λx a=>?_⟩,by dsimp only;omega⟩;have a:x∈l.drop ((m:Nat):Int).toNat:=a;rw [cz4] at a;obtain ⟨q,g,h,rfl⟩:=aZ6 a;have:=bj0 o (i:=m) (j:=q) (by omega) (by omega);omega
 .have k:i=j:=by have:¬ (i:Int)<j:=cz9 f;omega
  subst k;refine ⟨λq=>⟨h0,cA0 q⟩,λq _=>⟨h0,cA0 q⟩,?_⟩;have:=aZ4 (by omega) h3 h4;have u:(List.takeWhile (λ(x:den RU.T i64)=>decide (x<t)) l).length=i:=by show (List.takeWhile (λ(x:Int)=>decide (x<t)) l).length=i;rw [this,cB9];omega
  rw [u]
theorem bU2:C8 prog RG 107 cBin:=E3 (A7 bH9 (A7 br8 B7)) (λp=>lBin p.1 p.2.1) (by kernel_rfl) (by kernel_rfl) (by kernel_rfl) λ(l,t,()) a=>cw1 l t a
theorem ax2 {m:Holds} {reg:Int} {s:Nat}:an1 m reg s=true<->mget eqP m ⟨false,(s:Int)⟩=some reg:=by simp [an1]
theorem bI0 {p:Nat->Bool} {n s:Nat} (h1:∀ x∈List.range s,p x=false) (hs:s<n) (h2:p s=true):(List.range n).find? p=some s:=by rw [List.find?_range_eq_some];exact ⟨h2,by simpa using hs,λj a=>by have:=h1 j (by simpa using a);simp [this]⟩
theorem aL6 {p:Nat->Bool} {n:Nat} (h1:∀ x∈List.range n,p x=false):(List.range n).find? p=none:=by rw [List.find?_eq_none];intro x a;rw [h1 x a];simp
theorem cq4 (reg e:Int) (f:List Ins) (g h:List Int) (sp:Spans) (rd:Reads) (a:Holds) (ce:List (Int×Int)) (op ks oc:Int) (cd:List RIns) (ou:List Place) (o:ks<=64):vc (EV []) (cp7 a ks reg) Go.Proofs.Tryd.f54 cSlot (reg,e,f,g,h,sp,rd,a,ce,op,ks,oc,cd,ou,()):=by
 rw [cq0 reg e f g h sp rd a ce op ks oc cd ou];intro j k _ _ _ _ _;have b:k=((C4 a ks reg).cell,(C4 a ks reg).n,j):=rfl
 clear_value k j
 simp only [true_and,and_true];refine ⟨⟨(0,()),rfl,Int.le_refl _,.inr rfl,λs hs=>?_⟩,?_⟩
 .change s∈List.range 0 at hs;simp at hs
 rintro ⟨i,⟨⟩⟩ ⟨h0,h1,h2⟩;dsimp only at h0 h1 h2 |-;have h2:∀ s∈List.range i.toNat,an1 a reg s=false:=h2;obtain ⟨i,rfl⟩:=cz6 h0;simp only [cz4] at h2 |-;have l:((mget (F7 RU (Ty.user 2)) a ⟨false,(i:Int)⟩).isSome&&(mget (F7 RU (Ty.user 2)) a ⟨false,(i:Int)⟩).getD 0==reg)=an1 a reg i:=by
  show ((mget eqP a ⟨false,(i:Int)⟩).isSome&&(mget eqP a ⟨false,(i:Int)⟩).getD 0==reg)=decide (mget eqP a ⟨false,(i:Int)⟩=some reg);cases mget eqP a ⟨false,(i:Int)⟩ with
  |none=>rfl
  |some v=>rw [Bool.eq_iff_iff];simp
 rw [l];refine ⟨λc=>?_,λd=>?_⟩
 .have c:(i:Int)<ks:=cA0 c;refine ⟨λq=>?_,λq=>?_⟩
  .rw [b,show C4 a ks reg=⟨false,(i:Int)⟩ by unfold C4;rw [bI0 h2 (by omega) q]]
  .refine ⟨((i+1:Nat),()),?_,⟨by omega,.inl (by dsimp only;omega),λs hs=>?_⟩,by dsimp only;omega⟩
   .rw [F8 (by omega) (by omega)];rfl
   .have hs:s∈List.range ((i+1:Nat):Int).toNat:=hs;rw [cz4,List.range_succ,cB7] at hs;rcases hs with hs|hs
    .exact h2 s hs
    .simp only [cA1] at hs;rw [hs];exact q
 .have d:¬ (i:Int)<ks:=cz9 d;have p:List.range ks.toNat=List.range (min i ks.toNat):=by congr 1;omega
  have m:(List.range ks.toNat).find? (an1 a reg)=none:=aL6 (λx n=>h2 x (by simp at n |-;omega));rw [b,show C4 a ks reg=bT9 by unfold C4;rw [m]];rfl
theorem ax3:C8 prog RG 54 cSlot:=E3 B7 (λp=>cp7 p.2.2.2.2.2.2.2.1 p.2.2.2.2.2.2.2.2.2.2.1 p.1) (by kernel_rfl) (by kernel_rfl) (by kernel_rfl) λ(reg,a,b,c,d,sp,rd,e,ce,op,ks,oc,cd,ou,()) f=>cq4 reg a b c d sp rd e ce op ks oc cd ou f
theorem aS6:C8 prog RG 85 cPutA:=E3 B7 (λ_=>noL) (by kernel_rfl) (by kernel_rfl) (by kernel_rfl) λ(k,s,c,o,n,t,f,b,d,e,g,h,sp,rd,i,ce,op,ks,oc,cd,ou,()) a=>(cq1 k s c o n t f b d e g h sp rd i ce op ks oc cd ou).mpr (by
 have a:cd.length<=1000000000:=a;intro j _ _ _ _ _ _ _ _;exact ⟨by show (cd.length+1)*112<=_;omega,rfl⟩)
theorem bj1 {t:Int}:∀ (l:List Int),l.find? (λx=>decide (t<=x))=l[(l.takeWhile (λx=>decide (x<t))).length]?
 |[]=>rfl
 |x::r=>by
  by_cases h:x<t
  .rw [List.find?_cons_of_neg (by simpa using h),List.takeWhile_cons_of_pos (by simpa using h)];simp only [cA6,List.getElem?_cons_succ];exact bj1 r
  .rw [List.find?_cons_of_pos (by simp;omega),List.takeWhile_cons_of_neg (by simpa using h)];rfl
theorem bI1:C8 prog RG 100 cNext:=E3 (A7 bU2 B7) (λ_=>noL) (by kernel_rfl) (by kernel_rfl) (by kernel_rfl) λ(reg,fr,h,d,i,j,sp,rd,k,ce,op,ks,oc,cd,ou,()) e=>(cq2 reg fr h d i j sp rd k ce op ks oc cd ou).mpr (by
 have e:ai5 rd:=e;intro l f g a _ _ _ _ _;have m:a=getL rd reg:=rfl;have c:l=((a.takeWhile (λx=>decide (x<fr))).length:Int):=rfl;have b:g=(M6 rd d.length reg fr,f):=rfl;have n:M6 rd d.length reg fr=(a[(a.takeWhile (λx=>decide (x<fr))).length]?).getD d.length:=by rw [<-bj1];rfl
 have o:(a.takeWhile (λx=>decide (x<fr))).length<=a.length:=(List.takeWhile_prefix _).length_le;rw [n] at b
 clear_value g f
 refine ⟨e reg,λq=>?_,λq=>?_⟩
 .rw [c] at q;have q:(a.takeWhile (λx=>decide (x<fr))).length=a.length:=by have:=eq_of_beq q;omega
  rw [b,List.getElem?_eq_none (by omega)];rfl
 .rw [c] at q |-;have q:¬ (a.takeWhile (λx=>decide (x<fr))).length=a.length:=by have:=beq_eq_false_iff_ne.1 q;omega
  refine ⟨by omega,?_⟩;rw [b,cz4,cA4,cz2 (by omega)];rfl)
theorem bj2:C8 prog RG 102 cBetter:=E3 B7 (λ_=>noL) (by kernel_rfl) (by kernel_rfl) (by kernel_rfl) λ(a,b,c,d,e,f,()) _=>(bU1 a b c d e f).mpr rfl
theorem cq5 (l:List Held) (r:l≠[]):vc (EV [(102,cBetter)]) (cp8 l) Go.Proofs.Tryd.f101 cBest (l,()):=by
 rw [cq3 l];intro n o e s hs;have hl:l.length<=140737488355328:=hs.len;have p:0<l.length:=by cases l with|nil=>exact absurd rfl r|cons=>simp
 have f:e=l.tail:=List.drop_one;have t:l.tail.length=l.length-1:=by simp
 have g:o=l.headD held0:=by show l.getD 0 held0=_;cases l<;>rfl
 have h:n=(e.length:Int):=rfl
 clear_value n o e
 subst h g f;dsimp only [s];simp only [true_and,and_true,Bool.cond_self];have u:(⟨0,0,0⟩:Held)=held0:=rfl;rw [u];refine ⟨by omega,by omega,⟨(0,(l.headD held0).slot,(l.headD held0).reg,(l.headD held0).next,()),rfl,rfl,rfl,rfl,Int.le_refl _,by dsimp only;omega,rfl⟩,?_⟩;rintro ⟨i,a,b,c,⟨⟩⟩ ⟨h0,h1,h2⟩;dsimp only at h0 h1 h2 |-;obtain ⟨k,rfl⟩:=cz6 h0;simp only [cz4] at h2 |-;refine ⟨λd=>?_,λj=>?_⟩
 .have d:(k:Int)<l.tail.length:=cA0 d;have q:(l.tail.take (k+1)).foldl G7 (l.headD held0)=G7 ⟨a,b,c⟩ (l.tail.getD k held0):=by
   rw [A4 (by omega) held0,List.foldl_append,<-h2];rfl
  generalize l.tail.getD k held0=y at q |-;refine ⟨⟨h0,d⟩,((k+1:Nat),(G7 ⟨a,b,c⟩ y).slot,(G7 ⟨a,b,c⟩ y).reg,(G7 ⟨a,b,c⟩ y).next,()),B5 (m:=l.length) (by omega) hl,?_,?_,?_,⟨by omega,by dsimp only;omega,by dsimp only;rw [cz4,q]⟩,by dsimp only;omega⟩
  all_goals
   show (bif ai4 ⟨y.slot,y.reg,y.next⟩ ⟨a,b,c⟩ then _ else _)=_;dsimp only [G7];rw [show (⟨y.slot,y.reg,y.next⟩:Held)=y from rfl];cases ai4 y ⟨a,b,c⟩<;>rfl
 .have v:k=l.tail.length:=by have:¬ (k:Int)<l.tail.length:=cz9 j;omega
  subst v;rw [cB8] at h2;rw [K9,<-h2]
theorem bI2:C8 prog RG 101 cBest:=E3 (A7 bj2 B7) (λp=>cp8 p.1) (by kernel_rfl) (by kernel_rfl) (by kernel_rfl) λ(l,()) a=>cq5 l a
def cRoom:Con RU:=⟨[one,one,one],i64::ints::tysA,[.ptr 0 0,.d 0,.d 1],objA 0 2,some λp=>match p with
  |(pl,st,a0,a1,a2,a3,sp,rd,ho,ce,op,ks,oc,cd,ou,())=>ai5 rd/\X8 sp rd ks a1.length ho pl st/\ks<=64/\0<=oc/\oc<=1000000000/\cd.length<=1000000000,
 none,[one],i64::tysA,[.d 0],objA 0 1,λp=>match p with
  |(pl,st,a0,a1,a2,a3,sp,rd,ho,ce,op,ks,oc,cd,ou,())=>((E1 sp rd ks a1.length ⟨ho,ce,oc,cd⟩ pl st).1,a0,a1,a2,a3,sp,rd,(E1 sp rd ks a1.length ⟨ho,ce,oc,cd⟩ pl st).2.holds,(E1 sp rd ks a1.length ⟨ho,ce,oc,cd⟩ pl st).2.cells,op,ks,(E1 sp rd ks a1.length ⟨ho,ce,oc,cd⟩ pl st).2.ocells,(E1 sp rd ks a1.length ⟨ho,ce,oc,cd⟩ pl st).2.code,ou,()),[],[],[]⟩
def cq6 (sp:Spans) (rd:Reads) (ks N:Int) (ho:Holds) (pl:Int) (st:List Int):Nat->St RU->Ann RU:=λ_ _=>⟨[8],[.slot 22,.row 900001],[i64,cu5],λp=>0<=p.1/\(p.1<=ks\/p.1=0)/\C0 sp rd N ho pl st (List.range p.1.toNat) []=(none,p.2.1),λp=>ks.toNat-p.1.toNat,[(.slot 8,900001,131,.user 4)]⟩
def cGetA:Con RU:=⟨[one,one],i64::tysA,[.d 0,.ptr 0 0],.box 79 [.ptr 1 0]::objA 1 1,some λp=>p.2.2.2.2.2.2.2.2.2.2.1<=64,none,[one],i64::tysA,[.d 0],.box 79 [.ptr 1 0]::objA 1 1,λp=>((C4 p.2.2.2.2.2.2.2.1 p.2.2.2.2.2.2.2.2.2.2.1 p.1).n,p.2),[0],[],[]⟩
def cCalledA:Con RU:=⟨[(true,5),one,one],aA3++tysA++[mapI],[.d 0,.d 1,.d 2,.d 3,.d 4,.clo 86 [0],.clo 87 [8]],.box 79 [.ptr 1 0]::objA 1 5++[.box 84 [.map 9],.map 18],some λp=>match p with
  |(x1,x2,x3,x4,x5,a0,a1,a2,a3,sp,rd,ho,ce,op,ks,oc,cd,ou,sl,())=>ai2 x3 x4 x5=true/\ks<=64,none,
 [(true,5)],aA3++tysA++[mapI],[.d 0,.d 1,.d 2,.d 3,.d 4],.box 79 [.ptr 1 0]::objA 1 5++[.box 84 [.map 9],.map 18],
 λp=>match p with
  |(x1,x2,x3,x4,x5,a0,a1,a2,a3,sp,rd,ho,ce,op,ks,oc,cd,ou,sl,())=>(x1,x2,x3.map (λn=>(C4 ho ks n).n),x4.map (getI sl),x5,a0,a1,a2,a3,sp,rd,ho,ce,op,ks,oc,cd,ou,sl,()),[0,8],[],[]⟩
def aZ7 (x1 x2:Int) (x3 x4:List Int) (x5:List Ins) (ho:Holds) (ks:Int) (sl:List (Int×Int)):Nat->St RU->Ann RU:=λk s=>match k with
 |0=>⟨[],[.slot 20,.row 896],[i64,inss],λp=>0<=p.1/\p.1<=x4.length/\p.2.1=[⟨x1,x2,x3,(x4.take p.1.toNat).map (getI sl)++x4.drop p.1.toNat,x5⟩],λp=>x4.length-p.1.toNat,[]⟩
 |_=>⟨[],[.slot 36,.row 896],[i64,inss],λp=>0<=p.1/\p.1<=x3.length/\p.2.1=[⟨x1,x2,(x3.take p.1.toNat).map (λn=>(C4 ho ks n).n)++x3.drop p.1.toNat,x4.map (getI sl),x5⟩],λp=>x3.length-p.1.toNat,[]⟩
def cReads:Con RU:=⟨[(true,5)],aA3,[.d 0,.d 1,.d 2,.d 3,.d 4],[],none,none,[one],aA3,[.clo 83 [0]],[.box 52 [.d 0,.d 1,.d 2,.d 3,.d 4]],λp=>p,[],[],[]⟩
def au1:Con RU:=⟨[one,one],[i64,i64,ints],[.d 0,.yld 0],[.loop 1,.box 23 [.row 2],.row 2],some λp=>p.2.1=0/\p.2.2.1.length<=17592186044400,none,[one],[.bool,i64,ints],[.d 0],[.loop 1,.box 23 [.row 2],.row 2],λp=>(true,0,p.2.2.1++[p.1],()),[],[(0,0),(1,1)],[(1,1000001)]⟩
def aZ8:Con RU:=⟨[one,one],[i64,ints,i64,i64,ints,ints,inss],[.yld 0,.ptr 3 0],[.loop 0,.box 23 [.row 2],.row 1,.box 52 [.d 2,.d 3,.d 4,.d 5,.d 6]],some λp=>p.1=0/\p.2.1.length+p.2.2.2.2.2.1.length<=17592186044400,none,[],[i64,ints],[],[.loop 0,.box 23 [.row 2],.row 1,.box 52 [.un,.un,.un,.un,.un]],
 λp=>(0,p.2.1++B0 p.2.2.2.2.2.1,()),[],[(0,0),(1,1)],[(1,384)]⟩
def itDo:FuncId->List (Con RU×Con RU×List (Nat×Nat)):=λf=>bif Nat.beq f 83 then [(aZ8,au1,[(0,0),(1,1),(2,2)])] else []
def br9 (fr:List Int) (r0:List Int):Nat->St RU->Ann RU:=λ_ _=>⟨[],[.slot 8,.row 1000000,.row 1000002],[i64,i64,ints],λp=>0<=p.1/\p.1<=fr.length/\p.2.1=0/\p.2.2.1=r0++B0 (fr.take p.1.toNat),λp=>fr.length-p.1.toNat,[]⟩
def cDo:Con RU:=⟨[one,one,(true,5)],i64::aA3++tysA,[.ptr 0 0,.d 0,.d 1,.d 2,.d 3,.d 4,.d 5],objA 0 6,some λp=>match p with
  |(i,x1,x2,x3,x4,x5,a0,a1,a2,a3,sp,rd,ho,ce,op,ks,oc,cd,ou,())=>ai2 x3 x4 x5=true/\x4.length<=17592186044400/\(B0 x4).length<=64/\x3.length<=64/\ai5 rd/\doOk sp rd ks a1.length i ⟨x1,x2,x3,x4,x5⟩ ⟨ho,ce,oc,cd⟩/\ks<=64/\0<=i/\i<=1000000/\0<=oc/\oc<=100000000/\cd.length<=100000000,
 none,[],tysA,[],objA 0 0,λp=>match p with
  |(i,x1,x2,x3,x4,x5,a0,a1,a2,a3,sp,rd,ho,ce,op,ks,oc,cd,ou,())=>(a0,a1,a2,a3,sp,rd,(doOf sp rd ks a1.length i ⟨x1,x2,x3,x4,x5⟩ ⟨ho,ce,oc,cd⟩).holds,(doOf sp rd ks a1.length i ⟨x1,x2,x3,x4,x5⟩ ⟨ho,ce,oc,cd⟩).cells,op,ks,(doOf sp rd ks a1.length i ⟨x1,x2,x3,x4,x5⟩ ⟨ho,ce,oc,cd⟩).ocells,(doOf sp rd ks a1.length i ⟨x1,x2,x3,x4,x5⟩ ⟨ho,ce,oc,cd⟩).code,ou,()),[],[],[]⟩
def lDo (sp:Spans) (rd:Reads) (ks N i:Int) (x3 x4:List Int) (s0:AS):Nat->St RU->Ann RU:=λk s=>match k with
 |0=>⟨[],[],[],λ_=>False,λ_=>0,[(.box 384 0,900001,3,i64)]⟩
 |1=>⟨[],[.slot 27,.row 1000003,.row 1000004,.box 1000000 10,.row 1000005],[i64,mapP,mapI,i64,aX4],λp=>0<=p.1/\p.1<=(B0 x4).length/\C5 sp rd ks N i (B0 x4) s0 ((B0 x4).take p.1.toNat)=⟨p.2.1,p.2.2.1,p.2.2.2.1,p.2.2.2.2.1⟩,λp=>(B0 x4).length-p.1.toNat,[(.cell 384 0,0,3,i64),(.row 25,0,3,i64)]⟩
 |2=>⟨[],[.slot 61,.row 3712],[i64,mapI],λp=>0<=p.1/\p.1<=(B0 x4).length/\p.2.1=N5 (C5 sp rd ks N i (B0 x4) s0 (B0 x4)).holds ks ((B0 x4).take p.1.toNat),λp=>(B0 x4).length-p.1.toNat,[]⟩
 |_=>⟨[],[.slot 75,.row 1000003,.row 1000004,.box 1000000 10,.row 1000005],[i64,mapP,mapI,i64,aX4],λp=>0<=p.1/\p.1<=x3.length/\H6 sp rd ks N i x3 (C5 sp rd ks N i (B0 x4) s0 (B0 x4)) (x3.take p.1.toNat)=⟨p.2.1,p.2.2.1,p.2.2.2.1,p.2.2.2.2.1⟩,λp=>x3.length-p.1.toNat,[]⟩
theorem cq7 (pl:Int) (st:List Int) (f:Int) (b:List Ins) (d e:List Int) (sp:Spans) (rd:Reads) (a:Holds) (ce:List (Int×Int)) (op ks oc:Int) (cd:List RIns) (ou:List Place):vc (EV [(100,cNext),(61,cContains),(69,cAt),(101,cBest),(85,cPutA)]) (cq6 sp rd ks b.length a pl st) Go.Proofs.Tryd.f84 cRoom (pl,st,f,b,d,e,sp,rd,a,ce,op,ks,oc,cd,ou,())=(
 let h:Int×Int×List Ins×List Int×List Int×List (Int×Span)×List (Int×List Int)×List (Place×Int)×List (Int×Int)×Int×Int×Int×List RIns×List Place×Unit:=
  ((E1 sp rd ks (↑(List.length b):Int) (AS.mk a ce oc cd) pl st).1,f,b,d,e,sp,rd,(E1 sp rd ks (↑(List.length b):Int) (AS.mk a ce oc cd) pl st).2.holds,
  (E1 sp rd ks (↑(List.length b):Int) (AS.mk a ce oc cd) pl st).2.cells,op,ks,(E1 sp rd ks (↑(List.length b):Int) (AS.mk a ce oc cd) pl st).2.ocells,
  (E1 sp rd ks (↑(List.length b):Int) (AS.mk a ce oc cd) pl st).2.code,ou,());
 let i:Int×List Ins×List Int×List Int×List (Int×Span)×List (Int×List Int)×List (Place×Int)×List (Int×Int)×Int×Int×Int×List RIns×List Place×Unit:=
  (f,b,d,e,sp,rd,a,ce,op,ks,oc,cd,ou,());
  Small RU (Sigma.mk (Ty.slice (3:Nat) (Ty.int IntKind.i64)) st)->
  Small RU (Sigma.mk (Ty.slice (52:Nat) (Ty.user (0:Nat))) b)->
  Small RU (Sigma.mk (Ty.slice (3:Nat) (Ty.int IntKind.i64)) d)->
  Small RU (Sigma.mk (Ty.slice (3:Nat) (Ty.int IntKind.i64)) e)->
  Small RU (Sigma.mk (Ty.slice (55:Nat) (Ty.user (1:Nat))) cd)->
  Small RU (Sigma.mk (Ty.slice (59:Nat) (Ty.user (2:Nat))) ou)->
  (∃ (p:Int×List Held×Unit),
  pl=pl/\
  st=st/\
  ks=ks/\
  (0:Int)=p.1/\
  f=f/\
  b=b/\
  d=d/\
  e=e/\
  op=op/\
  ks=ks/\
  oc=oc/\
  sp=sp/\
  rd=rd/\
  a=a/\
  ce=ce/\
  cd=cd/\
  ou=ou/\
  []=p.2.1/\
  (0:Int)<=p.1/\
  (p.1<=ks\/p.1=(0:Int))/\C0 sp rd (↑(List.length b):Int) a pl st (List.range (Int.toNat p.1)) []=(none,p.2.1))/\
  ∀ (p:Int×List Held×Unit),
 let e0_1:Bool:=!Option.isSome (mget (λ(x y:Int)=>x==y) ce (K9 p.2.1).reg);
 let e1_1:Bool:=
  !H5
  (Option.getD (mget (λ(x y:Int)=>x==y) sp (Option.getD (mget (F7 RU (Ty.user (2:Nat))) a (Place.mk false p.1)) (0:Int))) (Span.mk (0:Int) (0:Int))).first
  (Option.getD (mget (λ(x y:Int)=>x==y) sp (Option.getD (mget (F7 RU (Ty.user (2:Nat))) a (Place.mk false p.1)) (0:Int))) (Span.mk (0:Int) (0:Int))).last pl;
 let g:List Held:=p.2.1;
 let j:List Held:=
  [Held.mk p.1 (Option.getD (mget (F7 RU (Ty.user (2:Nat))) a (Place.mk false p.1)) (0:Int))
  (M6 rd (↑(List.length b):Int) (Option.getD (mget (F7 RU (Ty.user (2:Nat))) a (Place.mk false p.1)) (0:Int)) pl)];
 let c:Int:=p.1;
 let k:Bool:=List.contains st (Option.getD (mget (F7 RU (Ty.user (2:Nat))) a (Place.mk false c)) (0:Int));
 let l:Bool:=decide (c<ks);
 let m:Bool:=!Option.isSome (mget (F7 RU (Ty.user (2:Nat))) a (Place.mk false c));
  (0:Int)<=c/\(c<=ks\/c=(0:Int))/\C0 sp rd (↑(List.length b):Int) a pl st (List.range (Int.toNat c)) []=(none,g)->
  (l=true->
  (m=true->(c,i)=h)/\
  (m=false->
  (k=true->
  ∃ (p':Int×List Held×Unit),
  pl=pl/\
  st=st/\
  ks=ks/\
  IntKind.i64.wrap (c+(1:Int))=p'.1/\
  f=f/\
  b=b/\
  d=d/\
  e=e/\
  op=op/\
  ks=ks/\
  oc=oc/\
  sp=sp/\
  rd=rd/\
  a=a/\
  ce=ce/\
  cd=cd/\
  ou=ou/\
  g=p'.2.1/\
  ((0:Int)<=p'.1/\
  (p'.1<=ks\/p'.1=(0:Int))/\
  C0 sp rd (↑(List.length b):Int) a pl st (List.range (Int.toNat p'.1)) []=(none,p'.2.1))/\
  Int.toNat ks-Int.toNat p'.1<Int.toNat ks-Int.toNat c)/\
  (k=false->
  (e1_1=true->(c,i)=h)/\
  (e1_1=false->
  (∀ (n:Int),List.Pairwise (λ(o q:Int)=>o<=q) (getL rd n))/\
  (List.length g+List.length j)*(24:Nat)<=(140737488355328:Nat)/\
  ∃ (p':Int×List Held×Unit),
  pl=pl/\
  st=st/\
  ks=ks/\
  IntKind.i64.wrap (c+(1:Int))=p'.1/\
  f=f/\
  b=b/\
  d=d/\
  e=e/\
  op=op/\
  ks=ks/\
  oc=oc/\
  sp=sp/\
  rd=rd/\
  a=a/\
  ce=ce/\
  cd=cd/\
  ou=ou/\
  g++j=p'.2.1/\
  ((0:Int)<=p'.1/\
  (p'.1<=ks\/p'.1=(0:Int))/\
  C0 sp rd (↑(List.length b):Int) a pl st (List.range (Int.toNat p'.1)) []=(none,p'.2.1))/\
  Int.toNat ks-Int.toNat p'.1<Int.toNat ks-Int.toNat c))))/\
  (l=false->
  g≠[]/\
  (e0_1=true->List.length cd<=(1000000000:Nat))/\
  (bif e0_1 then (K9 g).slot else (K9 g).slot,bif e0_1 then f else f,bif e0_1 then b else b,bif e0_1 then d else d,bif e0_1 then e else e,
  bif e0_1 then sp else sp,bif e0_1 then rd else rd,bif e0_1 then a else a,bif e0_1 then mput (λ(x y:Int)=>x==y) ce (K9 g).reg oc else ce,
  bif e0_1 then op else op,bif e0_1 then ks else ks,bif e0_1 then IntKind.i64.wrap (oc+(1:Int)) else oc,
  bif e0_1 then cd++[RIns.mk (2:Int) (K9 g).slot oc (Ins.mk (0:Int) (0:Int) [] [] [])] else cd,bif e0_1 then ou else ou,())=
  h)):=by kernel_rfl
theorem cq8 (n e:Int) (a:List Ins) (b c:List Int) (sp:Spans) (rd:Reads) (d:Holds) (ce:List (Int×Int)) (op ks oc:Int) (cd:List RIns) (ou:List Place):vc (EV [(54,cSlot)]) noL Go.Proofs.Tryd.f86 cGetA (n,e,a,b,c,sp,rd,d,ce,op,ks,oc,cd,ou,())=(
 let f:Int×Int×List Ins×List Int×List Int×List (Int×Span)×List (Int×List Int)×List (Place×Int)×List (Int×Int)×Int×Int×Int×List RIns×List Place×Unit:=
  ((C4 d ks n).n,e,a,b,c,sp,rd,d,ce,op,ks,oc,cd,ou,());
  Small RU (Sigma.mk (Ty.slice (52:Nat) (Ty.user (0:Nat))) a)->
  Small RU (Sigma.mk (Ty.slice (3:Nat) (Ty.int IntKind.i64)) b)->
  Small RU (Sigma.mk (Ty.slice (3:Nat) (Ty.int IntKind.i64)) c)->
  Small RU (Sigma.mk (Ty.slice (55:Nat) (Ty.user (1:Nat))) cd)->Small RU (Sigma.mk (Ty.slice (59:Nat) (Ty.user (2:Nat))) ou)->ks<=(64:Int)/\f=f):=by kernel_rfl
theorem cq9 (n:Int) (m:List (Int×Int)):vc (EV []) noL Go.Proofs.Tryd.f87 cOld (n,m,())=((Option.getD (mget (λ(x y:Int)=>x==y) m n) (0:Int),m,())=(getI m n,m,())):=by kernel_rfl
theorem bI3 (a b:Int) (c e:List Int) (d:List Ins) (m:Int) (j:List Ins) (k l:List Int) (sp:Spans) (rd:Reads) (f:Holds) (ce:List (Int×Int)) (op ks oc:Int) (cd:List RIns) (ou:List Place) (sl:List (Int×Int)):vc (EV [(96,cBody),(86,cGetA),(87,cOld)]) (aZ7 a b c e d f ks sl) Go.Proofs.Tryd.f73 cCalledA (a,b,c,e,d,m,j,k,l,sp,rd,f,ce,op,ks,oc,cd,ou,sl,())=(
 let q:
  List Ins×
  Int×List Ins×List Int×List Int×List (Int×Span)×List (Int×List Int)×List (Place×Int)×List (Int×Int)×Int×Int×Int×List RIns×List Place×List (Int×Int)×Unit:=
  (d,m,j,k,l,sp,rd,f,ce,op,ks,oc,cd,ou,sl,());
 let g:Ins:=Ins.mk (0:Int) (0:Int) [] [] [];
 let h:List Ins:=[Ins.mk a b c e d];
 let i:Int:=(↑(List.length e):Int);
  Small RU (Sigma.mk (Ty.slice (3:Nat) (Ty.int IntKind.i64)) c)->
  Small RU (Sigma.mk (Ty.slice (3:Nat) (Ty.int IntKind.i64)) e)->
  Small RU (Sigma.mk (Ty.slice (52:Nat) (Ty.user (0:Nat))) d)->
  Small RU (Sigma.mk (Ty.slice (52:Nat) (Ty.user (0:Nat))) j)->
  Small RU (Sigma.mk (Ty.slice (3:Nat) (Ty.int IntKind.i64)) k)->
  Small RU (Sigma.mk (Ty.slice (3:Nat) (Ty.int IntKind.i64)) l)->
  Small RU (Sigma.mk (Ty.slice (55:Nat) (Ty.user (1:Nat))) cd)->
  Small RU (Sigma.mk (Ty.slice (59:Nat) (Ty.user (2:Nat))) ou)->
  (List.length h<=(1599289640354:Nat)/\J1 h=true)/\
  ((0:Int)<=(0:Int)/\(0:Int)<(↑(List.length h):Int))/\
  (∃ (p:Int×List Ins×Unit),
  a=a/\
  b=b/\
  c=c/\
  e=e/\
  d=d/\
  (0:Int)=(0:Int)/\
  i=i/\
  (0:Int)=p.1/\
  m=m/\
  j=j/\
  k=k/\
  l=l/\
  op=op/\
  ks=ks/\
  oc=oc/\
  sp=sp/\
  rd=rd/\
  f=f/\
  ce=ce/\
  cd=cd/\
  ou=ou/\
  sl=sl/\
  a=a/\
  b=b/\
  c=c/\
  e=e/\
  d=d/\
  (0:Int)=(0:Int)/\
  (0:Int)=(0:Int)/\
  h=h/\
  h=p.2.1/\
  a=a/\
  b=b/\
  (0:Int)=(0:Int)/\
  (0:Int)=(0:Int)/\
  d=d/\
  (0:Int)<=p.1/\
  p.1<=i/\
  p.2.1=
  [Ins.mk a b c
  (List.map (getI sl) (List.take (Int.toNat p.1) e)++List.drop (Int.toNat p.1) e) d])/\
  ∀ (p:Int×List Ins×Unit),
 let e0_1:Ins:=List.getD p.2.1 (0:Nat) g;
 let e1_1:Bool:=decide (p.1<i);
 let e2_1:Int:=p.1;
 let e3_1:List Ins:=p.2.1;
 let o:Int:=(↑(List.length e0_1.to):Int);
  (0:Int)<=e2_1/\e2_1<=i/\e3_1=[Ins.mk a b c (List.map (getI sl) (List.take (Int.toNat e2_1) e)++List.drop (Int.toNat e2_1) e) d]->
  (e1_1=true->
  ((0:Int)<=e2_1/\e2_1<(↑(List.length e0_1.from_):Int))/\
  (True/\sl=sl/\True)/\
  ((0:Int)<=e2_1/\e2_1<(↑(List.length e0_1.from_):Int))/\
  ∃ (p':Int×List Ins×Unit),
  a=a/\
  b=b/\
  c=c/\
  e=e/\
  d=d/\
  (0:Int)=(0:Int)/\
  i=i/\
  IntKind.i64.wrap (e2_1+(1:Int))=p'.1/\
  m=m/\
  j=j/\
  k=k/\
  l=l/\
  op=op/\
  ks=ks/\
  oc=oc/\
  sp=sp/\
  rd=rd/\
  f=f/\
  ce=ce/\
  cd=cd/\
  ou=ou/\
  sl=sl/\
  a=a/\
  b=b/\
  c=c/\
  e=e/\
  d=d/\
  (0:Int)=(0:Int)/\
  (0:Int)=(0:Int)/\
  h=h/\
  List.set e3_1 (0:Nat)
  (Ins.mk e0_1.op e0_1.n e0_1.to
  (List.set e0_1.from_ (Int.toNat e2_1)
  (getI sl (List.getD e0_1.from_ (Int.toNat e2_1) (0:Int))))
  e0_1.body)=
  p'.2.1/\
  a=a/\
  b=b/\
  (0:Int)=(0:Int)/\
  (0:Int)=(0:Int)/\
  d=d/\
  ((0:Int)<=p'.1/\
  p'.1<=i/\
  p'.2.1=
  [Ins.mk a b c
  (List.map (getI sl) (List.take (Int.toNat p'.1) e)++
  List.drop (Int.toNat p'.1) e)
  d])/\
  List.length e-Int.toNat p'.1<List.length e-Int.toNat e2_1)/\
  (e1_1=false->
  (∃ (p:Int×List Ins×Unit),
  a=a/\
  b=b/\
  c=c/\
  e=e/\
  d=d/\
  (0:Int)=(0:Int)/\
  i=i/\
  e2_1=e2_1/\
  e1_1=e1_1/\
  (0:Int)=(0:Int)/\
  o=o/\
  (0:Int)=p.1/\
  m=m/\
  j=j/\
  k=k/\
  l=l/\
  op=op/\
  ks=ks/\
  oc=oc/\
  sp=sp/\
  rd=rd/\
  f=f/\
  ce=ce/\
  cd=cd/\
  ou=ou/\
  sl=sl/\
  a=a/\
  b=b/\
  c=c/\
  e=e/\
  d=d/\
  (0:Int)=(0:Int)/\
  (0:Int)=(0:Int)/\
  h=h/\
  e3_1=p.2.1/\
  a=a/\
  b=b/\
  (0:Int)=(0:Int)/\
  (0:Int)=(0:Int)/\
  d=d/\
  (0:Int)<=p.1/\
  p.1<=(↑(List.length c):Int)/\
  p.2.1=
  [Ins.mk a b
  (List.map (λ(n:Int)=>(C4 f ks n).n)
  (List.take (Int.toNat p.1) c)++
  List.drop (Int.toNat p.1) c)
  (List.map (getI sl) e) d])/\
  ∀ (p:Int×List Ins×Unit),
 let e0_2:Ins:=List.getD p.2.1 (0:Nat) g;
 let g:Int:=p.1;
 let e2_2:Bool:=decide (g<o);
 let e3_2:List Ins:=p.2.1;
  (0:Int)<=g/\
  g<=(↑(List.length c):Int)/\
  e3_2=[Ins.mk a b (List.map (λ(n:Int)=>(C4 f ks n).n) (List.take (Int.toNat g) c)++List.drop (Int.toNat g) c) (List.map (getI sl) e) d]->
  (e2_2=true->
  ((0:Int)<=g/\g<(↑(List.length e0_2.to):Int))/\
  (ks<=(64:Int)/\True)/\
  ((0:Int)<=g/\g<(↑(List.length e0_2.to):Int))/\
  ∃ (p':Int×List Ins×Unit),
  a=a/\
  b=b/\
  c=c/\
  e=e/\
  d=d/\
  (0:Int)=(0:Int)/\
  i=i/\
  e2_1=e2_1/\
  e1_1=e1_1/\
  (0:Int)=(0:Int)/\
  o=o/\
  IntKind.i64.wrap (g+(1:Int))=p'.1/\
  m=m/\
  j=j/\
  k=k/\
  l=l/\
  op=op/\
  ks=ks/\
  oc=oc/\
  sp=sp/\
  rd=rd/\
  f=f/\
  ce=ce/\
  cd=cd/\
  ou=ou/\
  sl=sl/\
  a=a/\
  b=b/\
  c=c/\
  e=e/\
  d=d/\
  (0:Int)=(0:Int)/\
  (0:Int)=(0:Int)/\
  h=h/\
  List.set e3_2 (0:Nat)
  (Ins.mk e0_2.op e0_2.n
  (List.set e0_2.to (Int.toNat g)
  (C4 f ks (List.getD e0_2.to (Int.toNat g) (0:Int))).n)
  e0_2.from_ e0_2.body)=
  p'.2.1/\
  a=a/\
  b=b/\
  (0:Int)=(0:Int)/\
  (0:Int)=(0:Int)/\
  d=d/\
  ((0:Int)<=p'.1/\
  p'.1<=(↑(List.length c):Int)/\
  p'.2.1=
  [Ins.mk a b
  (List.map (λ(n:Int)=>(C4 f ks n).n)
  (List.take (Int.toNat p'.1) c)++
  List.drop (Int.toNat p'.1) c)
  (List.map (getI sl) e) d])/\
  List.length c-Int.toNat p'.1<List.length c-Int.toNat g)/\
  (e2_2=false->(a,b,e0_2.to,e0_2.from_,q)=(a,b,List.map (λ(n:Int)=>(C4 f ks n).n) c,List.map (getI sl) e,q)))):=by kernel_rfl
theorem cf0 (d e:Int) (a b:List Int) (c:List Ins):vc (EV []) noL Go.Proofs.Tryd.f52 cReads (d,e,a,b,c,())=(
 let f:Int×Int×List Int×List Int×List Ins×Unit:=(d,e,a,b,c,());
  Small RU (Sigma.mk (Ty.slice (3:Nat) (Ty.int IntKind.i64)) a)->
  Small RU (Sigma.mk (Ty.slice (3:Nat) (Ty.int IntKind.i64)) b)->Small RU (Sigma.mk (Ty.slice (52:Nat) (Ty.user (0:Nat))) c)->f=f):=by kernel_rfl
theorem bU3 (st:Int) (d:List Int) (g h:Int) (e a:List Int) (f:List Ins):vc (EVy [(0,0),(1,1)] (some au1) [(61,cContains)]) (br9 a d) Go.Proofs.Tryd.f83 aZ8 (st,d,g,h,e,a,f,())=(
 let j:Int×List Int×Unit:=((0:Int),d++B0 a,());
 let b:Int:=(↑(List.length a):Int);
  Small RU (Sigma.mk (Ty.slice (3:Nat) (Ty.int IntKind.i64)) d)->
  Small RU (Sigma.mk (Ty.slice (3:Nat) (Ty.int IntKind.i64)) e)->
  Small RU (Sigma.mk (Ty.slice (3:Nat) (Ty.int IntKind.i64)) a)->
  Small RU (Sigma.mk (Ty.slice (52:Nat) (Ty.user (0:Nat))) f)->
  (∃ (p:Int×Int×List Int×Unit),
  a=a/\
  b=b/\
  (0:Int)=p.1/\
  st=p.2.1/\
  d=p.2.2.1/\
  g=g/\h=h/\e=e/\a=a/\f=f/\(0:Int)<=p.1/\p.1<=b/\p.2.1=(0:Int)/\p.2.2.1=d++B0 (List.take (Int.toNat p.1) a))/\
  ∀ (p:Int×Int×List Int×Unit),
 let e0_1:List Int:=p.2.2.1;
 let e1_1:List Int:=e0_1++[List.getD a (Int.toNat p.1) (0:Int)];
 let k:Bool:=List.contains (List.take (Int.toNat p.1) a) (List.getD a (Int.toNat p.1) (0:Int));
 let c:Int:=p.1;
 let i:Int:=p.2.1;
 let l:Bool:=decide (c<b);
  (0:Int)<=c/\c<=b/\i=(0:Int)/\e0_1=d++B0 (List.take (Int.toNat c) a)->
  (l=true->
  ((0:Int)<=c/\c<b)/\
  ((0:Int)<=c/\c<=b)/\
  (k=true->
  ∃ (p':Int×Int×List Int×Unit),
  a=a/\
  b=b/\
  IntKind.i64.wrap (c+(1:Int))=p'.1/\
  i=p'.2.1/\
  e0_1=p'.2.2.1/\
  g=g/\
  h=h/\
  e=e/\
  a=a/\
  f=f/\
  ((0:Int)<=p'.1/\p'.1<=b/\p'.2.1=(0:Int)/\p'.2.2.1=d++B0 (List.take (Int.toNat p'.1) a))/\
  List.length a-Int.toNat p'.1<List.length a-Int.toNat c)/\
  (k=false->
  (i=(0:Int)/\List.length e0_1<=(17592186044400:Nat))/\
  ((!true)=true->((0:Int),e1_1,())=j)/\
  ((!true)=false->
  ∃ (p':Int×Int×List Int×Unit),
  a=a/\
  b=b/\
  IntKind.i64.wrap (c+(1:Int))=p'.1/\
  (0:Int)=p'.2.1/\
  e1_1=p'.2.2.1/\
  g=g/\
  h=h/\
  e=e/\
  a=a/\
  f=f/\
  ((0:Int)<=p'.1/\p'.1<=b/\p'.2.1=(0:Int)/\p'.2.2.1=d++B0 (List.take (Int.toNat p'.1) a))/\
  List.length a-Int.toNat p'.1<List.length a-Int.toNat c)))/\
  (l=false->(i,e0_1,())=j)):=by kernel_rfl
theorem cy6 (i d e:Int) (c b:List Int) (f:List Ins) (l:Int) (h:List Ins) (j k:List Int) (sp:Spans) (rd:Reads) (o:Holds) (ce:List (Int×Int)) (op ks oc:Int) (cd:List RIns) (ou:List Place):vc (EVd [] itDo [(52,cReads),(54,cSlot),(84,cRoom),(85,cPutA),(73,cCalledA)]) (lDo sp rd ks h.length i c b ⟨o,ce,oc,cd⟩) Go.Proofs.Tryd.f53 cDo (i,d,e,c,b,f,l,h,j,k,sp,rd,o,ce,op,ks,oc,cd,ou,())=(
 let g:Int:=(↑(List.length ([]++B0 b)):Int);
 let a:List Int:=[]++B0 b;
 let t:AS:=doOf sp rd ks (↑(List.length h):Int) i (Ins.mk d e c b f) (AS.mk o ce oc cd);
 let m:Int:=(↑(List.length h):Int);
 let u:Int:=IntKind.i64.wrap (i+(1:Int));
 let q:Int:=(↑(List.length c):Int);
 let r:AS:=C5 sp rd ks m i (B0 b) (AS.mk o ce oc cd) (B0 b);
  Small RU (Sigma.mk (Ty.slice (3:Nat) (Ty.int IntKind.i64)) c)->
  Small RU (Sigma.mk (Ty.slice (3:Nat) (Ty.int IntKind.i64)) b)->
  Small RU (Sigma.mk (Ty.slice (52:Nat) (Ty.user (0:Nat))) f)->
  Small RU (Sigma.mk (Ty.slice (52:Nat) (Ty.user (0:Nat))) h)->
  Small RU (Sigma.mk (Ty.slice (3:Nat) (Ty.int IntKind.i64)) j)->
  Small RU (Sigma.mk (Ty.slice (3:Nat) (Ty.int IntKind.i64)) k)->
  Small RU (Sigma.mk (Ty.slice (55:Nat) (Ty.user (1:Nat))) cd)->
  Small RU (Sigma.mk (Ty.slice (59:Nat) (Ty.user (2:Nat))) ou)->
  (∀ (xs:Int×Int×List Int×Unit),
 let g:List Int:=xs.2.2.1;
  xs.2.1=(0:Int)/\List.length g<=(17592186044400:Nat)->
  Small RU (Sigma.mk (Ty.slice (3:Nat) (Ty.int IntKind.i64)) g)->
  xs.2.1=(0:Int)/\(List.length g+List.length [xs.1])*(8:Nat)<=(140737488355328:Nat)/\(true,(0:Int),g++[xs.1],())=au1.fn xs)/\
  ((0:Int)=(0:Int)/\List.length ([]:List Int)+List.length b<=(17592186044400:Nat))/\
  (0:Int)=(0:Int)/\
  (∃ (p:Int×List (Place×Int)×List (Int×Int)×Int×List RIns×Unit),
  i=i/\
  d=d/\
  e=e/\
  c=c/\
  b=b/\
  f=f/\
  a=a/\
  g=g/\
  (0:Int)=p.1/\
  l=l/\
  h=h/\
  j=j/\
  k=k/\
  op=op/\
  ks=ks/\
  oc=p.2.2.2.1/\
  sp=sp/\
  rd=rd/\
  o=p.2.1/\
  ce=p.2.2.1/\
  cd=p.2.2.2.2.1/\
  ou=ou/\
  d=d/\
  e=e/\
  c=c/\
  b=b/\
  f=f/\
  a=a/\
  a=a/\
  (0:Int)<=p.1/\
  p.1<=(↑(List.length (B0 b)):Int)/\
  C5 sp rd ks m i (B0 b) (AS.mk o ce oc cd) (List.take (Int.toNat p.1) (B0 b))=
  AS.mk p.2.1 p.2.2.1 p.2.2.2.1 p.2.2.2.2.1)/\
  ∀ (p:Int×List (Place×Int)×List (Int×Int)×Int×List RIns×Unit),
 let e0_1:AS:=(E1 sp rd ks m (AS.mk p.2.1 p.2.2.1 p.2.2.2.1 p.2.2.2.2.1) i a).2;
 let e1_1:Int:=p.2.2.2.1;
 let e2_1:List RIns:=p.2.2.2.2.1;
 let e3_1:List (Place×Int):=p.2.1;
 let e4_1:List (Int×Int):=p.2.2.1;
 let e5_1:Bool:=decide (p.1<g);
 let e6_1:Int:=p.1;
 let v:Bool:=
  !((C4 e3_1 ks (List.getD a (Int.toNat e6_1) (0:Int))).cell==true&&((C4 e3_1 ks (List.getD a (Int.toNat e6_1) (0:Int))).n==(-1:Int)&&true));
 let w:Int:=(E1 sp rd ks m (AS.mk e3_1 e4_1 e1_1 e2_1) i a).1;
 let s:Int:=(↑(List.length (B0 b)):Int);
  (0:Int)<=e6_1/\e6_1<=s/\C5 sp rd ks m i (B0 b) (AS.mk o ce oc cd) (List.take (Int.toNat e6_1) (B0 b))=AS.mk e3_1 e4_1 e1_1 e2_1->
  (e5_1=true->
  ((0:Int)<=e6_1/\e6_1<g)/\
  ks<=(64:Int)/\
  (v=true->
  ∃ (p':Int×List (Place×Int)×List (Int×Int)×Int×List RIns×Unit),
  i=i/\
  d=d/\
  e=e/\
  c=c/\
  b=b/\
  f=f/\
  a=a/\
  g=g/\
  IntKind.i64.wrap (e6_1+(1:Int))=p'.1/\
  l=l/\
  h=h/\
  j=j/\
  k=k/\
  op=op/\
  ks=ks/\
  e1_1=p'.2.2.2.1/\
  sp=sp/\
  rd=rd/\
  e3_1=p'.2.1/\
  e4_1=p'.2.2.1/\
  e2_1=p'.2.2.2.2.1/\
  ou=ou/\
  d=d/\
  e=e/\
  c=c/\
  b=b/\
  f=f/\
  a=a/\
  a=a/\
  ((0:Int)<=p'.1/\
  p'.1<=s/\
  C5 sp rd ks m i (B0 b) (AS.mk o ce oc cd)
  (List.take (Int.toNat p'.1) (B0 b))=
  AS.mk p'.2.1 p'.2.2.1 p'.2.2.2.1 p'.2.2.2.2.1)/\
  List.length (B0 b)-Int.toNat p'.1<List.length (B0 b)-Int.toNat e6_1)/\
  (v=false->
  ((∀ (n:Int),List.Pairwise (λ(d e:Int)=>d<=e) (getL rd n))/\
  ((L2 sp rd ks m e3_1 i a).1=none->(L2 sp rd ks m e3_1 i a).2≠[])/\
  ks<=(64:Int)/\(0:Int)<=e1_1/\e1_1<=(1000000000:Int)/\List.length e2_1<=(1000000000:Nat))/\
  List.length e0_1.code<=(1000000000:Nat)/\
  ∃ (p':Int×List (Place×Int)×List (Int×Int)×Int×List RIns×Unit),
  i=i/\
  d=d/\
  e=e/\
  c=c/\
  b=b/\
  f=f/\
  a=a/\
  g=g/\
  IntKind.i64.wrap (e6_1+(1:Int))=p'.1/\
  l=l/\
  h=h/\
  j=j/\
  k=k/\
  op=op/\
  ks=ks/\
  e0_1.ocells=p'.2.2.2.1/\
  sp=sp/\
  rd=rd/\
  mput (F7 RU (Ty.user (2:Nat))) e0_1.holds (Place.mk false w) (List.getD a (Int.toNat e6_1) (0:Int))=
  p'.2.1/\
  e0_1.cells=p'.2.2.1/\
  e0_1.code++
  [RIns.mk (1:Int) w
  (Option.getD (mget (λ(x y:Int)=>x==y) e0_1.cells (List.getD a (Int.toNat e6_1) (0:Int)))
  (0:Int))
  (Ins.mk (0:Int) (0:Int) [] [] [])]=
  p'.2.2.2.2.1/\
  ou=ou/\
  d=d/\
  e=e/\
  c=c/\
  b=b/\
  f=f/\
  a=a/\
  a=a/\
  ((0:Int)<=p'.1/\
  p'.1<=s/\
  C5 sp rd ks m i (B0 b) (AS.mk o ce oc cd)
  (List.take (Int.toNat p'.1) (B0 b))=
  AS.mk p'.2.1 p'.2.2.1 p'.2.2.2.1 p'.2.2.2.2.1)/\
  List.length (B0 b)-Int.toNat p'.1<List.length (B0 b)-Int.toNat e6_1))/\
  (e5_1=false->
  (∃ (p:Int×List (Int×Int)×Unit),
  i=i/\
  d=d/\
  e=e/\
  c=c/\
  b=b/\
  f=f/\
  a=a/\
  g=g/\
  e6_1=e6_1/\
  e5_1=e5_1/\
  a=a/\
  g=g/\
  (0:Int)=p.1/\
  l=l/\
  h=h/\
  j=j/\
  k=k/\
  op=op/\
  ks=ks/\
  e1_1=e1_1/\
  sp=sp/\
  rd=rd/\
  e3_1=e3_1/\
  e4_1=e4_1/\
  e2_1=e2_1/\
  ou=ou/\
  d=d/\
  e=e/\
  c=c/\
  b=b/\
  f=f/\
  a=a/\
  a=a/\
  []=p.2.1/\
  (0:Int)<=p.1/\
  p.1<=s/\p.2.1=N5 r.holds ks (List.take (Int.toNat p.1) (B0 b)))/\
  ∀ (p:Int×List (Int×Int)×Unit),
 let e0_2:Bool:=decide (p.1<g);
 let e1_2:List (Int×Int):=p.2.1;
 let e2_2:Int:=p.1;
  (0:Int)<=e2_2/\e2_2<=s/\e1_2=N5 r.holds ks (List.take (Int.toNat e2_2) (B0 b))->
  (e0_2=true->
  ((0:Int)<=e2_2/\e2_2<g)/\
  ks<=(64:Int)/\
  ∃ (p':Int×List (Int×Int)×Unit),
  i=i/\
  d=d/\
  e=e/\
  c=c/\
  b=b/\
  f=f/\
  a=a/\
  g=g/\
  e6_1=e6_1/\
  e5_1=e5_1/\
  a=a/\
  g=g/\
  IntKind.i64.wrap (e2_2+(1:Int))=p'.1/\
  l=l/\
  h=h/\
  j=j/\
  k=k/\
  op=op/\
  ks=ks/\
  e1_1=e1_1/\
  sp=sp/\
  rd=rd/\
  e3_1=e3_1/\
  e4_1=e4_1/\
  e2_1=e2_1/\
  ou=ou/\
  d=d/\
  e=e/\
  c=c/\
  b=b/\
  f=f/\
  a=a/\
  a=a/\
  mput (λ(x y:Int)=>x==y) e1_2 (List.getD a (Int.toNat e2_2) (0:Int))
  (C4 e3_1 ks (List.getD a (Int.toNat e2_2) (0:Int))).n=
  p'.2.1/\
  ((0:Int)<=p'.1/\
  p'.1<=s/\
  p'.2.1=N5 r.holds ks (List.take (Int.toNat p'.1) (B0 b)))/\
  List.length (B0 b)-Int.toNat p'.1<
  List.length (B0 b)-Int.toNat e2_2)/\
  (e0_2=false->
  (∃ (p:Int×List (Place×Int)×List (Int×Int)×Int×List RIns×Unit),
  i=i/\
  d=d/\
  e=e/\
  c=c/\
  b=b/\
  f=f/\
  a=a/\
  g=g/\
  e6_1=e6_1/\
  e5_1=e5_1/\
  a=a/\
  g=g/\
  e2_2=e2_2/\
  e0_2=e0_2/\
  c=c/\
  q=q/\
  (0:Int)=p.1/\
  l=l/\
  h=h/\
  j=j/\
  k=k/\
  op=op/\
  ks=ks/\
  e1_1=p.2.2.2.1/\
  sp=sp/\
  rd=rd/\
  e3_1=p.2.1/\
  e4_1=p.2.2.1/\
  e2_1=p.2.2.2.2.1/\
  ou=ou/\
  d=d/\
  e=e/\
  c=c/\
  b=b/\
  f=f/\
  a=a/\
  a=a/\
  e1_2=e1_2/\
  (0:Int)<=p.1/\
  p.1<=q/\
  H6 sp rd ks m i c r (List.take (Int.toNat p.1) c)=
  AS.mk p.2.1 p.2.2.1 p.2.2.2.1 p.2.2.2.2.1)/\
  ∀ (p:Int×List (Place×Int)×List (Int×Int)×Int×List RIns×Unit),
 let e0_3:AS:=(E1 sp rd ks m (AS.mk p.2.1 p.2.2.1 p.2.2.2.1 p.2.2.2.2.1) u c).2;
 let e1_3:AS:=AS.mk p.2.1 p.2.2.1 p.2.2.2.1 p.2.2.2.2.1;
 let e2_3:Int:=p.2.2.2.1;
 let e3_2:List RIns:=p.2.2.2.2.1;
 let e4_2:List (Place×Int):=p.2.1;
 let e5_2:Int:=p.1;
 let e6_2:Bool:=decide (e5_2<q);
  (0:Int)<=e5_2/\e5_2<=q/\H6 sp rd ks m i c r (List.take (Int.toNat e5_2) c)=e1_3->
  (e6_2=true->
  ((0:Int)<=e5_2/\e5_2<q)/\
  ((∀ (n:Int),List.Pairwise (λ(d e:Int)=>d<=e) (getL rd n))/\
  ((L2 sp rd ks m e4_2 u c).1=none->(L2 sp rd ks m e4_2 u c).2≠[])/\
  ks<=(64:Int)/\(0:Int)<=e2_3/\e2_3<=(1000000000:Int)/\List.length e3_2<=(1000000000:Nat))/\
  ∃ (p':Int×List (Place×Int)×List (Int×Int)×Int×List RIns×Unit),
  i=i/\
  d=d/\
  e=e/\
  c=c/\
  b=b/\
  f=f/\
  a=a/\
  g=g/\
  e6_1=e6_1/\
  e5_1=e5_1/\
  a=a/\
  g=g/\
  e2_2=e2_2/\
  e0_2=e0_2/\
  c=c/\
  q=q/\
  IntKind.i64.wrap (e5_2+(1:Int))=p'.1/\
  l=l/\
  h=h/\
  j=j/\
  k=k/\
  op=op/\
  ks=ks/\
  e0_3.ocells=p'.2.2.2.1/\
  sp=sp/\
  rd=rd/\
  mput (F7 RU (Ty.user (2:Nat))) e0_3.holds
  (Place.mk false (E1 sp rd ks m e1_3 u c).1)
  (List.getD c (Int.toNat e5_2) (0:Int))=
  p'.2.1/\
  e0_3.cells=p'.2.2.1/\
  e0_3.code=p'.2.2.2.2.1/\
  ou=ou/\
  d=d/\
  e=e/\
  c=c/\
  b=b/\
  f=f/\
  a=a/\
  a=a/\
  e1_2=e1_2/\
  ((0:Int)<=p'.1/\
  p'.1<=q/\
  H6 sp rd ks m i c r
  (List.take (Int.toNat p'.1) c)=
  AS.mk p'.2.1 p'.2.2.1 p'.2.2.2.1
  p'.2.2.2.2.1)/\
  List.length c-Int.toNat p'.1<
  List.length c-Int.toNat e5_2)/\
  (e6_2=false->
  (((ai2 c b f=true/\ks<=(64:Int))/\True)/\True)/\
  List.length e3_2<=(1000000000:Nat)/\
  (l,h,j,k,sp,rd,e4_2,p.2.2.1,op,ks,e2_3,
  e3_2++
  [RIns.mk (0:Int) (0:Int) (0:Int) (Ins.mk d e (List.map (λ(n:Int)=>(C4 e4_2 ks n).n) c) (List.map (getI e1_2) b) f)],
  ou,())=
  (l,h,j,k,sp,rd,t.holds,t.cells,op,ks,t.ocells,t.code,ou,()))))):=by kernel_rfl
theorem aa1 (sp:Spans) (rd:Reads) (N:Int) (m:Holds) (pl:Int) (st:List Int) (r:List Nat):∀ (l:List Nat) (acc:List Held),C0 sp rd N m pl st (l++r) acc=match C0 sp rd N m pl st l acc with
  |(none,acc')=>C0 sp rd N m pl st r acc'
  |x=>x
 |[],acc=>rfl
 |s::l,acc=>by
  simp only [List.cons_append,C0];cases mget eqP m ⟨false,(s:Int)⟩ with
  |none=>rfl
  |some n=>
   simp only;cases st.contains n with
   |true=>exact aa1 sp rd N m pl st r l acc
   |false=>
    simp only [cond_false];cases H5 (getS sp n).first (getS sp n).last pl with
    |true=>exact aa1 sp rd N m pl st r l _
    |false=>rfl
theorem ai6 (sp:Spans) (rd:Reads) (N:Int) (m:Holds) (pl:Int) (st:List Int):∀ (l:List Nat) (acc:List Held),(C0 sp rd N m pl st l acc).2.length<=acc.length+l.length
 |[],acc=>by simp [C0]
 |s::l,acc=>by
  simp only [C0];cases mget eqP m ⟨false,(s:Int)⟩ with
  |none=>simp
  |some n=>
   simp only;cases st.contains n with
   |true=>have:=ai6 sp rd N m pl st l acc;simp only [cond_true,cA6];omega
   |false=>
    simp only [cond_false];cases H5 (getS sp n).first (getS sp n).last pl with
    |true=>have:=ai6 sp rd N m pl st l (acc++[⟨(s:Int),n,M6 rd N n pl⟩]);simp only [cond_true,cA6,cB1,List.length_nil] at this |-;omega
    |false=>simp
theorem au2 {sp:Spans} {rd:Reads} {N:Int} {m:Holds} {pl:Int} {st:List Int} {k:Nat} {acc:List Held} (h:C0 sp rd N m pl st (List.range k) []=(none,acc)):C0 sp rd N m pl st (List.range (k+1)) []=C0 sp rd N m pl st [k] acc:=by rw [List.range_succ,aa1,h]
theorem aZ9 {sp:Spans} {rd:Reads} {N:Int} {m:Holds} {pl:Int} {st:List Int} {k n:Nat} {acc:List Held} (a:k<n) (h:C0 sp rd N m pl st (List.range k) []=(none,acc)) {i:Int} (h2:C0 sp rd N m pl st [k] acc=(some i,acc)):C0 sp rd N m pl st (List.range n) []=(some i,acc):=by
 have:List.range n=List.range (k+1)++(List.range (n-(k+1))).map ((k+1)+·):=by rw [<-List.range_add];congr 1;omega
 rw [this,aa1,au2 h,h2]
theorem cr0 (pl:Int) (st:List Int) (m:Int) (b:List Ins) (o p:List Int) (sp:Spans) (rd:Reads) (a:Holds) (ce:List (Int×Int)) (op ks oc:Int) (cd:List RIns) (ou:List Place)
  (x:ai5 rd/\X8 sp rd ks b.length a pl st/\ks<=64/\0<=oc/\oc<=1000000000/\cd.length<=1000000000):vc (EV [(100,cNext),(61,cContains),(69,cAt),(101,cBest),(85,cPutA)]) (cq6 sp rd ks b.length a pl st) Go.Proofs.Tryd.f84 cRoom (pl,st,m,b,o,p,sp,rd,a,ce,op,ks,oc,cd,ou,()):=by
 rw [cq7 pl st m b o p sp rd a ce op ks oc cd ou];intro q r _ _ _ _ _ _;obtain ⟨s,e,y,z,A,t⟩:=x;have c:q=((E1 sp rd ks b.length ⟨a,ce,oc,cd⟩ pl st).1,m,b,o,p,sp,rd,(E1 sp rd ks b.length ⟨a,ce,oc,cd⟩ pl st).2.holds,(E1 sp rd ks b.length ⟨a,ce,oc,cd⟩ pl st).2.cells,op,ks,(E1 sp rd ks b.length ⟨a,ce,oc,cd⟩ pl st).2.ocells,(E1 sp rd ks b.length ⟨a,ce,oc,cd⟩ pl st).2.code,ou,()):=rfl;have u:r=(m,b,o,p,sp,rd,a,ce,op,ks,oc,cd,ou,()):=rfl
 clear_value q r
 generalize (b.length:Int)=N at e c |-;simp only [true_and,and_true,Bool.cond_self];refine ⟨⟨(0,[],()),rfl,rfl,Int.le_refl _,.inr rfl,rfl⟩,?_⟩;rintro ⟨i,l,⟨⟩⟩ ⟨h0,h1,h2⟩;dsimp only at h0 h1 h2 |-;obtain ⟨k,rfl⟩:=cz6 h0;simp only [cz4] at h2 |-;have d:=ai6 sp rd N a pl st (List.range k) [];rw [h2] at d;simp only [List.length_nil,List.length_range,Nat.zero_add] at d;refine ⟨λf=>?_,λg=>?_⟩
 .have f:(k:Int)<ks:=cA0 f;have stop:C0 sp rd N a pl st [k] l=(some (k:Int),l)->((k:Int),r)=q:=λh=>by
   have hr:(L2 sp rd ks N a pl st)=(some (k:Int),l):=aZ9 (by omega) h2 h;have:E1 sp rd ks N ⟨a,ce,oc,cd⟩ pl st=((k:Int),⟨a,ce,oc,cd⟩):=by simp only [E1,hr]
   rw [c,this,u]
  have next:∀ l',C0 sp rd N a pl st [k] l=(none,l')->∃ p':Int×List Held×Unit,IntKind.i64.wrap ((k:Int)+1)=p'.1/\l'=p'.2.1/\(0<=p'.1/\(p'.1<=ks\/p'.1=0)/\C0 sp rd N a pl st (List.range p'.1.toNat) []=(none,p'.2.1))/\ks.toNat-p'.1.toNat<ks.toNat-k:=λl' h=>
   ⟨((k+1:Nat),l',()),by rw [F8 (by omega) (by omega)];rfl,rfl,⟨by omega,.inl (by dsimp only;omega),by dsimp only;rw [cz4,au2 h2,h]⟩,by dsimp only;omega⟩
  show ((!(mget eqP a ⟨false,(k:Int)⟩).isSome)=true->_)/\((!(mget eqP a ⟨false,(k:Int)⟩).isSome)=false->_);cases j:mget eqP a ⟨false,(k:Int)⟩ with
  |none=>refine ⟨λ_=>stop ?_,λh=>(by cases h)⟩;simp only [C0,j]
  |some n=>
   refine ⟨λh=>(by cases h),λ_=>?_⟩;have v:mget (F7 RU (Ty.user 2)) a ⟨false,(k:Int)⟩=some n:=j;simp only [v,Option.getD_some];refine ⟨λh=>?_,λh=>⟨λh3=>stop ?_,λh3=>⟨s,?_,?_⟩⟩⟩
   .exact next l (by simp only [C0,j,h,cond_true])
   .have h3:H5 (getS sp n).first (getS sp n).last pl=false:=by simpa [getS] using h3
    simp only [C0,j,h,h3,cond_false]
   .simp only [cA6,List.length_nil];omega
   .have h3:H5 (getS sp n).first (getS sp n).last pl=true:=by simpa [getS] using h3
    exact next _ (by simp only [C0,j,h,h3,cond_false,cond_true])
 .have g:¬ (k:Int)<ks:=cz9 g;have hr:L2 sp rd ks N a pl st=(none,l):=by
   rw [<-h2];show C0 sp rd N a pl st (List.range ks.toNat) []=_;congr 2;omega
  have w:l≠[]:=by have:=e;unfold X8 at this;rw [hr] at this;exact this rfl
  have B:E1 sp rd ks N ⟨a,ce,oc,cd⟩ pl st=((K9 l).slot,aq0 ⟨a,ce,oc,cd⟩ (K9 l)):=by simp only [E1,hr]
  rw [B] at c;refine ⟨w,λ_=>t,?_⟩;rw [c];dsimp only [aq0];show (_,_,_,_,_,_,_,_,(bif !(mget eqI ce (K9 l).reg).isSome then mput eqI ce (K9 l).reg oc else ce),_,_,(bif !(mget eqI ce (K9 l).reg).isSome then IntKind.i64.wrap (oc+1) else oc),(bif !(mget eqI ce (K9 l).reg).isSome then cd++[⟨2,(K9 l).slot,oc,ins0⟩] else cd),_,_)=_;rw [F8 (by omega) (by omega)];cases (mget eqI ce (K9 l).reg).isSome<;>rfl
theorem bI4:C8 prog RG 84 cRoom:=E3 (A7 bI1 (A7 N9 (A7 bz0 (A7 bI2 (A7 aS6 B7))))) (λ(pl,st,c,a,d,e,sp,rd,b,ce,op,ks,oc,cd,ou,())=>cq6 sp rd ks a.length b pl st) (by kernel_rfl) (by kernel_rfl) (by kernel_rfl) λ(pl,st,c,a,d,e,sp,rd,b,ce,op,ks,oc,cd,ou,()) f=>cr0 pl st c a d e sp rd b ce op ks oc cd ou f
theorem bI5:C8 prog RG 86 cGetA:=E3 (A7 ax3 B7) (λ_=>noL) (by kernel_rfl) (by kernel_rfl) (by kernel_rfl) λ(n,b,c,d,e,sp,rd,f,ce,op,ks,oc,cd,ou,()) a=>(cq8 n b c d e sp rd f ce op ks oc cd ou).mpr (by
 have a:ks<=64:=a;intros;simp only [true_and,and_true];exact a)
theorem bI6:C8 prog RG 87 cOld:=E3 B7 (λ_=>noL) (by kernel_rfl) (by kernel_rfl) (by kernel_rfl) λ(n,m,()) _=>(cq9 n m).mpr rfl
theorem bI7 (g h:Int) (b c:List Int) (f:List Ins) (s:Int) (t:List Ins) (u v:List Int) (sp:Spans) (rd:Reads) (j:Holds) (ce:List (Int×Int)) (op ks oc:Int) (cd:List RIns) (ou:List Place) (sl:List (Int×Int)) (w:ai2 b c f=true/\ks<=64):
  vc (EV [(96,cBody),(86,cGetA),(87,cOld)]) (aZ7 g h b c f j ks sl) Go.Proofs.Tryd.f73 cCalledA (g,h,b,c,f,s,t,u,v,sp,rd,j,ce,op,ks,oc,cd,ou,sl,()):=by
 rw [bI3 g h b c f s t u v sp rd j ce op ks oc cd ou sl];intro x y z A m o _ _ _ _ _ _;have p:b.length<=140737488355328:=m.len;have q:c.length<=140737488355328:=o.len
 clear_value x
 dsimp only [y,z,A];simp only [true_and,and_true];refine ⟨⟨by simp,?_⟩,⟨by omega,by simp⟩,⟨(0,_,()),rfl,rfl,Int.le_refl _,by dsimp only;omega,by simp⟩,?_⟩
 .simp only [J1,Bool.and_true];exact (O0 _).2 (al8.1 w.1)
 rintro ⟨i,l,⟨⟩⟩ ⟨h0,h1,h2⟩;dsimp only at h0 h1 h2 |-;subst h2;obtain ⟨k,rfl⟩:=cz6 h0;simp only [cz4,List.getD_cons_zero,List.set_cons_zero];have e:((c.take k).map (getI sl)).length=k:=by simp;omega
 refine ⟨λa=>?_,λd=>?_⟩
 .have a:(k:Int)<c.length:=cA0 a;rw [al7 e (by omega),aY6 e (by omega),aY7 e (by omega)];refine ⟨⟨h0,a⟩,⟨h0,a⟩,((k+1:Nat),[⟨g,h,b,(c.take (k+1)).map (getI sl)++c.drop (k+1),f⟩],()),B5 (by omega) q,?_,⟨by omega,by dsimp only;omega,by dsimp only;rw [cz4]⟩,by dsimp only;omega⟩;dsimp only;rw [A4 (by omega) 0,List.map_append];rfl
 have r:k=c.length:=by have:¬ (k:Int)<c.length:=cz9 d;omega
 subst r;simp only [cB8,List.drop_length,List.append_nil];clear h0 h1 d e;refine ⟨⟨(0,_,()),rfl,rfl,Int.le_refl _,by dsimp only;omega,by simp⟩,?_⟩;rintro ⟨i,l,⟨⟩⟩ ⟨h0,h1,h2⟩;dsimp only at h0 h1 h2 |-;subst h2;obtain ⟨k,rfl⟩:=cz6 h0;simp only [cz4,List.getD_cons_zero,List.set_cons_zero];have e:((b.take k).map (λn=>(C4 j ks n).n)).length=k:=by simp;omega
 refine ⟨λa=>?_,λd=>?_⟩
 .have a:(k:Int)<b.length:=cA0 a;rw [al7 e (by omega),aY6 e (by omega),aY7 e (by omega)];refine ⟨⟨h0,a⟩,w.2,⟨h0,a⟩,((k+1:Nat),[⟨g,h,(b.take (k+1)).map (λn=>(C4 j ks n).n)++b.drop (k+1),c.map (getI sl),f⟩],()),B5 (by omega) p,?_,⟨by omega,by dsimp only;omega,by dsimp only;rw [cz4]⟩,by dsimp only;omega⟩;dsimp only;rw [A4 (by omega) 0,List.map_append];rfl
 .have r:k=b.length:=by have:¬ (k:Int)<b.length:=cz9 d;omega
  subst r;simp only [cB8,List.drop_length,List.append_nil]
theorem ba0:C8 prog RG 73 cCalledA:=E3 (A7 aS0 (A7 bI5 (A7 bI6 B7))) (λ(a,b,c,d,e,g,h,i,j,sp,rd,f,ce,op,ks,oc,cd,ou,sl,())=>aZ7 a b c d e f ks sl) (by kernel_rfl) (by kernel_rfl) (by kernel_rfl) λ(a,b,c,d,e,g,h,i,j,sp,rd,f,ce,op,ks,oc,cd,ou,sl,()) k=>bI7 a b c d e g h i j sp rd f ce op ks oc cd ou sl k
theorem an2 (x:Int):∀ (l seen:List Int),G5 seen (l++[x])=G5 seen l++bif (seen++l).contains x then [] else [x]
 |[],seen=>by simp only [List.nil_append,G5,List.append_nil]
 |y::l,seen=>by have ih:=an2 x l (seen++[y]);rw [cB6,List.singleton_append] at ih;simp only [List.cons_append,G5,ih];cases seen.contains y<;>rfl
theorem aS7 (l:List Int) (x:Int):B0 (l++[x])=bif l.contains x then B0 l else B0 l++[x]:=by unfold B0;rw [an2,List.nil_append];cases l.contains x<;>simp
theorem ai7 (l:List Int):(B0 l).length<=l.length:=by
 have key:∀ (l seen:List Int),(G5 seen l).length<=l.length:=by
  intro l
  induction l with
  |nil=>intro seen;simp [G5]
  |cons x r ih=>
   intro seen;have:=ih (seen++[x]);simp only [G5];cases seen.contains x with
   |true=>simp only [cond_true,cA6];omega
   |false=>simp only [cond_false,cA6];omega
 exact key l []
theorem aL7:C8 prog RG 52 cReads:=E3 B7 (λ_=>noL) (by kernel_rfl) (by kernel_rfl) (by kernel_rfl) λ(a,b,c,d,e,()) _=>(cf0 a b c d e).mpr (by intros;rfl)
theorem bU4 (s0:Int) (c:List Int) (j m:Int) (n a:List Int) (o:List Ins) (r:s0=0/\c.length+a.length<=17592186044400):vc (EVy [(0,0),(1,1)] (some au1) [(61,cContains)]) (br9 a c) Go.Proofs.Tryd.f83 aZ8 (s0,c,j,m,n,a,o,()):=by
 rw [bU3 s0 c j m n a o];intro p s _ _ e _;have d:a.length<=140737488355328:=e.len;have f:p=(0,c++B0 a,()):=rfl
 clear_value p
 dsimp only [s];simp only [true_and,and_true];refine ⟨⟨(0,0,c,()),rfl,r.1,rfl,Int.le_refl _,by dsimp only;omega,rfl,by simp [B0,G5]⟩,?_⟩;rintro ⟨i,st,l,⟨⟩⟩ ⟨h0,h1,h2,h3⟩;dsimp only at h0 h1 h2 h3 |-;subst h2;obtain ⟨k,rfl⟩:=cz6 h0;simp only [cz4] at h3 |-;subst h3;refine ⟨λb=>?_,λg=>?_⟩
 .have b:(k:Int)<a.length:=cA0 b;have hs:=aS7 (a.take k) (a.getD k 0);rw [<-A4 (by omega)] at hs;have hl:=ai7 (a.take k);rw [cB9] at hl;refine ⟨⟨h0,b⟩,⟨h0,by omega⟩,λq=>?_,λq=>⟨⟨trivial,by rw [cB1];omega⟩,λh=>(by cases h),λ_=>?_⟩⟩
  .rw [q] at hs;exact ⟨((k+1:Nat),0,_,()),B5 (by omega) d,rfl,rfl,⟨by omega,by dsimp only;omega,rfl,by dsimp only;rw [cz4,hs];rfl⟩,by dsimp only;omega⟩
  .rw [q] at hs;exact ⟨((k+1:Nat),0,_,()),B5 (by omega) d,rfl,rfl,⟨by omega,by dsimp only;omega,rfl,by dsimp only;rw [cz4,hs,cB6];rfl⟩,by dsimp only;omega⟩
 .have t:k=a.length:=by have:¬ (k:Int)<a.length:=cz9 g;omega
  subst t;rw [f,cB8]
theorem cr1:ItOk itDo:=by
 intro f k kY mp h Y' b;unfold itDo at h;cases hf:Nat.beq f 83 with
 |false=>rw [hf] at h;cases h
 |true=>
  have hf:=cz1 hf;subst hf;simp only [Nat.beq_refl,cond_true,List.mem_cons,List.not_mem_nil,or_false,cA2] at h;obtain ⟨rfl,rfl,rfl⟩:=h;exact al2 (E:=EVy [(0,0),(1,1)] (some au1) [(61,cContains)]) (cb7 _ _ _) ⟨Z8 (λx a=>by rcases List.mem_cons.1 a with rfl|a;exact N9 _;cases a),λ_ _ _ _ _ h=>(by cases h),λ_ _ _ h=>(by cases h),λk c=>by cases c;exact b,λ_ _ _ _ h=>(by cases h)⟩ bp1 Go.Proofs.Tryd.func83 (by kernel_rfl)
    (λp=>br9 p.2.2.2.2.2.1 p.2.1) (λ(st,d,e,g,i,j,l,()) m=>bU4 st d e g i j l m) (by kernel_rfl) rfl
theorem bU5 (s:AS) (x:Held):(aq0 s x).code.length<=s.code.length+1/\s.ocells<=(aq0 s x).ocells/\(aq0 s x).ocells<=s.ocells+1:=by
 unfold aq0;cases (mget eqI s.cells x.reg).isSome with
 |true=>simp only [cond_true];omega
 |false=>simp only [cond_false,cB1,cA6,List.length_nil];omega
theorem ax4 (sp:Spans) (rd:Reads) (ks N:Int) (s:AS) (pl:Int) (st:List Int):(E1 sp rd ks N s pl st).2.code.length<=s.code.length+1/\s.ocells<=(E1 sp rd ks N s pl st).2.ocells/\(E1 sp rd ks N s pl st).2.ocells<=s.ocells+1:=by
 unfold E1;split
 .simp only;omega
 .exact bU5 _ _
theorem bj3 (sp:Spans) (rd:Reads) (ks N i:Int) (fr:List Int) (s:AS) (n:Int):(F4 sp rd ks N i fr s n).code.length<=s.code.length+2/\s.ocells<=(F4 sp rd ks N i fr s n).ocells/\(F4 sp rd ks N i fr s n).ocells<=s.ocells+1:=by
 unfold F4;have:=ax4 sp rd ks N s i fr;cases (C4 s.holds ks n).cell with
 |true=>simp only [cond_true,cB1,cA6,List.length_nil];omega
 |false=>simp only [cond_false];omega
theorem ae4 (sp:Spans) (rd:Reads) (ks N i:Int) (fr:List Int):∀ (l:List Int) (s:AS),(C5 sp rd ks N i fr s l).code.length<=s.code.length+2*l.length/\s.ocells<=(C5 sp rd ks N i fr s l).ocells/\(C5 sp rd ks N i fr s l).ocells<=s.ocells+l.length
 |[],s=>by simp [C5]
 |x::r,s=>by have h1:=ae4 sp rd ks N i fr r (F4 sp rd ks N i fr s x);have h2:=bj3 sp rd ks N i fr s x;simp only [C5,List.foldl_cons,cA6] at h1 |-;omega
theorem bI8 (sp:Spans) (rd:Reads) (ks N i:Int) (to:List Int) (s:AS) (n:Int):(U4 sp rd ks N i to s n).code.length<=s.code.length+1/\s.ocells<=(U4 sp rd ks N i to s n).ocells/\(U4 sp rd ks N i to s n).ocells<=s.ocells+1:=by have:=ax4 sp rd ks N s (i+1) to;exact this
theorem aL8 (sp:Spans) (rd:Reads) (ks N i:Int) (to:List Int):∀ (l:List Int) (s:AS),(H6 sp rd ks N i to s l).code.length<=s.code.length+l.length/\s.ocells<=(H6 sp rd ks N i to s l).ocells/\(H6 sp rd ks N i to s l).ocells<=s.ocells+l.length
 |[],s=>by simp [H6]
 |x::r,s=>by have h1:=aL8 sp rd ks N i to r (U4 sp rd ks N i to s x);have h2:=bI8 sp rd ks N i to s x;simp only [H6,List.foldl_cons,cA6] at h1 |-;omega
theorem aA9 (sp:Spans) (rd:Reads) (ks N i:Int) (fr:List Int) (s:AS) (l:List Int) (x:Int):C5 sp rd ks N i fr s (l++[x])=F4 sp rd ks N i fr (C5 sp rd ks N i fr s l) x:=by simp [C5]
theorem ax5 (sp:Spans) (rd:Reads) (ks N i:Int) (to:List Int) (s:AS) (l:List Int) (x:Int):H6 sp rd ks N i to s (l++[x])=U4 sp rd ks N i to (H6 sp rd ks N i to s l) x:=by simp [H6]
theorem bj4 (m:Holds) (ks n:Int):((C4 m ks n).cell==true&&((C4 m ks n).n==(-1:Int)))=(C4 m ks n).cell:=by
 unfold C4;split
 .rfl
 .rfl
theorem cy7 (i x y:Int) (b a:List Int) (w:List Ins) (K:Int) (C:List Ins) (L M:List Int) (sp:Spans) (rd:Reads) (p:Holds) (ce:List (Int×Int)) (op ks oc:Int) (cd:List RIns) (ou:List Place)
  (S:ai2 b a w=true/\a.length<=17592186044400/\(B0 a).length<=64/\b.length<=64/\ai5 rd/\doOk sp rd ks C.length i ⟨x,y,b,a,w⟩ ⟨p,ce,oc,cd⟩/\ks<=64/\0<=i/\i<=1000000/\0<=oc/\oc<=100000000/\cd.length<=100000000):
  vc (EVd [] itDo [(52,cReads),(54,cSlot),(84,cRoom),(85,cPutA),(73,cCalledA)]) (lDo sp rd ks C.length i b a ⟨p,ce,oc,cd⟩) Go.Proofs.Tryd.f53 cDo (i,x,y,b,a,w,K,C,L,M,sp,rd,p,ce,op,ks,oc,cd,ou,()):=by
 rw [cy6 i x y b a w K C L M sp rd p ce op ks oc cd ou];obtain ⟨D,T,U,V,z,E,r,W,X,N,O,P⟩:=S;intro Y Z F g Q e5 u _ G _ _ _ _ _ _;have hl4:a.length<=140737488355328:=G.len;have hdl:=ai7 a;have he2:F=doOf sp rd ks g i ⟨x,y,b,a,w⟩ ⟨p,ce,oc,cd⟩:=rfl;have H:Q=i+1:=F8 (by omega) (by omega);have v:u=C5 sp rd ks g i (B0 a) ⟨p,ce,oc,cd⟩ (B0 a):=rfl;have A:=ae4 sp rd ks g i (B0 a) (B0 a) ⟨p,ce,oc,cd⟩;rw [<-v] at A;have I:F=⟨(H6 sp rd ks g i b u b).holds,(H6 sp rd ks g i b u b).cells,(H6 sp rd ks g i b u b).ocells,(H6 sp rd ks g i b u b).code++[⟨0,0,0,⟨x,y,b.map (λn=>(C4 (H6 sp rd ks g i b u b).holds ks n).n),a.map (getI (N5 u.holds ks (B0 a))),w⟩⟩]⟩:=rfl;obtain ⟨s,t⟩:=E;change ∀ k,k<(B0 a).length->(C4 (C5 sp rd ks g i (B0 a) ⟨p,ce,oc,cd⟩ ((B0 a).take k)).holds ks ((B0 a).getD k 0)).cell=true->X8 sp rd ks g (C5 sp rd ks g i (B0 a) ⟨p,ce,oc,cd⟩ ((B0 a).take k)).holds i (B0 a) at s;change ∀ k,k<b.length->X8 sp rd ks g (H6 sp rd ks g i b u (b.take k)).holds (i+1) b at t
 clear_value F Q u g
 subst H;dsimp only [Y,Z,e5];simp only [true_and,and_true,List.nil_append,Bool.and_true,bj4];refine ⟨?_,?_,⟨(0,p,ce,oc,cd,()),rfl,rfl,rfl,rfl,rfl,Int.le_refl _,by dsimp only;omega,rfl⟩,?_⟩
 .rintro ⟨n,st,l,⟨⟩⟩ ⟨h1,h2⟩ _;dsimp only at h1 h2 |-;exact ⟨h1,by simp only [cA6,List.length_nil];omega,rfl⟩
 .simp only [List.length_nil];omega
 rintro ⟨j,m,cc,c,q,⟨⟩⟩ ⟨h0,h1,h2⟩;dsimp only at h0 h1 h2 |-;obtain ⟨k,rfl⟩:=cz6 h0;simp only [cz4] at h2 |-;have J:=ae4 sp rd ks g i (B0 a) ((B0 a).take k) ⟨p,ce,oc,cd⟩;rw [h2,cB9] at J;dsimp only at J;refine ⟨λd=>?_,λh=>?_⟩
 .have d:(k:Int)<(B0 a).length:=cA0 d;have e:k<(B0 a).length:=by omega
  have o:=s k e;rw [h2] at o;have f:C5 sp rd ks g i (B0 a) ⟨p,ce,oc,cd⟩ ((B0 a).take (k+1))=F4 sp rd ks g i (B0 a) ⟨m,cc,c,q⟩ ((B0 a).getD k 0):=by rw [A4 e 0,aA9,h2]
  generalize (B0 a).getD k 0=n at o f |-;dsimp only at o;refine ⟨⟨h0,d⟩,r,λhc=>?_,λhc=>?_⟩
  .have hc:(C4 m ks n).cell=false:=by simpa using hc
   have hS:F4 sp rd ks g i (B0 a) ⟨m,cc,c,q⟩ n=⟨m,cc,c,q⟩:=by simp only [F4,hc,cond_false]
   exact ⟨((k+1:Nat),m,cc,c,q,()),B5 (m:=(B0 a).length) e (by omega),rfl,rfl,rfl,rfl,⟨by omega,by dsimp only;omega,by dsimp only;rw [cz4,f,hS]⟩,by dsimp only;omega⟩
  .have hc:(C4 m ks n).cell=true:=by simpa using hc
   have hR:=ax4 sp rd ks g ⟨m,cc,c,q⟩ i (B0 a);dsimp only at hR;refine ⟨⟨z,o hc,r,by omega,by omega,by omega⟩,by omega,((k+1:Nat),_,_,_,_,()),B5 (m:=(B0 a).length) e (by omega),rfl,rfl,rfl,rfl,⟨by omega,by dsimp only;omega,?_⟩,by dsimp only;omega⟩;dsimp only;rw [cz4,f];simp only [F4,hc,cond_true];rfl
 have B:k=(B0 a).length:=by have:¬ (k:Int)<(B0 a).length:=cz9 h;omega
 subst B;rw [cB8,<-v] at h2;clear v s h0 h1 h J;subst h2;dsimp only at A I t |-;refine ⟨⟨(0,[],()),rfl,rfl,Int.le_refl _,by dsimp only;omega,rfl⟩,?_⟩;rintro ⟨j,sl,⟨⟩⟩ ⟨h0,h1,h2⟩;dsimp only at h0 h1 h2 |-;obtain ⟨k,rfl⟩:=cz6 h0;simp only [cz4] at h2 |-;refine ⟨λd=>?_,λh=>?_⟩
 .have d:(k:Int)<(B0 a).length:=cA0 d;have e:k<(B0 a).length:=by omega
  refine ⟨⟨h0,d⟩,r,((k+1:Nat),_,()),B5 (m:=(B0 a).length) e (by omega),rfl,⟨by omega,by dsimp only;omega,?_⟩,by dsimp only;omega⟩;dsimp only;rw [cz4,A4 e 0,h2];simp only [N5,List.foldl_append,List.foldl_cons,List.foldl_nil]
 have B:k=(B0 a).length:=by have:¬ (k:Int)<(B0 a).length:=cz9 h;omega
 subst B;rw [cB8] at h2;subst h2;clear h0 h1 h;refine ⟨⟨(0,m,cc,c,q,()),rfl,rfl,rfl,rfl,rfl,Int.le_refl _,by dsimp only;omega,rfl⟩,?_⟩;rintro ⟨j,m2,cc2,c2,q2,⟨⟩⟩ ⟨h0,h1,h2⟩;dsimp only at h0 h1 h2 |-;obtain ⟨k,rfl⟩:=cz6 h0;simp only [cz4] at h2 |-;have R:=aL8 sp rd ks g i b (b.take k) ⟨m,cc,c,q⟩;rw [h2,cB9] at R;dsimp only at R;refine ⟨λd=>?_,λh=>?_⟩
 .have d:(k:Int)<b.length:=cA0 d;have e:k<b.length:=by omega
  have o:=t k e;rw [h2] at o;have f:H6 sp rd ks g i b ⟨m,cc,c,q⟩ (b.take (k+1))=U4 sp rd ks g i b ⟨m2,cc2,c2,q2⟩ (b.getD k 0):=by rw [A4 e 0,ax5,h2]
  refine ⟨⟨h0,d⟩,⟨z,o,r,by omega,by omega,by omega⟩,((k+1:Nat),_,_,_,_,()),B5 (m:=b.length) e (by omega),rfl,rfl,rfl,rfl,⟨by omega,by dsimp only;omega,?_⟩,by dsimp only;omega⟩;dsimp only;rw [cz4,f];rfl
 .have B:k=b.length:=by have:¬ (k:Int)<b.length:=cz9 h;omega
  subst B;rw [cB8] at h2;rw [h2] at I;refine ⟨⟨D,r⟩,by omega,?_⟩;rw [I]
theorem cf1:C8 prog RG 53 cDo:=by7 cr1 (A7 aL7 (A7 ax3 (A7 bI4 (A7 aS6 (A7 ba0 B7))))) (λ(i,e,f,a,b,g,h,c,j,k,sp,rd,d,ce,op,ks,oc,cd,ou,())=>lDo sp rd ks c.length i a b ⟨d,ce,oc,cd⟩) (by kernel_rfl) (by kernel_rfl) (by kernel_rfl) λ(i,e,f,a,b,g,h,c,j,k,sp,rd,d,ce,op,ks,oc,cd,ou,()) l=>cy7 i e f a b g h c j k sp rd d ce op ks oc cd ou l
def G3 (m:Reads) (l:List Int) (i:Int):Reads:=l.foldl (λm n=>mput eqI m n (getL m n++[i])) m
def N6:List Ins->Int->Reads->Reads
 |[],_,m=>m
 |x::r,i,m=>N6 r (i+1) (G3 m (B0 x.from_) i)
def D6 (code:List Ins):Reads:=N6 code 0 []
def aa2 (a:Nat):List (Int×Int):=(List.range a).foldl (λ(m:List (Int×Int)) (k:Nat)=>mput eqI m (k:Int) (k:Int)) []
def G9 (a:Int):AS:=⟨[],aa2 a.toNat,a,[]⟩
def runA (sp:Spans) (rd:Reads) (ks N:Int):List Ins->Int->AS->AS
 |[],_,s=>s
 |x::r,i,s=>runA sp rd ks N r (i+1) (doOf sp rd ks N i x s)
def fewX (ks:Int) (x:Ins):Bool:=decide (((B0 x.from_).length:Int)<=ks)&&decide ((x.to.length:Int)<=ks)
def outA (s:AS) (ks n:Int):Place:=bif (C4 s.holds ks n).cell then ⟨true,getI s.cells n⟩ else C4 s.holds ks n
def bj5 (f:VFun) (ks:Int):AS:=runA (A5 f.params f.code f.out) (D6 f.code) ks f.code.length f.code 0 (G9 f.params)
def B8 (f:VFun) (ks:Int):RCode×Int:=
 if E8 f≠0 then (aJ2,E8 f) else if ks<1\/64<ks then (aJ2,2) else if f.code.all (fewX ks)=false then (aJ2,9)
 else (⟨f.params,ks,(bj5 f ks).ocells,(bj5 f ks).code,f.out.map (outA (bj5 f ks) ks)⟩,0)
theorem bz5 (sp:Spans) (rd:Reads) (ks N:Int) (r:List Ins):∀ (l:List Ins) (i:Int) (s:AS),runA sp rd ks N (l++r) i s=runA sp rd ks N r (i+l.length) (runA sp rd ks N l i s)
 |[],i,s=>by simp [runA]
 |x::l,i,s=>by simp only [List.cons_append,runA,bz5 sp rd ks N r l,cA6];congr 1;omega
theorem au3 (sp:Spans) (rd:Reads) (ks N:Int) (l:List Ins) (x:Ins) (s:AS):runA sp rd ks N (l++[x]) 0 s=doOf sp rd ks N l.length x (runA sp rd ks N l 0 s):=by rw [bz5];simp [runA]
theorem ai8 {p q:Place}:eqP p q=true<->p=q:=by obtain ⟨c,n⟩:=p;obtain ⟨c',n'⟩:=q;show ((c==c')&&((n==n')&&true))=true<->_;simp
theorem H4 {β:Type} (m:List (Place×β)) (k:Place) (v:β) (n:Place):mget eqP (mput eqP m k v) n=if k=n then some v else mget eqP m n:=by
 induction m with
 |nil=>
  show (bif eqP k n then some v else none)=_;by_cases h:k=n
  .rw [if_pos h,ai8.2 h];rfl
  .have:eqP k n=false:=by rw [Bool.eq_false_iff];exact λh2=>h (ai8.1 h2)
   rw [if_neg h,this];rfl
 |cons x r ih=>
  obtain ⟨k',v'⟩:=x;show mget eqP (bif eqP k' k then (k,v)::r else (k',v')::mput eqP r k v) n=if k=n then some v else bif eqP k' n then some v' else mget eqP r n;by_cases h:k'=k
  .subst h;rw [ai8.2 rfl];show (bif eqP k' n then some v else mget eqP r n)=_;by_cases h1:k'=n
   .rw [if_pos h1,ai8.2 h1];rfl
   .have:eqP k' n=false:=by rw [Bool.eq_false_iff];exact λh2=>h1 (ai8.1 h2)
    rw [if_neg h1,this];rfl
  .have h2:eqP k' k=false:=by rw [Bool.eq_false_iff];exact λh2=>h (ai8.1 h2)
   rw [h2];show (bif eqP k' n then some v' else mget eqP (mput eqP r k v) n)=_;rw [ih];by_cases h1:k'=n
   .subst h1;rw [show eqP k' k'=true from ai8.2 rfl,cond_true,cond_true,if_neg (λe=>h e.symm)]
   .have:eqP k' n=false:=by rw [Bool.eq_false_iff];exact λh2=>h1 (ai8.1 h2)
    rw [this];rfl
def bU6 (m:Holds) (ks n:Int):Prop:=∀ a:Nat,a<ks.toNat->mget eqP m ⟨false,(a:Int)⟩≠some n
structure Fine (P:Int->Prop) (ks:Int) (m:Holds):Prop where
 inj:∀ a b:Nat,a<ks.toNat->b<ks.toNat->∀ r,mget eqP m ⟨false,(a:Int)⟩=some r->mget eqP m ⟨false,(b:Int)⟩=some r->a=b
 reg:∀ a:Nat,a<ks.toNat->∀ r,mget eqP m ⟨false,(a:Int)⟩=some r->P r
theorem S6 {m:Holds} {ks n:Int}:(C4 m ks n).cell=true<->bU6 m ks n:=by
 unfold C4 bU6;constructor
 .intro h a c hm;split at h
  .cases h
  .rename_i b;rw [List.find?_eq_none] at b;exact b a (by simpa using c) (ax2.2 hm)
 .intro h;split
  .rename_i s hs;have h1:=List.find?_some hs;have h2:=List.mem_of_find?_eq_some hs;exact (h s (by simpa using h2) (ax2.1 h1)).elim
  .rfl
theorem au4 {m:Holds} {ks n:Int} (h:(C4 m ks n).cell=false):∃ a:Nat,a<ks.toNat/\C4 m ks n=⟨false,(a:Int)⟩/\mget eqP m ⟨false,(a:Int)⟩=some n:=by
 unfold C4 at h |-;split at h
 .rename_i s hs;have h1:=List.find?_some hs;have h2:=List.mem_of_find?_eq_some hs;exact ⟨s,by simpa using h2,rfl,ax2.1 h1⟩
 .cases h
theorem ae5:∀ (l m:List Int),l.Nodup->(∀ x∈l,x∈m)->l.length<=m.length
 |[],_,_,_=>Nat.zero_le _
 |x::r,m,h,hs=>by obtain ⟨h1,h2⟩:=List.nodup_cons.1 h;have a:=hs x (by simp);have:=ae5 r (m.erase x) h2 (λy b=>(List.mem_erase_of_ne (λe=>by subst e;exact h1 b)).2 (hs y (by simp [b])));rw [List.length_erase_of_mem a] at this;have:=List.length_pos_of_mem a;simp only [cA6];omega
theorem ax6 (sp:Spans) (rd:Reads) (N:Int) (m:Holds) (pl:Int) (st:List Int):∀ (l:List Nat) (acc:List Held),C0 sp rd N m pl st l acc=(none,[])->acc=[]/\∀ s∈l,∃ n∈st,mget eqP m ⟨false,(s:Int)⟩=some n
 |[],acc,h=>by simp only [C0,cA2,true_and] at h;exact ⟨h,by simp⟩
 |s::r,acc,h=>by
  simp only [C0] at h;cases hm:mget eqP m ⟨false,(s:Int)⟩ with
  |none=>rw [hm] at h;simp at h
  |some n=>
   rw [hm] at h;simp only at h;cases hc:st.contains n with
   |true=>
    rw [hc] at h;obtain ⟨h1,h2⟩:=ax6 sp rd N m pl st r acc h;refine ⟨h1,λx a=>?_⟩;rcases List.mem_cons.1 a with rfl|a
    .exact ⟨n,by simpa [List.contains_iff_mem] using hc,hm⟩
    .exact h2 x a
   |false=>
    rw [hc] at h;simp only [cond_false] at h;cases hs:H5 (getS sp n).first (getS sp n).last pl with
    |true=>rw [hs] at h;have:=(ax6 sp rd N m pl st r _ h).1;simp at this
    |false=>rw [hs] at h;simp at h
theorem aL9 {P:Int->Prop} {ks:Int} {m:Holds} (F:Fine P ks m) {n:Int} (p:bU6 m ks n) {st:List Int} (hs:n∈st) (hl:(st.length:Int)<=ks) (sp:Spans) (rd:Reads) (N pl:Int):X8 sp rd ks N m pl st:=by
 intro h1 h2;have h3:C0 sp rd N m pl st (List.range ks.toNat) []=(none,[]):=Prod.ext h1 h2;obtain ⟨_,h4⟩:=ax6 sp rd N m pl st _ _ h3
 let f:Nat->Int:=λs=>(mget eqP m ⟨false,(s:Int)⟩).getD 0
 have hf:∀ s,s<ks.toNat->f s∈st/\mget eqP m ⟨false,(s:Int)⟩=some (f s):=by
  intro s hs;obtain ⟨r,g,d⟩:=h4 s (by simpa using hs);have:f s=r:=by simp only [f,d,Option.getD_some]
  rw [this];exact ⟨g,d⟩
 have h:((List.range ks.toNat).map f).Nodup:=by rw [List.nodup_iff_pairwise_ne,List.pairwise_map];refine List.Pairwise.imp_of_mem ?_ (List.nodup_iff_pairwise_ne.1 List.nodup_range);intro a b l o i j;refine i (F.inj a b (by simpa using l) (by simpa using o) (f a) (hf a (by simpa using l)).2 ?_);rw [j];exact (hf b (by simpa using o)).2
 have k:=ae5 _ (st.erase n) h (λx q=>by
  obtain ⟨s,c,rfl⟩:=List.mem_map.1 q;have c:s<ks.toNat:=by simpa using c
  exact (List.mem_erase_of_ne (λe=>p s c (by rw [(hf s c).2,e]))).2 (hf s c).1)
 rw [List.length_erase_of_mem hs,cC1,List.length_range] at k;have:=List.length_pos_of_mem hs;omega
theorem Fine.put {P P':Int->Prop} {ks:Int} {m:Holds} (F:Fine P ks m) (f:∀ r,P r->P' r) {n:Int} (d:bU6 m ks n) (g:P' n) (q:Int):Fine P' ks (mput eqP m ⟨false,q⟩ n):=by
 have hg:∀ (a:Nat),mget eqP (mput eqP m ⟨false,q⟩ n) ⟨false,(a:Int)⟩=if q=a then some n else mget eqP m ⟨false,(a:Int)⟩:=by intro a;rw [H4];simp
 refine ⟨λa b c e r h1 h2=>?_,λa c r h1=>?_⟩
 .rw [hg] at h1 h2;by_cases h3:q=a<;>by_cases h4:q=b
  .omega
  .rw [if_pos h3] at h1;rw [if_neg h4] at h2;simp only [cz0] at h1;subst h1;exact (d b e h2).elim
  .rw [if_neg h3] at h1;rw [if_pos h4] at h2;simp only [cz0] at h2;subst h2;exact (d a c h1).elim
  .rw [if_neg h3] at h1;rw [if_neg h4] at h2;exact F.inj a b c e r h1 h2
 .rw [hg] at h1;by_cases h3:q=a
  .rw [if_pos h3] at h1;simp only [cz0] at h1;subst h1;exact g
  .rw [if_neg h3] at h1;exact f r (F.reg a c r h1)
theorem Fine.mono {P P':Int->Prop} {ks:Int} {m:Holds} (F:Fine P ks m) (b:∀ r,P r->P' r):Fine P' ks m:=⟨F.inj,λa c r h=>b r (F.reg a c r h)⟩
theorem bs0 (s:AS) (x:Held):(aq0 s x).holds=s.holds:=by unfold aq0;cases (mget eqI s.cells x.reg).isSome<;>rfl
theorem aa3 (sp:Spans) (rd:Reads) (ks N:Int) (s:AS) (pl:Int) (st:List Int):(E1 sp rd ks N s pl st).2.holds=s.holds:=by
 unfold E1;split
 .rfl
 .exact bs0 _ _
theorem aO4 (sp:Spans) (rd:Reads) (ks N i:Int) (fr:List Int) (s:AS) (n:Int):((C4 s.holds ks n).cell=true/\(F4 sp rd ks N i fr s n).holds=mput eqP s.holds ⟨false,(E1 sp rd ks N s i fr).1⟩ n)\/((C4 s.holds ks n).cell=false/\F4 sp rd ks N i fr s n=s):=by
 unfold F4;have:=aa3 sp rd ks N s i fr;cases h:(C4 s.holds ks n).cell with
 |true=>exact .inl ⟨rfl,by simp only [cond_true];rw [this]⟩
 |false=>exact .inr ⟨rfl,rfl⟩
theorem W6 {P:Int->Prop} {sp:Spans} {rd:Reads} {ks N i:Int} {fr:List Int}:∀ (l:List Int) {s:AS},Fine P ks s.holds->(∀ n∈l,P n)->Fine P ks (C5 sp rd ks N i fr s l).holds
 |[],s,F,_=>F
 |n::r,s,F,h=>by
  refine W6 r (s:=F4 sp rd ks N i fr s n) ?_ (λx a=>h x (by simp [a]));rcases aO4 sp rd ks N i fr s n with ⟨h1,h2⟩|⟨h1,h2⟩
  .rw [h2];exact F.put (λ_ h=>h) (S6.1 h1) (h n (by simp)) _
  .rw [h2];exact F
theorem bj6 (sp:Spans) (rd:Reads) (ks N i:Int) (to:List Int) (s:AS) (n:Int):(U4 sp rd ks N i to s n).holds=mput eqP s.holds ⟨false,(E1 sp rd ks N s (i+1) to).1⟩ n:=by have:=aa3 sp rd ks N s (i+1) to;show mput eqP (E1 sp rd ks N s (i+1) to).2.holds ⟨false,(E1 sp rd ks N s (i+1) to).1⟩ n=_;rw [this]
theorem aD5 {P:Int->Prop} {sp:Spans} {rd:Reads} {ks N i:Int} {to:List Int} {s:AS} (F:Fine P ks s.holds) (l:to.Nodup) (f:∀ n∈to,¬ P n):∀ (k:Nat),k<=to.length->Fine (λr=>P r\/r∈to.take k) ks (H6 sp rd ks N i to s (to.take k)).holds/\(∀ n,k<to.length->n=to.getD k 0->bU6 (H6 sp rd ks N i to s (to.take k)).holds ks n):=by
 intro k
 induction k with
 |zero=>intro _;refine ⟨F.mono λr h=>.inl h,λn g b a e hm=>?_⟩;have:=F.reg a e n hm;exact f n (by rw [b];exact E7 g 0) this
 |succ k ih=>
  intro g;obtain ⟨h1,h2⟩:=ih (by omega);have j:Fine (λr=>P r\/r∈to.take (k+1)) ks (H6 sp rd ks N i to s (to.take (k+1))).holds:=by
   rw [A4 (by omega) 0,ax5,bj6];refine h1.put (λr h=>?_) (h2 _ (by omega) rfl) (.inr (by simp)) _;rcases h with h|h
   .exact .inl h
   .exact .inr (by simp [h])
  refine ⟨j,λn c b a e hm=>?_⟩;rcases j.reg a e n hm with h3|h3
  .exact f n (by rw [b];exact E7 c 0) h3
  .have d:=l;rw [<-List.take_append_drop (k+1) to,List.nodup_append] at d;refine d.2.2 n h3 n ?_ rfl;rw [b,cA4,cz2 c];exact List.mem_iff_getElem.2 ⟨0,by rw [List.length_drop];omega,by simp⟩
theorem L4 {l:List Int} {n:Int}:n∈B0 l<->n∈l:=by
 have key:∀ (l seen:List Int),(n∈G5 seen l->n∈l)/\(n∈l->n∈G5 seen l\/n∈seen):=by
  intro l
  induction l with
  |nil=>intro seen;simp [G5]
  |cons x r ih=>
   intro seen;obtain ⟨h1,h2⟩:=ih (seen++[x]);simp only [G5];cases hc:seen.contains x with
   |true=>
    have hc:x∈seen:=by simpa [List.contains_iff_mem] using hc
    refine ⟨λh=>by simp [h1 h],λh=>?_⟩;simp only [List.mem_cons] at h;rcases h with rfl|h
    .exact .inr hc
    .rcases h2 h with h3|h3
     .exact .inl h3
     .simp only [cB7,cA1] at h3;rcases h3 with h3|rfl
      .exact .inr h3
      .exact .inr hc
   |false=>
    simp only [cond_false,List.mem_cons];refine ⟨λh=>?_,λh=>?_⟩
    .rcases h with h|h
     .exact .inl h
     .exact .inr (h1 h)
    .rcases h with rfl|h
     .exact .inl (.inl rfl)
     .rcases h2 h with h3|h3
      .exact .inl (.inr h3)
      .simp only [cB7,cA1] at h3;rcases h3 with h3|rfl
       .exact .inr h3
       .exact .inl (.inl rfl)
 obtain ⟨h1,h2⟩:=key l [];exact ⟨h1,λh=>(h2 h).resolve_right (by simp)⟩
theorem bI9 (sp:Spans) (rd:Reads) (ks N i:Int) (x:Ins) (s:AS):(doOf sp rd ks N i x s).holds=(H6 sp rd ks N i x.to (C5 sp rd ks N i (B0 x.from_) s (B0 x.from_)) x.to).holds:=rfl
theorem bU7 {P:Int->Prop} {sp:Spans} {rd:Reads} {ks N i:Int} {x:Ins} {s:AS} (F:Fine P ks s.holds) (a:fewX ks x=true) (hf:∀ n∈x.from_,P n) (b:x.to.Nodup) (d:∀ n∈x.to,¬ P n):
  doOk sp rd ks N i x s/\Fine (λr=>P r\/r∈x.to) ks (doOf sp rd ks N i x s).holds:=by
 simp only [fewX,cz3,cB2] at a;have e:∀ n∈B0 x.from_,P n:=λn b=>hf n (L4.1 b);have F1:=W6 (sp:=sp) (rd:=rd) (N:=N) (i:=i) (fr:=B0 x.from_) (B0 x.from_) F e;refine ⟨⟨λk c hc=>?_,λk c=>?_⟩,?_⟩
 .have Fk:=W6 (sp:=sp) (rd:=rd) (N:=N) (i:=i) (fr:=B0 x.from_) ((B0 x.from_).take k) F (λn b=>e n (List.mem_of_mem_take b));exact aL9 Fk (S6.1 hc) (E7 c 0) a.1 sp rd N i
 .obtain ⟨h1,h2⟩:=aD5 (sp:=sp) (rd:=rd) (N:=N) (i:=i) F1 b d k (by omega);exact aL9 h1 (h2 _ c rfl) (E7 c 0) a.2 sp rd N (i+1)
 .have:=(aD5 (sp:=sp) (rd:=rd) (N:=N) (i:=i) F1 b d x.to.length (Nat.le_refl _)).1;rw [cB8] at this;exact this
theorem aM0 {a:Int} {b:List Ins} {c:List Int} (C:Checked a b c) {ks:Int} (g:b.all (fewX ks)=true) (sp:Spans) (rd:Reads) (N:Int):∀ k,k<=b.length->Fine (λr=>r<a\/r∈wr (b.take k)) ks (runA sp rd ks N (b.take k) 0 (G9 a)).holds/\(k<b.length->doOk sp rd ks N k (b.getD k ins0) (runA sp rd ks N (b.take k) 0 (G9 a))):=by
 have step:∀ k,k<b.length->Fine (λr=>r<a\/r∈wr (b.take k)) ks (runA sp rd ks N (b.take k) 0 (G9 a)).holds->doOk sp rd ks N k (b.getD k ins0) (runA sp rd ks N (b.take k) 0 (G9 a))/\Fine (λr=>(r<a\/r∈wr (b.take k))\/r∈(b.getD k ins0).to) ks (doOf sp rd ks N k (b.getD k ins0) (runA sp rd ks N (b.take k) 0 (G9 a))).holds:=by
  intro k f F;have j:b=b.take k++b.getD k ins0::b.drop (k+1):=by
   conv=>lhs;rw [<-List.take_append_drop (k+1) b,A4 f ins0]
   simp
  have e:=E7 f ins0;refine bU7 F (cC0.1 g _ e) (λn i=>?_) ?_ (λn i=>?_)
  .have:=C.there;rw [j] at this;simpa using K8 this n i
  .have d:=E5.1 C.once;rw [j,M5,Q2] at d;exact (List.nodup_append.1 (List.nodup_append.1 d).2.1).1
  .rintro (h|h)
   .have:=C.new n (aK9.2 ⟨_,e,i⟩);omega
   .have d:=E5.1 C.once;rw [j,M5,Q2] at d;exact (List.nodup_append.1 d).2.2 n h n (List.mem_append_left _ i) rfl
 intro k
 induction k with
 |zero=>intro _;have F0:Fine (λr=>r<a\/r∈wr (b.take 0)) ks (runA sp rd ks N (b.take 0) 0 (G9 a)).holds:=⟨λx y _ _ r h=>by simp [runA,G9,mget] at h,λx _ r h=>by simp [runA,G9,mget] at h⟩;exact ⟨F0,λf=>(step 0 f F0).1⟩
 |succ k ih=>
  intro f;obtain ⟨F,_⟩:=ih (by omega);have F1:=(step k (by omega) F).2;have F2:Fine (λr=>r<a\/r∈wr (b.take (k+1))) ks (runA sp rd ks N (b.take (k+1)) 0 (G9 a)).holds:=by
   rw [A4 (by omega) ins0,au3,cB9,Nat.min_eq_left (by omega)];refine F1.mono λr h=>?_;rw [M5,cB7];rcases h with (h|h)|h
   .exact .inl h
   .exact .inr (.inl h)
   .exact .inr (.inr (by simpa [wr] using h))
  exact ⟨F2,λf=>(step (k+1) f F2).1⟩
theorem cf2 (sp:Spans) (rd:Reads) (ks N i:Int) (x:Ins) (s:AS):(doOf sp rd ks N i x s).code.length<=s.code.length+2*(B0 x.from_).length+x.to.length+1/\s.ocells<=(doOf sp rd ks N i x s).ocells/\(doOf sp rd ks N i x s).ocells<=s.ocells+(B0 x.from_).length+x.to.length:=by
 have h1:=ae4 sp rd ks N i (B0 x.from_) (B0 x.from_) s;have h2:=aL8 sp rd ks N i x.to x.to (C5 sp rd ks N i (B0 x.from_) s (B0 x.from_));have hc:(doOf sp rd ks N i x s).code.length=(H6 sp rd ks N i x.to (C5 sp rd ks N i (B0 x.from_) s (B0 x.from_)) x.to).code.length+1:=by simp only [doOf,cB1,cA6,List.length_nil]
 have a:(doOf sp rd ks N i x s).ocells=(H6 sp rd ks N i x.to (C5 sp rd ks N i (B0 x.from_) s (B0 x.from_)) x.to).ocells:=rfl;rw [hc,a];omega
theorem ba1 {ks:Int} (a:ks<=64) (sp:Spans) (rd:Reads) (N:Int):∀ (l:List Ins) (i:Int) (s:AS),l.all (fewX ks)=true->(runA sp rd ks N l i s).code.length<=s.code.length+193*l.length/\s.ocells<=(runA sp rd ks N l i s).ocells/\(runA sp rd ks N l i s).ocells<=s.ocells+128*l.length
 |[],i,s,_=>by simp [runA]
 |x::r,i,s,h=>by simp only [List.all_cons,cz3] at h;have h1:=h.1;simp only [fewX,cz3,cB2] at h1;have h2:=cf2 sp rd ks N i x s;have h3:=ba1 a sp rd N r (i+1) (doOf sp rd ks N i x s) h.2;simp only [runA,cA6];omega
theorem aM1 (m:Reads) (k:Int) (l:List Int) (n:Int):getL (mput eqI m k l) n=if k=n then l else getL m n:=by unfold getL;rw [Q0];split<;>rfl
theorem ai9 (i:Int):∀ (l:List Int) (m:Reads),(∀ n,(getL m n).Pairwise (·<=·)/\∀ x∈getL m n,x<=i)->∀ n,(getL (G3 m l i) n).Pairwise (·<=·)/\∀ x∈getL (G3 m l i) n,x<=i
 |[],m,h,n=>h n
 |y::r,m,h,n=>by
  refine ai9 i r (mput eqI m y (getL m y++[i])) (λk=>?_) n;rw [aM1];split
  .rename_i e;subst e;refine ⟨List.pairwise_append.2 ⟨(h y).1,by simp,λa f b d=>?_⟩,λx c=>?_⟩
   .simp only [cA1] at d;subst d;exact (h y).2 a f
   .simp only [cB7,cA1] at c;rcases c with c|rfl
    .exact (h y).2 x c
    .exact Int.le_refl _
  .exact h k
theorem an3:∀ (l:List Ins) (i:Int) (m:Reads),(∀ n,(getL m n).Pairwise (·<=·)/\∀ x∈getL m n,x<=i)->ai5 (N6 l i m)
 |[],i,m,h=>λn=>(h n).1
 |x::r,i,m,h=>by refine an3 r (i+1) _ (λn=>?_);obtain ⟨h1,h2⟩:=ai9 i (B0 x.from_) m h n;exact ⟨h1,λy a=>by have:=h2 y a;omega⟩
theorem an4 (code:List Ins):ai5 (D6 code):=an3 code 0 [] (λn=>by simp [getL,mget])
theorem aj0 (x:Ins):∀ (l:List Ins) (i:Int) (m:Reads),N6 (l++[x]) i m=G3 (N6 l i m) (B0 x.from_) (i+l.length)
 |[],i,m=>by simp [N6]
 |y::l,i,m=>by simp only [List.cons_append,N6,aj0 x l,cA6];congr 1;omega
theorem aM2 (k:Nat):aa2 (k+1)=mput eqI (aa2 k) k k:=by simp [aa2,List.range_succ]
abbrev tysR:List Ty:=[i64,inss,ints,ints,mapS,mapR,mapP,mapI,i64,i64,i64,i64,i64]
abbrev objR (b:Nat):List OPat:=[.box 79 [.ptr 2 0],.box 86 [.d b,.d (b+1),.d (b+2),.d (b+3),.map 4,.ms 3,.map 5,.map 6,.d (b+8),.d (b+9),.d (b+10),.nil,.nil],.ms (b+5),.map (b+4),.map (b+6),.map (b+7),.box 3 [.d (b+11)],.box 3 [.d (b+12)]]
abbrev ylR:List (Nat×Nat):=[(0,0),(1,1),(2,2),(4,4),(5,5),(6,6),(7,7),(8,8)]
def au5:Con RU:=⟨[one,one],i64::i64::tysR,[.d 0,.yld 0],.loop 1::objR 2,some λp=>match p with
  |(n,st,a0,a1,a2,a3,sp,rd,ho,ce,op,ks,oc,i,many,())=>st=0/\(∀ n,(getL rd n).length<=1000001)/\0<=many/\many<=140737488356000,
 none,[one],.bool::i64::tysR,[.d 0],.loop 1::objR 2,λp=>match p with
  |(n,st,a0,a1,a2,a3,sp,rd,ho,ce,op,ks,oc,i,many,())=>(true,0,a0,a1,a2,a3,sp,mput eqI rd n (getL rd n++[i]),ho,ce,op,ks,oc,i,many+1,()),[],ylR,[(1,1000001),(7,1000007),(8,1000008)]⟩
def ba2:Con RU:=⟨[one,one],i64::tysR++aA3,[.yld 0,.ptr 9 0],.loop 0::objR 1++[.box 52 [.d 14,.d 15,.d 16,.d 17,.d 18]],some λp=>match p with
  |(st,a0,a1,a2,a3,sp,rd,ho,ce,op,ks,oc,i,many,x1,x2,x3,x4,x5,())=>st=0/\(∀ n,(getL rd n).length<=1000000)/\many=0,
 none,[],i64::tysR,[],.loop 0::objR 1++[.box 52 [.un,.un,.un,.un,.un]],λp=>match p with
  |(st,a0,a1,a2,a3,sp,rd,ho,ce,op,ks,oc,i,many,x1,x2,x3,x4,x5,())=>(0,a0,a1,a2,a3,sp,G3 rd (B0 x4) i,ho,ce,op,ks,oc,i,many+(B0 x4).length,()),[],ylR,[(1,448),(7,512),(8,640)]⟩
def itAlloc:FuncId->List (Con RU×Con RU×List (Nat×Nat)):=λf=>bif Nat.beq f 83 then [(ba2,au5,[(0,0),(1,1),(2,2),(3,3),(4,4),(5,5),(6,6),(7,7),(8,8)])] else []
def bs1 (fr:List Int) (rd:Reads) (i many:Int):Nat->St RU->Ann RU:=λ_ _=>⟨[],[.slot 8,.row 1000000,.row 1000003,.box 1000008 0],[i64,i64,mapR,i64],λp=>0<=p.1/\p.1<=fr.length/\p.2.1=0/\p.2.2.1=G3 rd (B0 (fr.take p.1.toNat)) i/\p.2.2.2.1=many+(B0 (fr.take p.1.toNat)).length,λp=>fr.length-p.1.toNat,[]⟩
def cAlloc:Con RU:=con [(true,4),one] [i64,inss,ints,ints,i64] [(true,5),one] [i64,i64,i64,aX4,aA2,i64] [false,false,false,false,false,false] (some λp=>S5 p.2.1=true/\J1 p.2.1=true/\p.2.2.1.length<=8796093022200) λp=>
 ((B8 ⟨p.1,p.2.1,p.2.2.1,p.2.2.2.1⟩ p.2.2.2.2.1).1.params,(B8 ⟨p.1,p.2.1,p.2.2.1,p.2.2.2.1⟩ p.2.2.2.2.1).1.slots,(B8 ⟨p.1,p.2.1,p.2.2.1,p.2.2.2.1⟩ p.2.2.2.2.1).1.cells,(B8 ⟨p.1,p.2.1,p.2.2.1,p.2.2.2.1⟩ p.2.2.2.2.1).1.code,(B8 ⟨p.1,p.2.1,p.2.2.1,p.2.2.2.1⟩ p.2.2.2.2.1).1.out,(B8 ⟨p.1,p.2.1,p.2.2.1,p.2.2.2.1⟩ p.2.2.2.2.1).2,())
def bU8 (a:Int) (b:List Ins) (c:List Int) (ks:Int):Nat->St RU->Ann RU:=λk s=>match k with
 |0=>⟨[],[.slot 48,.row 2176],[i64,mapR],λp=>0<=p.1/\p.1<=b.length/\p.2.1=N6 (b.take p.1.toNat) 0 []/\(b.take p.1.toNat).all (fewX ks)=true,λp=>b.length-p.1.toNat,[(.seen 2176,0,0,.bool)]⟩
 |1=>⟨[],[],[],λ_=>False,λ_=>0,[]⟩
 |2=>⟨[],[.slot 86,.row 2304],[i64,mapI],λp=>0<=p.1/\p.1<=a/\p.2.1=aa2 p.1.toNat,λp=>a.toNat-p.1.toNat,[(.seen 2176,0,0,.bool)]⟩
 |3=>⟨[],[.slot 99,.row 2240,.row 2304,.box 2816 10,.row 900001],[i64,mapP,mapI,i64,aX4],λp=>0<=p.1/\p.1<=b.length/\runA (A5 a b c) (D6 b) ks b.length (b.take p.1.toNat) 0 (G9 a)=⟨p.2.1,p.2.2.1,p.2.2.2.1,p.2.2.2.2.1⟩,λp=>b.length-p.1.toNat,[(.box 2816 11,900001,55,.user 1),(.box 2816 12,900002,59,.user 2)]⟩
 |_=>⟨[],[.slot 112,.row 900002],[i64,aA2],λp=>0<=p.1/\p.1<=c.length/\p.2.1=(c.take p.1.toNat).map (outA (runA (A5 a b c) (D6 b) ks b.length b 0 (G9 a)) ks),λp=>c.length-p.1.toNat,[]⟩
theorem bU9 (st g:Int) (d:List Ins) (e f:List Int) (sp:Spans) (rd:Reads) (h:Holds) (ce:List (Int×Int)) (op ks oc i many l m:Int) (j a:List Int) (k:List Ins):vc (EVy ylR (some au5) [(61,cContains)]) (bs1 a rd i many) Go.Proofs.Tryd.f83 ba2 (st,g,d,e,f,sp,rd,h,ce,op,ks,oc,i,many,l,m,j,a,k,())=(
 let q:Int×Int×List Ins×List Int×List Int×List (Int×Span)×List (Int×List Int)×List (Place×Int)×List (Int×Int)×Int×Int×Int×Int×Int×Unit:=
  ((0:Int),g,d,e,f,sp,G3 rd (B0 a) i,h,ce,op,ks,oc,i,many+(↑(List.length (B0 a)):Int),());
 let c:Int:=(↑(List.length a):Int);
  Small RU (Sigma.mk (Ty.slice (52:Nat) (Ty.user (0:Nat))) d)->
  Small RU (Sigma.mk (Ty.slice (3:Nat) (Ty.int IntKind.i64)) e)->
  Small RU (Sigma.mk (Ty.slice (3:Nat) (Ty.int IntKind.i64)) f)->
  Small RU (Sigma.mk (Ty.slice (3:Nat) (Ty.int IntKind.i64)) j)->
  Small RU (Sigma.mk (Ty.slice (3:Nat) (Ty.int IntKind.i64)) a)->
  Small RU (Sigma.mk (Ty.slice (52:Nat) (Ty.user (0:Nat))) k)->
  (∃ (p:Int×Int×List (Int×List Int)×Int×Unit),
  a=a/\
  c=c/\
  (0:Int)=p.1/\
  st=p.2.1/\
  g=g/\
  d=d/\
  e=e/\
  f=f/\
  op=op/\
  ks=ks/\
  oc=oc/\
  rd=p.2.2.1/\
  sp=sp/\
  h=h/\
  ce=ce/\
  i=i/\
  many=p.2.2.2.1/\
  l=l/\
  m=m/\
  j=j/\
  a=a/\
  k=k/\
  (0:Int)<=p.1/\
  p.1<=c/\
  p.2.1=(0:Int)/\
  p.2.2.1=G3 rd (B0 (List.take (Int.toNat p.1) a)) i/\
  p.2.2.2.1=many+(↑(List.length (B0 (List.take (Int.toNat p.1) a))):Int))/\
  ∀ (p:Int×Int×List (Int×List Int)×Int×Unit),
 let e0_1:Int:=p.2.2.2.1;
 let e1_1:List (Int×List Int):=p.2.2.1;
 let r:List (Int×List Int):=mput eqI e1_1 (List.getD a (Int.toNat p.1) (0:Int)) (getL e1_1 (List.getD a (Int.toNat p.1) (0:Int))++[i]);
 let b:Int:=p.1;
 let o:Int:=p.2.1;
 let s:Bool:=decide (b<c);
 let t:Bool:=List.contains (List.take (Int.toNat b) a) (List.getD a (Int.toNat b) (0:Int));
 let u:Int:=e0_1+(1:Int);
  (0:Int)<=b/\b<=c/\o=(0:Int)/\e1_1=G3 rd (B0 (List.take (Int.toNat b) a)) i/\e0_1=many+(↑(List.length (B0 (List.take (Int.toNat b) a))):Int)->
  (s=true->
  ((0:Int)<=b/\b<c)/\
  ((0:Int)<=b/\b<=c)/\
  (t=true->
  ∃ (p':Int×Int×List (Int×List Int)×Int×Unit),
  a=a/\
  c=c/\
  IntKind.i64.wrap (b+(1:Int))=p'.1/\
  o=p'.2.1/\
  g=g/\
  d=d/\
  e=e/\
  f=f/\
  op=op/\
  ks=ks/\
  oc=oc/\
  e1_1=p'.2.2.1/\
  sp=sp/\
  h=h/\
  ce=ce/\
  i=i/\
  e0_1=p'.2.2.2.1/\
  l=l/\
  m=m/\
  j=j/\
  a=a/\
  k=k/\
  ((0:Int)<=p'.1/\
  p'.1<=c/\
  p'.2.1=(0:Int)/\
  p'.2.2.1=G3 rd (B0 (List.take (Int.toNat p'.1) a)) i/\
  p'.2.2.2.1=many+(↑(List.length (B0 (List.take (Int.toNat p'.1) a))):Int))/\
  List.length a-Int.toNat p'.1<List.length a-Int.toNat b)/\
  (t=false->
  (o=(0:Int)/\(∀ (n:Int),List.length (getL e1_1 n)<=(1000001:Nat))/\(0:Int)<=e0_1/\e0_1<=(140737488356000:Int))/\
  ((!true)=true->((0:Int),g,d,e,f,sp,r,h,ce,op,ks,oc,i,u,())=q)/\
  ((!true)=false->
  ∃ (p':Int×Int×List (Int×List Int)×Int×Unit),
  a=a/\
  c=c/\
  IntKind.i64.wrap (b+(1:Int))=p'.1/\
  (0:Int)=p'.2.1/\
  g=g/\
  d=d/\
  e=e/\
  f=f/\
  op=op/\
  ks=ks/\
  oc=oc/\
  r=p'.2.2.1/\
  sp=sp/\
  h=h/\
  ce=ce/\
  i=i/\
  u=p'.2.2.2.1/\
  l=l/\
  m=m/\
  j=j/\
  a=a/\
  k=k/\
  ((0:Int)<=p'.1/\
  p'.1<=c/\
  p'.2.1=(0:Int)/\
  p'.2.2.1=G3 rd (B0 (List.take (Int.toNat p'.1) a)) i/\
  p'.2.2.2.1=many+(↑(List.length (B0 (List.take (Int.toNat p'.1) a))):Int))/\
  List.length a-Int.toNat p'.1<List.length a-Int.toNat b)))/\
  (s=false->(o,g,d,e,f,sp,e1_1,h,ce,op,ks,oc,i,e0_1,())=q)):=by kernel_rfl
theorem cf3 (a:Int) (b:List Ins) (c d:List Int) (ks:Int):vc (EVd [] itAlloc [(41,cCheck),(51,cSpans),(52,cReads),(53,cDo),(54,cSlot)]) (bU8 a b c ks) Go.Proofs.Tryd.f15 cAlloc (a,b,c,d,ks,())=(
 let j:Int×Int×Int×List RIns×List Place×Int×Unit:=
  ((B8 (VFun.mk a b c d) ks).1.params,(B8 (VFun.mk a b c d) ks).1.slots,(B8 (VFun.mk a b c d) ks).1.cells,(B8 (VFun.mk a b c d) ks).1.code,
  (B8 (VFun.mk a b c d) ks).1.out,(B8 (VFun.mk a b c d) ks).2,());
 let g:Bool:=decide (ks<(1:Int))||decide (ks >(64:Int));
 let e:Int:=(↑(List.length b):Int);
 let f:Ins:=Ins.mk (0:Int) (0:Int) [] [] [];
 let h:Bool:=E8 (VFun.mk a b c d) !=(0:Int);
 let l:Int:=(↑(List.length c):Int);
 let i:Int:=E8 (VFun.mk a b c d);
  Small RU (Sigma.mk (Ty.slice (52:Nat) (Ty.user (0:Nat))) b)->
  Small RU (Sigma.mk (Ty.slice (3:Nat) (Ty.int IntKind.i64)) c)->
  Small RU (Sigma.mk (Ty.slice (3:Nat) (Ty.int IntKind.i64)) d)->
  (h=true->((0:Int),(0:Int),(0:Int),[],[],i,())=j)/\
  (h=false->
  (g=true->((0:Int),(0:Int),(0:Int),[],[],(2:Int),())=j)/\
  (g=false->
  a<=(4000:Int)/\
  (∃ (p:Int×List (Int×List Int)×Unit),
  a=a/\
  b=b/\
  c=c/\
  d=d/\
  ks=ks/\
  i=i/\
  h=h/\
  g=g/\
  a=a/\
  b=b/\
  c=c/\
  d=d/\
  b=b/\
  e=e/\
  (0:Int)=p.1/\
  a=a/\
  b=b/\
  c=c/\
  d=d/\
  (0:Int)=(0:Int)/\
  (0:Int)=(0:Int)/\
  (0:Int)=(0:Int)/\
  A5 a b c=A5 a b c/\
  []=p.2.1/\
  ([]:List (Place×Int))=[]/\
  ([]:List (Int×Int))=[]/\
  a=a/\
  b=b/\
  c=c/\
  d=d/\
  a=a/\
  ks=ks/\
  a=a/\
  (0:Int)<=p.1/\
  p.1<=e/\
  p.2.1=N6 (List.take (Int.toNat p.1) b) (0:Int) []/\
  List.all (List.take (Int.toNat p.1) b) (fewX ks)=true)/\
  ∀ (p:Int×List (Int×List Int)×Unit),
 let e0_1:Bool:=
  decide ((0:Int)+(↑(List.length (B0 (List.getD b (Int.toNat p.1) f).from_)):Int) >ks)||decide ((↑(List.length (List.getD b (Int.toNat p.1) f).to):Int) >ks);
 let e1_1:List (Int×List Int):=p.2.1;
 let e2_1:Bool:=decide (p.1<e);
 let e3_1:Int:=p.1;
  (0:Int)<=e3_1/\e3_1<=e/\e1_1=N6 (List.take (Int.toNat e3_1) b) (0:Int) []/\List.all (List.take (Int.toNat e3_1) b) (fewX ks)=true->
  (e2_1=true->
  ((0:Int)<=e3_1/\e3_1<e)/\
  (∀
  (xs:
  Int×
  Int×
  Int×List Ins×List Int×List Int×List (Int×Span)×List (Int×List Int)×List (Place×Int)×List (Int×Int)×Int×Int×Int×Int×Int×Unit),
 let j:Int:=xs.2.2.2.2.2.2.2.2.2.2.2.2.2.1;
 let g:Int×Int×Int×Unit:=xs.2.2.2.2.2.2.2.2.2.2.2.2;
 let e:List Int:=Option.getD (mget (λ(x y:Int)=>x==y) xs.2.2.2.2.2.2.2.1 xs.1) [];
 let f:Int×Int×Int×Int×Int×Unit:=xs.2.2.2.2.2.2.2.2.2.2;
 let h:List (Place×Int)×List (Int×Int)×Int×Int×Int×Int×Int×Unit:=xs.2.2.2.2.2.2.2.2;
 let l:List (Int×Span)×List (Int×List Int)×List (Place×Int)×List (Int×Int)×Int×Int×Int×Int×Int×Unit:=xs.2.2.2.2.2.2;
 let i:List Int:=xs.2.2.2.2.2.1;
 let q:List Int:=xs.2.2.2.2.1;
 let m:List Ins:=xs.2.2.2.1;
 let r:Int:=xs.1;
 let o:
  Int×
  Int×List Ins×List Int×List Int×List (Int×Span)×List (Int×List Int)×List (Place×Int)×List (Int×Int)×Int×Int×Int×Int×Int×Unit:=
  xs.2;
  xs.2.1=(0:Int)/\
  (∀ (n:Int),List.length (getL xs.2.2.2.2.2.2.2.1 n)<=(1000001:Nat))/\
  (0:Int)<=xs.2.2.2.2.2.2.2.2.2.2.2.2.2.2.1/\xs.2.2.2.2.2.2.2.2.2.2.2.2.2.2.1<=(140737488356000:Int)->
  Small RU (Sigma.mk (Ty.slice (52:Nat) (Ty.user (0:Nat))) m)->
  Small RU (Sigma.mk (Ty.slice (3:Nat) (Ty.int IntKind.i64)) q)->
  Small RU (Sigma.mk (Ty.slice (3:Nat) (Ty.int IntKind.i64)) i)->
  o.1=(0:Int)/\
  (List.length e+List.length [j])*(8:Nat)<=(140737488355328:Nat)/\
  r=r/\
  (true,(0:Int),o.2.1,m,q,i,l.1,mput (λ(x y:Int)=>x==y) l.2.1 r (e++[j]),h.1,h.2.1,f.1,f.2.1,
  g.1,j,IntKind.i64.wrap (g.2.2.1+(1:Int)),())=
  au5.fn xs)/\
  ((0:Int)=(0:Int)/\(∀ (n:Int),List.length (getL e1_1 n)<=(1000000:Nat))/\(0:Int)=(0:Int))/\
  (0:Int)=(0:Int)/\
  (e0_1=true->((0:Int),(0:Int),(0:Int),[],[],(9:Int),())=j)/\
  (e0_1=false->
  ∃ (p':Int×List (Int×List Int)×Unit),
  a=a/\
  b=b/\
  c=c/\
  d=d/\
  ks=ks/\
  i=i/\
  h=h/\
  g=g/\
  a=a/\
  b=b/\
  c=c/\
  d=d/\
  b=b/\
  e=e/\
  IntKind.i64.wrap (e3_1+(1:Int))=p'.1/\
  a=a/\
  b=b/\
  c=c/\
  d=d/\
  (0:Int)=(0:Int)/\
  (0:Int)=(0:Int)/\
  (0:Int)=(0:Int)/\
  A5 a b c=A5 a b c/\
  G3 e1_1 (B0 (List.getD b (Int.toNat e3_1) f).from_) e3_1=p'.2.1/\
  ([]:List (Place×Int))=[]/\
  ([]:List (Int×Int))=[]/\
  a=a/\
  b=b/\
  c=c/\
  d=d/\
  a=a/\
  ks=ks/\
  a=a/\
  ((0:Int)<=p'.1/\
  p'.1<=e/\
  p'.2.1=N6 (List.take (Int.toNat p'.1) b) (0:Int) []/\
  List.all (List.take (Int.toNat p'.1) b) (fewX ks)=true)/\
  List.length b-Int.toNat p'.1<List.length b-Int.toNat e3_1))/\
  (e2_1=false->
  (∃ (p:Int×List (Int×Int)×Unit),
  a=a/\
  b=b/\
  c=c/\
  d=d/\
  ks=ks/\
  i=i/\
  h=h/\
  g=g/\
  a=a/\
  b=b/\
  c=c/\
  d=d/\
  b=b/\
  e=e/\
  e3_1=e3_1/\
  e2_1=e2_1/\
  a=a/\
  (0:Int)=p.1/\
  a=a/\
  b=b/\
  c=c/\
  d=d/\
  (0:Int)=(0:Int)/\
  (0:Int)=(0:Int)/\
  (0:Int)=(0:Int)/\
  A5 a b c=A5 a b c/\
  e1_1=e1_1/\
  ([]:List (Place×Int))=[]/\
  []=p.2.1/\
  a=a/\
  b=b/\
  c=c/\
  d=d/\a=a/\ks=ks/\a=a/\(0:Int)<=p.1/\p.1<=a/\p.2.1=aa2 (Int.toNat p.1))/\
  ∀ (p:Int×List (Int×Int)×Unit),
 let e0_2:Bool:=decide (p.1<a);
 let e1_2:Int:=p.1;
 let e2_2:List (Int×Int):=p.2.1;
  (0:Int)<=e1_2/\e1_2<=a/\e2_2=aa2 (Int.toNat e1_2)->
  (e0_2=true->
  ∃ (p':Int×List (Int×Int)×Unit),
  a=a/\
  b=b/\
  c=c/\
  d=d/\
  ks=ks/\
  i=i/\
  h=h/\
  g=g/\
  a=a/\
  b=b/\
  c=c/\
  d=d/\
  b=b/\
  e=e/\
  e3_1=e3_1/\
  e2_1=e2_1/\
  a=a/\
  IntKind.i64.wrap (e1_2+(1:Int))=p'.1/\
  a=a/\
  b=b/\
  c=c/\
  d=d/\
  (0:Int)=(0:Int)/\
  (0:Int)=(0:Int)/\
  (0:Int)=(0:Int)/\
  A5 a b c=A5 a b c/\
  e1_1=e1_1/\
  ([]:List (Place×Int))=[]/\
  mput (λ(x y:Int)=>x==y) e2_2 e1_2 e1_2=p'.2.1/\
  a=a/\
  b=b/\
  c=c/\
  d=d/\
  a=a/\
  ks=ks/\
  a=a/\
  ((0:Int)<=p'.1/\p'.1<=a/\p'.2.1=aa2 (Int.toNat p'.1))/\
  Int.toNat a-Int.toNat p'.1<Int.toNat a-Int.toNat e1_2)/\
  (e0_2=false->
  (∃ (p:Int×List (Place×Int)×List (Int×Int)×Int×List RIns×Unit),
  a=a/\
  b=b/\
  c=c/\
  d=d/\
  ks=ks/\
  i=i/\
  h=h/\
  g=g/\
  a=a/\
  b=b/\
  c=c/\
  d=d/\
  b=b/\
  e=e/\
  e3_1=e3_1/\
  e2_1=e2_1/\
  a=a/\
  e1_2=e1_2/\
  e0_2=e0_2/\
  b=b/\
  e=e/\
  (0:Int)=p.1/\
  a=a/\
  b=b/\
  c=c/\
  d=d/\
  (0:Int)=(0:Int)/\
  (0:Int)=(0:Int)/\
  (0:Int)=(0:Int)/\
  A5 a b c=A5 a b c/\
  e1_1=e1_1/\
  []=p.2.1/\
  e2_2=p.2.2.1/\
  a=a/\
  b=b/\
  c=c/\
  d=d/\
  a=a/\
  ks=ks/\
  a=p.2.2.2.1/\
  []=p.2.2.2.2.1/\
  ([]:List Place)=[]/\
  (0:Int)<=p.1/\
  p.1<=e/\
  runA (A5 a b c) (D6 b) ks e (List.take (Int.toNat p.1) b)
  (0:Int) (G9 a)=
  AS.mk p.2.1 p.2.2.1 p.2.2.2.1
  p.2.2.2.2.1)/\
  ∀ (p:Int×List (Place×Int)×List (Int×Int)×Int×List RIns×Unit),
 let e0_3:AS:=AS.mk p.2.1 p.2.2.1 p.2.2.2.1 p.2.2.2.2.1;
 let e1_3:Int:=p.2.2.2.1;
 let e2_3:AS:=
  doOf (A5 a b c) e1_1 ks e p.1
  (Ins.mk (List.getD b (Int.toNat p.1) f).op (List.getD b (Int.toNat p.1) f).n (List.getD b (Int.toNat p.1) f).to
  (List.getD b (Int.toNat p.1) f).from_ (List.getD b (Int.toNat p.1) f).body)
  e0_3;
 let e3_2:List RIns:=p.2.2.2.2.1;
 let e4_1:Int:=p.1;
 let e5_1:List (Int×Int):=p.2.2.1;
 let e6_1:List (Place×Int):=p.2.1;
 let q:Bool:=decide (e4_1<e);
 let m:List Int:=B0 (List.getD b (Int.toNat e4_1) f).from_;
 let r:List Int:=(List.getD b (Int.toNat e4_1) f).to;
 let o:Int:=e4_1+(1:Int);
  (0:Int)<=e4_1/\e4_1<=e/\runA (A5 a b c) (D6 b) ks e (List.take (Int.toNat e4_1) b) (0:Int) (G9 a)=e0_3->
  (q=true->
  ((0:Int)<=e4_1/\e4_1<e)/\
  (ai2 r (List.getD b (Int.toNat e4_1) f).from_ (List.getD b (Int.toNat e4_1) f).body=true/\
  List.length (List.getD b (Int.toNat e4_1) f).from_<=(17592186044400:Nat)/\
  List.length m<=(64:Nat)/\
  List.length r<=(64:Nat)/\
  (∀ (n:Int),List.Pairwise (λ(s t:Int)=>s<=t) (getL e1_1 n))/\
  ((∀ (k:Nat),
 let j:Option Int×List Held:=
  L2 (A5 a b c) e1_1 ks e (C5 (A5 a b c) e1_1 ks e e4_1 m e0_3 (List.take k m)).holds e4_1 m;
  k<List.length m->
  (C4 (C5 (A5 a b c) e1_1 ks e e4_1 m e0_3 (List.take k m)).holds ks (List.getD m k (0:Int))).cell=true->
  j.1=none->j.2≠[])/\
  ∀ (k:Nat),
 let j:Option Int×List Held:=
  L2 (A5 a b c) e1_1 ks e
  (H6 (A5 a b c) e1_1 ks e e4_1 r (C5 (A5 a b c) e1_1 ks e e4_1 m e0_3 m) (List.take k r)).holds o r;
  k<List.length r->j.1=none->j.2≠[])/\
  ks<=(64:Int)/\
  (0:Int)<=e4_1/\e4_1<=(1000000:Int)/\(0:Int)<=e1_3/\e1_3<=(100000000:Int)/\List.length e3_2<=(100000000:Nat))/\
  ∃ (p':Int×List (Place×Int)×List (Int×Int)×Int×List RIns×Unit),
  a=a/\
  b=b/\
  c=c/\
  d=d/\
  ks=ks/\
  i=i/\
  h=h/\
  g=g/\
  a=a/\
  b=b/\
  c=c/\
  d=d/\
  b=b/\
  e=e/\
  e3_1=e3_1/\
  e2_1=e2_1/\
  a=a/\
  e1_2=e1_2/\
  e0_2=e0_2/\
  b=b/\
  e=e/\
  IntKind.i64.wrap o=p'.1/\
  a=a/\
  b=b/\
  c=c/\
  d=d/\
  (0:Int)=(0:Int)/\
  (0:Int)=(0:Int)/\
  (0:Int)=(0:Int)/\
  A5 a b c=A5 a b c/\
  e1_1=e1_1/\
  e2_3.holds=p'.2.1/\
  e2_3.cells=p'.2.2.1/\
  a=a/\
  b=b/\
  c=c/\
  d=d/\
  a=a/\
  ks=ks/\
  e2_3.ocells=p'.2.2.2.1/\
  e2_3.code=p'.2.2.2.2.1/\
  ([]:List Place)=[]/\
  ((0:Int)<=p'.1/\
  p'.1<=e/\
  runA (A5 a b c) (D6 b) ks e
  (List.take (Int.toNat p'.1) b) (0:Int)
  (G9 a)=
  AS.mk p'.2.1 p'.2.2.1 p'.2.2.2.1
  p'.2.2.2.2.1)/\
  List.length b-Int.toNat p'.1<
  List.length b-Int.toNat e4_1)/\
  (q=false->
  (∃ (p:Int×List Place×Unit),
  a=a/\
  b=b/\
  c=c/\
  d=d/\
  ks=ks/\
  i=i/\
  h=h/\
  g=g/\
  a=a/\
  b=b/\
  c=c/\
  d=d/\
  b=b/\
  e=e/\
  e3_1=e3_1/\
  e2_1=e2_1/\
  a=a/\
  e1_2=e1_2/\
  e0_2=e0_2/\
  b=b/\
  e=e/\
  e4_1=e4_1/\
  q=q/\
  c=c/\
  l=l/\
  (0:Int)=p.1/\
  a=a/\
  b=b/\
  c=c/\
  d=d/\
  (0:Int)=(0:Int)/\
  (0:Int)=(0:Int)/\
  (0:Int)=(0:Int)/\
  A5 a b c=A5 a b c/\
  e1_1=e1_1/\
  e6_1=e6_1/\
  e5_1=e5_1/\
  a=a/\
  b=b/\
  c=c/\
  d=d/\
  a=a/\
  ks=ks/\
  e1_3=e1_3/\
  e3_2=e3_2/\
  []=p.2.1/\
  (0:Int)<=p.1/\
  p.1<=l/\
  p.2.1=
  List.map
  (outA
  (runA (A5 a b c) (D6 b) ks e b
  (0:Int) (G9 a))
  ks)
  (List.take (Int.toNat p.1) c))/\
  ∀ (p:Int×List Place×Unit),
 let e0_4:Bool:=
  (C4 e6_1 ks (List.getD c (Int.toNat p.1) (0:Int))).cell==true&&
  ((C4 e6_1 ks (List.getD c (Int.toNat p.1) (0:Int))).n==(-1:Int)&&true);
 let e1_4:List Place:=
  [Place.mk (bif e0_4 then true else (C4 e6_1 ks (List.getD c (Int.toNat p.1) (0:Int))).cell)
  (bif e0_4 then Option.getD (mget (λ(x y:Int)=>x==y) e5_1 (List.getD c (Int.toNat p.1) (0:Int))) (0:Int)
  else (C4 e6_1 ks (List.getD c (Int.toNat p.1) (0:Int))).n)];
 let e2_4:List Place:=p.2.1;
 let f:Int:=p.1;
 let e4_2:Bool:=decide (f<l);
  (0:Int)<=f/\f<=l/\e2_4=List.map (outA (runA (A5 a b c) (D6 b) ks e b (0:Int) (G9 a)) ks) (List.take (Int.toNat f) c)->
  (e4_2=true->
  ((0:Int)<=f/\f<l)/\
  ks<=(64:Int)/\
  (List.length (bif e0_4 then e2_4 else e2_4)+List.length e1_4)*(16:Nat)<=(140737488355328:Nat)/\
  ∃ (p':Int×List Place×Unit),
  (bif e0_4 then a else a)=a/\
  (bif e0_4 then b else b)=b/\
  (bif e0_4 then c else c)=c/\
  (bif e0_4 then d else d)=d/\
  (bif e0_4 then ks else ks)=ks/\
  (bif e0_4 then i else i)=i/\
  (bif e0_4 then h else h)=h/\
  (bif e0_4 then g else g)=g/\
  (bif e0_4 then a else a)=a/\
  (bif e0_4 then b else b)=b/\
  (bif e0_4 then c else c)=c/\
  (bif e0_4 then d else d)=d/\
  (bif e0_4 then b else b)=b/\
  (bif e0_4 then e else e)=e/\
  (bif e0_4 then e3_1 else e3_1)=e3_1/\
  (bif e0_4 then e2_1 else e2_1)=e2_1/\
  (bif e0_4 then a else a)=a/\
  (bif e0_4 then e1_2 else e1_2)=e1_2/\
  (bif e0_4 then e0_2 else e0_2)=e0_2/\
  (bif e0_4 then b else b)=b/\
  (bif e0_4 then e else e)=e/\
  (bif e0_4 then e4_1 else e4_1)=e4_1/\
  (bif e0_4 then q else q)=q/\
  (bif e0_4 then c else c)=c/\
  (bif e0_4 then l else l)=l/\
  IntKind.i64.wrap ((bif e0_4 then f else f)+(1:Int))=p'.1/\
  (bif e0_4 then a else a)=a/\
  (bif e0_4 then b else b)=b/\
  (bif e0_4 then c else c)=c/\
  (bif e0_4 then d else d)=d/\
  (bif e0_4 then (0:Int) else (0:Int))=(0:Int)/\
  (bif e0_4 then (0:Int) else (0:Int))=(0:Int)/\
  (bif e0_4 then (0:Int) else (0:Int))=(0:Int)/\
  (bif e0_4 then A5 a b c else A5 a b c)=A5 a b c/\
  (bif e0_4 then e1_1 else e1_1)=e1_1/\
  (bif e0_4 then e6_1 else e6_1)=e6_1/\
  (bif e0_4 then e5_1 else e5_1)=e5_1/\
  (bif e0_4 then a else a)=a/\
  (bif e0_4 then b else b)=b/\
  (bif e0_4 then c else c)=c/\
  (bif e0_4 then d else d)=d/\
  (bif e0_4 then a else a)=a/\
  (bif e0_4 then ks else ks)=ks/\
  (bif e0_4 then e1_3 else e1_3)=e1_3/\
  (bif e0_4 then e3_2 else e3_2)=e3_2/\
  (bif e0_4 then e2_4 else e2_4)++e1_4=
  p'.2.1/\
  ((0:Int)<=p'.1/\
  p'.1<=l/\
  p'.2.1=
  List.map
  (outA
  (runA (A5 a b c)
  (D6 b) ks e b (0:Int)
  (G9 a))
  ks)
  (List.take (Int.toNat p'.1)
  c))/\
  List.length c-Int.toNat p'.1<
  List.length c-Int.toNat f)/\
  (e4_2=false->(a,ks,e1_3,e3_2,e2_4,(0:Int),())=j))))))):=by kernel_rfl
theorem S7 (l:List Int):(B0 l).Nodup:=by
 have key:∀ (l seen:List Int),(G5 seen l).Nodup/\∀ x∈G5 seen l,x∉seen:=by
  intro l
  induction l with
  |nil=>intro seen;simp [G5]
  |cons y r ih=>
   intro seen;obtain ⟨h1,h2⟩:=ih (seen++[y]);simp only [G5];cases hc:seen.contains y with
   |true=>exact ⟨h1,λx a h=>h2 x a (by simp [h])⟩
   |false=>
    have hc:y∉seen:=by rw [Bool.eq_false_iff,ne_eq,List.contains_iff_mem] at hc;exact hc
    simp only [cond_false];refine ⟨List.nodup_cons.2 ⟨λh=>h2 y h (by simp),h1⟩,λx a h=>?_⟩;rcases List.mem_cons.1 a with rfl|a
    .exact hc h
    .exact h2 x a (by simp [h])
 exact (key l []).1
theorem ba3 (m:Reads) (l:List Int) (x i:Int):G3 m (l++[x]) i=mput eqI (G3 m l i) x (getL (G3 m l i) x++[i]):=by simp [G3]
theorem aj1 (i n:Int):∀ (l:List Int) (m:Reads),l.Nodup->(getL (G3 m l i) n).length<=(getL m n).length+(if n∈l then 1 else 0)
 |[],m,_=>by simp [G3]
 |y::r,m,h=>by
  obtain ⟨h1,h2⟩:=List.nodup_cons.1 h;have:=aj1 i n r (mput eqI m y (getL m y++[i])) h2;rw [aM1] at this;show (getL (G3 (mput eqI m y (getL m y++[i])) r i) n).length<=_;by_cases a:y=n
  .subst a;rw [if_pos rfl,if_neg h1] at this;simp only [cB1,cA6,List.length_nil] at this;rw [if_pos (by simp)];omega
  .rw [if_neg a] at this;have b:(n∈y::r)<->n∈r:=by simp [Ne.symm a]
   simp only [b];exact this
theorem aM3 (n:Int):∀ (l:List Ins) (i:Int) (m:Reads),(getL (N6 l i m) n).length<=(getL m n).length+l.length
 |[],i,m=>by simp [N6]
 |x::r,i,m=>by have h1:=aM3 n r (i+1) (G3 m (B0 x.from_) i);have h2:=aj1 i n (B0 x.from_) m (S7 _);simp only [N6,cA6];split at h2<;>omega
theorem bV0 (st d:Int) (e:List Ins) (f g:List Int) (sp:Spans) (rd:Reads) (l:Holds) (ce:List (Int×Int)) (op ks oc i many s t:Int) (u a:List Int) (v:List Ins) (w:st=0/\(∀ n,(getL rd n).length<=1000000)/\many=0):
  vc (EVy ylR (some au5) [(61,cContains)]) (bs1 a rd i many) Go.Proofs.Tryd.f83 ba2 (st,d,e,f,g,sp,rd,l,ce,op,ks,oc,i,many,s,t,u,a,v,()):=by
 rw [bU9 st d e f g sp rd l ce op ks oc i many s t u a v];intro x y _ _ _ _ o _;have c:a.length<=140737488355328:=o.len;have p:x=(0,d,e,f,g,sp,G3 rd (B0 a) i,l,ce,op,ks,oc,i,many+(B0 a).length,()):=rfl
 clear_value x
 dsimp only [y];simp only [true_and,and_true];refine ⟨⟨(0,0,rd,many,()),rfl,w.1,rfl,rfl,Int.le_refl _,by dsimp only;omega,rfl,rfl,by simp [B0,G5]⟩,?_⟩;rintro ⟨j,s0,m,mm,⟨⟩⟩ ⟨h0,h1,h2,h3,h4⟩;dsimp only at h0 h1 h2 h3 h4 |-;obtain ⟨k,rfl⟩:=cz6 h0;simp only [cz4] at h3 h4 |-;subst h2;refine ⟨λb=>?_,λr=>?_⟩
 .have b:(k:Int)<a.length:=cA0 b;have hs:=aS7 (a.take k) (a.getD k 0);rw [<-A4 (by omega)] at hs;have hl:=ai7 (a.take k);rw [cB9] at hl;refine ⟨⟨h0,b⟩,⟨h0,by omega⟩,λq=>?_,λq=>⟨⟨rfl,λn=>?_,by omega,by omega⟩,λh=>(by cases h),λ_=>?_⟩⟩
  .rw [q] at hs;exact ⟨((k+1:Nat),0,m,mm,()),B5 (by omega) c,rfl,rfl,rfl,⟨by omega,by dsimp only;omega,rfl,by dsimp only;rw [cz4,hs];exact h3,by dsimp only;rw [cz4,hs];exact h4⟩,by dsimp only;omega⟩
  .have z:=aj1 i n (B0 (a.take k)) rd (S7 _);have B:=w.2.1 n;rw [h3];split at z<;>omega
  .rw [q,cond_false] at hs;refine ⟨((k+1:Nat),0,_,_,()),B5 (by omega) c,rfl,rfl,rfl,⟨by omega,by dsimp only;omega,rfl,?_,?_⟩,by dsimp only;omega⟩
   .dsimp only;rw [cz4,hs,ba3,<-h3]
   .dsimp only;rw [cz4,hs,cB1,h4];simp only [cA6,List.length_nil];omega
 .have A:k=a.length:=by have:¬ (k:Int)<a.length:=cz9 r;omega
  subst A;rw [cB8] at h3 h4;rw [p,h3,h4]
theorem bJ0:ItOk itAlloc:=by
 intro f k kY mp h Y' p;unfold itAlloc at h;cases hf:Nat.beq f 83 with
 |false=>rw [hf] at h;cases h
 |true=>
  have hf:=cz1 hf;subst hf;simp only [Nat.beq_refl,cond_true,List.mem_cons,List.not_mem_nil,or_false,cA2] at h;obtain ⟨rfl,rfl,rfl⟩:=h;exact al2 (E:=EVy ylR (some au5) [(61,cContains)]) (cb7 _ _ _) ⟨Z8 (λx a=>by rcases List.mem_cons.1 a with rfl|a;exact N9 _;cases a),λ_ _ _ _ _ h=>(by cases h),λ_ _ _ h=>(by cases h),λk q=>by cases q;exact p,λ_ _ _ _ h=>(by cases h)⟩ bp1 Go.Proofs.Tryd.func83 (by kernel_rfl)
    (λ(st,c,d,e,g,sp,rd,j,ce,op,ks,oc,i,many,l,m,n,b,o,())=>bs1 b rd i many) (λ(st,c,d,e,g,sp,rd,j,ce,op,ks,oc,i,many,l,m,n,b,o,()) r=>bV0 st c d e g sp rd j ce op ks oc i many l m n b o r) (by kernel_rfl) rfl
theorem ax7:∀ {l:List Ins},J1 l=true->∀ x∈l,aw6 x=true
 |[],_,x,a=>by simp at a
 |y::r,h,x,a=>by
  simp only [J1,cz3] at h;rcases List.mem_cons.1 a with rfl|a
  .exact h.1
  .exact ax7 h.2 x a
theorem cf4 (a:Int) (b:List Ins) (c d:List Int) (ks:Int) (hp:S5 b=true/\J1 b=true/\c.length<=8796093022200):vc (EVd [] itAlloc [(41,cCheck),(51,cSpans),(52,cReads),(53,cDo),(54,cSlot)]) (bU8 a b c ks) Go.Proofs.Tryd.f15 cAlloc (a,b,c,d,ks,()):=by
 rw [cf3 a b c d ks];intro O Y e2 Z P e5 N _ _ _;obtain ⟨Q,R,hp3⟩:=hp;have o:O=((B8 ⟨a,b,c,d⟩ ks).1.params,(B8 ⟨a,b,c,d⟩ ks).1.slots,(B8 ⟨a,b,c,d⟩ ks).1.cells,(B8 ⟨a,b,c,d⟩ ks).1.code,(B8 ⟨a,b,c,d⟩ ks).1.out,(B8 ⟨a,b,c,d⟩ ks).2,()):=rfl;have s:N=E8 ⟨a,b,c,d⟩:=rfl;have y:P=(N !=0):=rfl;have z:Y=(decide (ks<1)||decide (ks >64)):=rfl;have S:Z=ins0:=rfl;have hA:B8 ⟨a,b,c,d⟩ ks=if E8 ⟨a,b,c,d⟩≠0 then (aJ2,E8 ⟨a,b,c,d⟩) else if ks<1\/64<ks then (aJ2,2) else if b.all (fewX ks)=false then (aJ2,9)
   else (⟨a,ks,(runA (A5 a b c) (D6 b) ks b.length b 0 (G9 a)).ocells,(runA (A5 a b c) (D6 b) ks b.length b 0 (G9 a)).code,c.map (outA (runA (A5 a b c) (D6 b) ks b.length b 0 (G9 a)) ks)⟩,0):=rfl
 rw [hA] at o;clear hA
 clear_value O Y Z P
 subst S;have D:P=true->((0:Int),(0:Int),(0:Int),([]:List RIns),([]:List Place),N,())=O:=λh=>by
  have:E8 ⟨a,b,c,d⟩≠0:=by rw [y] at h;simpa [s] using h
  rw [o,if_pos this,<-s];rfl
 refine ⟨D,λh4=>⟨λh=>?_,λh=>?_⟩⟩
 .have E:¬ E8 ⟨a,b,c,d⟩≠0:=by rw [y] at h4;simpa [s] using h4
  have F:ks<1\/64<ks:=by rw [z] at h;simp only [Bool.or_eq_true,cB2] at h;omega
  rw [o,if_neg E,if_pos F];rfl
 have E:E8 ⟨a,b,c,d⟩=0:=by rw [y] at h4;simpa [s] using h4
 have F:1<=ks/\ks<=64:=by rw [z] at h;simp only [Bool.or_eq_false_iff,decide_eq_false_iff_not] at h;omega
 have C:=bq8 E;rw [if_neg (by rw [E];simp),if_neg (by omega)] at o;clear D E s
 clear_value N
 clear y z h4 h;have hlen:=C.len;have G:=C.pos;have hfew:=C.few;dsimp only [e2,e5];simp only [true_and,and_true,Bool.cond_self,Bool.and_true,bj4];refine ⟨C.few,⟨(0,[],()),rfl,rfl,Int.le_refl _,by dsimp only;omega,rfl,rfl⟩,?_⟩;rintro ⟨j,rd,⟨⟩⟩ ⟨h0,h1,h2,h3⟩;dsimp only at h0 h1 h2 h3 |-;obtain ⟨k,rfl⟩:=cz6 h0;simp only [cz4] at h2 h3 |-;refine ⟨λe=>?_,λg=>?_⟩
 .have e:(k:Int)<b.length:=cA0 e;have f:k<b.length:=by omega
  have hb:∀ x:Bool,fewX ks (b.getD k ins0)=x->b.all (fewX ks)=true->x=true:=λx h1 h2=>by rw [<-h1];exact cC0.1 h2 _ (E7 f _)
  have p:N6 (b.take (k+1)) 0 []=G3 rd (B0 (b.getD k ins0).from_) k:=by rw [A4 f ins0,aj0,cB9,Nat.min_eq_left (by omega),<-h2];simp
  have r:fewX ks (b.getD k ins0)=true->(b.take (k+1)).all (fewX ks)=true:=λh=>at7 ins0 f h3 h;have t:fewX ks (b.getD k ins0)=false->b.all (fewX ks)=false:=λh=>aY8 ins0 f h;obtain ⟨x,T⟩:∃ x,b.getD k ins0=x:=⟨_,rfl⟩;simp only [T] at hb p r t |-;have H:(decide ((0:Int)+((B0 x.from_).length:Int) >ks)||decide ((x.to.length:Int) >ks))=!fewX ks x:=by unfold fewX;rw [Bool.eq_iff_iff];simp only [Bool.or_eq_true,cB2,Bool.not_eq_true',Bool.and_eq_false_iff,decide_eq_false_iff_not];omega
  rw [H];refine ⟨⟨h0,e⟩,?_,?_,λq=>?_,λq=>?_⟩
  .rintro ⟨n,st,a0,a1,a2,a3,sp,rd2,ho,ce,op,ks2,oc,i,many,⟨⟩⟩ ⟨q1,q2,q3,q4⟩ _ _ _;dsimp only at q1 q2 q3 q4 |-;have q5:=q2 n;refine ⟨q1,?_,?_⟩
   .show ((getL rd2 n).length+1)*8<=_;omega
   .rw [F8 (by omega) (by omega)];rfl
  .intro n;have:=aM3 n (b.take k) 0 [];rw [<-h2,cB9] at this;have hg:(getL ([]:Reads) n).length=0:=rfl;omega
  .have q:fewX ks x=false:=by simpa using q
   rw [o,if_pos (t q)];rfl
  .have q:fewX ks x=true:=by simpa using q
   exact ⟨((k+1:Nat),_,()),B5 f (by omega),rfl,⟨by omega,by dsimp only;omega,by dsimp only;rw [cz4,p];rfl,by dsimp only;rw [cz4];exact r q⟩,by dsimp only;omega⟩
 have I:k=b.length:=by have:¬ (k:Int)<b.length:=cz9 g;omega
 subst I;rw [cB8] at h2 h3;have U:rd=D6 b:=h2;subst U;clear h2 h0 h1 g;rw [if_neg (by rw [h3];simp)] at o;refine ⟨⟨(0,[],()),rfl,rfl,Int.le_refl _,G,rfl⟩,?_⟩;rintro ⟨j,ce,⟨⟩⟩ ⟨h0,h1,h2⟩;dsimp only at h0 h1 h2 |-;obtain ⟨k,rfl⟩:=cz6 h0;simp only [cz4] at h2 |-;subst h2;refine ⟨λe=>?_,λg=>?_⟩
 .have e:(k:Int)<a:=cA0 e;refine ⟨((k+1:Nat),aa2 (k+1),()),?_,(aM2 k).symm,⟨by omega,by dsimp only;omega,by dsimp only;rw [cz4]⟩,by dsimp only;omega⟩;rw [F8 (by omega) (by omega)];rfl
 have I:(k:Int)=a:=by have:¬ (k:Int)<a:=cz9 g;omega
 have V:G9 a=⟨[],aa2 k,a,[]⟩:=by
  have:a.toNat=k:=by omega
  simp only [G9,this]
 clear h0 h1 g;refine ⟨⟨(0,[],aa2 k,a,[],()),rfl,rfl,rfl,rfl,rfl,Int.le_refl _,by dsimp only;omega,by simp only [Int.toNat_zero,List.take_zero,runA];exact V⟩,?_⟩;rintro ⟨j,m,cc,oc,q,⟨⟩⟩ ⟨h0,h1,h2⟩;dsimp only at h0 h1 h2 |-;obtain ⟨u,rfl⟩:=cz6 h0;simp only [cz4] at h2 |-;have W:=ba1 F.2 (A5 a b c) (D6 b) b.length (b.take u) 0 (G9 a) (cC0.2 λx hx=>cC0.1 h3 x (List.mem_of_mem_take hx));rw [h2,cB9] at W;simp only [G9,List.length_nil] at W;refine ⟨λe=>?_,λg=>?_⟩
 .have e:(u:Int)<b.length:=cA0 e;have f:u<b.length:=by omega
  have X:=(aM0 C h3 (A5 a b c) (D6 b) b.length u (by omega)).2 f;rw [h2] at X;have v:runA (A5 a b c) (D6 b) ks b.length (b.take (u+1)) 0 (G9 a)=doOf (A5 a b c) (D6 b) ks b.length u (b.getD u ins0) ⟨m,cc,oc,q⟩:=by rw [A4 f ins0,au3,cB9,Nat.min_eq_left (by omega),h2]
  have w:=E7 f ins0;have J:=ax7 R _ w;have A:=cC0.1 Q _ w;have K:=cC0.1 h3 _ w;generalize b.getD u ins0=x at X v J A K |-;simp only [cz3,cB2] at A;simp only [fewX,cz3,cB2] at K;refine ⟨⟨h0,e⟩,⟨al8.2 ((O0 x).1 J),A.1,by omega,by omega,an4 b,X,F.2,by omega,by omega,by omega,by omega,by omega⟩,((u+1:Nat),_,_,_,_,()),B5 f (by omega),rfl,rfl,rfl,rfl,⟨by omega,by dsimp only;omega,?_⟩,by dsimp only;omega⟩;dsimp only;rw [cz4,v];rfl
 have L:u=b.length:=by have:¬ (u:Int)<b.length:=cz9 g;omega
 subst L;rw [cB8] at h2;rw [h2] at o |-;clear h0 h1 g W;dsimp only at o;refine ⟨⟨(0,[],()),rfl,rfl,Int.le_refl _,by dsimp only;omega,rfl⟩,?_⟩;rintro ⟨j,l,⟨⟩⟩ ⟨h0,h1,h4⟩;dsimp only at h0 h1 h4 |-;obtain ⟨B,rfl⟩:=cz6 h0;simp only [cz4] at h4 |-;subst h4;refine ⟨λe=>?_,λg=>?_⟩
 .have e:(B:Int)<c.length:=cA0 e;have f:B<c.length:=by omega
  refine ⟨⟨h0,e⟩,F.2,?_,((B+1:Nat),_,()),B5 f (by omega),rfl,⟨by omega,by dsimp only;omega,?_⟩,by dsimp only;omega⟩
  .rw [cC1,cB9];simp only [cA6,List.length_nil];omega
  .dsimp only;rw [cz4,A4 f 0,List.map_append];congr 1;show _=[outA _ ks (c.getD B 0)];generalize c.getD B 0=n;unfold outA;dsimp only;cases hc:(C4 m ks n).cell with
   |true=>rfl
   |false=>simp only [cond_false];rw [<-hc]
 .have M:B=c.length:=by have:¬ (B:Int)<c.length:=cz9 g;omega
  subst M;rw [cB8,o]
theorem aM4:C8 prog RG 15 cAlloc:=by7 bJ0 (A7 ap9 (A7 aK7 (A7 aL7 (A7 cf1 (A7 ax3 B7))))) (λp=>bU8 p.1 p.2.1 p.2.2.1 p.2.2.2.2.1) (by kernel_rfl) (by kernel_rfl) (by kernel_rfl) λ(a,b,c,d,ks,()) e=>cf4 a b c d ks e
def insI (to:Int) (fr:List Int):Ins:=⟨1,0,[to],fr,[]⟩
def J4:VFun:=⟨2,[insI 2 [0,1],insI 3 [2,0],insI 4 [3,1],insI 5 [4,2]],[5],[]⟩
def cIns:Con RU:=con [one,one] [i64,ints] [(true,5)] aA3 [false,false,false,false,false] none λp=>(1,0,[p.1],p.2.1,[],())
def cFour:Con RU:=con [] [] [(true,4)] at3 [false,false,false,false] none λ_=>(2,J4.code,[5],[],())
abbrev bV1:List Ty:=[i64,i64,i64,i64,i64,ints,ints,inss]
abbrev own8:List Bool:=[false,false,false,false,false,false,false,false]
def cLoadI:Con RU:=con [one,one] [i64,i64] [(true,8)] bV1 own8 none λp=>(1,p.1,p.2.1,0,0,[],[],[],())
def cStoreI:Con RU:=con [one,one] [i64,i64] [(true,8)] bV1 own8 none λp=>(2,p.1,p.2.1,0,0,[],[],[],())
def cDoI:Con RU:=con [one,one] [i64,ints] [(true,8)] bV1 own8 none λp=>(0,0,0,1,0,[p.1],p.2.1,[],())
def cf5 (x y:RIns):Bool:=(x.kind==y.kind)&&((x.kind==0)&&insB x.ins y.ins||((x.kind !=0)&&(x.slot==y.slot)&&(x.cell==y.cell)))
def X9 (l m:List RIns) (k:Nat):Bool:=(decide (l.length=m.length))&&((l.zip m).take k).all λp=>cf5 p.1 p.2
def bs2 (l m:List RIns):Bool:=X9 l m l.length
def cSame:Con RU:=con [one,one] [aX4,aX4] [one] [.bool] [false] none λp=>(bs2 p.1 p.2.1,())
def cr2 (l m:List RIns):Nat->St RU->Ann RU:=λ_ _=>⟨[],[.slot 5,.slot 6],[.bool,i64],λp=>0<=p.2.1/\p.2.1<=l.length/\p.1=X9 l m p.2.1.toNat,λp=>l.length-p.2.1.toNat,[]⟩
def cSlotted:Con RU:=con [] [] [one] [.bool] [false] none λ_=>(true,())
end Go.Rg
end
section
namespace Go.Proofs.YtknhkhdbonjhgaaDoor
open Go.ChangeShapes Go.WideShapes Go.ChangeAt Go.RowKit Go.VT
theorem own:ownKnob Tryd.prog.godebug=none:=by kernel_rfl
theorem cr3:laidOutB Tryd.prog=true:=by kernel_rfl
theorem cw2:Tryd.prog.globalNamed "sheafworks/regs.never"=some 1:=by kernel_rfl
theorem cf6:Tryd.prog.globalNamed "sheafworks/regs.nowhere"=some 0:=by kernel_rfl
theorem cw3:(Tryd.prog.globals[1]?).map (·.type)=some 107:=by kernel_rfl
theorem cf7:(Tryd.prog.globals[0]?).map (·.type)=some 59:=by kernel_rfl
abbrev bJ1:List (String×DataW Unit):=[("sheafworks/regs.never",Rows.laid_sheafworks_regs_never),("sheafworks/regs.nowhere",Rows.laid_sheafworks_regs_nowhere)]
theorem cf8 (os:Os) (args:Array Value):laidMetH Tryd.prog bJ1 ((World.doorLaid Tryd.prog 600 os).forCall (λ_ _=>0) ⟨#[],args,[]⟩).memory:=
 laidMetH_of_parts3 (fuel:=8) (laidMet_of_run' 8 (by kernel_rfl) (by kernel_rfl)) (by kernel_rfl) (by kernel_rfl)
theorem aM5:Tryd.prog.cellsOf 3=1:=by kernel_rfl
theorem cw4:Tryd.prog.cellsOf 4=1:=by kernel_rfl
theorem cr4:Tryd.prog.cellsOf 22=1:=by kernel_rfl
theorem bV2:Tryd.prog.cellsOf 23=1:=by kernel_rfl
theorem bs3:Tryd.prog.cellsOf 52=5:=by kernel_rfl
theorem cr5:Tryd.prog.cellsOf 59=2:=by kernel_rfl
theorem cf9:Tryd.prog.cellsOf 107=2:=by kernel_rfl
theorem cw5:Tryd.prog.bytesOf 3=8:=by kernel_rfl
theorem cr6:Tryd.prog.bytesOf 52=88:=by kernel_rfl
theorem aS8 {W:World} {g i:Nat} {v:Value} (h:W.cell? ⟨g,i,none⟩=some v):g<W.heap.size:=by
 unfold World.cell? at h;cases a:W.heap[g]? with
 |none=>simp [a] at h
 |some ob=>exact (cA8.1 a).1
theorem cr7 {W:World} (h:laidMetH Tryd.prog bJ1 W):∀ g fs,(g,fs)∈Go.Rg.RG->g<W.heap.size/\∀ i f,fs.cell i=some f->W.cell? ⟨g,i,none⟩=some f:=by
 obtain ⟨ps,⟨I,J,cs1,fuel1,K,L,a,q,e,r,⟨M,t0,cs0,fuel0,p0,N,b,s,k,t,_⟩,_⟩,_⟩:laidMet Tryd.prog bJ1 W:=h;obtain rfl:=Option.some.inj (cw2.symm.trans a);obtain rfl:=Option.some.inj (cf6.symm.trans b);obtain rfl:=Option.some.inj (cw3.symm.trans q);obtain rfl:=Option.some.inj (cf7.symm.trans s);obtain ⟨O,P,n,p,hl,c,d⟩:=trod_struct2 Tryd.underlying107 r;obtain ⟨Q,R,m,kx,kl,ky1,ky2⟩:=trod_struct2 Tryd.underlying59 t;rw [cf9] at hl;rw [cr5] at kl;obtain ⟨S,eu1,u⟩:=aR4 (cs:=cs1.toList) (j:=0) (by omega);obtain ⟨T,eu2,v⟩:=aR4 (cs:=cs1.toList) (j:=1) (by omega);obtain ⟨w1,ew1,w⟩:=aR4 (cs:=cs0.toList) (j:=0) (by omega);obtain ⟨U,ew2,x⟩:=aR4 (cs:=cs0.toList) (j:=1) (by omega);dsimp only at c d ky1 ky2;rw [aM5,u] at c;rw [aM5,v] at d;rw [cw4,w] at ky1;rw [aM5,x] at ky2;obtain ⟨V,A,E,_⟩:=DataW.trod_int Tryd.underlying3 c;obtain ⟨X,B,F,_⟩:=DataW.trod_int Tryd.underlying3 d;obtain ⟨Y,C,G⟩:=DataW.trod_bool Tryd.underlying4 ky1;obtain ⟨Z,D,H,_⟩:=DataW.trod_int Tryd.underlying3 ky2;rw [E,F] at p;rw [G,H] at kx;simp only [Rows.laid_sheafworks_regs_never,cA2,DataW.agg.injEq,List.cons.injEq,DataW.lit.injEq,Lit.int.injEq,true_and,and_true] at p;simp only [Rows.laid_sheafworks_regs_nowhere,cA2,DataW.agg.injEq,List.cons.injEq,DataW.lit.injEq,Lit.int.injEq,Lit.bool.injEq,true_and,and_true] at kx;simp only [List.cons.injEq,and_true] at A B C D;rw [A,<-p.1.1] at eu1;rw [B,<-p.1.2] at eu2;rw [C,<-kx.1.1] at ew1;rw [D,<-kx.1.2] at ew2;have l:W.cell? ⟨1,0,none⟩=some (.int .i64 0):=by rw [World.var?_cell a e 0];simpa using eu1
 have y:W.cell? ⟨1,1,none⟩=some (.int .i64 (-1)):=by rw [World.var?_cell a e 1];simpa using eu2
 have o:W.cell? ⟨0,0,none⟩=some (.bool true):=by rw [World.var?_cell b k 0];simpa using ew1
 have z:W.cell? ⟨0,1,none⟩=some (.int .i64 (-1)):=by rw [World.var?_cell b k 1];simpa using ew2
 intro g fs hm;simp only [Go.Rg.RG,List.mem_cons,List.not_mem_nil,or_false,cA2] at hm;rcases hm with ⟨rfl,rfl⟩|⟨rfl,rfl⟩
 .refine ⟨aS8 o,λi f hf=>?_⟩
  match i,hf with
  |0,hf=>cases hf;exact o
  |1,hf=>cases hf;exact z
  |_+2,hf=>simp [Glob.cell] at hf
 .refine ⟨aS8 l,λi f hf=>?_⟩
  match i,hf with
  |0,hf=>cases hf;exact l
  |1,hf=>cases hf;exact y
  |_+2,hf=>simp [Glob.cell] at hf
def readL:List (TypeId×Ty):=[(3,Go.Rg.i64),(4,.bool),(52,.user 0),(23,Go.Rg.ints),(22,Go.Rg.inss)]
theorem cr8:by4 Tryd.prog Go.Rg.RU readL:=by
 intro t ty hm;simp only [readL,List.mem_cons,cA2,List.not_mem_nil,or_false] at hm;rcases hm with ⟨rfl,rfl⟩|⟨rfl,rfl⟩|⟨rfl,rfl⟩|⟨rfl,rfl⟩|⟨rfl,rfl⟩
 .exact Tryd.underlying3
 .exact Tryd.underlying4
 .refine ⟨_,Tryd.underlying52,bs3,rfl,λj f ty' hf a=>?_⟩
  match j,hf,a with
  |0,hf,a=>cases hf;cases a;exact ⟨rfl,aM5,rfl,by simp [readL]⟩
  |1,hf,a=>cases hf;cases a;exact ⟨rfl,aM5,rfl,by simp [readL]⟩
  |2,hf,a=>cases hf;cases a;exact ⟨rfl,bV2,rfl,by simp [readL]⟩
  |3,hf,a=>cases hf;cases a;exact ⟨rfl,bV2,rfl,by simp [readL]⟩
  |4,hf,a=>cases hf;cases a;exact ⟨rfl,cr4,rfl,by simp [readL]⟩
  |j+5,hf,a=>simp [Go.Rg.RU] at a
 .exact ⟨Tryd.underlying23,aM5,by rw [aM5];decide,by rw [cw5];decide,by simp [readL]⟩
 .exact ⟨Tryd.underlying22,bs3,by rw [bs3];decide,by rw [cr6];decide,by simp [readL]⟩
theorem cr9:cb6 Tryd.prog Go.Rg.RU readL 3 false [Go.Rg.i64]:=.inl ⟨rfl,_,rfl,rfl,by simp [readL]⟩
theorem cg0:cb6 Tryd.prog Go.Rg.RU readL 23 false [Go.Rg.ints]:=.inl ⟨rfl,_,rfl,rfl,by simp [readL]⟩
theorem au6 {H:Type} {enc:TypeId×Value->H} {W W':World} (f:Below W.heap.size W W'):∀ {ts:List TypeId} {vs:List Value} {ds:List (DataW H)} {ps:List MemPlace},(∀ t∈ts,Tryd.prog.readableRec t=true/\t<Tryd.prog.types.size)->
  DataW.TrodAll enc Tryd.prog W 0 (λ_=>true) true ts vs ds ps->(∀ x∈ps,x.block<W.heap.size)->DataW.TrodAll enc Tryd.prog W' 0 (λb=>decide (b<W.heap.size)) true ts vs ds ps
 |[],[],[],ps,_,h,_=>h
 |[],_::_,_,_,_,h,_=>h.elim
 |[],[],_::_,_,_,h,_=>h.elim
 |_::_,[],_,_,_,h,_=>h.elim
 |_::_,_::_,[],_,_,h,_=>h.elim
 |t::ts,v::vs,d::ds,ps,c,h,a=>by obtain ⟨p,q,h1,h2,rfl⟩:=h;exact ⟨p,q,Below.trod cr3 (c t (by simp)).1 (c t (by simp)).2 h1 f (λx e=>a x (by simp [e])),au6 f (λt' h'=>c t' (by simp [h'])) h2 (λx e=>a x (by simp [e])),rfl⟩
theorem cg1 {H:Type} {enc:TypeId×Value->H} {fn:Func} {s:ChangeSpec} (hs:s.vars=[]) {W W':World} {args:Array Value} {ds gs:List (DataW H)} {ah6:List MemPlace}
  (e:DataW.Whole enc Tryd.prog fn.params.toList s.vars false W args.toList ds gs ah6) (f:Below W.heap.size W W') (b:fn.resultTypes=#[4])
  (a:s.fn H ds={ results:=[.lit (.bool true)],args:=ds }) (i:∀ t∈fn.params.toList,Tryd.prog.readableRec t=true/\t<Tryd.prog.types.size):
  s.post enc Tryd.prog fn false true false false W args (.bool true) W':=by
 have c:=e;obtain ⟨p,q,j,d,rfl,k,l⟩:=e;rw [hs] at d;obtain ⟨rfl,rfl⟩:gs=[]/\q=[]:=by
  cases gs with
  |nil=>exact ⟨rfl,d⟩
  |cons g r=>exact absurd d (by intro h;cases h)
 refine ⟨ds,[],p++[],[],p,[],c,?_,?_,?_,f.frame _,λh=>by cases h⟩
 .rw [List.append_nil,a,b];exact trodAll_mk1 (shut_bool Tryd.underlying4 true)
 .rw [List.append_nil,a];exact au6 f i j (λx m=>c.lt x (by simp [m]))
 .rw [List.append_nil,a,hs];rfl
theorem aM6 {H:Type} {enc:TypeId×Value->H} {P:Program} {w:World} {base:Nat} {sp:Nat->Bool} {held:Bool}:∀ {ts:List TypeId} {vs:List Value} {ds:List (DataW H)} {ps:List MemPlace},DataW.TrodAll enc P w base sp held ts vs ds ps->ds.length=ts.length
 |[],[],[],_,_=>rfl
 |[],_::_,_,_,h=>h.elim
 |[],[],_::_,_,h=>h.elim
 |_::_,[],_,_,h=>h.elim
 |_::_,_::_,[],_,h=>h.elim
 |t::ts,v::vs,d::ds,ps,h=>by obtain ⟨p,q,_,h2,_⟩:=h;simp [aM6 h2]
end Go.Proofs.YtknhkhdbonjhgaaDoor
end
section
namespace Go.Rg
open Go Go.VT
theorem cw6 (a:Int) (b:List Int):vc (EV []) noL Go.Proofs.Tryd.f46 cIns (a,b,())=(
 let c:Int×Int×List Int×List Int×List Ins×Unit:=((1:Int),(0:Int),[a],b,[],());
  Small RU (Sigma.mk (Ty.slice (3:Nat) (Ty.int IntKind.i64)) b)->c=c):=by kernel_rfl
theorem cg2 (a b:Int):vc (EV []) noL Go.Proofs.Tryd.f47 cLoadI (a,b,())=(
 let c:Int×Int×Int×Int×Int×List Int×List Int×List Ins×Unit:=((1:Int),a,b,(0:Int),(0:Int),[],[],[],());
  c=c):=by kernel_rfl
theorem bV3 (a b:Int):vc (EV []) noL Go.Proofs.Tryd.f48 cStoreI (a,b,())=(
 let c:Int×Int×Int×Int×Int×List Int×List Int×List Ins×Unit:=((2:Int),a,b,(0:Int),(0:Int),[],[],[],());
  c=c):=by kernel_rfl
theorem cw7 (a:Int) (b:List Int):vc (EV [(46,cIns)]) noL Go.Proofs.Tryd.f49 cDoI (a,b,())=(
 let c:Int×Int×Int×Int×Int×List Int×List Int×List Ins×Unit:=((0:Int),(0:Int),(0:Int),(1:Int),(0:Int),[a],b,[],());
  Small RU (Sigma.mk (Ty.slice (3:Nat) (Ty.int IntKind.i64)) b)->c=c):=by kernel_rfl
theorem cs3 (l m:List RIns):vc (EV [(57,cSameIns)]) (cr2 l m) Go.Proofs.Tryd.f45 cSame (l,m,())=(
 let b:RIns:=RIns.mk (0:Int) (0:Int) (0:Int) ins0;
 let c:Int:=(↑(List.length l):Int);
 let e:Int:=(↑(List.length m):Int);
  Small RU (Sigma.mk (Ty.slice (55:Nat) (Ty.user (1:Nat))) l)->
  Small RU (Sigma.mk (Ty.slice (55:Nat) (Ty.user (1:Nat))) m)->
  (∃ (p:Bool×Int×Unit),l=l/\m=m/\false=false/\(c==e)=p.1/\(0:Int)=p.2.1/\(0:Int)<=p.2.1/\p.2.1<=c/\p.1=X9 l m (Int.toNat p.2.1))/\
  ∀ (p:Bool×Int×Unit),
 let e0_1:Bool:=
  (List.getD l (Int.toNat p.2.1) b).kind==(0:Int)&&
  insB
  (Ins.mk (List.getD l (Int.toNat p.2.1) b).ins.op (List.getD l (Int.toNat p.2.1) b).ins.n (List.getD l (Int.toNat p.2.1) b).ins.to
  (List.getD l (Int.toNat p.2.1) b).ins.from_ (List.getD l (Int.toNat p.2.1) b).ins.body)
  (Ins.mk (List.getD m (Int.toNat p.2.1) b).ins.op (List.getD m (Int.toNat p.2.1) b).ins.n (List.getD m (Int.toNat p.2.1) b).ins.to
  (List.getD m (Int.toNat p.2.1) b).ins.from_ (List.getD m (Int.toNat p.2.1) b).ins.body);
 let e1_1:Bool:=(List.getD l (Int.toNat p.2.1) b).kind !=(0:Int)&&(List.getD l (Int.toNat p.2.1) b).slot==(List.getD m (Int.toNat p.2.1) b).slot;
 let e2_1:Bool:=p.1&&decide (p.2.1<c);
 let a:Int:=p.2.1;
 let d:Bool:=(List.getD l (Int.toNat a) b).kind==(List.getD m (Int.toNat a) b).kind;
  (0:Int)<=a/\a<=c/\p.1=X9 l m (Int.toNat a)->
  (e2_1=true->
  ((0:Int)<=a/\a<c)/\
  ((0:Int)<=a/\a<e)/\
  (d=true->(0:Int)<=a/\a<c)/\
  (d=true->((List.getD l (Int.toNat a) b).kind==(0:Int))=true->(0:Int)<=a/\a<c)/\
  (d=true->((List.getD l (Int.toNat a) b).kind==(0:Int))=true->(0:Int)<=a/\a<e)/\
  (d=true->e0_1=false->(0:Int)<=a/\a<c)/\
  (d=true->e0_1=false->((List.getD l (Int.toNat a) b).kind !=(0:Int))=true->(0:Int)<=a/\a<c)/\
  (d=true->e0_1=false->((List.getD l (Int.toNat a) b).kind !=(0:Int))=true->(0:Int)<=a/\a<e)/\
  (d=true->e0_1=false->e1_1=true->(0:Int)<=a/\a<c)/\
  (d=true->e0_1=false->e1_1=true->(0:Int)<=a/\a<e)/\
  ∃ (p':Bool×Int×Unit),
  l=l/\
  m=m/\
  false=false/\
  (d&&(e0_1||e1_1&&(List.getD l (Int.toNat a) b).cell==(List.getD m (Int.toNat a) b).cell))=p'.1/\
  IntKind.i64.wrap (a+(1:Int))=p'.2.1/\
  ((0:Int)<=p'.2.1/\p'.2.1<=c/\p'.1=X9 l m (Int.toNat p'.2.1))/\
  List.length l-Int.toNat p'.2.1<List.length l-Int.toNat a)/\
  (e2_1=false->(p.1,())=(bs2 l m,()))):=by kernel_rfl
theorem cs4:vc (EV [(46,cIns)]) noL Go.Proofs.Tryd.f50 cFour ()=(
 let a:List Int×List Int×Unit:=([(5:Int)],[],());
  ((2:Int),
  [Ins.mk (1:Int) (0:Int) [(2:Int)] [(0:Int),(1:Int)] [],Ins.mk (1:Int) (0:Int) [(3:Int)] [(2:Int),(0:Int)] [],
  Ins.mk (1:Int) (0:Int) [(4:Int)] [(3:Int),(1:Int)] [],Ins.mk (1:Int) (0:Int) [(5:Int)] [(4:Int),(2:Int)] []],
  a)=
  ((2:Int),J4.code,a)):=by kernel_rfl
theorem bJ2:vc (EV [(50,cFour),(33,cLive),(29,cPress),(15,cAlloc),(20,cBack),(17,cCount),(41,cCheck),(22,cValid),(47,cLoadI),(48,cStoreI),(49,cDoI),(45,cSame),(43,cEqualLists),(24,cSameVec)]) noL Go.Proofs.Tryd.f14 cSlotted ()=(
 let c:VFun:=
  (M2
  (RCode.mk (B8 (VFun.mk (2:Int) J4.code [(5:Int)] []) (2:Int)).1.params (B8 (VFun.mk (2:Int) J4.code [(5:Int)] []) (2:Int)).1.slots
  (B8 (VFun.mk (2:Int) J4.code [(5:Int)] []) (2:Int)).1.cells (B8 (VFun.mk (2:Int) J4.code [(5:Int)] []) (2:Int)).1.code
  (B8 (VFun.mk (2:Int) J4.code [(5:Int)] []) (2:Int)).1.out)).1;
 let e:Bool:=
  (Q5 (VFun.mk (2:Int) J4.code [(5:Int)] [])).2 !=(0:Int)||(X4 (VFun.mk (2:Int) J4.code [(5:Int)] [])).2 !=(0:Int)||
  (B8 (VFun.mk (2:Int) J4.code [(5:Int)] []) (3:Int)).2 !=(0:Int)||
  (B8 (VFun.mk (2:Int) J4.code [(5:Int)] []) (2:Int)).2 !=(0:Int)||
  (B8 (VFun.mk (2:Int) J4.code [(5:Int)] []) (1:Int)).2 !=(9:Int)||
  (M2
  (RCode.mk (B8 (VFun.mk (2:Int) J4.code [(5:Int)] []) (2:Int)).1.params (B8 (VFun.mk (2:Int) J4.code [(5:Int)] []) (2:Int)).1.slots
  (B8 (VFun.mk (2:Int) J4.code [(5:Int)] []) (2:Int)).1.cells (B8 (VFun.mk (2:Int) J4.code [(5:Int)] []) (2:Int)).1.code
  (B8 (VFun.mk (2:Int) J4.code [(5:Int)] []) (2:Int)).1.out)).2 !=
  (0:Int)||
  E8 (VFun.mk (2:Int) J4.code [(5:Int)] []) !=(0:Int)||
  L8
  (RCode.mk (B8 (VFun.mk (2:Int) J4.code [(5:Int)] []) (3:Int)).1.params (B8 (VFun.mk (2:Int) J4.code [(5:Int)] []) (3:Int)).1.slots
  (B8 (VFun.mk (2:Int) J4.code [(5:Int)] []) (3:Int)).1.cells (B8 (VFun.mk (2:Int) J4.code [(5:Int)] []) (3:Int)).1.code
  (B8 (VFun.mk (2:Int) J4.code [(5:Int)] []) (3:Int)).1.out) !=
  (0:Int);
 let f:Bool:=
  decide
  ((Q5 (VFun.mk (2:Int) J4.code [(5:Int)] [])).1=
  [[(0:Int),(1:Int)],[(0:Int),(1:Int),(2:Int)],[(1:Int),(2:Int),(3:Int)],[(2:Int),(4:Int)],[(5:Int)]])&&
  (X4 (VFun.mk (2:Int) J4.code [(5:Int)] [])).1==(3:Int)&&
  bs2 (B8 (VFun.mk (2:Int) J4.code [(5:Int)] []) (3:Int)).1.code
  [RIns.mk (1:Int) (0:Int) (0:Int) (Ins.mk (0:Int) (0:Int) [] [] []),RIns.mk (1:Int) (1:Int) (1:Int) (Ins.mk (0:Int) (0:Int) [] [] []),
  RIns.mk (0:Int) (0:Int) (0:Int) (Ins.mk (1:Int) (0:Int) [(2:Int)] [(0:Int),(1:Int)] []),
  RIns.mk (0:Int) (0:Int) (0:Int) (Ins.mk (1:Int) (0:Int) [(0:Int)] [(2:Int),(0:Int)] []),
  RIns.mk (0:Int) (0:Int) (0:Int) (Ins.mk (1:Int) (0:Int) [(0:Int)] [(0:Int),(1:Int)] []),
  RIns.mk (0:Int) (0:Int) (0:Int) (Ins.mk (1:Int) (0:Int) [(0:Int)] [(0:Int),(2:Int)] [])]&&
  bs2 (B8 (VFun.mk (2:Int) J4.code [(5:Int)] []) (2:Int)).1.code
  [RIns.mk (1:Int) (0:Int) (0:Int) (Ins.mk (0:Int) (0:Int) [] [] []),RIns.mk (1:Int) (1:Int) (1:Int) (Ins.mk (0:Int) (0:Int) [] [] []),
  RIns.mk (0:Int) (0:Int) (0:Int) (Ins.mk (1:Int) (0:Int) [(1:Int)] [(0:Int),(1:Int)] []),
  RIns.mk (0:Int) (0:Int) (0:Int) (Ins.mk (1:Int) (0:Int) [(0:Int)] [(1:Int),(0:Int)] []),RIns.mk (2:Int) (1:Int) (2:Int) (Ins.mk (0:Int) (0:Int) [] [] []),
  RIns.mk (1:Int) (1:Int) (1:Int) (Ins.mk (0:Int) (0:Int) [] [] []),RIns.mk (0:Int) (0:Int) (0:Int) (Ins.mk (1:Int) (0:Int) [(0:Int)] [(0:Int),(1:Int)] []),
  RIns.mk (1:Int) (1:Int) (2:Int) (Ins.mk (0:Int) (0:Int) [] [] []),RIns.mk (0:Int) (0:Int) (0:Int) (Ins.mk (1:Int) (0:Int) [(0:Int)] [(0:Int),(1:Int)] [])]&&
  (B8 (VFun.mk (2:Int) J4.code [(5:Int)] []) (2:Int)).1.slots==(2:Int)&&
  (B8 (VFun.mk (2:Int) J4.code [(5:Int)] []) (2:Int)).1.cells==(3:Int)&&
  (↑(List.length (B8 (VFun.mk (2:Int) J4.code [(5:Int)] []) (2:Int)).1.out):Int)==(1:Int);
 let g:Int×Int:=
  ap1
  (RCode.mk (B8 (VFun.mk (2:Int) J4.code [(5:Int)] []) (2:Int)).1.params (B8 (VFun.mk (2:Int) J4.code [(5:Int)] []) (2:Int)).1.slots
  (B8 (VFun.mk (2:Int) J4.code [(5:Int)] []) (2:Int)).1.cells (B8 (VFun.mk (2:Int) J4.code [(5:Int)] []) (2:Int)).1.code
  (B8 (VFun.mk (2:Int) J4.code [(5:Int)] []) (2:Int)).1.out);
 let a:RCode:=(B8 (VFun.mk (2:Int) J4.code [(5:Int)] []) (2:Int)).1;
 let b:VFun:=VFun.mk (2:Int) J4.code [(5:Int)] [];
 let d:RCode:=(B8 b (3:Int)).1;
  (S5 J4.code=true/\J1 J4.code=true/\List.length [(5:Int)]<=(8796093022200:Nat))/\
  (S5 J4.code=true/\J1 J4.code=true/\List.length [(5:Int)]<=(8796093022200:Nat))/\
  (S5 J4.code=true/\J1 J4.code=true/\List.length [(5:Int)]<=(8796093022200:Nat))/\
  ((-9223372036854775808:Int)<=a.slots/\a.slots<(9223372036854775808:Int)/\U3 a.code=true/\List.length a.out<=(17592186044400:Nat))/\
  (((Q5 b).2 !=(0:Int)||(X4 b).2 !=(0:Int)||(B8 b (3:Int)).2 !=(0:Int)||(B8 b (2:Int)).2 !=(0:Int)||
  (B8 b (1:Int)).2 !=(9:Int)||
  (M2 (RCode.mk a.params a.slots a.cells a.code a.out)).2 !=(0:Int)||
  E8 b !=(0:Int))=
  false->
  (-9223372036854775808:Int)<=d.slots/\d.slots<(9223372036854775808:Int)/\U3 d.code=true/\List.length d.out<=(17592186044400:Nat))/\
  (e=true->(false,())=(true,()))/\
  (e=false->
  (f=true->(0:Int)<=(0:Int)/\(0:Int)<(↑(List.length a.out):Int))/\
  (f&&(false==false&&((↑(0:Nat):Int)==(0:Int)&&true))&&g.1==(4:Int)&&g.2==(1:Int)&&
  (decide (c.params=(2:Int))&&Y4 c.code J4.code&&decide (c.out=[(5:Int)])&&decide (c.at_=[])),
  ())=
  (true,()))):=by kernel_rfl
theorem bj7:C8 prog RG 46 cIns:=E3 B7 (λ_=>noL) (by kernel_rfl) (by kernel_rfl) (by kernel_rfl) λ(a,b,()) _=>(cw6 a b).mpr (by intros;rfl)
theorem bs4:C8 prog RG 47 cLoadI:=E3 B7 (λ_=>noL) (by kernel_rfl) (by kernel_rfl) (by kernel_rfl) λ(a,b,()) _=>(cg2 a b).mpr rfl
theorem bj8:C8 prog RG 48 cStoreI:=E3 B7 (λ_=>noL) (by kernel_rfl) (by kernel_rfl) (by kernel_rfl) λ(a,b,()) _=>(bV3 a b).mpr rfl
theorem bV4:C8 prog RG 49 cDoI:=E3 (A7 bj7 B7) (λ_=>noL) (by kernel_rfl) (by kernel_rfl) (by kernel_rfl) λ(a,b,()) _=>(cw7 a b).mpr (by intros;rfl)
theorem bJ3:C8 prog RG 50 cFour:=E3 (A7 bj7 B7) (λ_=>noL) (by kernel_rfl) (by kernel_rfl) (by kernel_rfl) λ() _=>cs4.mpr (by intros;rfl)
theorem bs5 {l m:List RIns} {k:Nat} (hl:k<l.length) (h:X9 l m k=true):X9 l m (k+1)=cf5 (l.getD k rins0) (m.getD k rins0):=by
 unfold X9 at h |-;simp only [cz3,cB2] at h;obtain ⟨h1,h2⟩:=h;have a:k<(l.zip m).length:=by rw [List.length_zip];omega
 rw [A4 a (rins0,rins0),List.all_append,h2,decide_eq_true h1];simp only [Bool.true_and,List.all_cons,List.all_nil,Bool.and_true];have hg:(l.zip m).getD k (rins0,rins0)=(l.getD k rins0,m.getD k rins0):=by rw [cA4,cz2 a,cA4,cA4,cz2 hl,cz2 (by omega)];simp [List.getElem_zip]
 rw [hg]
theorem bV5 {l m:List RIns} {k:Nat} (h:X9 l m k=false):bs2 l m=false:=by unfold bs2;rw [Bool.eq_false_iff] at h |-;intro h2;refine h ?_;unfold X9 at h2 |-;simp only [cz3,cB2,cC0] at h2 |-;refine ⟨h2.1,λx a=>h2.2 x ?_⟩;rw [List.take_of_length_le (by rw [List.length_zip];omega)];exact List.mem_of_mem_take a
theorem bj9 (x:Ins):(⟨x.op,x.n,x.to,x.from_,x.body⟩:Ins)=x:=by cases x;rfl
theorem cs5 (l m:List RIns):vc (EV [(57,cSameIns)]) (cr2 l m) Go.Proofs.Tryd.f45 cSame (l,m,()):=by
 rw [cs3 l m];intro c d e hs _;have hl:l.length<=140737488355328:=hs.len;have f:c=rins0:=rfl
 clear_value c
 subst f;dsimp only [d,e];simp only [true_and,and_true];refine ⟨⟨(X9 l m 0,0,()),?_,rfl,Int.le_refl _,by dsimp only;omega,rfl⟩,?_⟩
 .dsimp only [X9];rw [List.take_zero,List.all_nil,Bool.and_true,Bool.eq_iff_iff];simp only [beq_iff_eq,cB2];omega
 rintro ⟨g,i,⟨⟩⟩ ⟨h0,h1,h2⟩;dsimp only at h0 h1 h2 |-;obtain ⟨k,rfl⟩:=cz6 h0;simp only [cz4] at h2 |-;subst h2;refine ⟨λh=>?_,λh=>?_⟩
 .simp only [cz3,cB2] at h;obtain ⟨hg,a⟩:=h;have b:=bs5 (by omega) hg;have j:l.length=m.length:=by
   unfold X9 at hg;simp only [cz3,cB2] at hg;exact hg.1
  have hm:(k:Int)<m.length:=by omega
  refine ⟨⟨h0,a⟩,⟨h0,hm⟩,λ_=>⟨h0,a⟩,λ_ _=>⟨h0,a⟩,λ_ _=>⟨h0,hm⟩,λ_ _=>⟨h0,a⟩,λ_ _ _=>⟨h0,a⟩,λ_ _ _=>⟨h0,hm⟩,λ_ _ _=>⟨h0,a⟩,λ_ _ _=>⟨h0,hm⟩,(cf5 (l.getD k rins0) (m.getD k rins0),((k+1:Nat):Int),()),by dsimp only [cf5];rw [bj9,bj9],B5 (by omega) hl,⟨by dsimp only;omega,by dsimp only;omega,?_⟩,by dsimp only;omega⟩;dsimp only;rw [cz4,b]
 .have key:X9 l m k=bs2 l m:=by
   cases hg:X9 l m k with
   |false=>exact (bV5 hg).symm
   |true=>
    rw [hg] at h;simp only [Bool.true_and,decide_eq_false_iff_not] at h;have n:k=l.length:=by omega
    subst n;exact hg.symm
  rw [key]
theorem bJ4:C8 prog RG 45 cSame:=E3 (A7 aX8 B7) (λp=>cr2 p.1 p.2.1) (by kernel_rfl) (by kernel_rfl) (by kernel_rfl) λ(l,m,()) _=>cs5 l m
theorem ba4:C8 prog RG 14 cSlotted:=E3 (A7 bJ3 (A7 aS3 (A7 br2 (A7 aM4 (A7 bH8 (A7 aJ9 (A7 ap9 (A7 aL5 (A7 bs4 (A7 bj8 (A7 bV4 (A7 bJ4 (A7 aB2 (A7 aX9 B7)))))))))))))) (λ_=>noL) (by kernel_rfl) (by kernel_rfl) (by kernel_rfl) λ() _=>bJ2.mpr (by
 refine ⟨by decide+kernel,by decide+kernel,by decide+kernel,by decide+kernel,λ_=>by decide+kernel,by decide+kernel,λ_=>⟨by decide+kernel,by decide+kernel⟩⟩)
def G6 (n b:Int):Int:=if b<1 then 0 else n % b
def cTurn:Con RU:=con [one,one] [i64,i64] [one] [i64] [false] (some λp=>p.2.1<=4611686018427387904) λp=>(G6 p.1 p.2.1,())
def Y5 (l:List Int) (n:Int):Int:=if l=[] then 0 else l.getD (n % l.length).toNat 0
def cNth:Con RU:=con [one,one] [ints,i64] [one] [i64] [false] none λp=>(Y5 p.1 p.2.1,())
def cReadsL:Con RU:=con [(true,5)] aA3 [one] [ints] [false] (some λp=>p.2.2.2.1.length<=17592186044400) λp=>(C7 [] p.2.2.2.1,())
def iota (n:Nat):List Int:=(List.range n).map Int.ofNat
def cg3 (there:List Int) (c:Int) (k:Nat):Int:=Y5 there (IntKind.i64.wrap (IntKind.i64.wrap (Int.tdiv c (1+5*(k:Int)))+k))
def O4 (there:List Int) (c:Int) (n:Nat):List Int:=(List.range n).map (cg3 there c)
def aj2 (there:List Int) (b c:Int):List Int:=if there=[] then [] else O4 there c (G6 b 4).toNat
def toK (p count:Int) (k:Nat):Int:=p+((count+k)*7+5) % 97
def Q4 (p count:Int) (n:Nat):List Int:=(List.range n).map (toK p count)
def toN (d:Int):Nat:=1+(G6 d 5).toNat / 4
abbrev BS:=List Ins×List Int×Int
def cg4 (p:Int) (l:List Int) (i:Nat) (s:BS):BS:=
 (s.1++[⟨G6 (l.getD i 0) 15,G6 (l.getD i 0) 12,Q4 p s.2.2 (toN (l.getD (i+3) 0)),aj2 s.2.1 (l.getD (i+1) 0) (l.getD (i+2) 0),[]⟩],
  s.2.1++Q4 p s.2.2 (toN (l.getD (i+3) 0)),s.2.2+toN (l.getD (i+3) 0))
def parB (l:List Int):Int:=G6 (Y5 l 0) 4
def runB (l:List Int):Nat->BS
 |0=>([],iota (parB l).toNat,0)
 |j+1=>cg4 (parB l) l (4*j+1) (runB l j)
def goB (l:List Int) (m:Int) (j:Nat):Bool:=decide (4*j+4<l.length)&&decide ((j:Int)<m)&&decide ((runB l j).2.2<90)
def endB (l:List Int) (m:Int):Nat:=((List.range 91).find? λj=>!goB l m j).getD 0
def outB (there:List Int):List Int:=if there=[] then [] else [Y5 there (there.length-1),Y5 there (there.length-3)]
def M7 (l:List Int) (m:Int):VFun:=⟨parB l,(runB l (endB l m)).1,outB (runB l (endB l m)).2.1,[]⟩
def cBuilt:Con RU:=con [one,one] [ints,i64] [(true,4)] at3 [false,false,false,false] none λp=>(parB p.1,(M7 p.1 p.2.1).code,(M7 p.1 p.2.1).out,[],())
def bV6 (l:List Int) (m:Int):Nat->St RU->Ann RU:=λn s=>match n with
 |0=>⟨[6],[.slot 7,.row 1216],[i64,ints],λp=>0<=p.1/\p.1<=parB l/\p.2.1=iota p.1.toNat,λp=>(parB l).toNat-p.1.toNat,[]⟩
 |1=>⟨[6],[.slot 8,.slot 9,.row 1216,.row 900001],[i64,i64,ints,inss],λp=>∃ j:Nat,p.2.1=4*j+1/\j<=90/\(∀ i,i<j->goB l m i=true)/\(p.2.2.2.1,p.2.2.1,p.1)=runB l j,λp=>400-p.2.1.toNat,[(.box 320 1,900001,52,.user 0)]⟩
 |2=>⟨[],[.slot 11,.row 900002],[i64,ints],λp=>0<=p.1/\p.1<=G6 (l.getD ((s.intAt 9).toNat+1) 0) 4/\p.2.1=O4 (s.rowInts 1216) (l.getD ((s.intAt 9).toNat+2) 0) p.1.toNat/\(s.rowInts 1216=[]->p.1=0),λp=>4-p.1.toNat,[(.box 640 3,900002,3,i64)]⟩
 |3=>⟨[],[.slot 12,.slot 8,.row 900003],[i64,i64,ints],λp=>0<=p.1/\p.1<=toN (l.getD ((s.intAt 9).toNat+3) 0)/\p.2.1=s.intAt 8+p.1/\p.2.2.1=Q4 (parB l) (s.intAt 8) p.1.toNat,λp=>4-p.1.toNat,[(.box 640 2,900003,3,i64)]⟩
 |_=>⟨[],[.slot 14,.row 900004],[i64,ints],λp=>0<=p.1/\p.1<=2/\p.2.1=(outB (s.rowInts 1216)).take p.1.toNat,λp=>2-p.1.toNat,[(.box 320 2,900004,3,i64)]⟩
def O5 (l:List Ins):Int:=l.foldl (λk x=>max (max k ((C7 [] x.from_).length:Int)) (x.to.length:Int)) 1
def aj3 (f:VFun) (n more:Int):Int:=O5 f.code+G6 n more
def cSlots:Con RU:=con [(true,4),one,one] [i64,inss,ints,ints,i64,i64] [one] [i64] [false] (some λp=>S5 p.2.1=true/\p.2.2.2.2.2.1<=1000) λp=>(aj3 ⟨p.1,p.2.1,p.2.2.1,p.2.2.2.1⟩ p.2.2.2.2.1 p.2.2.2.2.2.1,())
def bV7 (l:List Ins):Nat->St RU->Ann RU:=λ_ _=>⟨[],[.slot 7,.slot 8],[i64,i64],λp=>0<=p.2.1/\p.2.1<=l.length/\p.1=O5 (l.take p.2.1.toNat),λp=>l.length-p.2.1.toNat,[]⟩
theorem cs6 (n b:Int):vc (EV []) noL Go.Proofs.Tryd.f65 cTurn (n,b,())=(
 let c:Bool:=decide (b<(1:Int));
 let d:Bool:=decide (Int.tmod n b<(0:Int));
 let a:Int×Unit:=(G6 n b,());
  (c=true->((0:Int),())=a)/\(c=false->b≠(0:Int)/\(d=true->(IntKind.i64.wrap (Int.tmod n b+b),())=a)/\(d=false->(Int.tmod n b,())=a))):=by kernel_rfl
theorem cw8 (l:List Int) (n:Int):vc (EV [(65,cTurn)]) noL Go.Proofs.Tryd.f66 cNth (l,n,())=(
 let a:Int:=(↑(List.length l):Int);
  Small RU (Sigma.mk (Ty.slice (3:Nat) (Ty.int IntKind.i64)) l)->
  ((a==(0:Int))=true->((0:Int),())=(Y5 l n,()))/\
  ((a==(0:Int))=false->a<=(4611686018427387904:Int)/\((0:Int)<=G6 n a/\G6 n a<a)/\(List.getD l (Int.toNat (G6 n a)) (0:Int),())=(Y5 l n,()))):=by kernel_rfl
theorem bV8 (o n:Int) (t f:List Int) (b:List Ins):vc (EV [(35,cUnion)]) noL Go.Proofs.Tryd.f36 cReadsL (o,n,t,f,b,())=(Small RU (Sigma.mk (Ty.slice (3:Nat) (Ty.int IntKind.i64)) t)->
 Small RU (Sigma.mk (Ty.slice (3:Nat) (Ty.int IntKind.i64)) f)->
 Small RU (Sigma.mk (Ty.slice (52:Nat) (Ty.user (0:Nat))) b)->List.length ([]:List Int)+List.length f<=(17592186044400:Nat)/\(C7 [] f,())=(C7 [] f,())):=by kernel_rfl
theorem cg5 (a:Int) (b:List Ins) (c d:List Int) (n k:Int):vc (EV [(36,cReadsL),(65,cTurn)]) (bV7 b) Go.Proofs.Tryd.f27 cSlots (a,b,c,d,n,k,())=(
 let f:Ins:=Ins.mk (0:Int) (0:Int) [] [] [];
  Small RU (Sigma.mk (Ty.slice (52:Nat) (Ty.user (0:Nat))) b)->
  Small RU (Sigma.mk (Ty.slice (3:Nat) (Ty.int IntKind.i64)) c)->
  Small RU (Sigma.mk (Ty.slice (3:Nat) (Ty.int IntKind.i64)) d)->
  (∃ (p:Int×Int×Unit),
  a=a/\
  b=b/\
  c=c/\
  d=d/\
  n=n/\
  k=k/\
  (0:Int)=(0:Int)/\
  (1:Int)=p.1/\
  (0:Int)=p.2.1/\a=a/\b=b/\c=c/\d=d/\(0:Int)<=p.2.1/\p.2.1<=(↑(List.length b):Int)/\p.1=O5 (List.take (Int.toNat p.2.1) b))/\
  ∀ (p:Int×Int×Unit),
 let e0_1:Bool:=decide (p.2.1<(↑(List.length b):Int));
 let e:Int:=p.2.1;
  (0:Int)<=e/\e<=(↑(List.length b):Int)/\p.1=O5 (List.take (Int.toNat e) b)->
  (e0_1=true->
  ((0:Int)<=e/\e<(↑(List.length b):Int))/\
  List.length (List.getD b (Int.toNat e) f).from_<=(17592186044400:Nat)/\
  ((0:Int)<=e/\e<(↑(List.length b):Int))/\
  ∃ (p':Int×Int×Unit),
  a=a/\
  b=b/\
  c=c/\
  d=d/\
  n=n/\
  k=k/\
  (0:Int)=(0:Int)/\
  max (max p.1 (↑(List.length (C7 [] (List.getD b (Int.toNat e) f).from_)):Int)) (↑(List.length (List.getD b (Int.toNat e) f).to):Int)=p'.1/\
  IntKind.i64.wrap (e+(1:Int))=p'.2.1/\
  a=a/\
  b=b/\
  c=c/\
  d=d/\
  ((0:Int)<=p'.2.1/\p'.2.1<=(↑(List.length b):Int)/\p'.1=O5 (List.take (Int.toNat p'.2.1) b))/\
  List.length b-Int.toNat p'.2.1<List.length b-Int.toNat e)/\
  (e0_1=false->k<=(4611686018427387904:Int)/\(IntKind.i64.wrap (p.1+G6 n k),())=(aj3 (VFun.mk a b c d) n k,()))):=by kernel_rfl
theorem cg6 (l:List Int) (m:Int):vc (EV [(65,cTurn),(66,cNth)]) (bV6 l m) Go.Proofs.Tryd.f25 cBuilt (l,m,())=(
 let b:Int:=G6 (Y5 l (0:Int)) (4:Int);
 let g:Int:=(↑(List.length l):Int);
  Small RU (Sigma.mk (Ty.slice (3:Nat) (Ty.int IntKind.i64)) l)->
  (4:Int)<=(4611686018427387904:Int)/\
  (∃ (p:Int×List Int×Unit),l=l/\m=m/\(0:Int)=p.1/\(0:Int)=(0:Int)/\b=b/\[]=p.2.1/\(0:Int)<=p.1/\p.1<=parB l/\p.2.1=iota (Int.toNat p.1))/\
  ∀ (p:Int×List Int×Unit),
 let e0_1:Bool:=decide (p.1<b);
 let e1_1:Int:=p.1;
 let c:List Int:=p.2.1;
  (0:Int)<=e1_1/\e1_1<=parB l/\c=iota (Int.toNat e1_1)->
  (e0_1=true->
  (List.length c+List.length [e1_1])*(8:Nat)<=(140737488355328:Nat)/\
  ∃ (p':Int×List Int×Unit),
  l=l/\
  m=m/\
  IntKind.i64.wrap (e1_1+(1:Int))=p'.1/\
  (0:Int)=(0:Int)/\
  b=b/\
  c++[e1_1]=p'.2.1/\
  ((0:Int)<=p'.1/\p'.1<=parB l/\p'.2.1=iota (Int.toNat p'.1))/\Int.toNat (parB l)-Int.toNat p'.1<Int.toNat (parB l)-Int.toNat e1_1)/\
  (e0_1=false->
  (∃ (p:Int×Int×List Int×List Ins×Unit),
  l=l/\
  m=m/\
  e1_1=e1_1/\
  e0_1=e0_1/\
  (0:Int)=p.1/\
  (1:Int)=p.2.1/\
  (0:Int)=(0:Int)/\
  b=b/\
  c=p.2.2.1/\
  []=p.2.2.2.1/\
  ∃ (j:Nat),
  p.2.1=(4:Int)*(↑j:Int)+(1:Int)/\
  j<=(90:Nat)/\(∀ (i:Nat),i<j->goB l m i=true)/\(p.2.2.2.1,p.2.2.1,p.1)=runB l j)/\
  ∀ (p:Int×Int×List Int×List Ins×Unit),
 let e0_2:Bool:=decide (IntKind.i64.wrap (p.2.1+(3:Int))<g)&&decide ((↑(List.length p.2.2.2.1):Int)<m)&&decide (p.1<(90:Int));
 let e1_2:List Int:=p.2.2.1;
 let c:List Ins:=p.2.2.2.1;
 let a:Int:=p.2.1;
 let h:Bool:=decide ((↑(List.length e1_2):Int) >(0:Int));
 let d:Int:=p.1;
 let r:Int:=G6 (List.getD l (Int.toNat (IntKind.i64.wrap (a+(1:Int)))) (0:Int)) (4:Int);
 let e:Int:=G6 (List.getD l (Int.toNat a) (0:Int)) (12:Int);
 let f:Int:=G6 (List.getD l (Int.toNat a) (0:Int)) (15:Int);
 let o:Int:=IntKind.i64.wrap (a+(3:Int));
 let k:Int:=IntKind.i64.wrap (a+(2:Int));
 let q:Int:=IntKind.i64.wrap ((↑(List.length e1_2):Int)-(1:Int));
 let n:Int:=IntKind.i64.wrap (a+(1:Int));
  (∃ (j:Nat),a=(4:Int)*(↑j:Int)+(1:Int)/\j<=(90:Nat)/\(∀ (i:Nat),i<j->goB l m i=true)/\(c,e1_2,d)=runB l j)->
  (e0_2=true->
  ((0:Int)<=a/\a<g)/\
  (15:Int)<=(4611686018427387904:Int)/\
  ((0:Int)<=a/\a<g)/\
  (12:Int)<=(4611686018427387904:Int)/\
  (∃ (p:Int×List Int×Unit),
  l=l/\
  m=m/\
  e1_1=e1_1/\
  e0_1=e0_1/\
  d=d/\
  a=a/\
  e0_2=e0_2/\
  (0:Int)=p.1/\
  (0:Int)=(0:Int)/\
  b=b/\
  e1_2=e1_2/\
  c=c/\
  f=f/\
  e=e/\
  []=p.2.1/\
  (0:Int)<=p.1/\
  p.1<=G6 (List.getD l (Int.toNat a+(1:Nat)) (0:Int)) (4:Int)/\
  p.2.1=O4 e1_2 (List.getD l (Int.toNat a+(2:Nat)) (0:Int)) (Int.toNat p.1)/\(e1_2=[]->p.1=(0:Int)))/\
  ∀ (p:Int×List Int×Unit),
 let e0_3:Bool:=decide (p.1<r)&&h;
 let e1_3:List Int:=
  [Y5 e1_2
  (IntKind.i64.wrap
  (IntKind.i64.wrap
  (Int.tdiv (List.getD l (Int.toNat k) (0:Int)) (IntKind.i64.wrap ((1:Int)+IntKind.i64.wrap ((5:Int)*p.1))))+
  p.1))];
 let e2_1:List Int:=p.2.1;
 let e3_1:Int:=p.1;
 let h:Int:=G6 (List.getD l (Int.toNat a+(1:Nat)) (0:Int)) (4:Int);
 let e5_1:Int:=List.getD l (Int.toNat a+(2:Nat)) (0:Int);
  (0:Int)<=e3_1/\e3_1<=h/\e2_1=O4 e1_2 e5_1 (Int.toNat e3_1)/\(e1_2=[]->e3_1=(0:Int))->
  ((0:Int)<=n/\n<g)/\
  (4:Int)<=(4611686018427387904:Int)/\
  (e0_3=true->
  ((0:Int)<=k/\k<g)/\
  IntKind.i64.wrap ((1:Int)+IntKind.i64.wrap ((5:Int)*e3_1))≠(0:Int)/\
  (List.length e2_1+List.length e1_3)*(8:Nat)<=(140737488355328:Nat)/\
  ∃ (p':Int×List Int×Unit),
  l=l/\
  m=m/\
  e1_1=e1_1/\
  e0_1=e0_1/\
  d=d/\
  a=a/\
  e0_2=e0_2/\
  IntKind.i64.wrap (e3_1+(1:Int))=p'.1/\
  (0:Int)=(0:Int)/\
  b=b/\
  e1_2=e1_2/\
  c=c/\
  f=f/\
  e=e/\
  e2_1++e1_3=p'.2.1/\
  ((0:Int)<=p'.1/\
  p'.1<=h/\p'.2.1=O4 e1_2 e5_1 (Int.toNat p'.1)/\(e1_2=[]->p'.1=(0:Int)))/\
  (4:Nat)-Int.toNat p'.1<(4:Nat)-Int.toNat e3_1)/\
  (e0_3=false->
  (∃ (p:Int×Int×List Int×Unit),
  l=l/\
  m=m/\
  e1_1=e1_1/\
  e0_1=e0_1/\
  a=a/\
  e0_2=e0_2/\
  e3_1=e3_1/\
  e0_3=e0_3/\
  (0:Int)=p.1/\
  d=p.2.1/\
  (0:Int)=(0:Int)/\
  b=b/\
  e1_2=e1_2/\
  c=c/\
  f=f/\
  e=e/\
  e2_1=e2_1/\
  []=p.2.2.1/\
  (0:Int)<=p.1/\
  p.1<=(↑(toN (List.getD l (Int.toNat a+(3:Nat)) (0:Int))):Int)/\
  p.2.1=d+p.1/\p.2.2.1=Q4 (parB l) d (Int.toNat p.1))/\
  ∀ (p:Int×Int×List Int×Unit),
 let e0_4:Bool:=
  decide
  (p.1<
  IntKind.i64.wrap ((1:Int)+IntKind.i64.wrap (Int.tdiv (G6 (List.getD l (Int.toNat o) (0:Int)) (5:Int)) (4:Int))));
 let e1_4:List Int:=p.2.2.1;
 let e2_2:List Int:=
  [IntKind.i64.wrap (b+Int.tmod (IntKind.i64.wrap (IntKind.i64.wrap (p.2.1*(7:Int))+(5:Int))) (97:Int))];
 let e3_2:Int:=p.1;
 let h:Int:=p.2.1;
 let e5_2:Int:=(↑(toN (List.getD l (Int.toNat a+(3:Nat)) (0:Int))):Int);
  (0:Int)<=e3_2/\e3_2<=e5_2/\h=d+e3_2/\e1_4=Q4 (parB l) d (Int.toNat e3_2)->
  ((0:Int)<=o/\o<g)/\
  (5:Int)<=(4611686018427387904:Int)/\
  (4:Int)≠(0:Int)/\
  (e0_4=true->
  (97:Int)≠(0:Int)/\
  (List.length e1_4+List.length e2_2)*(8:Nat)<=(140737488355328:Nat)/\
  ∃ (p':Int×Int×List Int×Unit),
  l=l/\
  m=m/\
  e1_1=e1_1/\
  e0_1=e0_1/\
  a=a/\
  e0_2=e0_2/\
  e3_1=e3_1/\
  e0_3=e0_3/\
  IntKind.i64.wrap (e3_2+(1:Int))=p'.1/\
  IntKind.i64.wrap (h+(1:Int))=p'.2.1/\
  (0:Int)=(0:Int)/\
  b=b/\
  e1_2=e1_2/\
  c=c/\
  f=f/\
  e=e/\
  e2_1=e2_1/\
  e1_4++e2_2=p'.2.2.1/\
  ((0:Int)<=p'.1/\
  p'.1<=e5_2/\
  p'.2.1=d+p'.1/\p'.2.2.1=Q4 (parB l) d (Int.toNat p'.1))/\
  (4:Nat)-Int.toNat p'.1<(4:Nat)-Int.toNat e3_2)/\
  (e0_4=false->
  (List.length e1_2+List.length e1_4)*(8:Nat)<=(140737488355328:Nat)/\
  (List.length c+List.length [Ins.mk f e e1_4 e2_1 []])*(88:Nat)<=(140737488355328:Nat)/\
  ∃ (p':Int×Int×List Int×List Ins×Unit),
  l=l/\
  m=m/\
  e1_1=e1_1/\
  e0_1=e0_1/\
  h=p'.1/\
  IntKind.i64.wrap (a+(4:Int))=p'.2.1/\
  (0:Int)=(0:Int)/\
  b=b/\
  e1_2++e1_4=p'.2.2.1/\
  c++[Ins.mk f e e1_4 e2_1 []]=p'.2.2.2.1/\
  (∃ (j:Nat),
  p'.2.1=(4:Int)*(↑j:Int)+(1:Int)/\
  j<=(90:Nat)/\
  (∀ (i:Nat),i<j->goB l m i=true)/\(p'.2.2.2.1,p'.2.2.1,p'.1)=runB l j)/\
  (400:Nat)-Int.toNat p'.2.1<(400:Nat)-Int.toNat a)))/\
  (e0_2=false->
  (∃ (p:Int×List Int×Unit),
  l=l/\
  m=m/\
  e1_1=e1_1/\
  e0_1=e0_1/\
  d=d/\
  a=a/\
  e0_2=e0_2/\
  (0:Int)=p.1/\
  (0:Int)=(0:Int)/\
  b=b/\e1_2=e1_2/\c=c/\[]=p.2.1/\(0:Int)<=p.1/\p.1<=(2:Int)/\p.2.1=List.take (Int.toNat p.1) (outB e1_2))/\
  ∀ (p:Int×List Int×Unit),
 let e0_3:Bool:=decide (p.1<(2:Int))&&h;
 let g:List Int:=[Y5 e1_2 (IntKind.i64.wrap (q-IntKind.i64.wrap ((2:Int)*p.1)))];
 let e2_1:List Int:=p.2.1;
 let e3_1:Int:=p.1;
  (0:Int)<=e3_1/\e3_1<=(2:Int)/\e2_1=List.take (Int.toNat e3_1) (outB e1_2)->
  (e0_3=true->
  (List.length e2_1+List.length g)*(8:Nat)<=(140737488355328:Nat)/\
  ∃ (p':Int×List Int×Unit),
  l=l/\
  m=m/\
  e1_1=e1_1/\
  e0_1=e0_1/\
  d=d/\
  a=a/\
  e0_2=e0_2/\
  IntKind.i64.wrap (e3_1+(1:Int))=p'.1/\
  (0:Int)=(0:Int)/\
  b=b/\
  e1_2=e1_2/\
  c=c/\
  e2_1++g=p'.2.1/\
  ((0:Int)<=p'.1/\p'.1<=(2:Int)/\p'.2.1=List.take (Int.toNat p'.1) (outB e1_2))/\
  (2:Nat)-Int.toNat p'.1<(2:Nat)-Int.toNat e3_1)/\
  (e0_3=false->(b,c,e2_1,([]:List Int),())=(parB l,(M7 l m).code,(M7 l m).out,([]:List Int),()))))):=by kernel_rfl
theorem bV9 {n b:Int} (d:1<=b):(Int.tmod n b<0->Int.tmod n b+b=n % b)/\(¬ Int.tmod n b<0->Int.tmod n b=n % b)/\-b<Int.tmod n b:=by
 have h:=Int.tmod_eq_emod (a:=n) (b:=b);have h1:=Int.emod_nonneg n (b:=b) (by omega);have h2:=Int.emod_lt_of_pos n (b:=b) (by omega);split at h
 .refine ⟨λ_=>by omega,λ_=>by omega,by omega⟩
 .rename_i hc;have h3:¬ n % b=0:=λc=>hc (.inr (Int.dvd_of_emod_eq_zero c));refine ⟨λ_=>by omega,λ_=>by omega,by omega⟩
theorem cs7 (n b:Int) (d:b<=4611686018427387904):vc (EV []) noL Go.Proofs.Tryd.f65 cTurn (n,b,()):=(cs6 n b).mpr (by
 intro e f a;refine ⟨λh=>?_,λh=>?_⟩
 .have h:=cA0 h;simp [a,G6,h]
 .have h:=cz9 h;obtain ⟨h1,h2,h3⟩:=bV9 (n:=n) (b:=b) (by omega);have c:G6 n b=n % b:=by unfold G6;rw [if_neg h]
  refine ⟨by omega,λhc=>?_,λhc=>?_⟩
  .have hc:=cA0 hc;simp only [a];rw [c,<-h1 hc,F8 (by omega) (by omega)]
  .have hc:=cz9 hc;simp only [a];rw [c,<-h2 hc])
theorem ax8:C8 prog RG 65 cTurn:=E3 B7 (λ_=>noL) (by kernel_rfl) (by kernel_rfl) (by kernel_rfl) λ(n,b,()) a=>cs7 n b a
theorem U5 {n b:Int} (a:1<=b):0<=G6 n b/\G6 n b<b:=by unfold G6;rw [if_neg (by omega)];exact ⟨Int.emod_nonneg n (by omega),Int.emod_lt_of_pos n (by omega)⟩
theorem cw9 (l:List Int) (n:Int):vc (EV [(65,cTurn)]) noL Go.Proofs.Tryd.f66 cNth (l,n,()):=(cw8 l n).mpr (by
 intro a hs;have hl:l.length<=140737488355328:=hs.len;refine ⟨λh=>?_,λh=>?_⟩
 .have h:(l.length:Int)=0:=by simpa [a] using h
  have:l=[]:=List.length_eq_zero_iff.1 (by omega);rw [this];rfl
 .have h:¬ (l.length:Int)=0:=by simpa [a] using h
  have c:l≠[]:=λd=>h (by rw [d];rfl);have e:=U5 (n:=n) (b:=(l.length:Int)) (by omega);refine ⟨by dsimp only [a];omega,e,?_⟩;dsimp only [a];unfold Y5 G6;rw [if_neg c,if_neg (by omega)])
theorem bW0:C8 prog RG 66 cNth:=E3 (A7 ax8 B7) (λ_=>noL) (by kernel_rfl) (by kernel_rfl) (by kernel_rfl) λ(l,n,()) _=>cw9 l n
theorem bk0:C8 prog RG 36 cReadsL:=E3 (A7 bp5 B7) (λ_=>noL) (by kernel_rfl) (by kernel_rfl) (by kernel_rfl) λ(o,n,t,f,b,()) a=>(bV8 o n t f b).mpr (λ_ _ _=>⟨by simp only [List.length_nil,Nat.zero_add];exact a,rfl⟩)
theorem ba5 (l:List Int):0<=parB l/\parB l<4:=U5 (by omega)
theorem bz6 (d:Int):1<=toN d/\toN d<=2:=by have:=U5 (n:=d) (b:=5) (by omega);unfold toN;omega
theorem bk1 (k:Nat):iota (k+1)=iota k++[(k:Int)]:=by simp [iota,List.range_succ]
theorem Y1 (k:Nat):(iota k).length=k:=by simp [iota]
theorem bJ5 (p c:Int) (k:Nat):Q4 p c (k+1)=Q4 p c k++[toK p c k]:=by simp [Q4,List.range_succ]
theorem aa4 (p c:Int) (k:Nat):(Q4 p c k).length=k:=by simp [Q4]
theorem bk2 (t:List Int) (c:Int) (k:Nat):O4 t c (k+1)=O4 t c k++[cg3 t c k]:=by simp [O4,List.range_succ]
theorem an5 (t:List Int) (c:Int) (k:Nat):(O4 t c k).length=k:=by simp [O4]
theorem ba6 (l:List Int):∀ j,(runB l j).1.length=j/\(runB l j).2.1.length<=3+2*j/\(j:Int)<=(runB l j).2.2/\(runB l j).2.2<=2*j
 |0=>by have:=ba5 l;refine ⟨rfl,?_,Int.le_refl _,Int.le_refl _⟩;show (iota _).length<=_;rw [Y1];omega
 |j+1=>by
  obtain ⟨h1,h2,h3,h4⟩:=ba6 l j;have a:=bz6 (l.getD (4*j+1+3) 0);refine ⟨?_,?_,?_,?_⟩
  .show (_++[_]).length=_;rw [cB1,h1];rfl
  .show (_++Q4 _ _ _).length<=_;rw [cB1,aa4];omega
  .show _<=(runB l j).2.2+_;omega
  .show (runB l j).2.2+_<=_;omega
theorem cs8 {l:List Int} {m:Int} {j:Nat} (h1:j<=90) (h2:∀ i,i<j->goB l m i=true) (h3:goB l m j=false):endB l m=j:=by
 unfold endB;have:(List.range 91).find? (λj=>!goB l m j)=some j:=by rw [List.find?_eq_some_iff_getElem];refine ⟨by rw [h3];rfl,j,by simp;omega,by simp,λi a=>?_⟩;simp only [List.getElem_range];rw [h2 i a];rfl
 rw [this];rfl
theorem cy8 (d:Int):IntKind.i64.wrap (1+IntKind.i64.wrap (Int.tdiv (G6 d 5) 4))=(toN d:Int):=by have h:=U5 (n:=d) (b:=5) (by omega);have h2:Int.tdiv (G6 d 5) 4=G6 d 5 / 4:=Int.tdiv_eq_ediv_of_nonneg h.1;rw [h2,F8 (n:=G6 d 5 / 4) (by omega) (by omega),F8 (by omega) (by omega)];unfold toN;omega
theorem cy9 {p n:Int} (a:0<=p/\p<4) (h0:0<=n) (h1:n<=1000):IntKind.i64.wrap (p+Int.tmod (IntKind.i64.wrap (IntKind.i64.wrap (n*7)+5)) 97)=p+(n*7+5) % 97:=by rw [F8 (n:=n*7) (by omega) (by omega),F8 (n:=n*7+5) (by omega) (by omega),Int.tmod_eq_emod_of_nonneg (by omega),F8 (by omega) (by omega)]
theorem cs9 (there:List Int) (c:Int) {k:Nat} (a:k<=4):Y5 there (IntKind.i64.wrap (IntKind.i64.wrap (Int.tdiv c (IntKind.i64.wrap (1+IntKind.i64.wrap (5*(k:Int)))))+k))=cg3 there c k:=by rw [F8 (n:=5*(k:Int)) (by omega) (by omega),F8 (n:=1+5*(k:Int)) (by omega) (by omega)];rfl
theorem cg7 (l:List Int) (m:Int):vc (EV [(65,cTurn),(66,cNth)]) (bV6 l m) Go.Proofs.Tryd.f25 cBuilt (l,m,()):=by
 rw [cg6 l m];intro P Q hs;have hl:l.length<=140737488355328:=hs.len;have z:P=parB l:=rfl;have A:Q=(l.length:Int):=rfl
 clear_value P Q
 subst z A;have R:=ba5 l;simp only [true_and,and_true];refine ⟨by omega,⟨(0,[],()),rfl,rfl,Int.le_refl _,R.1,rfl⟩,?_⟩;rintro ⟨r,th,⟨⟩⟩;dsimp only;rintro ⟨h0,h1,rfl⟩;obtain ⟨k,rfl⟩:=cz6 h0;simp only [cz4] at*
 refine ⟨λg=>?_,λe=>?_⟩
 .have g:=cA0 g;refine ⟨by rw [Y1];simp;omega,((k+1:Nat),iota (k+1),()),B5 (m:=4) (by omega) (by omega),(bk1 k).symm,⟨by dsimp only;omega,by dsimp only;omega,by dsimp only;rw [cz4]⟩,by dsimp only;omega⟩
 have e:=cz9 e;have B:(k:Int)=parB l:=by omega
 have p:iota k=(runB l 0).2.1:=by show _=iota (parB l).toNat;rw [<-B,cz4]
 refine ⟨⟨(0,1,iota k,[],()),rfl,rfl,rfl,rfl,0,rfl,by omega,λi y=>by omega,by rw [p];rfl⟩,?_⟩;clear e p;rintro ⟨count,i,there,code,⟨⟩⟩;dsimp only;rintro ⟨j,rfl,T,s,a⟩;obtain ⟨t,U,V,W⟩:=ba6 l j;have hc:code=(runB l j).1:=congrArg (·.1) a;have d:there=(runB l j).2.1:=congrArg (·.2.1) a;have c:count=(runB l j).2.2:=congrArg (·.2.2) a;clear a;have C:IntKind.i64.wrap (4*(j:Int)+1+3)=((4*j+4:Nat):Int):=by rw [F8 (by omega) (by omega)];omega
 have D:IntKind.i64.wrap (4*(j:Int)+1+2)=((4*j+3:Nat):Int):=by rw [F8 (by omega) (by omega)];omega
 have E:IntKind.i64.wrap (4*(j:Int)+1+1)=((4*j+2:Nat):Int):=by rw [F8 (by omega) (by omega)];omega
 have F:(4*(j:Int)+1).toNat=4*j+1:=by omega
 have v:IntKind.i64.wrap ((there.length:Int)-1)=(there.length:Int)-1:=by rw [F8 (by rw [d];omega) (by rw [d];omega)]
 simp only [C,D,E,F,v,cz4];have G:(decide (((4*j+4:Nat):Int)<(l.length:Int))&&decide ((code.length:Int)<m)&&decide (count<90))=goB l m j:=by unfold goB;rw [hc,t,c];congr 2;simp only [decide_eq_decide];omega
 rw [G];refine ⟨λhg=>?_,λhg=>?_⟩
 .have H:(4*j+4<l.length/\(j:Int)<m)/\(runB l j).2.2<90:=by simpa [goB] using hg
  obtain ⟨⟨g1,g2⟩,g3⟩:=H;have I:=U5 (n:=l.getD (4*j+2) 0) (b:=4) (by omega);refine ⟨⟨by omega,by omega⟩,by omega,⟨by omega,by omega⟩,by omega,⟨(0,[],()),rfl,rfl,Int.le_refl _,I.1,rfl,λ_=>rfl⟩,?_⟩;rintro ⟨q,fr,⟨⟩⟩;dsimp only;rintro ⟨J,K,rfl,L⟩;obtain ⟨q,rfl⟩:=cz6 J;have K:(q:Int)<=G6 (l.getD (4*j+2) 0) 4:=K;have hf:=cs9 there (l.getD (4*j+3) 0) (k:=q) (by omega);simp only [cz4,hf] at*
  refine ⟨⟨by omega,by omega⟩,by omega,λh=>?_,λh=>?_⟩
  .simp only [cz3,cB2] at h;refine ⟨⟨by omega,by omega⟩,by rw [F8 (n:=5*(q:Int)) (by omega) (by omega),F8 (by omega) (by omega)];omega,by rw [an5];simp;omega,((q+1:Nat),O4 there (l.getD (4*j+3) 0) (q+1),()),B5 (m:=4) (by omega) (by omega),(bk2 _ _ _).symm,⟨by dsimp only;omega,?_,by dsimp only;rw [cz4],λc=>?_⟩,by dsimp only;omega⟩
   .show ((q+1:Nat):Int)<=G6 (l.getD (4*j+2) 0) 4;omega
   .rw [c] at h;simp at h
  .have M:O4 there (l.getD (4*j+3) 0) q=aj2 there (l.getD (4*j+2) 0) (l.getD (4*j+3) 0):=by
    unfold aj2;simp only [Bool.and_eq_false_iff,decide_eq_false_iff_not] at h;split
    .rename_i c;have:=L c;have:q=0:=by omega
     rw [this];rfl
    .rename_i c;have w:0<there.length:=List.length_pos_iff.2 c;rw [show (G6 (l.getD (4*j+2) 0) 4).toNat=q from by omega]
   have hN:=bz6 (l.getD (4*j+4) 0);have X:=cy8 (l.getD (4*j+4) 0);refine ⟨⟨(0,count,[],()),rfl,rfl,rfl,Int.le_refl _,by dsimp only;omega,(Int.add_zero _).symm,rfl⟩,?_⟩;rintro ⟨u,n2,to,⟨⟩⟩;dsimp only;rintro ⟨Y,S,rfl,rfl⟩;obtain ⟨u,rfl⟩:=cz6 Y;have S:(u:Int)<=(toN (l.getD (4*j+4) 0):Int):=S;have B:=cy9 R (n:=count+(u:Int)) (by omega) (by omega);simp only [cz4,X,B] at*
   refine ⟨⟨by omega,by omega⟩,by omega,by omega,λh=>?_,λh=>?_⟩
   .have h:=cA0 h;refine ⟨by omega,by rw [aa4];simp;omega,((u+1:Nat),count+((u+1:Nat):Int),Q4 (parB l) count (u+1),()),B5 (m:=4) (by omega) (by omega),by rw [F8 (by omega) (by omega)];dsimp only;omega,(bJ5 _ _ _).symm,⟨by dsimp only;omega,?_,rfl,by dsimp only;rw [cz4]⟩,by dsimp only;omega⟩;show ((u+1:Nat):Int)<=(toN (l.getD (4*j+4) 0):Int);omega
   .have h:=cz9 h;have Z:u=toN (l.getD (4*j+4) 0):=by omega
    have f:runB l (j+1)=(code++[⟨G6 (l.getD (4*j+1) 0) 15,G6 (l.getD (4*j+1) 0) 12,Q4 (parB l) count u,O4 there (l.getD (4*j+3) 0) q,[]⟩],there++Q4 (parB l) count u,count+u):=by rw [M,Z,hc,d,c];rfl
    refine ⟨by rw [d,aa4];omega,by rw [hc,t];simp;omega,(count+u,((4*(j+1)+1:Nat):Int),there++Q4 (parB l) count u,code++[⟨G6 (l.getD (4*j+1) 0) 15,G6 (l.getD (4*j+1) 0) 12,Q4 (parB l) count u,O4 there (l.getD (4*j+3) 0) q,[]⟩],()),rfl,by rw [F8 (by omega) (by omega)];dsimp only;omega,rfl,rfl,⟨j+1,by dsimp only;omega,by omega,λi y=>?_,f.symm⟩,by dsimp only;omega⟩;rcases Nat.lt_succ_iff_lt_or_eq.1 y with y|rfl
    .exact s i y
    .exact hg
 .have x:=cs8 T s hg;refine ⟨⟨(0,[],()),rfl,rfl,Int.le_refl _,by dsimp only;omega,by dsimp only;rfl⟩,?_⟩;rintro ⟨q,o,⟨⟩⟩;dsimp only;rintro ⟨J,K,rfl⟩;obtain ⟨q,rfl⟩:=cz6 J;simp only [cz4] at*
  refine ⟨λh=>?_,λh=>?_⟩
  .simp only [cz3,cB2] at h;have N:there≠[]:=by rintro hh;rw [hh] at h;simp at h
   have ho:outB there=[Y5 there (there.length-1),Y5 there (there.length-3)]:=if_neg N;have L:q=0\/q=1:=by omega
   rw [ho];rcases L with rfl|rfl
   .refine ⟨by show (0+1)*8<=140737488355328;omega,(1,[Y5 there (there.length-1)],()),rfl,?_,⟨by dsimp only;omega,by dsimp only;omega,rfl⟩,by dsimp only;omega⟩;show []++[Y5 there _]=_;rw [F8 (n:=2*((0:Nat):Int)) (by omega) (by omega),F8 (by rw [d];omega) (by rw [d];omega),show ((there.length:Int)-1-2*((0:Nat):Int))=there.length-1 from by omega];rfl
   .refine ⟨by show (1+1)*8<=140737488355328;omega,(2,[Y5 there (there.length-1),Y5 there (there.length-3)],()),rfl,?_,⟨by dsimp only;omega,by dsimp only;omega,rfl⟩,by dsimp only;omega⟩;show [Y5 there _]++[Y5 there _]=_;rw [F8 (n:=2*((1:Nat):Int)) (by omega) (by omega),F8 (n:=(there.length:Int)-1-2*((1:Nat):Int)) (by rw [d];omega) (by rw [d];omega)];rw [show ((there.length:Int)-1-2*((1:Nat):Int))=there.length-3 from by omega];rfl
  .have O:(outB there).take q=outB there:=by
    simp only [Bool.and_eq_false_iff,decide_eq_false_iff_not] at h;apply List.take_of_length_le;unfold outB;split
    .exact Nat.zero_le _
    .rename_i c;have w:0<there.length:=List.length_pos_iff.2 c;show 2<=q;omega
   rw [O,hc,d];show _=(parB l,(runB l (endB l m)).1,outB (runB l (endB l m)).2.1,[],());rw [x]
theorem bs6:C8 prog RG 25 cBuilt:=E3 (A7 ax8 (A7 bW0 B7)) (λp=>bV6 p.1 p.2.1) (by kernel_rfl) (by kernel_rfl) (by kernel_rfl) λ(l,m,()) _=>cg7 l m
theorem bk3 (l:List Ins) (x:Ins):O5 (l++[x])=max (max (O5 l) ((C7 [] x.from_).length:Int)) (x.to.length:Int):=by simp [O5]
theorem aM7 {N:Int}:∀ (l:List Ins) (a:Int),1<=a/\a<=N->(∀ x∈l,(x.from_.length:Int)<=N/\(x.to.length:Int)<=N)->1<=l.foldl (λk x=>max (max k ((C7 [] x.from_).length:Int)) (x.to.length:Int)) a/\l.foldl (λk x=>max (max k ((C7 [] x.from_).length:Int)) (x.to.length:Int)) a<=N
 |[],a,h,_=>h
 |x::r,a,h,b=>by
  have h2:=b x (by simp);have h3:=am9 [] x.from_;simp only [List.length_nil,Nat.zero_add] at h3;refine aM7 r _ ⟨?_,?_⟩ (λy c=>b y (by simp [c]))
  .dsimp only;omega
  .dsimp only;omega
theorem aS9 {N:Int} (a:1<=N) (l:List Ins) (h:∀ x∈l,(x.from_.length:Int)<=N/\(x.to.length:Int)<=N):1<=O5 l/\O5 l<=N:=aM7 l 1 ⟨Int.le_refl _,a⟩ h
theorem cg8 (a:Int) (b:List Ins) (c d:List Int) (n k:Int) (l:S5 b=true/\k<=1000):vc (EV [(36,cReadsL),(65,cTurn)]) (bV7 b) Go.Proofs.Tryd.f27 cSlots (a,b,c,d,n,k,()):=by
 rw [cg5 a b c d n k];intro j hs _ _;have m:b.length<=140737488355328:=hs.len;have o:j=ins0:=rfl
 clear_value j
 subst o;simp only [true_and,and_true];obtain ⟨e,p⟩:=l;have f:∀ x∈b,x.from_.length<=17592186044400/\x.to.length<=17592186044400:=by intro x f;unfold S5 at e;have:=cC0.1 e x f;simpa using this
 refine ⟨⟨(1,0,()),rfl,rfl,Int.le_refl _,by dsimp only;omega,rfl⟩,?_⟩;rintro ⟨s,i,⟨⟩⟩;dsimp only;rintro ⟨h0,h1,rfl⟩;obtain ⟨i,rfl⟩:=cz6 h0;simp only [cz4] at*
 refine ⟨λh=>?_,λh=>?_⟩
 .have h:=cA0 h;have g:i<b.length:=by omega
  refine ⟨⟨by omega,by omega⟩,(f _ (E7 g _)).1,⟨by omega,by omega⟩,(O5 (b.take (i+1)),((i+1:Nat):Int),()),?_,B5 (by omega) m,⟨by dsimp only;omega,by dsimp only;omega,by dsimp only;rw [cz4]⟩,by dsimp only;omega⟩;rw [A4 g ins0,bk3]
 .have h:=cz9 h;refine ⟨by omega,?_⟩;have g:i=b.length:=by omega
  subst g;rw [cB8];have r:=aS9 (N:=17592186044400) (by omega) b (λx hm=>by have:=f x hm;omega);have t:0<=G6 n k/\G6 n k<=1000:=by
   by_cases q:k<1
   .unfold G6;rw [if_pos q];omega
   .have:=U5 (n:=n) (b:=k) (by omega);omega
  rw [F8 (by omega) (by omega)];rfl
theorem bs7:C8 prog RG 27 cSlots:=E3 (A7 bk0 (A7 ax8 B7)) (λp=>bV7 p.2.1) (by kernel_rfl) (by kernel_rfl) (by kernel_rfl) λ(a,b,c,d,n,k,()) e=>cg8 a b c d n k e
theorem aM8 {l:List Int} (n:Int) (h:l≠[]):Y5 l n∈l:=by have a:0<l.length:=List.length_pos_iff.2 h;unfold Y5;rw [if_neg h];have h1:=Int.emod_nonneg n (b:=(l.length:Int)) (by omega);have h2:=Int.emod_lt_of_pos n (b:=(l.length:Int)) (by omega);exact E7 (by omega) _
theorem aD6 {k:Nat} {x:Int}:x∈iota k<->0<=x/\x<k:=by
 simp only [iota,List.mem_map,List.mem_range];constructor
 .rintro ⟨i,a,rfl⟩;simp only [Int.ofNat_eq_natCast];omega
 .rintro ⟨h0,h1⟩;exact ⟨x.toNat,by omega,by simp only [Int.ofNat_eq_natCast];omega⟩
theorem bW1 {p:Int} {c:Int} {k:Nat} {x:Int} (hc:0<=c) (h:x∈Q4 p c k):p<=x/\x<p+97:=by simp only [Q4,List.mem_map,List.mem_range,toK] at h;obtain ⟨i,a,rfl⟩:=h;omega
theorem bW2 (p:Int) (c n:Nat):Q4 p 0 (c+n)=Q4 p 0 c++Q4 p (c:Int) n:=by simp only [Q4,List.range_add,List.map_append,List.map_map];congr 1;apply List.map_congr_left;intro k _;simp only [Function.comp,toK];congr 3;omega
theorem bs8 {p:Int} {n:Nat} (h:n<=97):(Q4 p 0 n).Nodup:=by unfold Q4;unfold List.Nodup;rw [List.pairwise_map];refine List.Pairwise.imp_of_mem (R:=λa b=>a<b) ?_ List.pairwise_lt_range;intro a b c d e;simp only [List.mem_range] at c d;simp only [toK];omega
theorem bs9 (l:List Ins) (x:Ins):wr (l++[x])=wr l++x.to:=by simp [wr]
theorem bt0 {there:List Int} {b c x:Int} (h:x∈aj2 there b c):x∈there:=by
 unfold aj2 at h;split at h
 .simp at h
 .rename_i a;simp only [O4,List.mem_map,cg3] at h;obtain ⟨k,_,rfl⟩:=h;exact aM8 _ a
theorem aO5 (there:List Int) (b c:Int):(aj2 there b c).length<=3:=by
 have:=U5 (n:=b) (b:=4) (by omega);unfold aj2;split
 .exact Nat.zero_le _
 .rw [an5];omega
theorem bz7 {there:List Int} {x:Int} (h:x∈outB there):x∈there:=by
 unfold outB at h;split at h
 .simp at h
 .rename_i a;simp only [List.mem_cons,List.not_mem_nil,or_false] at h;rcases h with rfl|rfl
  .exact aM8 _ a
  .exact aM8 _ a
structure BuiltOk (p:Int) (s:BS) (n:Nat):Prop where
 cnt:s.2.2=n
 wrs:wr s.1=Q4 p 0 n
 ther:s.2.1=iota p.toNat++wr s.1
 thr:F6 p [] s.1=true
 froms:∀ x∈s.1,x.from_.length<=3/\∀ y∈x.from_,y∈s.2.1
 tos:∀ x∈s.1,1<=x.to.length/\x.to.length<=2
 bod:∀ x∈s.1,x.body=[]
theorem bz8 (l:List Int):∀ j,∃ n,BuiltOk (parB l) (runB l j) n
 |0=>⟨0,rfl,rfl,by show _=_++[];rw [List.append_nil];rfl,rfl,λx a=>by simp [runB] at a,λx a=>by simp [runB] at a,λx a=>by simp [runB] at a⟩
 |j+1=>by
  obtain ⟨n,h⟩:=bz8 l j;have p:=ba5 l;obtain ⟨s,hs⟩:∃ s,runB l j=s:=⟨_,rfl⟩;rw [hs] at h;obtain ⟨d,i⟩:∃ d,toN (l.getD (4*j+1+3) 0)=d:=⟨_,rfl⟩;have k:=bz6 (l.getD (4*j+1+3) 0);have e:runB l (j+1)=cg4 (parB l) l (4*j+1) s:=by show cg4 _ _ _ (runB l j)=_;rw [hs]
  rw [e];unfold cg4;rw [i] at*
  obtain ⟨fr,c⟩:∃ fr,aj2 s.2.1 (l.getD (4*j+1+1) 0) (l.getD (4*j+1+2) 0)=fr:=⟨_,rfl⟩;have f:∀ y∈fr,y∈s.2.1:=λy b=>by rw [<-c] at b;exact bt0 b
  have g:fr.length<=3:=by rw [<-c];exact aO5 _ _ _
  rw [c];refine ⟨n+d,?_,?_,?_,?_,?_,?_,?_⟩
  .show s.2.2+(d:Int)=_;rw [h.cnt];omega
  .show wr (s.1++[_])=_;rw [bs9,h.wrs,bW2,h.cnt]
  .show s.2.1++_=_++wr (s.1++[_]);rw [bs9,h.ther,cB6]
  .show F6 _ _ (s.1++[_])=true;rw [K5,h.thr];simp only [Bool.true_and,F6,Bool.and_true,List.nil_append,cC0,Bool.or_eq_true,cB2,List.contains_iff_mem];intro y b;have:=f y b;rw [h.ther,cB7] at this;rcases this with m|o
   .have:=aD6.1 m;left;omega
   .exact .inr o
  .intro x a;rcases cB7.1 a with a|a
   .exact ⟨(h.froms x a).1,λy b=>cB7.2 (.inl ((h.froms x a).2 y b))⟩
   .rw [cA1] at a;subst a;exact ⟨g,λy b=>cB7.2 (.inl (f y b))⟩
  .intro x a;rcases cB7.1 a with a|a
   .exact h.tos x a
   .rw [cA1] at a;subst a;show 1<=(Q4 _ _ d).length/\(Q4 _ _ d).length<=2;rw [aa4];exact k
  .intro x a;rcases cB7.1 a with a|a
   .exact h.bod x a
   .rw [cA1] at a;subst a;rfl
theorem bW3 (l:List Int) (m:Int):endB l m<=90/\∀ i,i<endB l m->goB l m i=true:=by
 unfold endB;cases h:(List.range 91).find? λj=>!goB l m j with
 |none=>exact ⟨by simp,λi a=>by simp at a⟩
 |some j=>rw [List.find?_eq_some_iff_getElem] at h;obtain ⟨_,k,b,h1,h2⟩:=h;simp only [List.length_range,List.getElem_range] at b h1 h2;subst h1;refine ⟨by show k<=90;omega,λi a=>?_⟩;have:=h2 i a;simpa using this
theorem ct0 {l:List Int} {m:Int} (hm:0<=m):(endB l m:Int)<=m:=by
 have h:=(bW3 l m).2;by_cases h0:endB l m=0
 .omega
 .have h1:=h (endB l m-1) (by omega);unfold goB at h1;simp only [cz3,cB2] at h1;omega
structure Made (a:Int) (b:List Ins) (c:List Int):Prop where
 chk:Checked a b c
 par:0<=a/\a<=3
 froms:∀ x∈b,x.from_.length<=3
 tos:∀ x∈b,1<=x.to.length/\x.to.length<=2
 bod:∀ x∈b,x.body=[]
 out:c.length<=2
 regs:∀ n∈wr b,n<100
theorem made (l:List Int) {m:Int} (hm:0<=m):Made (parB l) (M7 l m).code (M7 l m).out/\((M7 l m).code.length:Int)<=m:=by
 obtain ⟨n,h⟩:=bz8 l (endB l m);have hl:=ba6 l (endB l m);obtain ⟨g,d⟩:=bW3 l m;have i:=ba5 l;have p:n<=91:=by
  have h1:=h.cnt;by_cases h0:endB l m=0
  .rw [h0] at h1;have:(0:Int)=n:=h1;omega
  .obtain ⟨k,j⟩:∃ k,endB l m=k+1:=⟨endB l m-1,by omega⟩;have h2:=d k (by omega);unfold goB at h2;simp only [cz3,cB2] at h2;rw [j] at h1;have h3:(runB l k).2.2+(toN (l.getD (4*k+1+3) 0):Int)=n:=h1;have:=bz6 (l.getD (4*k+1+3) 0);omega
 show Made (parB l) (runB l (endB l m)).1 (outB (runB l (endB l m)).2.1)/\((runB l (endB l m)).1.length:Int)<=m;obtain ⟨s,hs⟩:∃ s,runB l (endB l m)=s:=⟨_,rfl⟩;have o:=ct0 (l:=l) hm;rw [hs] at h hl |-;have b:∀ x∈wr s.1,parB l<=x/\x<parB l+97:=λx a=>by rw [h.wrs] at a;exact bW1 (Int.le_refl _) a
 have e:∀ x∈s.2.1,(0<=x/\x<parB l)\/x∈wr s.1:=by
  intro x a;rw [h.ther,cB7] at a;rcases a with a|a
  .have:=aD6.1 a;left;omega
  .exact .inr a
 have c:∀ x∈s.2.1,0<=x/\x<=3999:=by
  intro x a;rcases e x a with a|a
  .omega
  .have:=b x a;omega
 refine ⟨⟨⟨by omega,i.1,by omega,λx a=>c x (bz7 a),?_,λx a y f=>c y ((h.froms x a).2 y f),?_,λx a=>(b x a).1,h.thr,?_⟩,by omega,λx a=>(h.froms x a).1,h.tos,h.bod,?_,λx a=>by have:=b x a;omega⟩,by omega⟩
 .intro x a y f;have:=b y (List.mem_flatMap.2 ⟨x,a,f⟩);omega
 .rw [E5,h.wrs];exact bs8 (by omega)
 .intro x a;rcases e x (bz7 a) with a|a
  .left;omega
  .exact .inr a
 .unfold outB;split<;>simp
theorem aT0 {a:Int} {b:List Ins} {c d:List Int} (h:Checked a b c):E8 ⟨a,b,c,d⟩=0:=by
 have f:(lies a 0 4000&&c.all U1&&b.all λx=>x.to.all U1&&x.from_.all U1)=true:=by simp only [cz3,cC0,at6,lies,cB2];exact ⟨⟨⟨h.pos,h.few⟩,h.outR⟩,λx e=>⟨h.toR x e,h.fromR x e⟩⟩
 have g:(D0 (wr b)&&(wr b).all λn=>decide (a<=n))=true:=by simp only [cz3,cC0,cB2];exact ⟨h.once,h.new⟩
 have i:(F6 a [] b&&c.all λn=>decide (n<a)||(wr b).contains n)=true:=by simp only [cz3,cC0,cB2,Bool.or_eq_true,List.contains_iff_mem];exact ⟨h.there,h.outT⟩
 simp only [E8,f,g,i,if_neg (Nat.not_lt.2 h.len)];rfl
theorem ac2 (sp:Spans) (rd:Reads) (N:Int) (m:Holds) (pl:Int) (st:List Int):∀ (l:List Nat) (acc:List Held),
  (∀ i acc',C0 sp rd N m pl st l acc=(some i,acc')->∃ s∈l,i=(s:Int)/\∀ r,mget eqP m ⟨false,(s:Int)⟩=some r->r∉st/\H5 (getS sp r).first (getS sp r).last pl=false)/\
  (∀ acc',C0 sp rd N m pl st l acc=(none,acc')->∀ x∈acc',x∈acc\/∃ s∈l,x.slot=(s:Int)/\mget eqP m ⟨false,(s:Int)⟩=some x.reg/\x.reg∉st)
 |[],acc=>by
  refine ⟨λi acc' h=>?_,λacc' h x c=>?_⟩
  .simp [C0] at h
  .simp only [C0,cA2,true_and] at h;subst h;exact .inl c
 |s::r,acc=>by
  refine ⟨λi acc' h=>?_,λacc' h x c=>?_⟩
  .simp only [C0] at h;cases hm:mget eqP m ⟨false,(s:Int)⟩ with
   |none=>rw [hm] at h;simp only [cA2,cz0] at h;exact ⟨s,by simp,h.1.symm,λr hr=>by rw [hm] at hr;cases hr⟩
   |some n=>
    rw [hm] at h;simp only at h;cases hc:st.contains n with
    |true=>rw [hc,cond_true] at h;obtain ⟨s',h1,h2,h3⟩:=(ac2 sp rd N m pl st r acc).1 i acc' h;exact ⟨s',by simp [h1],h2,h3⟩
    |false=>
     rw [hc,cond_false] at h;have b:n∉st:=λd=>by rw [List.contains_iff_mem.2 d] at hc;cases hc
     cases a:H5 (getS sp n).first (getS sp n).last pl with
     |true=>rw [a,cond_true] at h;obtain ⟨s',h1,h2,h3⟩:=(ac2 sp rd N m pl st r _).1 i acc' h;exact ⟨s',by simp [h1],h2,h3⟩
     |false=>rw [a,cond_false] at h;simp only [cA2,cz0] at h;refine ⟨s,by simp,h.1.symm,λr hr=>?_⟩;rw [hm] at hr;cases hr;exact ⟨b,a⟩
  .simp only [C0] at h;cases hm:mget eqP m ⟨false,(s:Int)⟩ with
   |none=>rw [hm] at h;simp at h
   |some n=>
    rw [hm] at h;simp only at h;cases hc:st.contains n with
    |true=>
     rw [hc,cond_true] at h;rcases (ac2 sp rd N m pl st r acc).2 acc' h x c with h1|⟨s',h1,h2⟩
     .exact .inl h1
     .exact .inr ⟨s',by simp [h1],h2⟩
    |false=>
     rw [hc,cond_false] at h;have b:n∉st:=λd=>by rw [List.contains_iff_mem.2 d] at hc;cases hc
     cases a:H5 (getS sp n).first (getS sp n).last pl with
     |true=>
      rw [a,cond_true] at h;rcases (ac2 sp rd N m pl st r _).2 acc' h x c with h1|⟨s',h1,h2⟩
      .rcases cB7.1 h1 with h1|h1
       .exact .inl h1
       .rw [cA1] at h1;subst h1;exact .inr ⟨s,by simp,rfl,hm,b⟩
      .exact .inr ⟨s',by simp [h1],h2⟩
     |false=>rw [a,cond_false] at h;simp at h
theorem ba7 {l:List Held} (h:l≠[]):K9 l∈l:=by
 cases l with
 |nil=>exact absurd rfl h
 |cons x r=>
  show r.foldl G7 x∈x::r;clear h
  induction r generalizing x with
  |nil=>simp
  |cons y r ih=>
   have h1:=ih (G7 x y);show r.foldl G7 (G7 x y)∈_;have h2:G7 x y=x\/G7 x y=y:=by
    unfold G7;cases ai4 y x
    .exact .inl rfl
    .exact .inr rfl
   rcases List.mem_cons.1 h1 with h1|h1
   .rw [h1];rcases h2 with h2|h2<;>rw [h2]<;>simp
   .simp [h1]
def goodI (ks cells:Int) (x:RIns):Prop:=ab0 ks cells x=true/\(x.kind≠0\/D0 x.ins.to=true)/\aw6 x.ins=true
theorem O9 {n:Int} {l:List Int}:H7 n l=true<->∀ x∈l,0<=x/\x<n:=by simp [H7]
theorem goodI.mono {ks c c':Int} {x:RIns} (h:goodI ks c x) (hc:c<=c'):goodI ks c' x:=by
 obtain ⟨h1,h2⟩:=h;refine ⟨?_,h2⟩;unfold ab0 at h1 |-;split at h1
 .rename_i h0;rw [if_pos h0];exact h1
 .rename_i h0;rw [if_neg h0];split at h1
  .rename_i h3;rw [if_pos h3];simp only [cz3,O9,cA1,forall_eq] at h1 |-;omega
  .cases h1
structure Inv (Q8:SF) (T:List Int) (nm:Int->Int) (ks:Int) (S:AS) (m:Holds) (C:List Ins) (nx:Int):Prop where
 run:I8 S.code Q8=((m,C,nx),true)
 slot:∀ (q:Nat) (n:Int),q<ks.toNat->mget eqP S.holds ⟨false,(q:Int)⟩=some n->n∉T->mget eqP m ⟨false,(q:Int)⟩=some (nm n)
 cell:∀ n cl,mget eqI S.cells n=some cl->0<=cl/\cl<S.ocells/\mget eqP m ⟨true,cl⟩=some (nm n)
 good:∀ x∈S.code,goodI ks S.ocells x
 low:0<=S.ocells
theorem ax9 {l:List RIns} {s s':SF} {x:RIns} (h:I8 l s=(s',true)):I8 (l++[x]) s=I6 s' x:=by rw [at8,h];exact bi5 _ _
theorem bz9 {sp:Spans} {rd:Reads} {ks N:Int} {S:AS} {pl:Int} {st T:List Int} {nm:Int->Int} {m:Holds} {C:List Ins} {nx:Int} {Q8:SF}
  (E:∀ x∈T,x∈st) (s:X8 sp rd ks N S.holds pl st) (h:Inv Q8 T nm ks S m C nx):
  ∃ (q:Nat) (t:AS) (m':Holds),E1 sp rd ks N S pl st=((q:Int),t)/\q<ks.toNat/\t.holds=S.holds/\Inv Q8 T nm ks t m' C nx/\
   (∀ r,mget eqP S.holds ⟨false,(q:Int)⟩=some r->r∉st/\(H5 (getS sp r).first (getS sp r).last pl=false\/(mget eqI t.cells r).isSome=true))/\
   (∀ n cl,mget eqI S.cells n=some cl->mget eqI t.cells n=some cl)/\(∀ q:Int,mget eqP m' ⟨false,q⟩=mget eqP m ⟨false,q⟩):=by
 obtain ⟨o,hs,b⟩:∃ o hs,L2 sp rd ks N S.holds pl st=(o,hs):=⟨_,_,rfl⟩;have c:=ac2 sp rd N S.holds pl st (List.range ks.toNat) [];cases o with
 |some i=>
  obtain ⟨q,e,rfl,hr⟩:=c.1 i hs b;have e:q<ks.toNat:=by simpa using e
  refine ⟨q,S,m,by unfold E1;rw [b],e,rfl,h,λr hm=>⟨(hr r hm).1,.inl (hr r hm).2⟩,λn cl hc=>hc,λ_=>rfl⟩
 |none=>
  have u:hs≠[]:=by have:=s (by rw [b]);rw [b] at this;exact this
  have v:=c.2 hs b _ (ba7 u);rcases v with v|⟨q,e,k,f,g⟩
  .simp at v
  have e:q<ks.toNat:=by simpa using e
  have a:E1 sp rd ks N S pl st=((q:Int),aq0 S (K9 hs)):=by unfold E1;rw [b];simp only [k]
  obtain ⟨x,F⟩:∃ x,K9 hs=x:=⟨_,rfl⟩;rw [F] at k f g a;cases d:(mget eqI S.cells x.reg).isSome with
  |true=>
   have w:aq0 S x=S:=by unfold aq0;rw [d];rfl
   rw [w] at a;exact ⟨q,S,m,a,e,rfl,h,λr hm=>by rw [f] at hm;cases hm;exact ⟨g,.inr d⟩,λn cl hc=>hc,λ_=>rfl⟩
  |false=>
   have w:aq0 S x=⟨S.holds,mput eqI S.cells x.reg S.ocells,S.ocells+1,S.code++[⟨2,x.slot,S.ocells,ins0⟩]⟩:=by unfold aq0;rw [d];rfl
   rw [w,k] at a;have z:=h.slot q x.reg e f (λA=>g (E _ A));have p:mget eqI S.cells x.reg=none:=by cases A:mget eqI S.cells x.reg with|none=>rfl|some _=>rw [A] at d;cases d
   refine ⟨q,_,mput eqP m ⟨true,S.ocells⟩ (nm x.reg),a,e,rfl,⟨?_,?_,?_,?_,?_⟩,?_,?_,λq'=>by rw [H4,if_neg (by simp)]⟩
   .rw [ax9 h.run];show I6 (m,C,nx) _=_;unfold I6;have G:((2:Int)==0)=false:=rfl;have H:((2:Int)==2)=true:=rfl;simp only [G,H,cond_true,cond_false,z]
   .intro q' n B j D;rw [H4,if_neg (by simp)];exact h.slot q' n B j D
   .intro n cl hc;dsimp only at hc |-;rw [Q0] at hc;rw [H4];by_cases j:x.reg=n
    .rw [if_pos j] at hc;cases hc;rw [if_pos rfl,j];exact ⟨h.low,by omega,rfl⟩
    .rw [if_neg j] at hc;have:=h.cell n cl hc;rw [if_neg (by simp only [Place.mk.injEq,true_and];omega)];exact ⟨this.1,by omega,this.2.2⟩
   .intro y l;dsimp only at l |-;rcases cB7.1 l with l|l
    .exact (h.good y l).mono (by omega)
    .rw [cA1] at l;subst l;refine ⟨?_,.inl (by dsimp only;omega),show aw6 ins0=true by decide⟩;have:=h.low;unfold ab0;rw [if_neg (by dsimp only;omega),if_pos (.inr rfl)];simp only [cz3,O9,cA1,forall_eq];omega
   .have:=h.low;dsimp only;omega
   .intro r hm;rw [f] at hm;cases hm;refine ⟨g,.inr ?_⟩;dsimp only;rw [Q0,if_pos rfl];rfl
   .intro n cl hc;dsimp only;rw [Q0];by_cases j:x.reg=n
    .rw [j,hc] at p;cases p
    .rw [if_neg j];exact hc
def InS (m:Holds) (ks n:Int):Prop:=∃ q:Nat,q<ks.toNat/\mget eqP m ⟨false,(q:Int)⟩=some n
theorem bA0 {m:Holds} {ks n:Int} (h:InS m ks n):∃ a:Nat,a<ks.toNat/\C4 m ks n=⟨false,(a:Int)⟩/\mget eqP m ⟨false,(a:Int)⟩=some n:=by
 apply au4;cases hc:(C4 m ks n).cell with
 |false=>rfl
 |true=>obtain ⟨q,b,hm⟩:=h;exact absurd hm (S6.1 hc q b)
def Av (ks:Int) (L:Int->Prop) (S:AS):Prop:=∀ n,L n->InS S.holds ks n\/(mget eqI S.cells n).isSome=true
theorem ci7 {ks n:Int} {L:Int->Prop} {S t:AS} {q:Nat} {c:List RIns} (d:Av ks L S) (e:t.holds=S.holds) (hc:∀ n cl,mget eqI S.cells n=some cl->mget eqI t.cells n=some cl)
  (f:∀ r,mget eqP S.holds ⟨false,(q:Int)⟩=some r->¬ L r\/(mget eqI t.cells r).isSome=true):Av ks L ⟨mput eqP t.holds ⟨false,(q:Int)⟩ n,t.cells,t.ocells,c⟩:=by
 intro r hr;rcases d r hr with ⟨p,g,hm⟩|hm
 .by_cases a:p=q
  .subst a;rcases f r hm with h|h
   .exact absurd hr h
   .exact .inr h
  .refine .inl ⟨p,g,?_⟩;dsimp only;rw [H4,if_neg (by simp only [Place.mk.injEq,true_and];omega),e];exact hm
 .right;cases b:mget eqI S.cells r with
  |none=>rw [b] at hm;cases hm
  |some cl=>dsimp only;rw [hc r cl b];rfl
theorem bW4 {ks n x:Int} {S t:AS} {q:Nat} (b:t.holds=S.holds) (c:∀ r,mget eqP S.holds ⟨false,(q:Int)⟩=some r->r≠x) (h:InS S.holds ks x):InS (mput eqP t.holds ⟨false,(q:Int)⟩ n) ks x:=by
 obtain ⟨p,d,hm⟩:=h;by_cases a:p=q
 .subst a;exact absurd rfl (c x hm)
 .refine ⟨p,d,?_⟩;rw [H4,if_neg (by simp only [Place.mk.injEq,true_and];omega),b];exact hm
theorem cg9 {sp:Spans} {rd:Reads} {ks N i:Int} {fr:List Int} {S:AS} {n:Int} {P L:Int->Prop} {nm:Int->Int} {m:Holds} {C:List Ins} {nx:Int} {Q8:SF}
  (F:Fine P ks S.holds) (o:n∈fr) (f:(fr.length:Int)<=ks) (b:∀ r,H5 (getS sp r).first (getS sp r).last i=false->¬ L r) (D:L n)
  (h:Inv Q8 [] nm ks S m C nx) (s:Av ks L S):
  ∃ m',Inv Q8 [] nm ks (F4 sp rd ks N i fr S n) m' C nx/\Av ks L (F4 sp rd ks N i fr S n)/\InS (F4 sp rd ks N i fr S n).holds ks n/\(∀ x∈fr,InS S.holds ks x->InS (F4 sp rd ks N i fr S n).holds ks x):=by
 cases hc:(C4 S.holds ks n).cell with
 |false=>
  have u:F4 sp rd ks N i fr S n=S:=by unfold F4;rw [hc];rfl
  rw [u];obtain ⟨a,E,_,hm⟩:=au4 hc;exact ⟨m,h,s,⟨a,E,hm⟩,λ_ _ h=>h⟩
 |true=>
  have g:=S6.1 hc;obtain ⟨q,t,m',c,G,A,e,B,j,H⟩:=bz9 (sp:=sp) (rd:=rd) (N:=N) (pl:=i) (st:=fr) (T:=[]) (by simp) (aL9 F g o f sp rd N i) h;have u:F4 sp rd ks N i fr S n=⟨mput eqP t.holds ⟨false,(q:Int)⟩ n,t.cells,t.ocells,t.code++[⟨1,(q:Int),getI t.cells n,ins0⟩]⟩:=by unfold F4;rw [hc,c];rfl
  rw [u];obtain ⟨cl,v⟩:∃ cl,mget eqI S.cells n=some cl:=by
   rcases s n D with ⟨p,I,hm⟩|hm
   .exact absurd hm (g p I)
   .exact Option.isSome_iff_exists.1 hm
  have k:=j n cl v;have hg:getI t.cells n=cl:=by unfold getI;rw [k];rfl
  have w:=e.cell n cl k;rw [hg];refine ⟨mput eqP m' ⟨false,(q:Int)⟩ (nm n),⟨?_,?_,?_,?_,e.low⟩,?_,?_,?_⟩
  .rw [ax9 e.run];have J:((1:Int)==0)=false:=rfl;have K:((1:Int)==2)=false:=rfl;unfold I6;simp only [J,K,cond_false,w.2.2]
  .intro q' r z hr _;dsimp only at hr;rw [H4] at hr |-;by_cases l:(⟨false,(q:Int)⟩:Place)=⟨false,(q':Int)⟩
   .rw [if_pos l] at hr |-;cases hr;rfl
   .rw [if_neg l] at hr |-;exact e.slot q' r z hr (by simp)
  .intro r c' hr;have:=e.cell r c' hr;rw [H4,if_neg (by simp)];exact this
  .intro y d;dsimp only at d;rcases cB7.1 d with d|d
   .exact e.good y d
   .rw [cA1] at d;subst d;refine ⟨?_,.inl (by dsimp only;omega),show aw6 ins0=true by decide⟩;unfold ab0;rw [if_neg (by dsimp only;omega),if_pos (.inl rfl)];simp only [cz3,O9,cA1,forall_eq];omega
  .exact ci7 s A j (λr hr=>(B r hr).2.imp (b r) id)
  .exact ⟨q,G,by dsimp only;rw [H4,if_pos rfl]⟩
  .intro x M O;exact bW4 A (λr hr Q=>(B r hr).1 (Q▸M)) O
theorem bk4 {sp:Spans} {rd:Reads} {ks N i:Int} {fr:List Int} {P L:Int->Prop} {nm:Int->Int} {C:List Ins} {nx:Int} {Q8:SF}
  (b:(fr.length:Int)<=ks) (a:∀ r,H5 (getS sp r).first (getS sp r).last i=false->¬ L r) (f:∀ n∈fr,L n) (g:∀ n∈fr,P n):
  ∀ (l:List Int) {S:AS} {m:Holds},(∀ n∈l,n∈fr)->Fine P ks S.holds->Inv Q8 [] nm ks S m C nx->Av ks L S->
  ∃ m',Inv Q8 [] nm ks (C5 sp rd ks N i fr S l) m' C nx/\Av ks L (C5 sp rd ks N i fr S l)/\(∀ x∈l,InS (C5 sp rd ks N i fr S l).holds ks x)/\(∀ x∈fr,InS S.holds ks x->InS (C5 sp rd ks N i fr S l).holds ks x)
 |[],S,m,_,_,h,e=>⟨m,h,e,by simp,λ_ _ h=>h⟩
 |n::r,S,m,hl,F,h,e=>by
  have d:=hl n (by simp);obtain ⟨t,h1,h2,h3,h4⟩:=cg9 (sp:=sp) (rd:=rd) (N:=N) F d b a (f n d) h e;have F1:Fine P ks (F4 sp rd ks N i fr S n).holds:=W6 (sp:=sp) (rd:=rd) (N:=N) (i:=i) (fr:=fr) [n] F (by simpa using g n d);obtain ⟨k,o,p,q,j⟩:=bk4 b a f g r (λx c=>hl x (by simp [c])) F1 h1 h2;refine ⟨k,o,p,λx c=>?_,λx c s=>j x c (h4 x c s)⟩;rcases List.mem_cons.1 c with rfl|c
  .exact j _ d h3
  .exact q x c
theorem cx0 {sp:Spans} {rd:Reads} {ks N i:Int} {to:List Int} {S:AS} {n:Int} {L:Int->Prop} {nm:Int->Int} {m:Holds} {C:List Ins} {nx:Int} {Q8:SF}
  (p:n∈to) (f:X8 sp rd ks N S.holds (i+1) to) (a:∀ r,H5 (getS sp r).first (getS sp r).last (i+1)=false->¬ L r)
  (h:Inv Q8 to nm ks S m C nx) (s:Av ks L S):
  ∃ m',Inv Q8 to nm ks (U4 sp rd ks N i to S n) m' C nx/\Av ks L (U4 sp rd ks N i to S n)/\InS (U4 sp rd ks N i to S n).holds ks n/\(∀ x∈to,InS S.holds ks x->InS (U4 sp rd ks N i to S n).holds ks x)/\(∀ q:Int,mget eqP m' ⟨false,q⟩=mget eqP m ⟨false,q⟩):=by
 obtain ⟨q,t,m',b,u,l,c,o,g,j⟩:=bz9 (T:=to) (λ_ h=>h) f h;have v:U4 sp rd ks N i to S n=⟨mput eqP t.holds ⟨false,(q:Int)⟩ n,t.cells,t.ocells,t.code⟩:=by unfold U4;rw [b]
 rw [v];refine ⟨m',⟨c.run,?_,c.cell,c.good,c.low⟩,?_,?_,?_,j⟩
 .intro q' r k hr d;dsimp only at hr;rw [H4] at hr;by_cases e:(⟨false,(q:Int)⟩:Place)=⟨false,(q':Int)⟩
  .rw [if_pos e] at hr;cases hr;exact absurd p d
  .rw [if_neg e] at hr;exact c.slot q' r k hr d
 .exact ci7 s l g (λr hr=>(o r hr).2.imp (a r) id)
 .exact ⟨q,u,by dsimp only;rw [H4,if_pos rfl]⟩
 .intro x w y;exact bW4 l (λr hr z=>(o r hr).1 (z▸w)) y
theorem bJ6 (sp:Spans) (rd:Reads) (ks N i:Int) (to:List Int) (S:AS) (l:List Int) (n:Int):H6 sp rd ks N i to S (l++[n])=U4 sp rd ks N i to (H6 sp rd ks N i to S l) n:=by simp [H6]
theorem bW5 {sp:Spans} {rd:Reads} {ks N i:Int} {to:List Int} {S:AS} {L:Int->Prop} {nm:Int->Int} {m:Holds} {C:List Ins} {nx:Int} {Q8:SF}
  (c:∀ k,k<to.length->X8 sp rd ks N (H6 sp rd ks N i to S (to.take k)).holds (i+1) to) (a:∀ r,H5 (getS sp r).first (getS sp r).last (i+1)=false->¬ L r)
  (h:Inv Q8 to nm ks S m C nx) (d:Av ks L S):∀ k,k<=to.length->
  ∃ m',Inv Q8 to nm ks (H6 sp rd ks N i to S (to.take k)) m' C nx/\Av ks L (H6 sp rd ks N i to S (to.take k))/\(∀ x∈to.take k,InS (H6 sp rd ks N i to S (to.take k)).holds ks x)/\(∀ q:Int,mget eqP m' ⟨false,q⟩=mget eqP m ⟨false,q⟩)
 |0,_=>⟨m,by simpa [H6] using h,by simpa [H6] using d,by simp,λ_=>rfl⟩
 |k+1,s=>by
  obtain ⟨t,h1,h2,h3,h4⟩:=bW5 c a h d k (by omega);have hg:=E7 (l:=to) (i:=k) (by omega) 0;obtain ⟨e,f,g,j,o,p⟩:=cx0 (n:=to.getD k 0) hg (c k (by omega)) a h1 h2;rw [A4 (by omega) 0,bJ6];refine ⟨e,f,g,λx b=>?_,λq=>(p q).trans (h4 q)⟩;rcases cB7.1 b with b|b
  .exact o x (List.mem_of_mem_take b) (h3 x b)
  .rw [cA1] at b;subst b;exact j
theorem bk5:∀ (l acc:List Int) (nx:Int) (m:Holds),l.Nodup->(l.foldl am3 (acc,nx,m)).1=acc++(List.range l.length).map (λj:Nat=>nx+(j:Int))/\
  (∀ (j:Nat) (x:Int),l[j]? =some x->mget eqP (l.foldl am3 (acc,nx,m)).2.2 ⟨false,x⟩=some (nx+j))/\
  (∀ p:Place,p.cell=true\/p.n∉l->mget eqP (l.foldl am3 (acc,nx,m)).2.2 p=mget eqP m p)
 |[],acc,nx,m,_=>by simp
 |x::r,acc,nx,m,h=>by
  obtain ⟨c,hr⟩:=List.nodup_cons.1 h;obtain ⟨h1,h2,h3⟩:=bk5 r (acc++[nx]) (nx+1) (mput eqP m ⟨false,x⟩ nx) hr;refine ⟨?_,?_,?_⟩
  .show (r.foldl am3 (acc++[nx],nx+1,mput eqP m ⟨false,x⟩ nx)).1=_;rw [h1,cA6,List.range_succ_eq_map,List.map_cons,List.map_map,cB6];congr 1;simp only [List.singleton_append,List.cons.injEq];refine ⟨by omega,?_⟩;apply List.map_congr_left;intro j _;simp only [Function.comp];omega
  .intro j y b;show mget eqP (r.foldl am3 (acc++[nx],nx+1,mput eqP m ⟨false,x⟩ nx)).2.2 _=_;cases j with
   |zero=>simp only [cz8,cz0] at b;subst b;rw [h3 _ (.inr c),H4,if_pos rfl];congr 1;omega
   |succ j=>rw [h2 j y (by simpa using b)];congr 1;omega
  .intro p a;show mget eqP (r.foldl am3 (acc++[nx],nx+1,mput eqP m ⟨false,x⟩ nx)).2.2 _=_;rw [h3 p (a.imp id λd hm=>d (by simp [hm])),H4,if_neg];rintro rfl;rcases a with a|a
   .cases a
   .exact a (by simp)
theorem bk6 {m:Holds} {ks n:Int} {l:List Int} (h:n∈l):getI (N5 m ks l) n=(C4 m ks n).n:=by
 have key:∀ (l:List Int) (mm:List (Int×Int)),(n∈l\/mget eqI mm n=some (C4 m ks n).n)->mget eqI (l.foldl (λmm n=>mput eqI mm n (C4 m ks n).n) mm) n=some (C4 m ks n).n:=by
  intro l
  induction l with
  |nil=>intro mm h;simpa using h
  |cons x r ih=>
   intro mm h;rw [List.foldl_cons];apply ih;rw [Q0];by_cases a:x=n
   .right;rw [if_pos a,a]
   .rw [if_neg a];rcases h with h|h
    .rcases List.mem_cons.1 h with h|h
     .exact absurd h.symm a
     .exact .inl h
    .exact .inr h
 unfold getI N5;rw [key l [] (.inl h)];rfl
theorem cx1 {sp:Spans} {rd:Reads} {ks N i:Int} {x:Ins} {S:AS} {P Li Lj:Int->Prop} {nm:Int->Int} {m:Holds} {C:List Ins} {nx:Int} {Q8:SF}
  (F:Fine P ks S.holds) (v:fewX ks x=true) (hf:∀ n∈x.from_,P n) (d:x.to.Nodup) (hP:∀ n∈x.to,¬ P n)
  (V:∀ r,H5 (getS sp r).first (getS sp r).last i=false->¬ Li r) (W:∀ r,H5 (getS sp r).first (getS sp r).last (i+1)=false->¬ Lj r)
  (X:∀ n∈x.from_,Li n) (hl:∀ n,Lj n->n∉x.to->Li n) (K:x.to.map nm=(List.range x.to.length).map (λj:Nat=>nx+(j:Int))) (hx:aw6 x=true)
  (h:Inv Q8 [] nm ks S m C nx) (hA:Av ks Li S):
  ∃ m',Inv Q8 [] nm ks (doOf sp rd ks N i x S) m' (C++[⟨x.op,x.n,x.to.map nm,x.from_.map nm,x.body⟩]) (nx+x.to.length)/\Av ks Lj (doOf sp rd ks N i x S):=by
 obtain ⟨Y,F3⟩:=bU7 (sp:=sp) (rd:=rd) (N:=N) (i:=i) F v hf d hP;have k:=v;simp only [fewX,cz3,cB2] at k;have t:∀ n,n∈B0 x.from_<->n∈x.from_:=λn=>L4;obtain ⟨m1,h1,L,w,_⟩:=bk4 (sp:=sp) (rd:=rd) (N:=N) (i:=i) (fr:=B0 x.from_) k.1 V (λn D=>X n ((t n).1 D)) (λn D=>hf n ((t n).1 D)) (B0 x.from_) (λ_ h=>h) F h hA;obtain ⟨S1,M⟩:∃ S1,C5 sp rd ks N i (B0 x.from_) S (B0 x.from_)=S1:=⟨_,rfl⟩;have A:=Y.2;have Z:doOf sp rd ks N i x S=⟨(H6 sp rd ks N i x.to S1 x.to).holds,(H6 sp rd ks N i x.to S1 x.to).cells,(H6 sp rd ks N i x.to S1 x.to).ocells,(H6 sp rd ks N i x.to S1 x.to).code++[⟨0,0,0,⟨x.op,x.n,x.to.map (λn=>(C4 (H6 sp rd ks N i x.to S1 x.to).holds ks n).n),x.from_.map (getI (N5 S1.holds ks (B0 x.from_))),x.body⟩⟩]⟩:=by rw [<-M];rfl
 rw [M] at h1 L w A;have h1':Inv Q8 x.to nm ks S1 m1 C nx:=⟨h1.run,λq n J hm _=>h1.slot q n J hm (by simp),h1.cell,h1.good,h1.low⟩;have O:Av ks (λn=>Lj n/\n∉x.to) S1:=λn d=>L n (hl n d.1 d.2);obtain ⟨o,h2,E,g,hsl⟩:=bW5 A (λr hr D=>W r hr D.1) h1' O x.to.length (Nat.le_refl _);rw [cB8] at h2 E g;rw [Z] at F3 |-;obtain ⟨S2,hS2⟩:∃ S2,H6 sp rd ks N i x.to S1 x.to=S2:=⟨_,rfl⟩;rw [hS2] at h2 E g F3 |-
 --where the registers that are read,and those that are written,lie
 have G:∀ n∈x.from_,∃ a:Nat,a<ks.toNat/\getI (N5 S1.holds ks (B0 x.from_)) n=(a:Int)/\mget eqP o ⟨false,(a:Int)⟩=some (nm n):=by intro n d;obtain ⟨a,s,hs,hm⟩:=bA0 (w n ((t n).2 d));refine ⟨a,s,by rw [bk6 ((t n).2 d),hs],?_⟩;rw [hsl];exact h1.slot a n s hm (by simp)
 have l:∀ n∈x.to,∃ a:Nat,a<ks.toNat/\(C4 S2.holds ks n).n=(a:Int)/\mget eqP S2.holds ⟨false,(a:Int)⟩=some n:=by intro n d;obtain ⟨a,s,hs,hm⟩:=bA0 (g n d);exact ⟨a,s,by rw [hs],hm⟩
 obtain ⟨tos,c⟩:∃ tos,x.to.map (λn=>(C4 S2.holds ks n).n)=tos:=⟨_,rfl⟩;have H:tos.length=x.to.length:=by rw [<-c,cC1]
 have Q:tos.Nodup:=by
  rw [<-c];unfold List.Nodup;rw [List.pairwise_map];refine List.Pairwise.imp_of_mem ?_ d;intro p q B J hpq heq;obtain ⟨a,s,e1,m1'⟩:=l p B;obtain ⟨b,hb,e2,R⟩:=l q J;have hab:a=b:=by rw [e1,e2] at heq;omega
  subst hab;rw [m1'] at R;exact hpq (Option.some.inj R)
 obtain ⟨n1,n2,n3⟩:=bk5 tos [] nx o Q;have T:=W4 nx o tos;have hfr:(x.from_.map (getI (N5 S1.holds ks (B0 x.from_)))).all (isP (o,()))=true:=by rw [List.all_map,cC0];intro n d;obtain ⟨a,_,e,hm⟩:=G n d;simp only [Function.comp,isP,e,hm,Option.isSome_some]
 have hfm:(x.from_.map (getI (N5 S1.holds ks (B0 x.from_)))).map (getF o)=x.from_.map nm:=by rw [List.map_map];apply List.map_congr_left;intro n d;obtain ⟨a,_,e,hm⟩:=G n d;simp only [Function.comp,getF,e,hm,Option.getD_some]
 rw [c];refine ⟨(G1 nx o tos).2.2,⟨?_,?_,?_,?_,h2.low⟩,?_⟩
 .rw [ax9 h2.run];unfold I6;have e0:((0:Int)==0)=true:=rfl;have e1:(G1 nx o tos).1=x.to.map nm:=by
   show (tos.foldl am3 ([],nx,o)).1=_;rw [n1,K,H,List.nil_append]
  simp only [e0,cond_true,hfr,hfm,e1,T.2,H]
 .intro q n J hm _;dsimp only at hm;by_cases f:n∈x.to
  .obtain ⟨j,hj⟩:=List.mem_iff_getElem?.1 f;obtain ⟨a,s,e,u⟩:=l n f;have hqa:q=a:=F3.inj q a J s n hm u;subst hqa;have hjt:tos[j]? =some (q:Int):=by rw [<-c,cA5,hj,Option.map_some,e]
   have hnj:nm n=nx+j:=by
    have h5:(x.to.map nm)[j]? =some (nm n):=by rw [cA5,hj];rfl
    rw [K,cA5,List.getElem?_range (cz5.1 hj).1] at h5;exact (Option.some.inj h5).symm
   rw [hnj];exact n2 j q hjt
  .have hqt:(q:Int)∉tos:=by
    rw [<-c];intro D;obtain ⟨p,B,he⟩:=List.mem_map.1 D;obtain ⟨a,s,e,u⟩:=l p B;rw [e] at he;have:a=q:=by omega
    subst this;rw [hm] at u;exact f (Option.some.inj u▸B)
   have h6:=n3 ⟨false,(q:Int)⟩ (.inr hqt);show mget eqP (tos.foldl am3 ([],nx,o)).2.2 _=_;rw [h6];exact h2.slot q n J hm f
 .intro n cl hc;have h7:=h2.cell n cl hc;have h6:=n3 ⟨true,cl⟩ (.inl rfl);refine ⟨h7.1,h7.2.1,?_⟩;show mget eqP (tos.foldl am3 ([],nx,o)).2.2 _=_;rw [h6];exact h7.2.2
 .intro y I;dsimp only at I;rcases cB7.1 I with I|I
  .exact h2.good y I
  .rw [cA1] at I;subst I;refine ⟨?_,.inr (E5.2 Q),?_⟩
   .unfold ab0;rw [if_pos rfl,cz3,O9,O9];refine ⟨λz U=>?_,λz U=>?_⟩
    .obtain ⟨p,B,rfl⟩:=List.mem_map.1 U;obtain ⟨a,s,e,_⟩:=G p B;rw [e];omega
    .rw [<-c] at U;obtain ⟨p,B,rfl⟩:=List.mem_map.1 U;obtain ⟨a,s,e,_⟩:=l p B;rw [e];omega
   .have h8:=(O0 x).1 hx;rw [O0];dsimp only;rw [H,cC1];exact h8
 .intro n d;by_cases f:n∈x.to
  .exact .inl (g n f)
  .exact E n ⟨d,f⟩
theorem bk7 {w:List Int} {m:Nat} {n:Int} (c:w.Nodup) (h:w[m]? =some n):D5 w n=m:=by
 obtain ⟨hm,b⟩:=cz5.1 h;have hg:∀ i,(a:i<w.length)->w.getD i 0=w[i]:=λi a=>by rw [cA4,cz2 a];rfl
 refine aD1 hm (λi a=>?_) (by rw [hg m hm,b]);rw [hg i (by omega),<-b];exact List.pairwise_iff_getElem.1 c i m (by omega) hm a
theorem bt1 {a:Int} {w:List Int} {m:Nat} {n:Int} (b:w.Nodup) (h:w[m]? =some n) (c:a<=n):S4 a w n=a+m:=by unfold S4;rw [if_neg (by omega),bk7 b h]
theorem bt2 {b:List Ins} {k:Nat} (a:k<b.length):b=b.take k++b.getD k ins0::b.drop (k+1):=by
 conv=>lhs;rw [<-List.take_append_drop (k+1) b,A4 a ins0]
 simp
theorem aj4 {b:List Ins} {k:Nat} (a:k<b.length):wr (b.take (k+1))=wr (b.take k)++(b.getD k ins0).to:=by rw [A4 a ins0,bs9]
theorem bJ7 {a:Int} {b:List Ins} {c:List Int} (C:Checked a b c) (n:Int):∀ d k,k+d=b.length->n∈atL b c k->0<=n/\(n<a\/n∈wr (b.take k)):=by
 intro d
 induction d with
 |zero=>
  intro k i e;have:k=b.length:=by omega
  subst this;rw [al9 b c (Nat.le_refl _),List.drop_length] at e;have e:n∈C7 [] c:=e;rw [O3] at e;rcases e with e|e
  .simp at e
  .rw [cB8];exact ⟨(C.outR n e).1,C.outT n e⟩
 |succ d ih=>
  intro k i e;have f:k<b.length:=by omega
  rw [al9 b c (Nat.le_of_lt f),ai3 b c f] at e;have e:n∈ah6 (b.getD k ins0) (atL b c (k+1)):=e;rw [ac1] at e;rcases e with e|⟨e,g⟩
  .have h1:=C.there;rw [bt2 f] at h1;exact ⟨(C.fromR _ (E7 f ins0) n e).1,by simpa using K8 h1 n e⟩
  .have h2:=ih (k+1) (by omega) e;rw [aj4 f,cB7] at h2;exact ⟨h2.1,h2.2.imp id (λh=>h.resolve_right g)⟩
theorem aT1 (n:Nat) (r:Int):mget eqI (aa2 n) r=if 0<=r/\r<n then some r else none:=by
 induction n with
 |zero=>rw [if_neg (by omega)];rfl
 |succ n ih=>
  rw [aM2,Q0,ih];by_cases h:(n:Int)=r
  .rw [if_pos h,if_pos (by omega),h]
  .rw [if_neg h];by_cases h2:0<=r/\r<n
   .rw [if_pos h2,if_pos (by omega)]
   .rw [if_neg h2,if_neg (by omega)]
theorem bk8 (n:Nat) (r:Int):mget eqP (N4 n) ⟨true,r⟩=if 0<=r/\r<n then some r else none:=by
 induction n with
 |zero=>rw [if_neg (by omega)];rfl
 |succ n ih=>
  rw [at9,H4,ih];by_cases h:(n:Int)=r
  .rw [if_pos (by rw [h]),if_pos (by omega),h]
  .rw [if_neg (by simp only [Place.mk.injEq,true_and];exact h)];by_cases h2:0<=r/\r<n
   .rw [if_pos h2,if_pos (by omega)]
   .rw [if_neg h2,if_neg (by omega)]
theorem ba8 {a:Int} {b:List Ins} {c:List Int} (C:Checked a b c) {k:Nat} (d:k<=b.length) (r:Int) (h:H5 (getS (A5 a b c) r).first (getS (A5 a b c) r).last k=false):¬ r∈atL b c k:=by
 intro e;have h1:=(bz4 C r k d).2 e;unfold X5 at h1;unfold getS at h;cases hm:mget eqI (A5 a b c) r with
 |none=>rw [hm] at h1;cases h1
 |some s=>rw [hm] at h1 h;simp only [Option.getD_some] at h;have h1:H5 s.first s.last k=true:=h1;rw [h] at h1;cases h1
def aM9 (a:Int) (w:List Int) (x:Ins):Ins:=⟨x.op,x.n,x.to.map (S4 a w),x.from_.map (S4 a w),x.body⟩
theorem ct1 {a:Int} {b:List Ins} {c:List Int} (C:Checked a b c) (I:J1 b=true) {ks:Int} (l:b.all (fewX ks)=true) (rd:Reads) (N:Int):∀ k,k<=b.length->
  ∃ m,Inv (H0 a) [] (S4 a (wr b)) ks (runA (A5 a b c) rd ks N (b.take k) 0 (G9 a)) m ((b.take k).map (aM9 a (wr b))) (a+(wr (b.take k)).length)/\
   Av ks (λn=>n∈atL b c k) (runA (A5 a b c) rd ks N (b.take k) 0 (G9 a)):=by
 intro k;have s:=E5.1 C.once
 induction k with
 |zero=>
  intro _;refine ⟨N4 a.toNat,⟨?_,?_,?_,?_,C.pos⟩,?_⟩
  .show I8 [] (H0 a)=((N4 a.toNat,[],a+((0:Nat):Int)),true);rw [show a+((0:Nat):Int)=a from by omega];rfl
  .intro q n _ h _;simp [runA,G9,mget] at h
  .intro n cl h;have h:mget eqI (aa2 a.toNat) n=some cl:=h;rw [aT1] at h;split at h
   .rename_i g;cases h;refine ⟨g.1,?_,?_⟩
    .show n<a;have:=C.pos;omega
    .rw [bk8,if_pos g];have:n<a:=by have:=C.pos;omega
     unfold S4;rw [if_pos this]
   .cases h
  .intro x p;simp [runA,G9] at p
  .intro n g;right;show (mget eqI (aa2 a.toNat) n).isSome=true;have h1:=bJ7 C n b.length 0 (by omega) g;have h2:n<a:=h1.2.resolve_right (by simp [wr]);rw [aT1,if_pos ⟨h1.1,by omega⟩];rfl
 |succ k ih=>
  intro J;have d:k<b.length:=by omega
  obtain ⟨m,h,K⟩:=ih (by omega);obtain ⟨F,_⟩:=aM0 C l (A5 a b c) rd N k (by omega);have f:=E7 d ins0;have o:=bt2 d;obtain ⟨x,p⟩:∃ x,b.getD k ins0=x:=⟨_,rfl⟩;have t:=aj4 d;have u:=aD4 C d;have v:atL b c k=ah6 x (atL b c (k+1)):=by rw [<-p,al9 b c (Nat.le_of_lt d),ai3 b c d];rfl
  rw [p] at f o t u;have w:wr b=wr (b.take k)++(x.to++wr (b.drop (k+1))):=by
   conv=>lhs;rw [o]
   rw [M5,Q2]
  have y:∀ n∈x.to,¬ (n<a\/n∈wr (b.take k)):=by
   rintro n g (h1|h1)
   .have:=C.new n (aK9.2 ⟨_,f,g⟩);omega
   .have h2:=s;rw [w] at h2;exact (List.nodup_append.1 h2).2.2 n h1 n (List.mem_append_left _ g) rfl
  have E:x.to.map (S4 a (wr b))=(List.range x.to.length).map (λj:Nat=>a+((wr (b.take k)).length:Int)+(j:Int)):=by
   apply List.ext_getElem?;intro j;rw [cA5,cA5];by_cases z:j<x.to.length
   .rw [cz2 z,List.getElem?_range z];simp only [Option.map_some,cz0];have A:(wr b)[(wr (b.take k)).length+j]? =some x.to[j]:=by
     rw [w,cA9 (by omega),show (wr (b.take k)).length+j-(wr (b.take k)).length=j from by omega,cB0 z,cz2 z]
    rw [bt1 s A (C.new _ (aK9.2 ⟨x,f,List.getElem_mem z⟩))];omega
   .rw [List.getElem?_eq_none (by omega),List.getElem?_eq_none (by simp;omega)];rfl
  obtain ⟨m',h',G⟩:=cx1 (sp:=A5 a b c) (rd:=rd) (N:=N) (i:=(k:Int)) (x:=x) (Li:=λn=>n∈atL b c k) (Lj:=λn=>n∈atL b c (k+1)) F (cC0.1 l _ f)
   (λn g=>by
    have h1:=C.there;rw [o] at h1;simpa using K8 h1 n g)
   u y (λr hr=>ba8 C (Nat.le_of_lt d) r hr) (λr hr=>ba8 C (k:=k+1) J r hr)
   (λn g=>by rw [v,ac1];exact .inl g)
   (λn g H=>by rw [v,ac1];exact .inr ⟨g,H⟩) E (ax7 I x f) h K
  have B:runA (A5 a b c) rd ks N (b.take (k+1)) 0 (G9 a)=doOf (A5 a b c) rd ks N k x (runA (A5 a b c) rd ks N (b.take k) 0 (G9 a)):=by rw [A4 d ins0,au3,cB9,Nat.min_eq_left (by omega),p]
  have D:(b.take (k+1)).map (aM9 a (wr b))=(b.take k).map (aM9 a (wr b))++[aM9 a (wr b) x]:=by rw [A4 d ins0,List.map_append,p];rfl
  rw [B,D,t,cB1];refine ⟨m',?_,G⟩;have e:a+(((wr (b.take k)).length+x.to.length:Nat):Int)=a+((wr (b.take k)).length:Int)+(x.to.length:Int):=by omega
  rw [e];exact h'
def cLaw2:Con RU:=con [one,one] [ints,i64] [one] [.bool] [false] none λ_=>(true,())
structure Fit (a:Int) (b:List Ins) (c:List Int) (ks:Int):Prop where
 made:Made a b c
 len:b.length<=30
 ks1:1<=ks
 ks2:ks<=64
 few:b.all (fewX ks)=true
 ok:J1 b=true
 frm:S5 b=true
theorem aT2:∀ {b:List Ins},(∀ x∈b,aw6 x=true)->J1 b=true
 |[],_=>by simp [J1]
 |x::r,h=>by simp only [J1,cz3];exact ⟨h x (by simp),aT2 λy a=>h y (by simp [a])⟩
theorem bt3 {a:Int} {b:List Ins} {c:List Int} (M:Made a b c):J1 b=true/\S5 b=true:=by
 refine ⟨aT2 λx d=>?_,?_⟩
 .rw [O0,M.bod x d];have h1:=M.froms x d;have h2:=M.tos x d;exact ⟨⟨by omega,by omega,by simp⟩,by simp [J1]⟩
 .unfold S5;rw [cC0];intro x d;have h1:=M.froms x d;have h2:=M.tos x d;rw [cz3,cB2,cB2];omega
theorem aN0:∀ (l:List Ins) (a:Int),a<=l.foldl (λk x=>max (max k ((C7 [] x.from_).length:Int)) (x.to.length:Int)) a/\∀ x∈l,((C7 [] x.from_).length:Int)<=l.foldl (λk x=>max (max k ((C7 [] x.from_).length:Int)) (x.to.length:Int)) a/\(x.to.length:Int)<=l.foldl (λk x=>max (max k ((C7 [] x.from_).length:Int)) (x.to.length:Int)) a
 |[],a=>⟨Int.le_refl _,by simp⟩
 |y::r,a=>by
  obtain ⟨h1,h2⟩:=aN0 r (max (max a ((C7 [] y.from_).length:Int)) (y.to.length:Int));refine ⟨?_,λx b=>?_⟩
  .rw [List.foldl_cons];omega
  .rw [List.foldl_cons];rcases List.mem_cons.1 b with rfl|b
   .omega
   .exact h2 x b
theorem bt4 (l:List Int):(B0 l).length<=(C7 [] l).length:=
 ae5 _ _ (S7 l) λx a=>O3.2 (.inr (L4.1 a))
theorem cx3 {a:Int} {b:List Ins} {c:List Int} (M:Made a b c) (hl:b.length<=30) {ks:Int} (h1:O5 b<=ks) (h2:ks<=64):Fit a b c ks:=by
 have h3:=aN0 b 1;refine ⟨M,hl,?_,h2,?_,(bt3 M).1,(bt3 M).2⟩
 .have:=h3.1;have h4:(1:Int)<=O5 b:=this;omega
 .rw [cC0];intro x f;obtain ⟨d,e⟩:=h3.2 x f;have d:((C7 [] x.from_).length:Int)<=O5 b:=d;have e:(x.to.length:Int)<=O5 b:=e;have g:=bt4 x.from_;unfold fewX;rw [cz3,cB2,cB2];omega
theorem bW6 {a:Int} {b:List Ins} {c d:List Int} (M:Made a b c) (hl:b.length<=30) (n:Int) {k:Int} (f:1<=k) (g:k<=60):Fit a b c (aj3 ⟨a,b,c,d⟩ n k)/\aj3 ⟨a,b,c,d⟩ n k<=2+k:=by
 have h1:=U5 (n:=n) f;have h2:=aS9 (N:=3) (by omega) b (λx e=>by
  have h3:=M.froms x e;have h4:=M.tos x e;omega)
 unfold aj3;dsimp only;exact ⟨cx3 M hl (by omega) (by omega),by omega⟩
theorem ch0 (a:Int) (w:List Int) (b:List Ins):wr (b.map (aM9 a w))=(wr b).map (S4 a w):=by
 induction b with
 |nil=>rfl
 |cons x r ih=>rw [List.map_cons,Q2,Q2,ih,List.map_append];rfl
theorem bW7 (a:Int) (l:List Ins):J3 a l=a+(wr l).length:=by
 have key:∀ (l:List Ins) (n:Int),l.foldl (λn x=>n+(x.to.length:Int)) n=n+((wr l).length:Int):=by
  intro l
  induction l with
  |nil=>intro n;simp [wr]
  |cons x r ih=>intro n;rw [List.foldl_cons,ih,Q2,cB1];omega
 exact key l a
theorem ct2 {a:Int} {b:List Ins} {c:List Int} (M:Made a b c):(wr b).length<=2*b.length:=by
 have key:∀ l:List Ins,(∀ x∈l,x.to.length<=2)->(wr l).length<=2*l.length:=by
  intro l
  induction l with
  |nil=>intro _;simp [wr]
  |cons x r ih=>intro h;have h1:=ih λy d=>h y (by simp [d]);have h2:=h x (by simp);rw [Q2,cB1,cA6];omega
 exact key b λx e=>(M.tos x e).2
theorem bJ8 {a:Int} {b:List Ins} {c d:List Int} {ks:Int} (F:Fit a b c ks):
  ∃ c',B8 ⟨a,b,c,d⟩ ks=(c',0)/\c'.params=a/\c'.slots=ks/\L8 c'=0/\M2 c'=(⟨a,b.map (aM9 a (wr b)),c.map (S4 a (wr b)),[]⟩,0)/\U3 c'.code=true/\c'.out.length=c.length/\c'.code.length<=5790:=by
 have C:=F.made.chk;obtain ⟨m,h,u⟩:=ct1 C F.ok F.few (D6 b) b.length b.length (Nat.le_refl _);rw [cB8] at h u;have f:=ba1 F.ks2 (A5 a b c) (D6 b) b.length b 0 (G9 a) F.few;obtain ⟨S,A⟩:∃ S,runA (A5 a b c) (D6 b) ks b.length b 0 (G9 a)=S:=⟨_,rfl⟩;rw [A] at h u f;have D:(G9 a).code.length=0:=rfl;have E:(G9 a).ocells=a:=rfl;rw [D,E] at f;have G:=F.len;have v:B8 ⟨a,b,c,d⟩ ks=(⟨a,ks,S.ocells,S.code,c.map (outA S ks)⟩,0):=by have hl:bj5 ⟨a,b,c,d⟩ ks=S:=A;have H:=F.ks1;have w:=F.ks2;unfold B8;rw [if_neg (by rw [aT0 C];simp),if_neg (by omega),if_neg (by show ¬ b.all (fewX ks)=false;rw [F.few];simp),hl]
 have B:=F.made.par;have g:∀ n∈c,mget eqP m (outA S ks n)=some (S4 a (wr b) n)/\V1 ks S.ocells (outA S ks n)=true:=by
  intro n y;have k:n∈atL b c b.length:=by rw [al9 b c (Nat.le_refl _),List.drop_length];show n∈C7 [] c;exact O3.2 (.inr y)
  unfold outA;cases hc:(C4 S.holds ks n).cell with
  |true=>
   rw [cond_true];obtain ⟨cl,s⟩:∃ cl,mget eqI S.cells n=some cl:=by
    rcases u n k with ⟨p,B,hm⟩|hm
    .exact absurd hm (S6.1 hc p B)
    .exact Option.isSome_iff_exists.1 hm
   have h3:=h.cell n cl s;have hg:getI S.cells n=cl:=by unfold getI;rw [s];rfl
   rw [hg];refine ⟨h3.2.2,?_⟩;unfold V1;rw [O9];simp only [cA1,forall_eq,if_true];omega
  |false=>rw [cond_false];obtain ⟨q,I,hs,hm⟩:=au4 hc;rw [hs];refine ⟨h.slot q n I hm (by simp),?_⟩;unfold V1;rw [O9];simp only [cA1,forall_eq];rw [if_neg (by simp)];omega
 have o:Q3 m (c.map (outA S ks))=(c.map (S4 a (wr b)),true):=by
  have key:∀ l:List Int,(∀ n∈l,n∈c)->Q3 m (l.map (outA S ks))=(l.map (S4 a (wr b)),true):=by
   intro l
   induction l with
   |nil=>intro _;rfl
   |cons n r ih=>intro hl;have h4:=(g n (hl n (by simp))).1;simp only [List.map_cons,Q3,h4,ih λx e=>hl x (by simp [e])]
  exact key c λ_ h=>h
 have i:B9 ⟨a,ks,S.ocells,S.code,c.map (outA S ks)⟩=(⟨a,b.map (aM9 a (wr b)),c.map (S4 a (wr b)),[]⟩,true):=by unfold B9;simp only [h.run,o,cond_true]
 have j:L8 ⟨a,ks,S.ocells,S.code,c.map (outA S ks)⟩=0:=by
  have z:J2 ⟨a,ks,S.ocells,S.code,c.map (outA S ks)⟩=true:=by have H:=F.ks1;have w:=F.ks2;have hc:=C.few;have J:=C.pos;unfold J2;simp only [cz3,cB2,O9,cA1,forall_eq,cC0];refine ⟨⟨⟨⟨⟨⟨by omega,by omega⟩,by omega⟩,by omega⟩,by omega⟩,λx e=>(h.good x e).1⟩,λx e=>?_⟩;obtain ⟨n,y,rfl⟩:=List.mem_map.1 e;exact (g n y).2
  have t:(S.code.all λx=>x.kind !=0||D0 x.ins.to)=true:=by rw [cC0];intro x e;have:=(h.good x e).2.1;simpa using this
  unfold L8;rw [if_neg (by dsimp only;omega),if_neg (by rw [z];simp),if_neg (by dsimp only;rw [t];simp),if_neg (by rw [i];simp)]
 refine ⟨_,v,rfl,rfl,j,?_,?_,by simp,by dsimp only;omega⟩
 .unfold M2;rw [if_neg (by rw [j];simp),i];dsimp only;have K:=ct2 F.made;rw [bW7,ch0,cC1,cC1,if_neg (by omega)]
 .unfold U3;rw [cC0];exact λx e=>(h.good x e).2.2
theorem cx4 {a:Int} {b:List Ins} {c:List Int} (C:Checked a b c):∀ x∈b,(∀ n∈x.to,n<a\/n∈wr b)/\(∀ n∈x.from_,n<a\/n∈wr b):=by
 intro x e;refine ⟨λn d=>.inr (aK9.2 ⟨x,e,d⟩),λn d=>?_⟩;obtain ⟨k,f,rfl⟩:=List.mem_iff_getElem.1 e;have h1:=C.there;have hg:b.getD k ins0=b[k]:=by rw [cA4,cz2 f];rfl
 rw [bt2 f,hg] at h1;have h2:=K8 h1 n d;rw [List.nil_append] at h2;refine h2.imp id λh=>?_;obtain ⟨y,g,d⟩:=aK9.1 h;exact aK9.2 ⟨y,List.mem_of_mem_take g,d⟩
open Classical in
def M8 (q:List Int) (S:Int->Prop):Nat:=(q.filter λx=>decide (¬ S x)).length
def Size (T:Int->Prop) (k:Nat):Prop:=∀ l:List Int,l.Nodup->(∀ x∈l,T x)->l.length<=k
abbrev Bts:=List (Bool×List Int)
inductive Way (k:Nat):Bts->(Int->Prop)->Nat->Prop
 |nil (S:Int->Prop):Way k [] S 0
 |cons {b:Bool} {q:List Int} {bs:Bts} {S T:Int->Prop} {c:Nat} (h1:∀ x∈q,T x) (h2:∀ x,T x->S x\/x∈q) (h3:Size T k) (h4:Way k bs T c):Way k ((b,q)::bs) S (c+bif b then M8 q S else 0)
theorem D7 (x:Int) (q:List Int) (S:Int->Prop):(S x->M8 (x::q) S=M8 q S)/\(¬ S x->M8 (x::q) S=M8 q S+1):=by
 classical
 refine ⟨λh=>?_,λh=>?_⟩
 .unfold M8;rw [List.filter_cons_of_neg (by simpa using h)]
 .unfold M8;rw [List.filter_cons_of_pos (by simpa using h)];rfl
theorem U6 {A B:Int->Prop}:∀ (q:List Int),(∀ z∈q,A z->B z)->M8 q B<=M8 q A
 |[],_=>Nat.le_refl _
 |z::q,h=>by
  have ih:=U6 q λy c=>h y (by simp [c]);by_cases b:B z
  .rw [(D7 z q B).1 b];by_cases a:A z
   .rw [(D7 z q A).1 a];exact ih
   .rw [(D7 z q A).2 a];omega
  .rw [(D7 z q B).2 b,(D7 z q A).2 λa=>b (h z (by simp) a)];omega
theorem ba9 {A B:Int->Prop} {x:Int}:∀ (q:List Int),q.Nodup->(∀ z∈q,z≠x->A z->B z)->M8 q B<=M8 q A+1
 |[],_,_=>Nat.zero_le _
 |z::q,f,h=>by
  obtain ⟨h1,h2⟩:=List.nodup_cons.1 f;by_cases d:z=x
  .have ih:=U6 q (A:=A) (B:=B) λy c=>h y (by simp [c]) λe=>h1 (by rw [d,<-e];exact c);by_cases b:B z
   .rw [(D7 z q B).1 b];by_cases a:A z
    .rw [(D7 z q A).1 a];omega
    .rw [(D7 z q A).2 a];omega
   .rw [(D7 z q B).2 b];by_cases a:A z
    .rw [(D7 z q A).1 a];omega
    .rw [(D7 z q A).2 a];omega
  .have ih:=ba9 q h2 λy c=>h y (by simp [c]);by_cases b:B z
   .rw [(D7 z q B).1 b];by_cases a:A z
    .rw [(D7 z q A).1 a];exact ih
    .rw [(D7 z q A).2 a];omega
   .rw [(D7 z q B).2 b,(D7 z q A).2 λa=>b (h z (by simp) d a)];omega
theorem bk9 {A B:Int->Prop} {y:Int} (d:¬ A y) (f:B y):∀ (q:List Int),y∈q->(∀ z∈q,A z->B z)->M8 q B+1<=M8 q A
 |z::q,b,h=>by
  by_cases g:z=y
  .subst g;rw [(D7 z q B).1 f,(D7 z q A).2 d];have:=U6 q (A:=A) (B:=B) λy b=>h y (by simp [b]);omega
  .have ih:=bk9 d f q ((List.mem_cons.1 b).resolve_left λe=>g e.symm) λy b=>h y (by simp [b]);by_cases c:B z
   .rw [(D7 z q B).1 c];by_cases a:A z
    .rw [(D7 z q A).1 a];exact ih
    .rw [(D7 z q A).2 a];omega
   .rw [(D7 z q B).2 c,(D7 z q A).2 λa=>c (h z (by simp) a)];omega
 |[],b,_=>by simp at b
theorem Size.sub {S T:Int->Prop} {k:Nat} (h:Size T k) (hs:∀ x,S x->T x):Size S k:=λl a hl=>h l a λx b=>hs x (hl x b)
theorem Size.swap {T:Int->Prop} {k:Nat} (h:Size T k) {x y:Int} (d:T x):Size (λz=>(T z/\z≠x)\/z=y) k:=by
 intro l b hl;by_cases c:y∈l
 .have h1:(x::l.erase y).length<=k:=by
   refine h _ (List.nodup_cons.2 ⟨λhm=>?_,b.erase y⟩) λz a=>?_
   .rcases hl x (List.mem_of_mem_erase hm) with h1|h1
    .exact h1.2 rfl
    .rw [h1] at hm;exact (List.Nodup.not_mem_erase b) hm
   .rcases List.mem_cons.1 a with rfl|a
    .exact d
    .rcases hl z (List.mem_of_mem_erase a) with h1|h1
     .exact h1.1
     .rw [h1] at a;exact absurd a (List.Nodup.not_mem_erase b)
  rw [cA6,List.length_erase_of_mem c] at h1;have:=List.length_pos_of_mem c;omega
 .refine h l b λz a=>?_;rcases hl z a with h1|h1
  .exact h1.1
  .rw [h1] at a;exact absurd a c
theorem Way.mono {k:Nat} {bs:Bts} {S S':Int->Prop} {c:Nat} (w:Way k bs S c) (h:∀ x,S x->S' x):∃ c',c'<=c/\Way k bs S' c':=by
 cases w with
 |nil=>exact ⟨0,Nat.le_refl _,.nil _⟩
 |@cons b q bs _ T c h1 h2 h3 h4=>
  refine ⟨_,?_,.cons (b:=b) h1 (λx a=>(h2 x a).imp (h x) id) h3 h4⟩;cases b with
  |false=>exact Nat.le_refl _
  |true=>have:=U6 q (A:=S) (B:=S') λz _=>h z;simp only [cond_true];omega
def an6 (bs:Bts):Prop:=∀ p∈bs,p.2.Nodup
def Old (bs:Bts) (x:Int):Prop:=∀ p∈bs,p.1=false->x∉p.2
def Dead (bs:Bts) (x:Int):Prop:=∀ p∈bs,x∉p.2
def bl0:Bts->Int->Int->Prop
 |[],_,_=>True
 |(b,q)::bs,y,x=>(b=true/\y∈q)\/(x∉q/\y∉q/\bl0 bs y x)
theorem bA1 {k:Nat}:∀ {bs:Bts} {A:Int->Prop} {c:Nat} {x:Int},Way k bs A c->an6 bs->Old bs x->∃ c',c'<=c+1/\Way k bs (λz=>A z/\z≠x) c'
 |[],A,c,x,w,_,_=>⟨0,Nat.zero_le _,.nil _⟩
 |(b,q)::bs,A,c,x,w,l,m=>by
  cases w with
  |@cons _ _ _ _ T c h1 h2 h3 h4=>
   have g:an6 bs:=λp i=>l p (by simp [i]);have n:q.Nodup:=l (b,q) (by simp);have j:Old bs x:=λp i=>m p (by simp [i]);by_cases d:x∈q
   .have o:b=true:=by
     cases b with
     |true=>rfl
     |false=>exact absurd d (m (false,q) (by simp) rfl)
    subst o;refine ⟨_,?_,.cons (b:=true) h1 (λz a=>?_) h3 h4⟩
    .have:=ba9 q (x:=x) (A:=A) (B:=λz=>A z/\z≠x) n λz _ h1 h2=>⟨h2,h1⟩;simp only [cond_true];omega
    .rcases h2 z a with h|h
     .by_cases f:z=x
      .exact .inr (by rw [f];exact d)
      .exact .inl ⟨h,f⟩
     .exact .inr h
   .have hm:M8 q (λz=>A z/\z≠x)<=M8 q A:=U6 q λz a h=>⟨h,λe=>d (by rw [<-e];exact a)⟩;obtain ⟨c',r,w'⟩:=bA1 h4 g j;refine ⟨_,?_,.cons (b:=b) (T:=λz=>T z/\z≠x) (λz a=>⟨h1 z a,λe=>d (by rw [<-e];exact a)⟩) (λz a=>?_) (h3.sub λz a=>a.1) w'⟩
    .cases b with
     |true=>simp only [cond_true];omega
     |false=>simp only [cond_false];omega
    .rcases h2 z a.1 with h|h
     .exact .inl ⟨h,a.2⟩
     .exact .inr h
theorem bA2 {k:Nat}:∀ {bs:Bts} {A:Int->Prop} {c:Nat} {x:Int},Way k bs A c->Dead bs x->∃ c',c'<=c/\Way k bs (λz=>A z/\z≠x) c'
 |[],A,c,x,w,_=>⟨0,Nat.zero_le _,.nil _⟩
 |(b,q)::bs,A,c,x,w,f=>by
  cases w with
  |@cons _ _ _ _ T c h1 h2 h3 h4=>
   have d:x∉q:=f (b,q) (by simp);have hm:M8 q (λz=>A z/\z≠x)<=M8 q A:=U6 q λz a h=>⟨h,λe=>d (by rw [<-e];exact a)⟩;obtain ⟨c',g,w'⟩:=bA2 h4 (x:=x) λp i=>f p (by simp [i]);refine ⟨_,?_,.cons (b:=b) (T:=λz=>T z/\z≠x) (λz a=>⟨h1 z a,λe=>d (by rw [<-e];exact a)⟩) (λz a=>?_) (h3.sub λz a=>a.1) w'⟩
   .cases b with
    |true=>simp only [cond_true];omega
    |false=>simp only [cond_false];omega
   .rcases h2 z a.1 with h|h
    .exact .inl ⟨h,a.2⟩
    .exact .inr h
theorem bA3 {k:Nat}:∀ {bs:Bts} {A:Int->Prop} {c:Nat} {x y:Int},Way k bs A c->an6 bs->Old bs x->A x->¬ A y->bl0 bs y x->∃ c',c'<=c/\Way k bs (λz=>(A z/\z≠x)\/z=y) c'
 |[],A,c,x,y,w,_,_,_,_,_=>⟨0,Nat.zero_le _,.nil _⟩
 |(b,q)::bs,A,c,x,y,w,s,v,C,m,hs=>by
  cases w with
  |@cons _ _ _ _ T c h1 h2 h3 h4=>
   have i:an6 bs:=λp n=>s p (by simp [n]);have D:q.Nodup:=s (b,q) (by simp);have j:Old bs x:=λp n=>v p (by simp [n]);have E:x≠y:=λe=>m (by rw [<-e];exact C);by_cases g:y∈q
   .have F:b=true:=by
     rcases hs with hs|hs
     .exact hs.1
     .exact absurd g hs.2.1
    subst F;have t:=bk9 (A:=A) (B:=λz=>A z\/z=y) m (.inr rfl) q g λz _ h=>.inl h;have u:=ba9 q (x:=x) (A:=λz=>A z\/z=y) (B:=λz=>(A z/\z≠x)\/z=y) D λz _ h1 h2=>h2.imp (λh=>⟨h,h1⟩) id;by_cases d:x∈q
    .refine ⟨_,?_,.cons (b:=true) h1 (λz a=>?_) h3 h4⟩
     .simp only [cond_true];omega
     .rcases h2 z a with h|h
      .by_cases l:z=x
       .exact .inr (by rw [l];exact d)
       .exact .inl (.inl ⟨h,l⟩)
      .exact .inr h
    .have hm:M8 q (λz=>(A z/\z≠x)\/z=y)<=M8 q (λz=>A z\/z=y):=U6 q λz a h=>h.imp (λh=>⟨h,λe=>d (by rw [<-e];exact a)⟩) id;by_cases f:T x
     .obtain ⟨c',o,w'⟩:=bA1 h4 i j;refine ⟨_,?_,.cons (b:=true) (T:=λz=>T z/\z≠x) (λz a=>⟨h1 z a,λe=>d (by rw [<-e];exact a)⟩) (λz a=>?_) (h3.sub λz a=>a.1) w'⟩
      .simp only [cond_true];omega
      .rcases h2 z a.1 with h|h
       .exact .inl (.inl ⟨h,a.2⟩)
       .exact .inr h
     .refine ⟨_,?_,.cons (b:=true) h1 (λz a=>?_) h3 h4⟩
      .simp only [cond_true];omega
      .rcases h2 z a with h|h
       .exact .inl (.inl ⟨h,λe=>f (by rw [<-e];exact a)⟩)
       .exact .inr h
   .obtain ⟨d,_,hs⟩:x∉q/\y∉q/\bl0 bs y x:=hs.resolve_left λh=>g h.2;have hm:M8 q (λz=>(A z/\z≠x)\/z=y)<=M8 q A:=U6 q λz a h=>.inl ⟨h,λe=>d (by rw [<-e];exact a)⟩;have r:¬ T y:=λh=>(h2 y h).elim m g;by_cases f:T x
    .obtain ⟨c',o,w'⟩:=bA3 h4 i j f r hs;refine ⟨_,?_,.cons (b:=b) (T:=λz=>(T z/\z≠x)\/z=y) (λz a=>.inl ⟨h1 z a,λe=>d (by rw [<-e];exact a)⟩) (λz a=>?_) (h3.swap f) w'⟩
     .cases b with
      |true=>simp only [cond_true];omega
      |false=>simp only [cond_false];omega
     .rcases a with a|a
      .rcases h2 z a.1 with h|h
       .exact .inl (.inl ⟨h,a.2⟩)
       .exact .inr h
      .exact .inl (.inr a)
    .refine ⟨_,?_,.cons (b:=b) h1 (λz a=>?_) h3 h4⟩
     .cases b with
      |true=>simp only [cond_true];omega
      |false=>simp only [cond_false];omega
     .rcases h2 z a with h|h
      .exact .inl (.inl ⟨h,λe=>f (by rw [<-e];exact a)⟩)
      .exact .inr h
theorem aT3 {k:Nat} {q:List Int} {bs:Bts} {H H':Int->Prop} (N:an6 bs) (HL:List Int) (O:∀ u,H u->u∈HL) (P:∀ x∈q,H' x) (Q:∀ x,H' x->H x\/x∈q) (R:∀ x,H x->Old bs x)
  (hg:∀ u,H u->¬ H' u->Dead bs u\/(∃ l:List Int,l.Nodup/\k<=l.length/\∀ x∈l,H' x)/\∀ v,H' v->v∉q->bl0 bs v u):
  ∀ (n:Nat) {T:Int->Prop} {c:Nat},(∀ l:List Int,l.Nodup->(∀ x∈l,T x/\¬ H' x)->l.length<=n)->(∀ x∈q,T x)->(∀ x,T x->H x\/x∈q)->Size T k->Way k bs T c->∃ c',c'<=c/\Way k bs H' c':=by
 intro n
 induction n with
 |zero=>intro T c hl g A B w;refine w.mono λx a=>Classical.byContradiction λh=>?_;have:=hl [x] (by simp) (λy M=>by rw [cA1] at M;subst M;exact ⟨a,h⟩);simp at this
 |succ n ih=>
  intro T c hl g A B w;by_cases i:∀ x,T x->H' x
  .exact w.mono i
  .obtain ⟨u,S⟩:=Classical.not_forall.1 i;obtain ⟨d,f⟩:=Classical.not_imp.1 S;have o:u∉q:=λh=>f (P u h);have j:H u:=(A u d).resolve_right o;rcases hg u j f with U|⟨⟨l,C,V,r⟩,D⟩
   .obtain ⟨c',E,w'⟩:=bA2 w U;obtain ⟨F,G,I⟩:=ih (T:=λz=>T z/\z≠u) (λm hm b=>by
     have:=hl (u::m) (List.nodup_cons.2 ⟨λh=>(b u h).1.2 rfl,hm⟩) (λx a=>by
      rcases List.mem_cons.1 a with rfl|a
      .exact ⟨d,f⟩
      .exact ⟨(b x a).1.1,(b x a).2⟩)
     rw [cA6] at this;omega) (λx a=>⟨g x a,λe=>o (by rw [<-e];exact a)⟩) (λx a=>A x a.1) (B.sub λx a=>a.1) w'
    exact ⟨F,by omega,I⟩
   .have J:∃ v∈l,¬ T v:=by
     refine Classical.byContradiction λh=>?_;have h2:∀ v∈l,T v:=λv W=>Classical.byContradiction λh3=>h ⟨v,W,h3⟩;have:=B (u::l) (List.nodup_cons.2 ⟨λh=>f (r u h),C⟩) (λx a=>by
      rcases List.mem_cons.1 a with rfl|a
      .exact d
      .exact h2 x a)
     rw [cA6] at this;omega
    obtain ⟨v,K,s⟩:=J;have p:=r v K;have L:v∉q:=λh=>s (g v h);obtain ⟨c',E,w'⟩:=bA3 w N (R u j) d s (D v p L);obtain ⟨F,G,I⟩:=ih (T:=λz=>(T z/\z≠u)\/z=v) (λm hm b=>by
     have t:v∉m:=λh=>(b v h).2 p;have:=hl (u::m) (List.nodup_cons.2 ⟨λh=>by
      rcases (b u h).1 with h1|h1
      .exact h1.2 rfl
      .exact t (by rw [<-h1];exact h),hm⟩) (λx a=>by
      rcases List.mem_cons.1 a with rfl|a
      .exact ⟨d,f⟩
      .rcases (b x a).1 with h1|h1
       .exact ⟨h1.1,(b x a).2⟩
       .exact absurd a (by rw [h1];exact t))
     rw [cA6] at this;omega) (λx a=>.inl ⟨g x a,λe=>o (by rw [<-e];exact a)⟩) (λx a=>by
      rcases a with a|a
      .exact A x a.1
      .rw [a];exact Q v p) (B.swap d) w'
    exact ⟨F,by omega,I⟩
end Go.Rg
end
section
namespace Go.Rg
open Go Go.VT
theorem aN1 (sp:Spans) (rd:Reads) (N:Int) (m:Holds) (pl:Int) (st:List Int):∀ (l:List Nat) (acc acc':List Held),C0 sp rd N m pl st l acc=(none,acc')->
  (∀ x∈acc,x∈acc')/\(∀ x∈acc',x∈acc\/x.next=M6 rd N x.reg pl)/\∀ s∈l,∃ r,mget eqP m ⟨false,(s:Int)⟩=some r/\(r∈st\/(⟨(s:Int),r,M6 rd N r pl⟩:Held)∈acc')
 |[],acc,acc',h=>by simp only [C0,cA2,true_and] at h;subst h;exact ⟨λx a=>a,λx a=>.inl a,λs hs=>by simp at hs⟩
 |s::r,acc,acc',h=>by
  simp only [C0] at h;cases hm:mget eqP m ⟨false,(s:Int)⟩ with
  |none=>rw [hm] at h;simp at h
  |some n=>
   rw [hm] at h;simp only at h;cases hc:st.contains n with
   |true=>
    rw [hc,cond_true] at h;obtain ⟨h1,h2,h3⟩:=aN1 sp rd N m pl st r acc acc' h;refine ⟨h1,h2,λx a=>?_⟩;rcases List.mem_cons.1 a with rfl|a
    .exact ⟨n,hm,.inl (List.contains_iff_mem.1 hc)⟩
    .exact h3 x a
   |false=>
    rw [hc,cond_false] at h;cases b:H5 (getS sp n).first (getS sp n).last pl with
    |false=>rw [b,cond_false] at h;simp at h
    |true=>
     rw [b,cond_true] at h;obtain ⟨h1,h2,h3⟩:=aN1 sp rd N m pl st r _ acc' h;refine ⟨λx a=>h1 x (by simp [a]),λx a=>?_,λx a=>?_⟩
     .rcases h2 x a with h4|h4
      .rcases cB7.1 h4 with h4|h4
       .exact .inl h4
       .rw [cA1] at h4;subst h4;exact .inr rfl
      .exact .inr h4
     .rcases List.mem_cons.1 a with rfl|a
      .exact ⟨n,hm,.inr (h1 _ (by simp))⟩
      .exact h3 x a
theorem ch1 {l:List Held}:∀ x∈l,x.next<=(K9 l).next:=by
 cases l with
 |nil=>simp
 |cons x r=>
  show ∀ y∈x::r,y.next<=(r.foldl G7 x).next
  induction r generalizing x with
  |nil=>simp
  |cons y r ih=>
   have h1:x.next<=(G7 x y).next/\y.next<=(G7 x y).next:=by
    unfold G7 ai4;by_cases h:y.next >x.next
    .rw [decide_eq_true h];exact ⟨by show x.next<=y.next;omega,Int.le_refl _⟩
    .rw [decide_eq_false h,Bool.false_or];cases h2:(y.next==x.next&&decide (y.reg >x.reg)) with
     |false=>exact ⟨Int.le_refl _,by show y.next<=x.next;omega⟩
     |true=>rw [cz3,beq_iff_eq] at h2;exact ⟨by show x.next<=y.next;omega,Int.le_refl _⟩
   have ih:=ih (G7 x y);intro z a;have h0:=ih (G7 x y) (by simp);rw [List.foldl_cons];rcases List.mem_cons.1 a with rfl|a
   .omega
   rcases List.mem_cons.1 a with rfl|a
   .omega
   .exact ih z (by simp [a])
section
variable {P:Int->Prop} {sp:Spans} {rd:Reads} {ks N:Int}
def Full (ks:Int) (m:Holds):Prop:=∀ s:Nat,s<ks.toNat->∃ r,mget eqP m ⟨false,(s:Int)⟩=some r
theorem bW8 {S:AS} {pl:Int} {st:List Int} (f:X8 sp rd ks N S.holds pl st) (F:Fine P ks S.holds):
  ∃ q:Nat,q<ks.toNat/\(E1 sp rd ks N S pl st).1=(q:Int)/\∀ u,mget eqP S.holds ⟨false,(q:Int)⟩=some u->u∉st/\(H5 (getS sp u).first (getS sp u).last pl=false\/(Full ks S.holds/\∀ v,InS S.holds ks v->v∉st->M6 rd N v pl<=M6 rd N u pl)):=by
 obtain ⟨o,hs,a⟩:∃ o hs,L2 sp rd ks N S.holds pl st=(o,hs):=⟨_,_,rfl⟩;have b:=ac2 sp rd N S.holds pl st (List.range ks.toNat) [];cases o with
 |some i=>obtain ⟨q,g,rfl,hr⟩:=b.1 i hs a;refine ⟨q,by simpa using g,by unfold E1;rw [a],λu d=>⟨(hr u d).1,.inl (hr u d).2⟩⟩
 |none=>
  have e:hs≠[]:=by have:=f (by rw [a]);rw [a] at this;exact this
  rcases b.2 hs a _ (ba7 e) with m|⟨q,g,h,j,k⟩
  .simp at m
  obtain ⟨_,h2,h3⟩:=aN1 sp rd N S.holds pl st _ _ _ a;refine ⟨q,by simpa using g,by unfold E1;rw [a];exact h,λu d=>?_⟩;rw [j] at d;cases d;refine ⟨k,.inr ⟨λs c=>?_,λv ⟨s,c,hm⟩ n=>?_⟩⟩
  .obtain ⟨r,h4,_⟩:=h3 s (by simpa using c);exact ⟨r,h4⟩
  .obtain ⟨r,h4,p⟩:=h3 s (by simpa using c);rw [hm] at h4;cases h4;have l:=ch1 _ (p.resolve_left n);have t:=(h2 _ (ba7 e)).resolve_left (by simp);rw [t] at l;exact l
theorem bb0 (m:Holds) (q:Nat) (n:Int) (a:Nat):mget eqP (mput eqP m ⟨false,(q:Int)⟩ n) ⟨false,(a:Int)⟩=if q=a then some n else mget eqP m ⟨false,(a:Int)⟩:=by
 rw [H4];by_cases h:q=a
 .rw [if_pos h,if_pos (by rw [h])]
 .rw [if_neg h,if_neg (by intro e;rw [Place.mk.injEq] at e;omega)]
theorem bA4 {m:Holds} {q:Nat} {n x:Int} (h:InS (mput eqP m ⟨false,(q:Int)⟩ n) ks x):InS m ks x\/x=n:=by
 obtain ⟨a,b,hm⟩:=h;rw [bb0] at hm;split at hm
 .exact .inr (Option.some.inj hm).symm
 .exact .inl ⟨a,b,hm⟩
theorem bW9 {m:Holds} {q:Nat} (a:q<ks.toNat) (n:Int):InS (mput eqP m ⟨false,(q:Int)⟩ n) ks n:=⟨q,a,by rw [bb0,if_pos rfl]⟩
theorem bX0 {m:Holds} {q:Nat} {n x:Int} (h:InS m ks x) (h2:¬ InS (mput eqP m ⟨false,(q:Int)⟩ n) ks x):mget eqP m ⟨false,(q:Int)⟩=some x:=by
 obtain ⟨a,c,hm⟩:=h;by_cases b:q=a
 .rw [b];exact hm
 .exact absurd ⟨a,c,by rw [bb0,if_neg b];exact hm⟩ h2
theorem bA5 {m:Holds} {q:Nat} {n:Int} (h:Full ks m):Full ks (mput eqP m ⟨false,(q:Int)⟩ n):=by
 intro s hs;rw [bb0];split
 .exact ⟨_,rfl⟩
 .exact h s hs
def Gr (sp:Spans) (rd:Reads) (ks N pl:Int) (q:List Int) (m0 m:Holds):Prop:=
 ∀ u,InS m0 ks u->¬ InS m ks u->u∉q/\(H5 (getS sp u).first (getS sp u).last pl=false\/(Full ks m/\∀ v,InS m ks v->v∉q->M6 rd N v pl<=M6 rd N u pl))
theorem bX1 {pl:Int} {q:List Int} {k:Holds} {S:AS} {n:Int} (F:Fine P ks S.holds) (d:X8 sp rd ks N S.holds pl q) (l:n∈q) (h:Gr sp rd ks N pl q k S.holds):
  ∃ a:Nat,a<ks.toNat/\(E1 sp rd ks N S pl q).1=(a:Int)/\Gr sp rd ks N pl q k (mput eqP S.holds ⟨false,(a:Int)⟩ n)/\(∀ x∈q,InS S.holds ks x->InS (mput eqP S.holds ⟨false,(a:Int)⟩ n) ks x):=by
 obtain ⟨a,o,hr,m⟩:=bW8 d F;refine ⟨a,o,hr,λu p f=>?_,λx r g=>Classical.byContradiction λi=>(m x (bX0 g i)).1 r⟩;by_cases c:InS S.holds ks u
 .obtain ⟨h1,h2⟩:=m u (bX0 c f);refine ⟨h1,h2.imp id λ⟨h3,h4⟩=>⟨bA5 h3,λv j b=>?_⟩⟩;exact h4 v ((bA4 j).resolve_right λe=>b (by rw [e];exact l)) b
 .obtain ⟨h1,h2⟩:=h u p c;refine ⟨h1,h2.imp id λ⟨h3,h4⟩=>⟨bA5 h3,λv j b=>?_⟩⟩;exact h4 v ((bA4 j).resolve_right λe=>b (by rw [e];exact l)) b
theorem aT4 (S:AS) (pl:Int) (st:List Int):L6 1 (E1 sp rd ks N S pl st).2.code=L6 1 S.code:=by
 unfold E1;split
 .rfl
 .unfold aq0;cases (mget eqI S.cells _).isSome with
  |true=>rfl
  |false=>show L6 1 (S.code++[_])=_;rw [al3];rfl
theorem bl1 (q:List Int) (x:Int) (S:Int->Prop):(S x->M8 (q++[x]) S=M8 q S)/\(¬ S x->M8 (q++[x]) S=M8 q S+1):=by
 classical
 refine ⟨λh=>?_,λh=>?_⟩
 .unfold M8;rw [List.filter_append,List.filter_cons_of_neg (by simpa using h)];simp
 .unfold M8;rw [List.filter_append,List.filter_cons_of_pos (by simpa using h)];simp
theorem bA6 {i:Int} {fr:List Int} {S:AS} (F:Fine P ks S.holds) (A:∀ n∈fr,P n) (m:fr.Nodup)
  (o:∀ k,k<fr.length->(C4 (C5 sp rd ks N i fr S (fr.take k)).holds ks (fr.getD k 0)).cell=true->X8 sp rd ks N (C5 sp rd ks N i fr S (fr.take k)).holds i fr):∀ j,j<=fr.length->
  Gr sp rd ks N i fr S.holds (C5 sp rd ks N i fr S (fr.take j)).holds/\(∀ x,InS (C5 sp rd ks N i fr S (fr.take j)).holds ks x->InS S.holds ks x\/x∈fr.take j)/\
   (∀ x∈fr,InS S.holds ks x->InS (C5 sp rd ks N i fr S (fr.take j)).holds ks x)/\(∀ x∈fr.take j,InS (C5 sp rd ks N i fr S (fr.take j)).holds ks x)/\
   L6 1 (C5 sp rd ks N i fr S (fr.take j)).code=L6 1 S.code+M8 (fr.take j) (InS S.holds ks)
 |0,_=>⟨λu C v=>absurd C (by simpa [C5] using v),λx b=>.inl (by simpa [C5] using b),λx _ b=>by simpa [C5] using b,by simp,by simp [C5,M8]⟩
 |j+1,D=>by
  obtain ⟨h1,h2,h3,h4,w⟩:=bA6 F A m o j (by omega);have hg:=E7 (l:=fr) (i:=j) (by omega) 0;have Fj:=W6 (sp:=sp) (rd:=rd) (N:=N) (i:=i) (fr:=fr) (fr.take j) F (λn t=>A n (List.mem_of_mem_take t));have p:fr.getD j 0∉fr.take j:=λhm=>by have g:=m;rw [<-List.take_append_drop (j+1) fr,A4 (by omega) 0,List.nodup_append] at g;exact (List.nodup_append.1 g.1).2.2 _ hm _ (by simp) rfl
  have c:=o j (by omega);rw [A4 (by omega) 0,aA9];obtain ⟨n,t⟩:∃ n,fr.getD j 0=n:=⟨_,rfl⟩;obtain ⟨T,B⟩:∃ T,C5 sp rd ks N i fr S (fr.take j)=T:=⟨_,rfl⟩;rw [t] at hg p c;rw [B] at h1 h2 h3 h4 w Fj c;rw [t,B];cases hc:(C4 T.holds ks n).cell with
  |false=>
   have e:F4 sp rd ks N i fr T n=T:=by unfold F4;rw [hc];rfl
   have f:InS T.holds ks n:=by obtain ⟨a,q,_,hm⟩:=au4 hc;exact ⟨a,q,hm⟩
   have r:InS S.holds ks n:=(h2 n f).resolve_right p;rw [e];refine ⟨h1,λx b=>(h2 x b).imp id λh=>by simp [h],h3,λx b=>?_,?_⟩
   .rcases cB7.1 b with b|b
    .exact h4 x b
    .rw [cA1] at b;rw [b];exact f
   .rw [(bl1 _ _ _).1 r];exact w
  |true=>
   have y:¬ InS T.holds ks n:=λ⟨a,q,hm⟩=>S6.1 hc a q hm;have s:¬ InS S.holds ks n:=λh=>y (h3 n hg h);obtain ⟨a,q,hr,z,d⟩:=bX1 Fj (c hc) hg h1;have e:F4 sp rd ks N i fr T n=⟨mput eqP T.holds ⟨false,(a:Int)⟩ n,(E1 sp rd ks N T i fr).2.cells,(E1 sp rd ks N T i fr).2.ocells,(E1 sp rd ks N T i fr).2.code++[⟨1,(a:Int),getI (E1 sp rd ks N T i fr).2.cells n,ins0⟩]⟩:=by unfold F4;rw [hc,cond_true,<-aa3 sp rd ks N T i fr,<-hr]
   rw [e];refine ⟨z,λx b=>?_,λx b f=>d x b (h3 x b f),λx b=>?_,?_⟩
   .rcases bA4 b with h|h
    .exact (h2 x h).imp id λh=>by simp [h]
    .exact .inr (by simp [h])
   .rcases cB7.1 b with b|b
    .exact d x (List.mem_of_mem_take b) (h4 x b)
    .rw [cA1] at b;rw [b];exact bW9 q n
   .rw [al3,if_pos rfl,aT4,(bl1 _ _ _).2 s,w];omega
theorem ci8 {i:Int} {to:List Int} {S:AS} (F:Fine P ks S.holds) (f:to.Nodup) (g:∀ n∈to,¬ P n)
  (m:∀ k,k<to.length->X8 sp rd ks N (H6 sp rd ks N i to S (to.take k)).holds (i+1) to):∀ j,j<=to.length->
  Gr sp rd ks N (i+1) to S.holds (H6 sp rd ks N i to S (to.take j)).holds/\(∀ x,InS (H6 sp rd ks N i to S (to.take j)).holds ks x->InS S.holds ks x\/x∈to.take j)/\
   (∀ x∈to.take j,InS (H6 sp rd ks N i to S (to.take j)).holds ks x)/\L6 1 (H6 sp rd ks N i to S (to.take j)).code=L6 1 S.code
 |0,_=>⟨λu t o=>absurd t (by simpa [H6] using o),λx b=>.inl (by simpa [H6] using b),by simp,by simp [H6]⟩
 |j+1,w=>by
  obtain ⟨h1,h2,h4,q⟩:=ci8 F f g m j (by omega);have hg:=E7 (l:=to) (i:=j) (by omega) 0;have Fj:=(aD5 (sp:=sp) (rd:=rd) (N:=N) (i:=i) F f g j (by omega)).1;rw [A4 (by omega) 0,ax5];have c:=m j (by omega);obtain ⟨n,r⟩:∃ n,to.getD j 0=n:=⟨_,rfl⟩;obtain ⟨T,s⟩:∃ T,H6 sp rd ks N i to S (to.take j)=T:=⟨_,rfl⟩;rw [r] at hg;rw [s] at h1 h2 h4 q Fj c;rw [r,s];obtain ⟨a,v,hr,p,d⟩:=bX1 Fj c hg h1;have e:U4 sp rd ks N i to T n=⟨mput eqP T.holds ⟨false,(a:Int)⟩ n,(E1 sp rd ks N T (i+1) to).2.cells,(E1 sp rd ks N T (i+1) to).2.ocells,(E1 sp rd ks N T (i+1) to).2.code⟩:=by unfold U4;rw [<-aa3 sp rd ks N T (i+1) to,<-hr]
  rw [e];refine ⟨p,λx b=>?_,λx b=>?_,?_⟩
  .rcases bA4 b with h|h
   .exact (h2 x h).imp id λh=>by simp [h]
   .exact .inr (by simp [h])
  .rcases cB7.1 b with b|b
   .exact d x (List.mem_of_mem_take b) (h4 x b)
   .rw [cA1] at b;rw [b];exact bW9 v n
  .exact (aT4 _ _ _).trans q
theorem bX2 (m:Holds):Size (InS m ks) ks.toNat:=by
 intro l a hl;have h:=ae5 l ((List.range ks.toNat).filterMap λs:Nat=>mget eqP m ⟨false,(s:Int)⟩) a λx b=>by obtain ⟨q,c,hm⟩:=hl x b;exact List.mem_filterMap.2 ⟨q,by simpa using c,hm⟩
 have h2:((List.range ks.toNat).filterMap λs:Nat=>mget eqP m ⟨false,(s:Int)⟩).length<=_:=List.length_filterMap_le _ _;rw [List.length_range] at h2;omega
theorem bl2 {m:Holds} (F:Fine P ks m) (h:Full ks m):∃ l:List Int,l.Nodup/\ks.toNat<=l.length/\∀ x∈l,InS m ks x:=by
 let f:Nat->Int:=λs=>(mget eqP m ⟨false,(s:Int)⟩).getD 0
 have hf:∀ s,s<ks.toNat->mget eqP m ⟨false,(s:Int)⟩=some (f s):=by
  intro s hs;obtain ⟨r,hr⟩:=h s hs;have:f s=r:=by simp only [f,hr,Option.getD_some]
  rw [this];exact hr
 refine ⟨(List.range ks.toNat).map f,?_,by simp,λx i=>?_⟩
 .rw [List.nodup_iff_pairwise_ne,List.pairwise_map];refine List.Pairwise.imp_of_mem ?_ (List.nodup_iff_pairwise_ne.1 List.nodup_range);intro a b e g c d;refine c (F.inj a b (by simpa using e) (by simpa using g) (f a) (hf a (by simpa using e)) ?_);rw [d];exact hf b (by simpa using g)
 .obtain ⟨s,hs,rfl⟩:=List.mem_map.1 i;exact ⟨s,by simpa using hs,hf s (by simpa using hs)⟩
end
end Go.Rg
end
section
namespace Go.Rg
open Go Go.VT
def bts:List Ins->Bts
 |[]=>[]
 |x::r=>(true,B0 x.from_)::(false,x.to)::bts r
theorem ae6 {b:List Ins} {k:Nat} (h:k<b.length):bts (b.drop k)=(true,B0 (b.getD k ins0).from_)::(false,(b.getD k ins0).to)::bts (b.drop (k+1)):=by rw [List.drop_eq_getElem_cons h,bts,cA4,cz2 h];rfl
theorem aq1 {b:List Ins} {k:Nat} (h:k<b.length):wr (b.drop k)=(b.getD k ins0).to++wr (b.drop (k+1)):=by rw [List.drop_eq_getElem_cons h,Q2,cA4,cz2 h];rfl
theorem bt5 {n:Int}:∀ {b:List Ins},n∉wr b->Old (bts b) n
 |[],_=>λp a=>by simp [bts] at a
 |x::r,h=>by
  rw [Q2,cB7,not_or] at h;intro p a hf;simp only [bts,List.mem_cons] at a;rcases a with rfl|rfl|a
  .cases hf
  .exact h.1
  .exact bt5 h.2 p a hf
theorem bA7 (i n:Int):∀ (l:List Int) (m:Reads),l.Nodup->getL (G3 m l i) n=getL m n++if n∈l then [i] else []
 |[],m,_=>by simp [G3]
 |x::r,m,h=>by
  obtain ⟨h1,h2⟩:=List.nodup_cons.1 h;show getL (G3 (mput eqI m x (getL m x++[i])) r i) n=_;rw [bA7 i n r _ h2,aM1];by_cases a:x=n
  .subst a;rw [if_pos rfl,if_neg h1,if_pos (by simp),List.append_nil]
  .rw [if_neg a];congr 1;by_cases hr:n∈r
   .rw [if_pos hr,if_pos (by simp [hr])]
   .rw [if_neg hr,if_neg (by simp only [List.mem_cons,not_or];exact ⟨λe=>a e.symm,hr⟩)]
theorem aN2 (b:List Ins) (n j:Int):∀ k,k<=b.length->(j∈getL (D6 (b.take k)) n<->∃ t:Nat,t<k/\j=t/\n∈(b.getD t ins0).from_)
 |0,_=>by simp [D6,N6,getL,mget]
 |k+1,h=>by
  have ih:=aN2 b n j k (by omega);unfold D6 at ih |-;rw [A4 (by omega) ins0,aj0,bA7 _ _ _ _ (S7 _),cB7,ih,cB9,Nat.min_eq_left (by omega)];constructor
  .rintro (⟨t,h1,h2,h3⟩|h1)
   .exact ⟨t,by omega,h2,h3⟩
   .split at h1
    .rename_i hm;rw [cA1] at h1;exact ⟨k,by omega,by omega,L4.1 hm⟩
    .simp at h1
  .rintro ⟨t,h1,h2,h3⟩;by_cases a:t=k
   .subst a;exact .inr (by rw [if_pos (L4.2 h3)];simp;omega)
   .exact .inl ⟨t,by omega,h2,h3⟩
theorem bX3 {k:Int}:∀ {l:List Int},l.Pairwise (·<=·)->k∈l->l.find? (λx=>decide (k<=x))=some k
 |x::r,b,h=>by
  obtain ⟨h1,h2⟩:=List.pairwise_cons.1 b;by_cases a:k<=x
  .rw [List.find?_cons_of_pos (by simpa using a)];rcases List.mem_cons.1 h with rfl|h
   .rfl
   .have:=h1 k h;congr 1;omega
  .rw [List.find?_cons_of_neg (by simpa using a)];refine bX3 h2 ((List.mem_cons.1 h).resolve_left λe=>a (by omega))
 |[],_,h=>by simp at h
theorem bl3 {k:Int}:∀ {l:List Int},k∉l->l.find? (λx=>decide (k<=x))=l.find? (λx=>decide (k+1<=x))
 |[],_=>rfl
 |x::r,h=>by
  have c:k≠x:=λe=>h (by simp [e]);have ih:=bl3 (l:=r) (k:=k) λb=>h (List.mem_cons_of_mem _ b);by_cases a:k<=x
  .rw [List.find?_cons_of_pos (by simpa using a),List.find?_cons_of_pos (by simp;omega)]
  .rw [List.find?_cons_of_neg (by simpa using a),List.find?_cons_of_neg (by simp;omega),ih]
section
variable {a:Int} {b:List Ins} {c:List Int}
theorem ct3 {n:Int} {k:Nat} (a:k<b.length) (h:n∈(b.getD k ins0).from_) (N:Int):M6 (D6 b) N n k=k:=by have h1:=(aN2 b n k b.length (Nat.le_refl _)).2 ⟨k,a,rfl,h⟩;rw [cB8] at h1;unfold M6;rw [bX3 (an4 b n) h1];rfl
theorem bt6 {n:Int} {k:Nat} (h:n∉(b.getD k ins0).from_) (N:Int):M6 (D6 b) N n k=M6 (D6 b) N n ((k:Int)+1):=by
 have h1:(k:Int)∉getL (D6 b) n:=λhm=>by
  have h2:=(aN2 b n k b.length (Nat.le_refl _)).1 (by rw [cB8];exact hm);obtain ⟨t,_,h3,h4⟩:=h2;have:t=k:=by omega
  rw [this] at h4;exact h h4
 unfold M6;rw [bl3 h1]
theorem ct4 {n:Int} {p N:Int} (h:p<=N):p<=M6 (D6 b) N n p:=by
 unfold M6;cases hf:(getL (D6 b) n).find? (λx=>decide (p<=x)) with
 |none=>exact h
 |some j=>have:=List.find?_some hf;exact cA0 this
theorem aN3 {v u:Int}:∀ (d k:Nat),k+d=b.length->v∉wr (b.drop k)->u∉wr (b.drop k)->M6 (D6 b) b.length v k<=M6 (D6 b) b.length u k->bl0 (bts (b.drop k)) v u
 |0,k,h,_,_,_=>by rw [List.drop_of_length_le (by omega)];trivial
 |d+1,k,h,c,e,a=>by
  have f:k<b.length:=by omega
  rw [ae6 f];rw [aq1 f,cB7,not_or] at c e;by_cases h1:v∈(b.getD k ins0).from_
  .exact .inl ⟨rfl,L4.2 h1⟩
  .have h2:u∉(b.getD k ins0).from_:=λhm=>by
    have h3:=ct3 f hm b.length;have h4:=bt6 h1 b.length;have g:((k:Int)+1)<=M6 (D6 b) b.length v ((k:Int)+1):=ct4 (by omega);omega
   refine .inr ⟨λhm=>h2 (L4.1 hm),λhm=>h1 (L4.1 hm),.inr ⟨e.1,c.1,aN3 d (k+1) (by omega) c.2 e.2 ?_⟩⟩;have h3:=bt6 h1 b.length;have h4:=bt6 h2 b.length;rw [h3,h4] at a;exact a
theorem bb1 {u:Int}:∀ (d k:Nat),k+d=b.length->u∉atL b c k->u∉wr (b.drop k)->Dead (bts (b.drop k)) u
 |0,k,h,_,_=>by rw [List.drop_of_length_le (by omega)];exact λp a=>by simp [bts] at a
 |d+1,k,h,hl,e=>by
  have f:k<b.length:=by omega
  have g:atL b c k=ah6 (b.getD k ins0) (atL b c (k+1)):=by rw [al9 b c (Nat.le_of_lt f),ai3 b c f];rfl
  rw [g,ac1,not_or] at hl;rw [aq1 f,cB7,not_or] at e;have h1:u∉atL b c (k+1):=λhm=>hl.2 ⟨hm,e.1⟩;have ih:=bb1 d (k+1) (by omega) h1 e.2;rw [ae6 f];intro p a;simp only [List.mem_cons] at a;rcases a with rfl|rfl|a
  .exact λhm=>hl.1 (L4.1 hm)
  .exact e.1
  .exact ih p a
theorem au7 (C:Checked a b c) {k:Nat} {r:Int} (h:r<a\/r∈wr (b.take k)):r∉wr (b.drop k):=by
 intro hm;have d:=E5.1 C.once;rw [<-List.take_append_drop k b,M5] at d;rcases h with h|h
 .have:=C.new r (by rw [<-List.take_append_drop k b,M5];exact List.mem_append_right _ hm);omega
 .exact (List.nodup_append.1 d).2.2 r h r hm rfl
theorem bl4 (C:Checked a b c):an6 (bts b):=by
 have key:∀ (d k:Nat),k+d=b.length->an6 (bts (b.drop k)):=by
  intro d
  induction d with
  |zero=>intro k h;rw [List.drop_of_length_le (by omega)];exact λp e=>by simp [bts] at e
  |succ d ih=>
   intro k h;have f:k<b.length:=by omega
   rw [ae6 f];intro p e;simp only [List.mem_cons] at e;rcases e with rfl|rfl|e
   .exact S7 _
   .exact aD4 C f
   .exact ih (k+1) (by omega) p e
 have:=key b.length 0 (by omega)
 rwa [List.drop_zero] at this
def bb2 (ks:Int) (m:Holds):List Int:=(List.range ks.toNat).filterMap λs:Nat=>mget eqP m ⟨false,(s:Int)⟩
theorem aB0 {ks:Int} {m:Holds} {x:Int} (h:InS m ks x):x∈bb2 ks m:=by obtain ⟨q,a,hm⟩:=h;exact List.mem_filterMap.2 ⟨q,by simpa using a,hm⟩
abbrev stA (a:Int) (b:List Ins) (c:List Int) (ks:Int) (k:Nat):AS:=runA (A5 a b c) (D6 b) ks b.length (b.take k) 0 (G9 a)
theorem bA8 (C:Checked a b c) {ks:Int} (J:b.all (fewX ks)=true):∀ (d k:Nat),k+d=b.length->
  (∀ cst,Way ks.toNat (bts (b.drop k)) (InS (stA a b c ks k).holds ks) cst->L6 1 (stA a b c ks b.length).code<=L6 1 (stA a b c ks k).code+cst)/\
  ∃ cst:Nat,Way ks.toNat (bts (b.drop k)) (InS (stA a b c ks k).holds ks) cst/\L6 1 (stA a b c ks b.length).code=L6 1 (stA a b c ks k).code+cst
 |0,k,h=>by
  have m:k=b.length:=by omega
  subst m;rw [List.drop_length];exact ⟨λcst w=>by omega,0,.nil _,by omega⟩
 |d+1,k,h=>by
  have m:k<b.length:=by omega
  obtain ⟨ih1,ih2⟩:=bA8 C J d (k+1) (by omega);obtain ⟨F,o⟩:=aM0 C J (A5 a b c) (D6 b) b.length k (by omega);have o:=o m;have hmem:=E7 m ins0;have hS:stA a b c ks (k+1)=doOf (A5 a b c) (D6 b) ks b.length k (b.getD k ins0) (stA a b c ks k):=by show runA _ _ _ _ (b.take (k+1)) 0 _=_;rw [A4 m ins0,au3,cB9,Nat.min_eq_left (by omega)]
  have hb:b=b.take k++b.getD k ins0::b.drop (k+1):=by
   conv=>lhs;rw [<-List.take_append_drop (k+1) b,A4 m ins0]
   simp
  have B:∀ n∈B0 (b.getD k ins0).from_,n<a\/n∈wr (b.take k):=λn hn=>by have:=C.there;rw [hb] at this;simpa using K8 this n (L4.1 hn)
  have L:∀ n∈(b.getD k ins0).to,¬ (n<a\/n∈wr (b.take k)):=λn hn hP=>au7 C hP (by rw [aq1 m];exact List.mem_append_left _ hn);have hnd:=bl4 C;have g:∀ p∈bts (b.drop k),p.2.Nodup:=by
   have key:∀ (j:Nat),an6 (bts (b.drop j))->j<b.length->an6 (bts (b.drop (j+1))):=λj hj hlt p D=>hj p (by rw [ae6 hlt];simp [D]);have all:∀ j,j<=k->an6 (bts (b.drop j)):=by
    intro j
    induction j with
    |zero=>intro _;rw [List.drop_zero];exact hnd
    |succ j ih=>intro hj;exact key j (ih (by omega)) (by omega)
   exact all k (Nat.le_refl _)
  rw [ae6 m] at g |-;have s:=λu (f:u<a\/u∈wr (b.take k)) (hs:H5 (getS (A5 a b c) u).first (getS (A5 a b c) u).last k=false)=>bb1 (c:=c) (d+1) k (by omega) (ba8 C (Nat.le_of_lt m) u hs) (au7 C f);have t:=λu v (f:u<a\/u∈wr (b.take k)) (E:v<a\/v∈wr (b.take k)) M=>aN3 (b:=b) (v:=v) (u:=u) (d+1) k (by omega) (au7 C E) (au7 C f) M;have G:=λu (f:u<a\/u∈wr (b.take k)) (hs:H5 (getS (A5 a b c) u).first (getS (A5 a b c) u).last ((k:Int)+1)=false)=>bb1 (c:=c) (u:=u) d (k+1) (by omega) (ba8 C (k:=k+1) m u hs) (λhm=>au7 C f (by rw [aq1 m];exact List.mem_append_right _ hm));have I:=λu v (f:u<a\/u∈wr (b.take k)) (E:v<a\/v∈wr (b.take k)) M=>aN3 (b:=b) (v:=v) (u:=u) d (k+1) (by omega) (λhm=>au7 C E (by rw [aq1 m];exact List.mem_append_right _ hm)) (λhm=>au7 C f (by rw [aq1 m];exact List.mem_append_right _ hm)) M;rw [ae6 m] at s t;obtain ⟨x,hx⟩:∃ x,b.getD k ins0=x:=⟨_,rfl⟩;have O:=aD4 C m;have hwt:∀ {n:Int},n∈wr (b.drop (k+1))->n∈wr (b.drop k):=λhm=>by rw [aq1 m];exact List.mem_append_right _ hm
  rw [hx] at hS B L o s t g O |-;obtain ⟨S,P⟩:∃ S,stA a b c ks k=S:=⟨_,rfl⟩;have F:Fine (λr=>r<a\/r∈wr (b.take k)) ks S.holds:=by rw [<-P];exact F
  have o:doOk (A5 a b c) (D6 b) ks b.length k x S:=by rw [<-P];exact o
  rw [P] at hS |-;obtain ⟨l1,W,l3,l4,l5⟩:=bA6 F B (S7 _) o.1 _ (Nat.le_refl _);rw [cB8] at l1 W l4 l5;have F1:=W6 (sp:=A5 a b c) (rd:=D6 b) (N:=b.length) (i:=k) (fr:=B0 x.from_) (B0 x.from_) F B;obtain ⟨T1,Q⟩:∃ T1,C5 (A5 a b c) (D6 b) ks b.length k (B0 x.from_) S (B0 x.from_)=T1:=⟨_,rfl⟩;have K:=o.2;rw [cB8] at l3;rw [Q] at l1 W l3 l4 l5 F1 K;obtain ⟨t1,X,t4,t5⟩:=ci8 F1 O L K _ (Nat.le_refl _);have F2:=(aD5 (sp:=A5 a b c) (rd:=D6 b) (N:=b.length) (i:=k) F1 O L _ (Nat.le_refl _)).1;rw [cB8] at t1 X t4 t5 F2;obtain ⟨T2,R⟩:∃ T2,H6 (A5 a b c) (D6 b) ks b.length k x.to T1 x.to=T2:=⟨_,rfl⟩;rw [R] at t1 X t4 t5 F2;have hh:(stA a b c ks (k+1)).holds=T2.holds:=by rw [hS,bI9,Q,R]
  have hc:L6 1 (stA a b c ks (k+1)).code=L6 1 S.code+M8 (B0 x.from_) (InS S.holds ks):=by rw [hS];unfold doOf;dsimp only;rw [Q,R,al3,if_neg (λe=>by cases (show (0:Int)=1 from e)),t5,l5]
  rw [hh,hc] at ih1 ih2;have p1:∀ u,InS S.holds ks u->u<a\/u∈wr (b.take k):=λu ⟨q,hq,hm⟩=>F.reg q hq u hm;have Y:∀ u,InS T1.holds ks u->u<a\/u∈wr (b.take k):=λu f=>(W u f).elim (p1 u) (B u);refine ⟨λcst w=>?_,?_⟩
  .cases w with
   |@cons _ _ _ _ T c1 h1 h2 h3 w1=>
    obtain ⟨c1',hc1,w1'⟩:=aT3 (q:=B0 x.from_) (H:=InS S.holds ks) (H':=InS T1.holds ks) (λp D=>g p (List.mem_cons_of_mem _ D)) (bb2 ks S.holds) (λu f=>aB0 f) l4 W
     (λu f=>by
      have:=bt5 (au7 C (p1 u f));rw [ae6 m] at this;exact λp D=>this p (by rw [hx];exact List.mem_cons_of_mem _ D))
     (λu f U=>by
      obtain ⟨g1,z⟩:=l1 u f U;rcases z with z|⟨z,g3⟩
      .exact .inl λp D=>s u (p1 u f) z p (List.mem_cons_of_mem _ D)
      .refine .inr ⟨bl2 F1 z,λv E A=>?_⟩;rcases t u v (p1 u f) (Y v E) (g3 v E A) with h5|h5
       .exact absurd h5.2 A
       .exact h5.2.2) ks.toNat (λl hl V=>h3 l hl λy hy=>(V y hy).1) h1 h2 h3 w1
    cases w1' with
    |@cons _ _ _ _ T' c2 h1' h2' Z w2=>
     obtain ⟨c2',hc2,w2'⟩:=aT3 (q:=x.to) (H:=InS T1.holds ks) (H':=InS T2.holds ks) (λp D=>g p (List.mem_cons_of_mem _ (List.mem_cons_of_mem _ D))) (bb2 ks T1.holds) (λu f=>aB0 f) t4 X
      (λu f=>bt5 λhm=>au7 C (Y u f) (hwt hm))
      (λu f U=>by
       obtain ⟨g1,z⟩:=t1 u f U;rcases z with z|⟨z,g3⟩
       .exact .inl (G u (Y u f) z)
       .refine .inr ⟨bl2 F2 z,λv E A=>?_⟩;exact I u v (Y u f) (Y v ((X v E).resolve_right A)) (g3 v E A)) ks.toNat (λl hl V=>Z l hl λy hy=>(V y hy).1) h1' h2' Z w2
     have:=ih1 c2' w2';simp only [cond_true,cond_false] at*
     omega
  .obtain ⟨cst,w,he⟩:=ih2;refine ⟨_,.cons (b:=true) (T:=InS T1.holds ks) l4 W (bX2 _) (.cons (b:=false) (T:=InS T2.holds ks) t4 X (bX2 _) w),?_⟩;simp only [cond_true,cond_false];omega
end
end Go.Rg
end
section
namespace Go.Rg
open Go Go.VT
def far:Int:=1048576
def andN (x y:Nat):Nat:=Nat.bitwise (λa b=>a&&!b) x y
def aa5 (s:Nat) (k:Nat):Nat:=(List.range k).foldl (λn i=>n+(s.testBit i).toNat) 0
def Y2 (s:Nat):Nat:=aa5 s 20
def cBits:Con RU:=con [one] [i64] [one] [i64] [false] (some λp=>0<=p.1/\p.1<1048576) λp=>((Y2 p.1.toNat:Int),())
def ct5 (s:Int):Nat->St RU->Ann RU:=λ_ _=>⟨[],[.slot 3,.slot 4],[i64,i64],λp=>0<=p.2.1/\p.2.1<=20/\p.1=aa5 s.toNat p.2.1.toNat,λp=>20-p.2.1.toNat,[]⟩
def F9 (names l:List Int):Nat:=l.foldl (λs x=>s|||2 ^ (D5 names x).toNat) 0
def cSetOf:Con RU:=con [one,one] [ints,ints] [one] [i64] [false] (some λp=>p.1.length<=8/\∀ x∈p.2.1,x∈p.1) λp=>((F9 p.1 p.2.1:Int),())
def bX4 (names l:List Int):Nat->St RU->Ann RU:=λ_ _=>⟨[],[.slot 5,.slot 6],[i64,i64],λp=>0<=p.2.1/\p.2.1<=l.length/\p.1=F9 names (l.take p.2.1.toNat),λp=>l.length-p.2.1.toNat,[]⟩
def okM (batch:Nat) (k:Int) (held:Nat):Bool:=((held&&&batch:Nat)==batch)&&decide ((Y2 held:Int)<=k)
def bt7 (cost:List Int) (batch:Nat) (price:Int) (held:Nat) (acc:Int) (old:Nat):Int:=bif decide (cost.getD old 0<far)&&(andN held (old|||batch)==0) then min acc (cost.getD old 0+price*Y2 (andN batch old)) else acc
def rowM (cost:List Int) (batch:Nat) (price:Int) (held n:Nat):Int:=(List.range n).foldl (bt7 cost batch price held) far
def entM (cost:List Int) (batch:Nat) (k price:Int) (held:Nat):Int:=bif okM batch k held then rowM cost batch price held cost.length else far
def H8 (cost:List Int) (batch:Nat) (k price:Int):List Int:=(List.range cost.length).map (entM cost batch k price)
def cMoved:Con RU:=con [one,one,one,one] [ints,i64,i64,i64] [one] [ints] [false] (some λp=>p.1.length<=256/\(0<=p.2.1/\p.2.1<1048576)/\(p.2.2.2.1=0\/p.2.2.2.1=1)/\∀ c∈p.1,0<=c/\c<=1048576) λp=>(H8 p.1 p.2.1.toNat p.2.2.1 p.2.2.2.1,())
def bX5 (cost:List Int) (batch k price:Int):Nat->St RU->Ann RU:=λn s=>match n with
 |0=>⟨[],[.slot 10,.row 896],[i64,ints],λp=>0<=p.1/\p.1<=cost.length/\p.2.1=(H8 cost batch.toNat k price).take p.1.toNat++List.replicate (cost.length-p.1.toNat) 0,λp=>cost.length-p.1.toNat,[]⟩
 |_=>⟨[],[.slot 11,.row 896],[i64,ints],λp=>0<=p.1/\p.1<=cost.length/\p.2.1=(H8 cost batch.toNat k price).take (s.intAt 10).toNat++rowM cost batch.toNat price (s.intAt 10).toNat p.1.toNat::List.replicate (cost.length-(s.intAt 10).toNat-1) 0,λp=>cost.length-p.1.toNat,[]⟩
def aO6 (n:Nat):List Int:=0::List.replicate (n-1) far
def aa6 (names:List Int) (k:Int) (c:List Int) (x:Ins):List Int:=H8 (H8 c (F9 names x.from_) k 1) (F9 names x.to) k 0
def I0 (names:List Int) (k:Int) (code:List Ins):List Int:=code.foldl (aa6 names k) (aO6 (2 ^ names.length))
def ae7 (names:List Int) (k:Int) (code:List Ins):Int:=(I0 names k code).foldl min far
def cFewest:Con RU:=con [(true,4),one,one] [i64,inss,ints,ints,ints,i64] [one] [i64] [false] (some λp=>p.2.2.2.2.1.length<=8/\∀ x∈p.2.1,(∀ n∈x.from_,n∈p.2.2.2.2.1)/\∀ n∈x.to,n∈p.2.2.2.2.1) λp=>(ae7 p.2.2.2.2.1 p.2.2.2.2.2.1 p.2.1,())
def bt8 (code:List Ins) (names:List Int) (k:Int):Nat->St RU->Ann RU:=λn s=>match n with
 |0=>⟨[],[.slot 8,.row 960],[i64,ints],λp=>1<=p.1/\p.1<=(2 ^ names.length:Nat)/\p.2.1=0::List.replicate (p.1.toNat-1) far++List.replicate (2 ^ names.length-p.1.toNat) 0,λp=>2 ^ names.length-p.1.toNat,[]⟩
 |1=>⟨[],[.slot 9,.slot 7],[i64,ints],λp=>0<=p.1/\p.1<=code.length/\p.2.1=I0 names k (code.take p.1.toNat),λp=>code.length-p.1.toNat,[(.row 7,0,3,i64)]⟩
 |_=>⟨[],[.slot 11,.slot 10],[i64,i64],λp=>0<=p.1/\p.1<=(I0 names k code).length/\p.2.1=((I0 names k code).take p.1.toNat).foldl min far,λp=>(I0 names k code).length-p.1.toNat,[]⟩
def E6 (a:Int) (code:List Ins):List Int:=iota a.toNat++wr code
def cNames:Con RU:=con [(true,4)] at3 [one] [ints] [false] (some λp=>(0<=p.1/\p.1<=4000)/\p.2.1.length<=4000/\∀ x∈p.2.1,x.to.length<=4000) λp=>(E6 p.1 p.2.1,())
def bt9 (a:Int) (code:List Ins):Nat->St RU->Ann RU:=λn s=>match n with
 |0=>⟨[3],[.slot 4,.row 384],[i64,ints],λp=>0<=p.1/\p.1<=a/\p.2.1=iota p.1.toNat,λp=>a.toNat-p.1.toNat,[]⟩
 |_=>⟨[3],[.slot 5,.row 384],[i64,ints],λp=>0<=p.1/\p.1<=code.length/\p.2.1=iota a.toNat++wr (code.take p.1.toNat),λp=>code.length-p.1.toNat,[]⟩
def Cut (a:Int) (b:List Ins) (c:List Int) (b':List Ins) (c':List Int):Prop:=∃ k:Nat,k<=b.length/\b'=b.take k/\c'=if k=b.length then c else []
def lFew (l:List Int):Nat->St RU->Ann RU:=λ_ _=>⟨[],[.box 320 1,.box 320 2],[inss,ints],λp=>Cut (parB l) (M7 l 6).code (M7 l 6).out p.1 p.2.1,λp=>p.1.length,[(.cell 320 2,0,3,i64)]⟩
theorem ct6 (s:Int):vc (EV []) (ct5 s) Go.Proofs.Tryd.f95 cBits (s,())=((∃ (p:Int×Int×Unit),
  s=s/\(0:Int)=(0:Int)/\(0:Int)=p.1/\(0:Int)=p.2.1/\(0:Int)<=p.2.1/\p.2.1<=(20:Int)/\p.1=(↑(aa5 (Int.toNat s) (Int.toNat p.2.1)):Int))/\
  ∀ (p:Int×Int×Unit),
 let b:Bool:=decide (p.2.1<(20:Int));
 let a:Int:=p.2.1;
  (0:Int)<=a/\a<=(20:Int)/\p.1=(↑(aa5 (Int.toNat s) (Int.toNat a)):Int)->
  (b=true->
  (0:Int)<=a/\
  ∃ (p':Int×Int×Unit),
  s=s/\
  (0:Int)=(0:Int)/\
  IntKind.i64.wrap
  (p.1+
  IntKind.i64.wrap (↑(BitVec.toNat (BitVec.ofInt (64:Nat) (Int.fdiv s ((2:Int) ^ min (Int.toNat a) (64:Nat)))&&&BitVec.ofInt (64:Nat) (1:Int))):Int))=
  p'.1/\
  IntKind.i64.wrap (a+(1:Int))=p'.2.1/\
  ((0:Int)<=p'.2.1/\p'.2.1<=(20:Int)/\p'.1=(↑(aa5 (Int.toNat s) (Int.toNat p'.2.1)):Int))/\
  (20:Nat)-Int.toNat p'.2.1<(20:Nat)-Int.toNat a)/\
  (b=false->(p.1,())=((↑(Y2 (Int.toNat s)):Int),()))):=by kernel_rfl
theorem ch2 (names l:List Int):vc (EV [(32,cWhere)]) (bX4 names l) Go.Proofs.Tryd.f68 cSetOf (names,l,())=(Small RU (Sigma.mk (Ty.slice (3:Nat) (Ty.int IntKind.i64)) names)->
  Small RU (Sigma.mk (Ty.slice (3:Nat) (Ty.int IntKind.i64)) l)->
  (∃ (p:Int×Int×Unit),
  names=names/\
  l=l/\
  (0:Int)=(0:Int)/\
  (0:Int)=p.1/\(0:Int)=p.2.1/\(0:Int)<=p.2.1/\p.2.1<=(↑(List.length l):Int)/\p.1=(↑(F9 names (List.take (Int.toNat p.2.1) l)):Int))/\
  ∀ (p:Int×Int×Unit),
 let b:Bool:=decide (p.2.1<(↑(List.length l):Int));
 let a:Int:=p.2.1;
  (0:Int)<=a/\a<=(↑(List.length l):Int)/\p.1=(↑(F9 names (List.take (Int.toNat a) l)):Int)->
  (b=true->
  ((0:Int)<=a/\a<(↑(List.length l):Int))/\
  (0:Int)<=D5 names (List.getD l (Int.toNat a) (0:Int))/\
  ∃ (p':Int×Int×Unit),
  names=names/\
  l=l/\
  (0:Int)=(0:Int)/\
  IntKind.i64.wrap
  (↑(BitVec.toNat
  (BitVec.ofInt (64:Nat) p.1|||
  BitVec.ofInt (64:Nat)
  (IntKind.i64.wrap ((1:Int)*(2:Int) ^ min (Int.toNat (D5 names (List.getD l (Int.toNat a) (0:Int)))) (64:Nat))))):
  Int)=
  p'.1/\
  IntKind.i64.wrap (a+(1:Int))=p'.2.1/\
  ((0:Int)<=p'.2.1/\p'.2.1<=(↑(List.length l):Int)/\p'.1=(↑(F9 names (List.take (Int.toNat p'.2.1) l)):Int))/\
  List.length l-Int.toNat p'.2.1<List.length l-Int.toNat a)/\
  (b=false->(p.1,())=((↑(F9 names l):Int),()))):=by kernel_rfl
theorem ch3 (cost:List Int) (batch k price:Int):vc (EV [(95,cBits)]) (bX5 cost batch k price) Go.Proofs.Tryd.f67 cMoved (cost,batch,k,price,())=(
 let a:Int:=(↑(List.length cost):Int);
 let c:BitVec (64:Nat):=BitVec.ofInt (64:Nat) batch;
 let d:List Int:=H8 cost (Int.toNat batch) k price;
  Small RU (Sigma.mk (Ty.slice (3:Nat) (Ty.int IntKind.i64)) cost)->
  ((0:Int)<=a/\a*(↑(8:Nat):Int)<=(↑(140737488355328:Nat):Int))/\
  (∃ (p:Int×List Int×Unit),
  cost=cost/\
  batch=batch/\
  k=k/\
  price=price/\
  (0:Int)=p.1/\
  List.replicate (Int.toNat a) (0:Int)=p.2.1/\
  (0:Int)<=p.1/\p.1<=a/\p.2.1=List.take (Int.toNat p.1) d++List.replicate (List.length cost-Int.toNat p.1) (0:Int))/\
  ∀ (p:Int×List Int×Unit),
 let e0_1:Bool:=IntKind.i64.wrap (↑(BitVec.toNat (BitVec.ofInt (64:Nat) p.1&&&c)):Int) !=batch||decide ((↑(Y2 (Int.toNat p.1)):Int) >k);
 let e1_1:Bool:=decide (p.1<(↑(List.length p.2.1):Int));
 let e2_1:Int:=p.1;
 let e:List Int:=p.2.1;
 let f:Nat:=List.length cost-Int.toNat e2_1;
 let b:BitVec (64:Nat):=BitVec.ofInt (64:Nat) e2_1;
  (0:Int)<=e2_1/\e2_1<=a/\e=List.take (Int.toNat e2_1) d++List.replicate f (0:Int)->
  (e1_1=true->
  ((0:Int)<=e2_1/\e2_1<(↑(List.length e):Int))/\
  ((IntKind.i64.wrap (↑(BitVec.toNat (b&&&c)):Int) !=batch)=false->(0:Int)<=e2_1/\e2_1<(1048576:Int))/\
  (e0_1=true->
  ∃ (p':Int×List Int×Unit),
  cost=cost/\
  batch=batch/\
  k=k/\
  price=price/\
  IntKind.i64.wrap (e2_1+(1:Int))=p'.1/\
  List.set e (Int.toNat e2_1) (1048576:Int)=p'.2.1/\
  ((0:Int)<=p'.1/\p'.1<=a/\p'.2.1=List.take (Int.toNat p'.1) d++List.replicate (List.length cost-Int.toNat p'.1) (0:Int))/\
  List.length cost-Int.toNat p'.1<f)/\
  (e0_1=false->
  (∃ (p:Int×List Int×Unit),
  cost=cost/\
  batch=batch/\
  k=k/\
  price=price/\
  e2_1=e2_1/\
  e1_1=e1_1/\
  e0_1=e0_1/\
  (0:Int)=p.1/\
  List.set e (Int.toNat e2_1) (1048576:Int)=p.2.1/\
  (0:Int)<=p.1/\
  p.1<=a/\
  p.2.1=
  List.take (Int.toNat e2_1) d++rowM cost (Int.toNat batch) price (Int.toNat e2_1) (Int.toNat p.1)::List.replicate (f-(1:Nat)) (0:Int))/\
  ∀ (p:Int×List Int×Unit),
 let e0_2:Bool:=
  decide (List.getD cost (Int.toNat p.1) (0:Int)<(1048576:Int))&&
  IntKind.i64.wrap
  (↑(BitVec.toNat (b&&&~~~BitVec.ofInt (64:Nat) (IntKind.i64.wrap (↑(BitVec.toNat (BitVec.ofInt (64:Nat) p.1|||c)):Int)))):Int)==
  (0:Int);
 let c:Int:=IntKind.i64.wrap (↑(BitVec.toNat (c&&&~~~BitVec.ofInt (64:Nat) p.1)):Int);
 let e2_2:List Int:=p.2.1;
 let e:Int:=IntKind.i64.wrap (List.getD cost (Int.toNat p.1) (0:Int)+IntKind.i64.wrap (price*(↑(Y2 (Int.toNat c)):Int)));
 let e4_1:Bool:=decide (p.1<a);
 let b:Int:=p.1;
 let g:List Int:=List.replicate (f-(1:Nat)) (0:Int);
  (0:Int)<=b/\b<=a/\e2_2=List.take (Int.toNat e2_1) d++rowM cost (Int.toNat batch) price (Int.toNat e2_1) (Int.toNat b)::g->
  (e4_1=true->
  ((0:Int)<=b/\b<a)/\
  (e0_2=true->
  ((0:Int)<=e2_1/\e2_1<(↑(List.length e2_2):Int))/\
  ((0:Int)<=b/\b<a)/\((0:Int)<=c/\c<(1048576:Int))/\(0:Int)<=e2_1/\e2_1<(↑(List.length e2_2):Int))/\
  ∃ (p':Int×List Int×Unit),
  (bif e0_2 then cost else cost)=cost/\
  (bif e0_2 then batch else batch)=batch/\
  (bif e0_2 then k else k)=k/\
  (bif e0_2 then price else price)=price/\
  (bif e0_2 then e2_1 else e2_1)=e2_1/\
  (bif e0_2 then e1_1 else e1_1)=e1_1/\
  (bif e0_2 then e0_1 else e0_1)=e0_1/\
  IntKind.i64.wrap ((bif e0_2 then b else b)+(1:Int))=p'.1/\
  (bif e0_2 then
  List.set e2_2 (Int.toNat e2_1) (if e<List.getD e2_2 (Int.toNat e2_1) (0:Int) then e else List.getD e2_2 (Int.toNat e2_1) (0:Int))
  else e2_2)=
  p'.2.1/\
  ((0:Int)<=p'.1/\
  p'.1<=a/\p'.2.1=List.take (Int.toNat e2_1) d++rowM cost (Int.toNat batch) price (Int.toNat e2_1) (Int.toNat p'.1)::g)/\
  List.length cost-Int.toNat p'.1<List.length cost-Int.toNat b)/\
  (e4_1=false->
  ∃ (p':Int×List Int×Unit),
  cost=cost/\
  batch=batch/\
  k=k/\
  price=price/\
  IntKind.i64.wrap (e2_1+(1:Int))=p'.1/\
  e2_2=p'.2.1/\
  ((0:Int)<=p'.1/\p'.1<=a/\p'.2.1=List.take (Int.toNat p'.1) d++List.replicate (List.length cost-Int.toNat p'.1) (0:Int))/\
  List.length cost-Int.toNat p'.1<f)))/\
  (e1_1=false->(e,())=(d,()))):=by kernel_rfl
theorem bX6 (a:Int) (b:List Ins) (c d names:List Int) (k:Int):vc (EV [(68,cSetOf),(67,cMoved)]) (bt8 b names k) Go.Proofs.Tryd.f28 cFewest (a,b,c,d,names,k,())=(
 let g:Int:=IntKind.i64.wrap ((1:Int)*(2:Int) ^ min (Int.toNat (↑(List.length names):Int)) (64:Nat));
 let e:Nat:=(2:Nat) ^ List.length names;
 let f:Int:=(↑(List.length b):Int);
 let h:Ins:=Ins.mk (0:Int) (0:Int) [] [] [];
  Small RU (Sigma.mk (Ty.slice (52:Nat) (Ty.user (0:Nat))) b)->
  Small RU (Sigma.mk (Ty.slice (3:Nat) (Ty.int IntKind.i64)) c)->
  Small RU (Sigma.mk (Ty.slice (3:Nat) (Ty.int IntKind.i64)) d)->
  Small RU (Sigma.mk (Ty.slice (3:Nat) (Ty.int IntKind.i64)) names)->
  (0:Int)<=(↑(List.length names):Int)/\
  ((0:Int)<=g/\g*(↑(8:Nat):Int)<=(↑(140737488355328:Nat):Int))/\
  (∃ (p:Int×List Int×Unit),
  a=a/\
  b=b/\
  c=c/\
  d=d/\
  names=names/\
  k=k/\
  (0:Int)=(0:Int)/\
  (1:Int)=p.1/\
  a=a/\
  b=b/\
  c=c/\
  d=d/\
  List.replicate (Int.toNat g) (0:Int)=p.2.1/\
  (1:Int)<=p.1/\
  p.1<=(↑e:Int)/\p.2.1=(0:Int)::List.replicate (Int.toNat p.1-(1:Nat)) far++List.replicate (e-Int.toNat p.1) (0:Int))/\
  ∀ (p:Int×List Int×Unit),
 let g:Bool:=decide (p.1<(↑(List.length p.2.1):Int));
 let e1_1:List Int:=p.2.1;
 let e2_1:Int:=p.1;
  (1:Int)<=e2_1/\e2_1<=(↑e:Int)/\e1_1=(0:Int)::List.replicate (Int.toNat e2_1-(1:Nat)) far++List.replicate (e-Int.toNat e2_1) (0:Int)->
  (g=true->
  ((0:Int)<=e2_1/\e2_1<(↑(List.length e1_1):Int))/\
  ∃ (p':Int×List Int×Unit),
  a=a/\
  b=b/\
  c=c/\
  d=d/\
  names=names/\
  k=k/\
  (0:Int)=(0:Int)/\
  IntKind.i64.wrap (e2_1+(1:Int))=p'.1/\
  a=a/\
  b=b/\
  c=c/\
  d=d/\
  List.set e1_1 (Int.toNat e2_1) (1048576:Int)=p'.2.1/\
  ((1:Int)<=p'.1/\
  p'.1<=(↑e:Int)/\
  p'.2.1=(0:Int)::List.replicate (Int.toNat p'.1-(1:Nat)) far++List.replicate (e-Int.toNat p'.1) (0:Int))/\
  e-Int.toNat p'.1<e-Int.toNat e2_1)/\
  (g=false->
  (∃ (p:Int×List Int×Unit),
  a=a/\
  b=b/\
  c=c/\
  d=d/\
  names=names/\
  k=k/\
  (0:Int)=(0:Int)/\
  e2_1=e2_1/\
  g=g/\
  (0:Int)=p.1/\
  e1_1=p.2.1/\
  a=a/\b=b/\c=c/\d=d/\e1_1=e1_1/\(0:Int)<=p.1/\p.1<=f/\p.2.1=I0 names k (List.take (Int.toNat p.1) b))/\
  ∀ (p:Int×List Int×Unit),
 let e0_1:Bool:=decide (p.1<f);
 let e:List Int:=H8 p.2.1 (Int.toNat (↑(F9 names (List.getD b (Int.toNat p.1) h).from_):Int)) k (1:Int);
 let e2_2:List Int:=p.2.1;
 let e3_1:Int:=p.1;
 let i:Int:=(↑(F9 names (List.getD b (Int.toNat e3_1) h).to):Int);
  (0:Int)<=e3_1/\e3_1<=f/\e2_2=I0 names k (List.take (Int.toNat e3_1) b)->
  (e0_1=true->
  ((0:Int)<=e3_1/\e3_1<f)/\
  (List.length names<=(8:Nat)/\∀ (x:Int),List.Mem x (List.getD b (Int.toNat e3_1) h).from_->List.Mem x names)/\
  (List.length e2_2<=(256:Nat)/\
  ((0:Int)<=(↑(F9 names (List.getD b (Int.toNat e3_1) h).from_):Int)/\
  (↑(F9 names (List.getD b (Int.toNat e3_1) h).from_):Int)<(1048576:Int))/\
  ((1:Int)=(0:Int)\/(1:Int)=(1:Int))/\∀ (c:Int),List.Mem c e2_2->(0:Int)<=c/\c<=(1048576:Int))/\
  ((0:Int)<=e3_1/\e3_1<f)/\
  (List.length names<=(8:Nat)/\∀ (x:Int),List.Mem x (List.getD b (Int.toNat e3_1) h).to->List.Mem x names)/\
  (List.length e<=(256:Nat)/\
  ((0:Int)<=i/\i<(1048576:Int))/\
  ((0:Int)=(0:Int)\/(0:Int)=(1:Int))/\∀ (c:Int),List.Mem c e->(0:Int)<=c/\c<=(1048576:Int))/\
  ∃ (p':Int×List Int×Unit),
  a=a/\
  b=b/\
  c=c/\
  d=d/\
  names=names/\
  k=k/\
  (0:Int)=(0:Int)/\
  e2_1=e2_1/\
  g=g/\
  IntKind.i64.wrap (e3_1+(1:Int))=p'.1/\
  H8 e (Int.toNat i) k (0:Int)=p'.2.1/\
  a=a/\
  b=b/\
  c=c/\
  d=d/\
  e1_1=e1_1/\
  ((0:Int)<=p'.1/\p'.1<=f/\p'.2.1=I0 names k (List.take (Int.toNat p'.1) b))/\
  List.length b-Int.toNat p'.1<List.length b-Int.toNat e3_1)/\
  (e0_1=false->
  (∃ (p:Int×Int×Unit),
  a=a/\
  b=b/\
  c=c/\
  d=d/\
  names=names/\
  k=k/\
  (0:Int)=(0:Int)/\
  e2_1=e2_1/\
  g=g/\
  e3_1=e3_1/\
  e2_2=e2_2/\
  e0_1=e0_1/\
  (0:Int)=p.1/\
  (1048576:Int)=p.2.1/\
  a=a/\
  b=b/\
  c=c/\
  d=d/\
  e1_1=e1_1/\
  (0:Int)<=p.1/\
  p.1<=(↑(List.length (I0 names k b)):Int)/\
  p.2.1=List.foldl min far (List.take (Int.toNat p.1) (I0 names k b)))/\
  ∀ (p:Int×Int×Unit),
 let e0_2:Bool:=decide (p.1<(↑(List.length e2_2):Int));
 let e:Int:=p.2.1;
 let f:Int:=p.1;
  (0:Int)<=f/\f<=(↑(List.length (I0 names k b)):Int)/\e=List.foldl min far (List.take (Int.toNat f) (I0 names k b))->
  (e0_2=true->
  ((0:Int)<=f/\f<(↑(List.length e2_2):Int))/\
  ∃ (p':Int×Int×Unit),
  a=a/\
  b=b/\
  c=c/\
  d=d/\
  names=names/\
  k=k/\
  (0:Int)=(0:Int)/\
  e2_1=e2_1/\
  g=g/\
  e3_1=e3_1/\
  e2_2=e2_2/\
  e0_1=e0_1/\
  IntKind.i64.wrap (f+(1:Int))=p'.1/\
  (if List.getD e2_2 (Int.toNat f) (0:Int)<e then List.getD e2_2 (Int.toNat f) (0:Int) else e)=p'.2.1/\
  a=a/\
  b=b/\
  c=c/\
  d=d/\
  e1_1=e1_1/\
  ((0:Int)<=p'.1/\
  p'.1<=(↑(List.length (I0 names k b)):Int)/\
  p'.2.1=List.foldl min far (List.take (Int.toNat p'.1) (I0 names k b)))/\
  List.length (I0 names k b)-Int.toNat p'.1<List.length (I0 names k b)-Int.toNat f)/\
  (e0_2=false->(e,())=(ae7 names k b,()))))):=by kernel_rfl
theorem bX7 (a:Int) (b:List Ins) (c d:List Int):vc (EV []) (bt9 a b) Go.Proofs.Tryd.f26 cNames (a,b,c,d,())=(
 let g:Ins:=Ins.mk (0:Int) (0:Int) [] [] [];
  Small RU (Sigma.mk (Ty.slice (52:Nat) (Ty.user (0:Nat))) b)->
  Small RU (Sigma.mk (Ty.slice (3:Nat) (Ty.int IntKind.i64)) c)->
  Small RU (Sigma.mk (Ty.slice (3:Nat) (Ty.int IntKind.i64)) d)->
  (∃ (p:Int×List Int×Unit),
  a=a/\b=b/\c=c/\d=d/\(0:Int)=p.1/\a=a/\b=b/\c=c/\d=d/\[]=p.2.1/\(0:Int)<=p.1/\p.1<=a/\p.2.1=iota (Int.toNat p.1))/\
  ∀ (p:Int×List Int×Unit),
 let e0_1:Bool:=decide (p.1<a);
 let f:Int:=p.1;
 let e:List Int:=p.2.1;
  (0:Int)<=f/\f<=a/\e=iota (Int.toNat f)->
  (e0_1=true->
  (List.length e+List.length [f])*(8:Nat)<=(140737488355328:Nat)/\
  ∃ (p':Int×List Int×Unit),
  a=a/\
  b=b/\
  c=c/\
  d=d/\
  IntKind.i64.wrap (f+(1:Int))=p'.1/\
  a=a/\
  b=b/\
  c=c/\
  d=d/\
  e++[f]=p'.2.1/\
  ((0:Int)<=p'.1/\p'.1<=a/\p'.2.1=iota (Int.toNat p'.1))/\Int.toNat a-Int.toNat p'.1<Int.toNat a-Int.toNat f)/\
  (e0_1=false->
  (∃ (p:Int×List Int×Unit),
  a=a/\
  b=b/\
  c=c/\
  d=d/\
  f=f/\
  e0_1=e0_1/\
  (0:Int)=p.1/\
  a=a/\
  b=b/\
  c=c/\d=d/\e=p.2.1/\(0:Int)<=p.1/\p.1<=(↑(List.length b):Int)/\p.2.1=iota (Int.toNat a)++wr (List.take (Int.toNat p.1) b))/\
  ∀ (p:Int×List Int×Unit),
 let e0_2:Bool:=decide (p.1<(↑(List.length b):Int));
 let e1_1:List Int:=p.2.1;
 let e:Int:=p.1;
  (0:Int)<=e/\e<=(↑(List.length b):Int)/\e1_1=iota (Int.toNat a)++wr (List.take (Int.toNat e) b)->
  (e0_2=true->
  ((0:Int)<=e/\e<(↑(List.length b):Int))/\
  (List.length e1_1+List.length (List.getD b (Int.toNat e) g).to)*(8:Nat)<=(140737488355328:Nat)/\
  ∃ (p':Int×List Int×Unit),
  a=a/\
  b=b/\
  c=c/\
  d=d/\
  f=f/\
  e0_1=e0_1/\
  IntKind.i64.wrap (e+(1:Int))=p'.1/\
  a=a/\
  b=b/\
  c=c/\
  d=d/\
  e1_1++(List.getD b (Int.toNat e) g).to=p'.2.1/\
  ((0:Int)<=p'.1/\p'.1<=(↑(List.length b):Int)/\p'.2.1=iota (Int.toNat a)++wr (List.take (Int.toNat p'.1) b))/\
  List.length b-Int.toNat p'.1<List.length b-Int.toNat e)/\
  (e0_2=false->(e1_1,())=(E6 a b,())))):=by kernel_rfl
theorem cx5 (l:List Int) (n:Int):vc (EV [(25,cBuilt),(27,cSlots),(15,cAlloc),(17,cCount),(26,cNames),(28,cFewest),(14,cSlotted)]) (lFew l) Go.Proofs.Tryd.f5 cLaw2 (l,n,())=(
 let b:List Ins:=(M7 l (6:Int)).code;
  Small RU (Sigma.mk (Ty.slice (3:Nat) (Ty.int IntKind.i64)) l)->
  (∃ (p:List Ins×List Int×Unit),
  l=l/\
  n=n/\
  false=false/\
  parB l=parB l/\
  b=p.1/\
  (M7 l (6:Int)).out=p.2.1/\([]:List Int)=[]/\∃ (k:Nat),k<=List.length b/\p.1=List.take k b/\p.2.1=if k=List.length b then (M7 l (6:Int)).out else [])/\
  ∀ (p:List Ins×List Int×Unit),
 let e0_1:Bool:=decide ((↑(List.length (E6 (parB l) p.1)):Int) >(8:Int));
 let c:RCode:=(B8 (VFun.mk (parB l) p.1 p.2.1 []) (aj3 (VFun.mk (parB l) p.1 p.2.1 []) n (3:Int))).1;
 let d:Bool:=(B8 (VFun.mk (parB l) p.1 p.2.1 []) (aj3 (VFun.mk (parB l) p.1 p.2.1 []) n (3:Int))).2==(0:Int);
 let a:List Ins:=p.1;
 let e:Int:=IntKind.i64.wrap ((↑(List.length a):Int)-(1:Int));
 let f:List Int:=p.2.1;
  (∃ (k:Nat),k<=List.length b/\a=List.take k b/\f=if k=List.length b then (M7 l (6:Int)).out else [])->
  (((0:Int)<=parB l/\parB l<=(4000:Int))/\List.length a<=(4000:Nat)/\∀ (x:Ins),List.Mem x a->List.length x.to<=(4000:Nat))/\
  (e0_1=true->
  ((0:Int)<=e/\e<=(↑(List.length a):Int))/\
  ∃ (p':List Ins×List Int×Unit),
  l=l/\
  n=n/\
  false=false/\
  parB l=parB l/\
  List.take (Int.toNat e) a=p'.1/\
  []=p'.2.1/\
  ([]:List Int)=[]/\
  (∃ (k:Nat),k<=List.length b/\p'.1=List.take k b/\p'.2.1=if k=List.length b then (M7 l (6:Int)).out else [])/\
  List.length p'.1<List.length a)/\
  (e0_1=false->
  (S5 a=true/\(3:Int)<=(1000:Int))/\
  (S5 a=true/\J1 a=true/\List.length f<=(8796093022200:Nat))/\
  (d=true->((0:Int)<=parB l/\parB l<=(4000:Int))/\List.length a<=(4000:Nat)/\∀ (x:Ins),List.Mem x a->List.length x.to<=(4000:Nat))/\
  (d=true->
  List.length (E6 (parB l) a)<=(8:Nat)/\
  ∀ (x:Ins),List.Mem x a->(∀ (n:Int),List.Mem n x.from_->List.Mem n (E6 (parB l) a))/\∀ (n:Int),List.Mem n x.to->List.Mem n (E6 (parB l) a))/\
  (d&&(ap1 (RCode.mk c.params c.slots c.cells c.code c.out)).1==ae7 (E6 (parB l) a) (aj3 (VFun.mk (parB l) a f []) n (3:Int)) a&&true,())=
  (true,()))):=by kernel_rfl
theorem aT5 {x:Nat} (h:x<9223372036854775808):(BitVec.ofInt 64 (x:Int)).toNat=x:=by rw [BitVec.toNat_ofInt];omega
theorem au8 {x:Nat} (h:x<9223372036854775808):IntKind.i64.wrap (x:Int)=x:=F8 (by omega) (by omega)
theorem bX8 {x y:Nat} (a:x<9223372036854775808) (b:y<9223372036854775808):IntKind.i64.wrap (((BitVec.ofInt 64 (x:Int))&&&(BitVec.ofInt 64 (y:Int))).toNat:Int)=((x&&&y:Nat):Int):=by rw [BitVec.toNat_and,aT5 a,aT5 b,au8];exact Nat.lt_of_le_of_lt Nat.and_le_left a
theorem ci9 {x y:Nat} (a:x<1048576) (b:y<1048576):IntKind.i64.wrap (((BitVec.ofInt 64 (x:Int))|||(BitVec.ofInt 64 (y:Int))).toNat:Int)=((x|||y:Nat):Int):=by
 have h:x|||y<2 ^ 20:=Nat.or_lt_two_pow a b
 rw [BitVec.toNat_or,aT5 (by omega),aT5 (by omega),au8 (by omega)]
theorem U7 (x y i:Nat):(andN x y).testBit i=(x.testBit i&&!y.testBit i):=by unfold andN;rw [Nat.testBit_bitwise (by rfl)]
theorem bu0 {x y n:Nat} (h:x<2 ^ n):andN x y<2 ^ n:=by refine Nat.lt_pow_two_of_testBit _ λi a=>?_;rw [U7,Nat.testBit_lt_two_pow (Nat.lt_of_lt_of_le h (Nat.pow_le_pow_right (by omega) a))];rfl
theorem aT6 {x y:Nat} (b:x<1048576) (c:y<1048576):IntKind.i64.wrap (((BitVec.ofInt 64 (x:Int))&&&~~~(BitVec.ofInt 64 (y:Int))).toNat:Int)=((andN x y:Nat):Int):=by
 have e:((BitVec.ofInt 64 (x:Int))&&&~~~(BitVec.ofInt 64 (y:Int))).toNat=andN x y:=by
  apply Nat.eq_of_testBit_eq;intro i;rw [BitVec.testBit_toNat,BitVec.getLsbD_and,BitVec.getLsbD_not,<-BitVec.testBit_toNat,<-BitVec.testBit_toNat,aT5 (by omega),aT5 (by omega),U7];by_cases a:i<64
  .simp [a]
  .have:x.testBit i=false:=Nat.testBit_lt_two_pow (Nat.lt_of_lt_of_le (show x<2 ^ 20 by omega) (Nat.pow_le_pow_right (by omega) (by omega)));rw [this];rfl
 have h:andN x y<2 ^ 20:=bu0 (n:=20) (by omega);rw [e,au8 (by omega)]
theorem ae8 (s k:Nat):aa5 s (k+1)=aa5 s k+(s.testBit k).toNat:=by unfold aa5;rw [List.range_succ,List.foldl_append];rfl
theorem aN4 (s:Nat):∀ k,aa5 s k<=k
 |0=>Nat.le_refl _
 |k+1=>by have:=aN4 s k;have h2:(s.testBit k).toNat<=1:=Bool.toNat_le _;rw [ae8];omega
theorem ct7 (s:Int) (d:0<=s/\s<1048576):vc (EV []) (ct5 s) Go.Proofs.Tryd.f95 cBits (s,()):=by
 rw [ct6 s];obtain ⟨m,rfl⟩:=cz6 d.1;simp only [true_and,cz4];refine ⟨⟨(0,0,()),rfl,rfl,Int.le_refl _,by dsimp only;omega,rfl⟩,?_⟩;rintro ⟨n,i,⟨⟩⟩;dsimp only;rintro ⟨b,g,rfl⟩;obtain ⟨i,rfl⟩:=cz6 b;simp only [cz4];refine ⟨λh=>?_,λh=>?_⟩
 .have h:=cA0 h;have c:i<20:=by omega
  have hm:min i 64=i:=by omega
  have hf:Int.fdiv (m:Int) ((2:Int) ^ i)=((m / 2 ^ i:Nat):Int):=by
   have e:((2:Int) ^ i)=((2 ^ i:Nat):Int):=by simp
   rw [e,Int.fdiv_eq_ediv_of_nonneg _ (Int.natCast_nonneg _)];rfl
  have f:m / 2 ^ i<=m:=Nat.div_le_self _ _;have j:=aN4 m i;have a:IntKind.i64.wrap ((aa5 m i:Int)+IntKind.i64.wrap ((BitVec.ofInt 64 (Int.fdiv (m:Int) ((2:Int) ^ min i 64))&&&BitVec.ofInt 64 (1:Int)).toNat:Int))=(aa5 m (i+1):Int):=by have e:=bX8 (x:=m / 2 ^ i) (y:=1) (by omega) (by omega);rw [hm,hf];rw [show (1:Int)=((1:Nat):Int) from rfl,e,Nat.and_one_is_mod,ae8,Nat.toNat_testBit,F8 (by omega) (by omega)];omega
  refine ⟨b,(_,((i+1:Nat):Int),()),a,B5 (m:=20) (by omega) (by omega),⟨by dsimp only;omega,by dsimp only;omega,by dsimp only;rw [cz4]⟩,by dsimp only;omega⟩
 .have h:=cz9 h;have c:i=20:=by omega
  subst c;rfl
theorem bJ9:C8 prog RG 95 cBits:=E3 B7 (λp=>ct5 p.1) (by kernel_rfl) (by kernel_rfl) (by kernel_rfl) λ(s,()) a=>ct7 s a
theorem bl5 (names l:List Int) (x:Int):F9 names (l++[x])=F9 names l|||2 ^ (D5 names x).toNat:=by simp [F9]
theorem aN5 (names:List Int) {l:List Int} (h:∀ x∈l,x∈names):∀ k,k<=l.length->F9 names (l.take k)<2 ^ names.length
 |0,_=>by simp [F9];exact Nat.two_pow_pos _
 |k+1,a=>by rw [A4 (by omega) 0,bl5];refine Nat.or_lt_two_pow (aN5 names h k (by omega)) ?_;have h1:=h _ (E7 (l:=l) (i:=k) (by omega) 0);have h2:=ah7.2 h1;have h3:=aX5 (l:=names) (n:=l.getD k 0);exact Nat.pow_lt_pow_right (by omega) (by omega)
theorem aN6 (names:List Int) {l:List Int} (h:∀ x∈l,x∈names):F9 names l<2 ^ names.length:=by
 have:=aN5 names h l.length (Nat.le_refl _)
 rwa [cB8] at this
theorem bX9 {n:Nat} (h:n<=8):2 ^ n<=256:=Nat.pow_le_pow_right (n:=2) (by omega) h
theorem ch4 (names l:List Int) (g:names.length<=8/\∀ x∈l,x∈names):vc (EV [(32,cWhere)]) (bX4 names l) Go.Proofs.Tryd.f68 cSetOf (names,l,()):=by
 rw [ch2 names l];obtain ⟨j,b⟩:=g;simp only [true_and];intro k c;have d:l.length<=140737488355328:=c.len;refine ⟨⟨(0,0,()),rfl,rfl,Int.le_refl _,by dsimp only;omega,rfl⟩,?_⟩;rintro ⟨m,i,⟨⟩⟩;dsimp only;rintro ⟨o,r,rfl⟩;obtain ⟨i,rfl⟩:=cz6 o;simp only [cz4];refine ⟨λh=>?_,λh=>?_⟩
 .have h:=cA0 h;have f:i<l.length:=by omega
  have p:=b _ (E7 f 0);have h1:=ah7.2 p;have h2:=aX5 (l:=names) (n:=l.getD i 0);have h3:=aN5 names b i (by omega);have h4:=bX9 j;obtain ⟨w,q⟩:=cz6 h1;have s:2 ^ w<=2 ^ 7:=Nat.pow_le_pow_right (by omega) (by omega);have a:IntKind.i64.wrap ((BitVec.ofInt 64 (F9 names (l.take i):Int)|||BitVec.ofInt 64 (IntKind.i64.wrap ((1:Int)*(2:Int) ^ min (D5 names (l.getD i 0)).toNat 64))).toNat:Int)=(F9 names (l.take (i+1)):Int):=by
   have e:((2:Int) ^ w)=((2 ^ w:Nat):Int):=by simp
   rw [A4 f 0,bl5,q,cz4,Nat.min_eq_left (by omega),Int.one_mul,e,au8 (x:=2 ^ w) (by omega),ci9 (by omega) (by omega)]
  exact ⟨⟨by omega,by omega⟩,h1,(_,((i+1:Nat):Int),()),a,B5 f d,⟨by dsimp only;omega,by dsimp only;omega,by dsimp only;rw [cz4]⟩,by dsimp only;omega⟩
 .have h:=cz9 h;rw [List.take_of_length_le (by omega)]
theorem bu1:C8 prog RG 68 cSetOf:=E3 (A7 bp4 B7) (λp=>bX4 p.1 p.2.1) (by kernel_rfl) (by kernel_rfl) (by kernel_rfl) λ(n,l,()) a=>ch4 n l a
theorem aD7 (cost:List Int) (batch:Nat) (price:Int) (held n:Nat):rowM cost batch price held (n+1)=bt7 cost batch price held (rowM cost batch price held n) n:=by unfold rowM;rw [List.range_succ,List.foldl_append];rfl
theorem ch5 (s:Nat):Y2 s<=20:=aN4 s 20
theorem aN7 {cost:List Int} (hc:∀ c∈cost,0<=c/\c<=1048576) (batch:Nat) {price:Int} (a:price=0\/price=1) (held:Nat):∀ n,n<=cost.length->0<=rowM cost batch price held n/\rowM cost batch price held n<=far
 |0,_=>⟨show (0:Int)<=1048576 by decide,Int.le_refl _⟩
 |n+1,h=>by
  obtain ⟨h1,h2⟩:=aN7 hc batch a held n (by omega);have h3:=hc _ (E7 (l:=cost) (i:=n) (by omega) 0);rw [aD7];unfold bt7;cases decide (cost.getD n 0<far)&&(andN held (n|||batch)==0) with
  |false=>exact ⟨h1,h2⟩
  |true=>
   rw [cond_true];have h4:0<=price*(Y2 (andN batch n):Int):=by rcases a with rfl|rfl<;>omega
   omega
theorem bY0 {cost:List Int} (hc:∀ c∈cost,0<=c/\c<=1048576) (batch:Nat) (k:Int) {price:Int} (a:price=0\/price=1) (held:Nat):0<=entM cost batch k price held/\entM cost batch k price held<=far:=by
 unfold entM;cases okM batch k held with
 |false=>exact ⟨show (0:Int)<=1048576 by decide,Int.le_refl _⟩
 |true=>exact aN7 hc batch a held _ (Nat.le_refl _)
theorem aj5 (cost:List Int) (batch:Nat) (k price:Int):(H8 cost batch k price).length=cost.length:=by simp [H8]
theorem ay0 {cost:List Int} {h:Nat} (a:h<cost.length) (batch:Nat) (k price:Int) (d:Int):(H8 cost batch k price).getD h d=entM cost batch k price h:=by unfold H8;rw [cA4,cA5,List.getElem?_range a];rfl
theorem bK0 {cost:List Int} {h:Nat} (a:h<cost.length) (batch:Nat) (k price:Int):(H8 cost batch k price).take (h+1)=(H8 cost batch k price).take h++[entM cost batch k price h]:=by rw [A4 (by rw [aj5];exact a) 0,ay0 a]
theorem ch6 (cost:List Int) (batch k price:Int) (K:cost.length<=256/\(0<=batch/\batch<1048576)/\(price=0\/price=1)/\∀ c∈cost,0<=c/\c<=1048576):vc (EV [(95,cBits)]) (bX5 cost batch k price) Go.Proofs.Tryd.f67 cMoved (cost,batch,k,price,()):=by
 rw [ch3 cost batch k price];obtain ⟨hl,⟨z,L⟩,p,hc⟩:=K;obtain ⟨bt,rfl⟩:=cz6 z;simp only [true_and,cz4,Bool.cond_self];intro hs;refine ⟨⟨by omega,by omega⟩,⟨(0,List.replicate cost.length 0,()),rfl,rfl,Int.le_refl _,by dsimp only;omega,by simp⟩,?_⟩;rintro ⟨h,o,⟨⟩⟩;dsimp only;rintro ⟨h0,h1,rfl⟩;obtain ⟨h,rfl⟩:=cz6 h0;simp only [cz4];obtain ⟨M,hM⟩:∃ M,H8 cost bt k price=M:=⟨_,rfl⟩;have N:M.length=cost.length:=by rw [<-hM,aj5]
 have r:(M.take h++List.replicate (cost.length-h) (0:Int)).length=cost.length:=by rw [cB1,cB9,List.length_replicate];omega
 simp only [hM,r];refine ⟨λa=>?_,λa=>?_⟩
 .have a:=cA0 a;have w:h<cost.length:=by omega
  have s:IntKind.i64.wrap ((BitVec.ofInt 64 (h:Int)&&&BitVec.ofInt 64 (bt:Int)).toNat:Int)=((h&&&bt:Nat):Int):=bX8 (by omega) (by omega);have i:(0:Int)<=h/\(h:Int)<cost.length:=⟨by omega,by omega⟩;have t:∀ x:Int,(M.take h++List.replicate (cost.length-h) (0:Int)).set h x=M.take h++x::List.replicate (cost.length-h-1) 0:=by
   intro x;obtain ⟨d,a⟩:∃ d,cost.length-h=d+1:=⟨cost.length-h-1,by omega⟩;have f:(M.take h).length=h:=by rw [cB9];omega
   rw [a,List.replicate_succ,List.set_append_right _ _ (by omega),f,Nat.sub_self,List.set_cons_zero,Nat.add_sub_cancel]
  have A:M.take (h+1)=M.take h++[entM cost bt k price h]:=by rw [<-hM];exact bK0 w bt k price
  have g:∀ x,x=entM cost bt k price h->M.take h++x::List.replicate (cost.length-h-1) (0:Int)=M.take (h+1)++List.replicate (cost.length-(h+1)) 0:=by rintro x rfl;rw [A,cB6,List.cons_append,List.nil_append,show cost.length-h-1=cost.length-(h+1) from by omega]
  have B:IntKind.i64.wrap ((h:Int)+1)=((h+1:Nat):Int):=B5 w (by omega);simp only [s,t,B];have C:(((h&&&bt:Nat):Int) !=(bt:Int)||decide ((Y2 h:Int) >k))=!okM bt k h:=by
   unfold okM;have e:(((h&&&bt:Nat):Int) !=(bt:Int))=!((h&&&bt:Nat)==bt):=by rw [Bool.eq_iff_iff];simp;omega
   rw [e,Bool.not_and];congr 1;rw [Bool.eq_iff_iff];simp
  rw [C];refine ⟨i,λ_=>⟨by omega,by omega⟩,λj=>?_,λb=>?_⟩
  .have j:okM bt k h=false:=by simpa using j
   refine ⟨(((h+1:Nat):Int),_,()),rfl,rfl,⟨by dsimp only;omega,by dsimp only;omega,?_⟩,by dsimp only;omega⟩;dsimp only;rw [cz4];exact g _ (by unfold entM;rw [j];rfl)
  .have b:okM bt k h=true:=by simpa using b
   refine ⟨⟨(0,_,()),rfl,rfl,Int.le_refl _,by dsimp only;omega,rfl⟩,?_⟩;rintro ⟨o,q,⟨⟩⟩;dsimp only;rintro ⟨o0,S,rfl⟩;obtain ⟨o,rfl⟩:=cz6 o0;simp only [cz4];have l:∀ x:Int,(M.take h++x::List.replicate (cost.length-h-1) (0:Int)).length=cost.length:=by intro x;rw [cB1,cB9,cA6,List.length_replicate];omega
   simp only [l];refine ⟨λa=>?_,λa=>?_⟩
   .have a:=cA0 a;have y:o<cost.length:=by omega
    have O:=hc _ (E7 y 0);have I:=aN7 hc bt p h o (by omega);have D:IntKind.i64.wrap ((BitVec.ofInt 64 (o:Int)|||BitVec.ofInt 64 (bt:Int)).toNat:Int)=((o|||bt:Nat):Int):=ci9 (by omega) (by omega);have J:o|||bt<2 ^ 20:=Nat.or_lt_two_pow (by omega) (by omega)
    have E:IntKind.i64.wrap ((BitVec.ofInt 64 (h:Int)&&&~~~BitVec.ofInt 64 ((o|||bt:Nat):Int)).toNat:Int)=((andN h (o|||bt):Nat):Int):=aT6 (by omega) (by omega);have F:IntKind.i64.wrap ((BitVec.ofInt 64 (bt:Int)&&&~~~BitVec.ofInt 64 (o:Int)).toNat:Int)=((andN bt o:Nat):Int):=aT6 (by omega) (by omega);have P:andN bt o<2 ^ 20:=bu0 (n:=20) (by omega);have Q:=ch5 (andN bt o);have R:price*(Y2 (andN bt o):Int)<=20/\0<=price*(Y2 (andN bt o):Int):=by rcases p with rfl|rfl<;>omega
    simp only [D,E,F,cz4];have G:IntKind.i64.wrap (price*(Y2 (andN bt o):Int))=price*(Y2 (andN bt o):Int):=F8 (by omega) (by omega);have H:IntKind.i64.wrap (cost.getD o 0+price*(Y2 (andN bt o):Int))=cost.getD o 0+price*(Y2 (andN bt o):Int):=F8 (by omega) (by omega);have u:(0:Int)<=o/\(o:Int)<cost.length:=⟨by omega,by omega⟩;have f:(M.take h).length=h:=by rw [cB9];omega
    have v:(M.take h++rowM cost bt price h o::List.replicate (cost.length-h-1) (0:Int)).getD h 0=rowM cost bt price h o:=by rw [cA4,cA9 (by omega),f,Nat.sub_self];rfl
    have m:∀ x:Int,(M.take h++rowM cost bt price h o::List.replicate (cost.length-h-1) (0:Int)).set h x=M.take h++x::List.replicate (cost.length-h-1) 0:=by intro x;rw [List.set_append_right _ _ (by omega),f,Nat.sub_self,List.set_cons_zero]
    simp only [G,H,v,m];refine ⟨u,λ_=>⟨i,u,⟨by omega,by omega⟩,i⟩,(((o+1:Nat):Int),M.take h++rowM cost bt price h (o+1)::List.replicate (cost.length-h-1) 0,()),B5 y (by omega),?_,⟨by dsimp only;omega,by dsimp only;omega,by dsimp only;rw [cz4]⟩,by dsimp only;omega⟩;dsimp only;rw [aD7];unfold bt7;have e:(decide (cost.getD o 0<1048576)&&(((andN h (o|||bt):Nat):Int)==0))=(decide (cost.getD o 0<far)&&(andN h (o|||bt)==0)):=by congr 1;rw [Bool.eq_iff_iff];simp
    rw [e];cases decide (cost.getD o 0<far)&&(andN h (o|||bt)==0) with
    |false=>rfl
    |true=>rw [cond_true,cond_true];congr 2;rw [Int.min_def];split<;>split<;>omega
   .have a:=cz9 a;have y:o=cost.length:=by omega
    refine ⟨(((h+1:Nat):Int),_,()),rfl,rfl,⟨by dsimp only;omega,by dsimp only;omega,?_⟩,by dsimp only;omega⟩;dsimp only;rw [cz4];exact g _ (by unfold entM;rw [b,y];rfl)
 .have a:=cz9 a;have w:h=cost.length:=by omega
  rw [List.take_of_length_le (by omega),w,Nat.sub_self,List.replicate_zero,List.append_nil]
theorem bu2:C8 prog RG 67 cMoved:=E3 (A7 bJ9 B7) (λp=>bX5 p.1 p.2.1 p.2.2.1 p.2.2.2.1) (by kernel_rfl) (by kernel_rfl) (by kernel_rfl) λ(c,b,k,p,()) a=>ch6 c b k p a
def bl6 (n:Nat) (c:List Int):Prop:=c.length=2 ^ n/\∀ x∈c,0<=x/\x<=1048576
theorem cj0 (n:Nat):bl6 n (aO6 (2 ^ n)):=by
 have h:=Nat.two_pow_pos n;refine ⟨by simp [aO6];omega,λx a=>?_⟩;unfold aO6 at a;rcases List.mem_cons.1 a with rfl|a
 .omega
 .rw [List.mem_replicate] at a;rw [a.2];exact ⟨by decide,by decide⟩
theorem Y3 {n:Nat} {c:List Int} (h:bl6 n c) (batch:Nat) (k:Int) {price:Int} (a:price=0\/price=1):bl6 n (H8 c batch k price):=by refine ⟨by rw [aj5];exact h.1,λx b=>?_⟩;obtain ⟨i,_,rfl⟩:=List.mem_map.1 b;exact bY0 h.2 batch k a i
theorem aT7 (names:List Int) (k:Int) {n:Nat}:∀ (code:List Ins) {c:List Int},bl6 n c->bl6 n (code.foldl (aa6 names k) c)
 |[],_,h=>h
 |x::r,c,h=>aT7 names k r (c:=aa6 names k c x) (Y3 (Y3 h _ _ (.inr rfl)) _ _ (.inl rfl))
theorem bb3 (names:List Int) (k:Int) (code:List Ins):bl6 names.length (I0 names k code):=aT7 names k code (cj0 _)
theorem bY1 (names:List Int) (k:Int) (code:List Ins) (x:Ins):I0 names k (code++[x])=aa6 names k (I0 names k code) x:=by simp [I0]
theorem bY2 (a:Int) (b:List Ins) (c d names:List Int) (k:Int) (H:names.length<=8/\∀ x∈b,(∀ n∈x.from_,n∈names)/\∀ n∈x.to,n∈names):
  vc (EV [(68,cSetOf),(67,cMoved)]) (bt8 b names k) Go.Proofs.Tryd.f28 cFewest (a,b,c,d,names,k,()):=by
 rw [bX6 a b c d names k];obtain ⟨q,r⟩:=H;have I:=bX9 q;have s:=Nat.two_pow_pos names.length;have J:IntKind.i64.wrap ((1:Int)*(2:Int) ^ min names.length 64)=((2 ^ names.length:Nat):Int):=by
  have e:((2:Int) ^ names.length)=((2 ^ names.length:Nat):Int):=by simp
  rw [Nat.min_eq_left (by omega),Int.one_mul,e,au8 (by omega)]
 have K:(⟨0,0,[],[],[]⟩:Ins)=ins0:=rfl;simp only [cz4];simp only [J,K,true_and,cz4];obtain ⟨N,f⟩:∃ N,2 ^ names.length=N:=⟨_,rfl⟩;rw [f] at I s;simp only [f];intro t L M O;have v:b.length<=140737488355328:=t.len;refine ⟨by omega,⟨by omega,by omega⟩,⟨(1,List.replicate N 0,()),rfl,rfl,Int.le_refl _,by dsimp only;omega,?_⟩,?_⟩
 .dsimp only;obtain ⟨m,rfl⟩:∃ m,N=m+1:=⟨N-1,by omega⟩;rfl
 rintro ⟨i,cs,⟨⟩⟩;dsimp only;rintro ⟨V,W,rfl⟩;obtain ⟨i,rfl⟩:=cz6 (show 0<=i by omega);simp only [cz4];have g:((0:Int)::List.replicate (i-1) far++List.replicate (N-i) 0).length=N:=by rw [cB1,cA6,List.length_replicate,List.length_replicate];omega
 refine ⟨λh=>?_,λh=>?_⟩
 .have h:=cA0 h;rw [g] at h;refine ⟨by rw [g];omega,((i+1:Nat),_,()),B5 (m:=N) (by omega) (by omega),rfl,⟨by dsimp only;omega,by dsimp only;omega,?_⟩,by dsimp only;omega⟩;dsimp only;rw [cz4];obtain ⟨j,rfl⟩:∃ j,i=j+1:=⟨i-1,by omega⟩;obtain ⟨m,hm⟩:∃ m,N-(j+1)=m+1:=⟨N-(j+1)-1,by omega⟩;have w:((0:Int)::List.replicate (j+1-1) far).length=j+1:=by simp
  rw [hm,List.replicate_succ,List.set_append_right _ _ (by omega),w,Nat.sub_self,List.set_cons_zero,show N-(j+1+1)=m from by omega,Nat.add_sub_cancel,Nat.add_sub_cancel,List.replicate_succ' (n:=j),List.cons_append,List.cons_append,cB6];rfl
 .have h:=cz9 h;rw [g] at h;have P:i=N:=by omega
  subst P;have y:(0:Int)::List.replicate (i-1) far++List.replicate (i-i) 0=I0 names k (b.take 0):=by rw [Nat.sub_self,List.replicate_zero,List.append_nil,List.take_zero];show aO6 i=aO6 (2 ^ names.length);rw [f]
  rw [y];refine ⟨⟨(0,_,()),rfl,rfl,Int.le_refl _,by dsimp only;omega,rfl⟩,?_⟩;rintro ⟨j,cs,⟨⟩⟩;dsimp only;rintro ⟨j0,X,rfl⟩;obtain ⟨j,rfl⟩:=cz6 j0;simp only [cz4];refine ⟨λh=>?_,λh=>?_⟩
  .have h:=cA0 h;have o:j<b.length:=by omega
   obtain ⟨hf,B⟩:=r _ (E7 o ins0);have D:(0:Int)<=j/\(j:Int)<b.length:=⟨by omega,by omega⟩;have l:I0 names k (b.take (j+1))=aa6 names k (I0 names k (b.take j)) (b.getD j ins0):=by rw [A4 o ins0,bY1]
   have p:=bb3 names k (b.take j);obtain ⟨x,Q⟩:∃ x,b.getD j ins0=x:=⟨_,rfl⟩;simp only [Q] at*
   have E:=Y3 p (F9 names x.from_) k (.inr rfl);have R:=aN6 names hf;have S:=aN6 names B;rw [f] at R S;have z:=p.1;have T:=E.1;rw [f] at z T;exact ⟨D,⟨q,hf⟩,⟨by omega,⟨by omega,by omega⟩,by simp,p.2⟩,D,⟨q,B⟩,⟨by omega,⟨by omega,by omega⟩,by simp,E.2⟩,((j+1:Nat),I0 names k (b.take (j+1)),()),B5 o v,l.symm,⟨by dsimp only;omega,by dsimp only;omega,by dsimp only;rw [cz4]⟩,by dsimp only;omega⟩
  .have h:=cz9 h;have o:b.take j=b:=List.take_of_length_le (by omega);simp only [o];have p:=bb3 names k b;obtain ⟨C,F⟩:∃ C,I0 names k b=C:=⟨_,rfl⟩;have A:ae7 names k b=C.foldl min far:=by unfold ae7;rw [F]
   simp only [F,A] at*
   have z:=p.1;rw [f] at z;refine ⟨⟨(0,1048576,()),rfl,rfl,Int.le_refl _,by dsimp only;omega,rfl⟩,?_⟩;rintro ⟨u,m,⟨⟩⟩;dsimp only;rintro ⟨U,Y,rfl⟩;obtain ⟨u,rfl⟩:=cz6 U;simp only [cz4];refine ⟨λh=>?_,λh=>?_⟩
   .have h:=cA0 h;have G:u<C.length:=by omega
    refine ⟨⟨by omega,by omega⟩,((u+1:Nat),(C.take (u+1)).foldl min far,()),B5 G (by omega),?_,⟨by dsimp only;omega,by dsimp only;omega,by dsimp only;rw [cz4]⟩,by dsimp only;omega⟩;dsimp only;rw [A4 G 0,List.foldl_append,List.foldl_cons,List.foldl_nil,Int.min_def];split<;>split<;>omega
   .have h:=cz9 h;rw [List.take_of_length_le (by omega)]
theorem bl7:C8 prog RG 28 cFewest:=E3 (A7 bu1 (A7 bu2 B7)) (λp=>bt8 p.2.1 p.2.2.2.2.1 p.2.2.2.2.2.1) (by kernel_rfl) (by kernel_rfl) (by kernel_rfl) λ(a,b,c,d,n,k,()) e=>bY2 a b c d n k e
theorem bY3 {b:List Ins} {N:Nat} (h:∀ x∈b,x.to.length<=N):(wr b).length<=N*b.length:=by
 induction b with
 |nil=>simp [wr]
 |cons x r ih=>have h1:=h x (by simp);have h2:=ih λy a=>h y (by simp [a]);rw [Q2,cB1,cA6,Nat.mul_add];omega
theorem bY4 (a:Int) (b:List Ins) (c d:List Int) (g:(0<=a/\a<=4000)/\b.length<=4000/\∀ x∈b,x.to.length<=4000):vc (EV []) (bt9 a b) Go.Proofs.Tryd.f26 cNames (a,b,c,d,()):=by
 rw [bX7 a b c d];obtain ⟨⟨k,l⟩,n,e⟩:=g;have p:(⟨0,0,[],[],[]⟩:Ins)=ins0:=rfl;simp only [p,true_and];intro q r s;refine ⟨⟨(0,[],()),rfl,rfl,Int.le_refl _,by dsimp only;omega,rfl⟩,?_⟩;rintro ⟨i,o,⟨⟩⟩;dsimp only;rintro ⟨t,w,rfl⟩;obtain ⟨i,rfl⟩:=cz6 t;simp only [cz4];refine ⟨λh=>?_,λh=>?_⟩
 .have h:=cA0 h;refine ⟨by rw [Y1];simp;omega,((i+1:Nat),iota (i+1),()),B5 (m:=4000) (by omega) (by omega),(bk1 i).symm,⟨by dsimp only;omega,by dsimp only;omega,by dsimp only;rw [cz4]⟩,by dsimp only;omega⟩
 .have h:=cz9 h;have u:i=a.toNat:=by omega
  subst u;refine ⟨⟨(0,iota a.toNat,()),rfl,rfl,Int.le_refl _,by dsimp only;omega,by simp [wr]⟩,?_⟩;rintro ⟨j,o,⟨⟩⟩;dsimp only;rintro ⟨j0,y,rfl⟩;obtain ⟨j,rfl⟩:=cz6 j0;simp only [cz4];refine ⟨λh=>?_,λh=>?_⟩
  .have h:=cA0 h;have f:j<b.length:=by omega
   have h1:=e _ (E7 f ins0);have h2:=bY3 (b:=b.take j) (N:=4000) λx v=>e x (List.mem_of_mem_take v);rw [cB9] at h2;have h3:4000*min j b.length<=4000*4000:=Nat.mul_le_mul_left _ (by omega);exact ⟨⟨by omega,by omega⟩,by rw [cB1,Y1];omega,((j+1:Nat),iota a.toNat++wr (b.take (j+1)),()),B5 f (by omega),by rw [aj4 f,cB6],⟨by dsimp only;omega,by dsimp only;omega,by dsimp only;rw [cz4]⟩,by dsimp only;omega⟩
  .have h:=cz9 h;rw [List.take_of_length_le (by omega)];rfl
theorem bl8:C8 prog RG 26 cNames:=E3 B7 (λp=>bt9 p.1 p.2.1) (by kernel_rfl) (by kernel_rfl) (by kernel_rfl) λ(a,b,c,d,()) e=>bY4 a b c d e
end Go.Rg
end
