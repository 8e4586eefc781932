/-
RegsMore returns true for any numbers l and n, in whatever memory and on every schedule: of the function that l makes, with a slot more there are no more loads; with as many slots as Press says, and as an instruction needs, nothing is stored, and loaded are just the parameters that are read, each once.
-/
import Derived.Test.YtknhkhdbonjhgaaDoorV4
import Derived.Test.YtknhkhdbonjhgaaDoorRows
import Derived.ProofKit
import Derived.LaidMore
import Derived.Stop.Joined
import Derived.ChangeSame
import Derived.Test.YtknhkhdbonjhgaaDoorCards
import Derived.Test.YtknhkhdbonjhgaaDoorTie
import Derived.SevenTiedAt
set_option linter.unusedVariables false
set_option linter.unusedSimpArgs false
set_option linter.unnecessarySimpa false
set_option maxRecDepth 100000
noncomputable section
section
namespace Go.Rg
open Go Go.VT
theorem bX4 (a:Int):vc (EV []) noL Go.Proofs.Tryd.f110 cIsNaN (a,())=((a !=a,())=(false,())):=by kernel_rfl
theorem bO2 (a:Int):vc (EV []) noL Go.Proofs.Tryd.f111 cIsNaN (a,())=((a !=a,())=(false,())):=by kernel_rfl
theorem ch5 (a b:Int):vc (EV [(111,cIsNaN)]) noL Go.Proofs.Tryd.f109 cLess (a,b,())=(
 let c:Bool:=decide (a<b);
  (false&&!false||c,())=(c,())):=by kernel_rfl
theorem cn1 (l:List Int) (t:Int):vc (EV [(109,cLess),(110,cIsNaN)]) (lBin l t) Go.Proofs.Tryd.f107 cBin (l,t,())=(
 let a:Int:=(↑(List.length l):Int);
 let c:Int:=(2:Int) ^ (1:Nat);
  Small RU (Sigma.mk (Ty.slice (3:Nat) (Ty.int IntKind.i64)) l)->
  (∃ (p:Int×Int×Unit),
  l=l/\
  t=t/\
  (0:Int)=(0:Int)/\
  false=false/\
  a=a/\
  (0:Int)=p.1/\
  a=p.2.1/\
  (0:Int)<=p.1/\
  p.1<=p.2.1/\p.2.1<=a/\(∀ (x:Int),List.Mem x (List.take (Int.toNat p.1) l)->x<t)/\∀ (x:Int),List.Mem x (List.drop (Int.toNat p.2.1) l)->t<=x)/\
  ∀ (p:Int×Int×Unit),
 let e0_1:Bool:=decide (List.getD l (Int.toNat (IntKind.i64.wrap (Int.fdiv (IntKind.wrap IntKind.u64 (IntKind.i64.wrap (p.1+p.2.1))) c))) (0:Int)<t);
 let c:Int:=IntKind.i64.wrap (Int.fdiv (IntKind.wrap IntKind.u64 (IntKind.i64.wrap (p.1+p.2.1))) c);
 let e:Bool:=decide (p.1<p.2.1);
 let d:Int:=p.2.1;
 let b:Int:=p.1;
  ((0:Int)<=b/\b<=d/\d<=a/\(∀ (x:Int),List.Mem x (List.take (Int.toNat b) l)->x<t)/\∀ (x:Int),List.Mem x (List.drop (Int.toNat d) l)->t<=x)->
  (e=true->
  (0:Int)<=(1:Int)/\
  ((0:Int)<=c/\c<a)/\
  ∃ (p':Int×Int×Unit),
  (bif e0_1 then l else l)=l/\
  (bif e0_1 then t else t)=t/\
  (bif e0_1 then (0:Int) else (0:Int))=(0:Int)/\
  (bif e0_1 then false else false)=false/\
  (bif e0_1 then a else a)=a/\
  (bif e0_1 then IntKind.i64.wrap (c+(1:Int)) else b)=p'.1/\
  (bif e0_1 then d else c)=p'.2.1/\
  ((0:Int)<=p'.1/\
  p'.1<=p'.2.1/\
  p'.2.1<=a/\(∀ (x:Int),List.Mem x (List.take (Int.toNat p'.1) l)->x<t)/\∀ (x:Int),List.Mem x (List.drop (Int.toNat p'.2.1) l)->t<=x)/\
  Int.toNat (p'.2.1-p'.1)<Int.toNat (d-b))/\
  (e=false->
  (decide (b<a)=true->(0:Int)<=b/\b<a)/\
  (decide (b<a)=true->(List.getD l (Int.toNat b) (0:Int)==t)=false->(0:Int)<=b/\b<a)/\
  (b,())=((↑(List.length (List.takeWhile (λ(x:den RU.T i64)=>decide (x<t)) l)):Int),()))):=by kernel_rfl
theorem ch6 (reg e:Int) (b:List Ins) (c d:List Int) (sp:Spans) (rd:Reads) (a:Holds) (ce:List (Int×Int)) (op ks oc:Int) (cd:List RIns) (ou:List Place):vc (EV []) (ch3 a ks reg) Go.Proofs.Tryd.f54 cSlot (reg,e,b,c,d,sp,rd,a,ce,op,ks,oc,cd,ou,())=(
 let f:Int×List Ins×List Int×List Int×List (Int×Span)×List (Int×List Int)×List (Place×Int)×List (Int×Int)×Int×Int×Int×List RIns×List Place×Unit:=
  (e,b,c,d,sp,rd,a,ce,op,ks,oc,cd,ou,());
 let g:Bool×Int×Int×List Ins×List Int×List Int×List (Int×Span)×List (Int×List Int)×List (Place×Int)×List (Int×Int)×Int×Int×Int×List RIns×List Place×Unit:=
  ((D4 a ks reg).cell,(D4 a ks reg).n,f);
  Small RU (Sigma.mk (Ty.slice (52:Nat) (Ty.user (0:Nat))) b)->
  Small RU (Sigma.mk (Ty.slice (3:Nat) (Ty.int IntKind.i64)) c)->
  Small RU (Sigma.mk (Ty.slice (3:Nat) (Ty.int IntKind.i64)) d)->
  Small RU (Sigma.mk (Ty.slice (55:Nat) (Ty.user (1:Nat))) cd)->
  Small RU (Sigma.mk (Ty.slice (59:Nat) (Ty.user (2:Nat))) ou)->
  (∃ (p:Int×Unit),
  reg=reg/\
  ks=ks/\
  (0:Int)=p.1/\
  e=e/\
  b=b/\
  c=c/\
  d=d/\
  op=op/\
  ks=ks/\
  oc=oc/\
  sp=sp/\
  rd=rd/\
  a=a/\
  ce=ce/\
  cd=cd/\
  ou=ou/\
  false=false/\
  (0:Int)=(0:Int)/\
  (0:Int)<=p.1/\(p.1<=ks\/p.1=(0:Int))/\∀ (s:Nat),List.Mem s (List.range (Int.toNat p.1))->al2 a reg s=false)/\
  ∀ (p:Int×Unit),
 let e0_1:Bool:=
  Option.isSome (mget (F3 RU (Ty.user (2:Nat))) a (Place.mk false p.1))&&Option.getD (mget (F3 RU (Ty.user (2:Nat))) a (Place.mk false p.1)) (0:Int)==reg;
 let e1_1:Bool:=decide (p.1<ks);
  ((0:Int)<=p.1/\(p.1<=ks\/p.1=(0:Int))/\∀ (s:Nat),List.Mem s (List.range (Int.toNat p.1))->al2 a reg s=false)->
  (e1_1=true->
  (e0_1=true->(false,p.1,f)=g)/\
  (e0_1=false->
  ∃ (p':Int×Unit),
  reg=reg/\
  ks=ks/\
  IntKind.i64.wrap (p.1+(1:Int))=p'.1/\
  e=e/\
  b=b/\
  c=c/\
  d=d/\
  op=op/\
  ks=ks/\
  oc=oc/\
  sp=sp/\
  rd=rd/\
  a=a/\
  ce=ce/\
  cd=cd/\
  ou=ou/\
  false=false/\
  (0:Int)=(0:Int)/\
  ((0:Int)<=p'.1/\
  (p'.1<=ks\/p'.1=(0:Int))/\∀ (s:Nat),List.Mem s (List.range (Int.toNat p'.1))->al2 a reg s=false)/\
  Int.toNat ks-Int.toNat p'.1<Int.toNat ks-Int.toNat p.1))/\
  (e1_1=false->(true,(-1:Int),f)=g)):=by kernel_rfl
theorem ch7 (k s c o n:Int) (t f:List Int) (b:List Ins) (g:Int) (a:List Ins) (d e:List Int) (sp:Spans) (rd:Reads) (h:Holds) (ce:List (Int×Int)) (op ks oc:Int) (cd:List RIns) (ou:List Place):vc (EV []) noL Go.Proofs.Tryd.f85 cPutA (k,s,c,o,n,t,f,b,g,a,d,e,sp,rd,h,ce,op,ks,oc,cd,ou,())=(
 let i:List RIns:=[RIns.mk k s c (Ins.mk o n t f b)];
  Small RU (Sigma.mk (Ty.slice (3:Nat) (Ty.int IntKind.i64)) t)->
  Small RU (Sigma.mk (Ty.slice (3:Nat) (Ty.int IntKind.i64)) f)->
  Small RU (Sigma.mk (Ty.slice (52:Nat) (Ty.user (0:Nat))) b)->
  Small RU (Sigma.mk (Ty.slice (52:Nat) (Ty.user (0:Nat))) a)->
  Small RU (Sigma.mk (Ty.slice (3:Nat) (Ty.int IntKind.i64)) d)->
  Small RU (Sigma.mk (Ty.slice (3:Nat) (Ty.int IntKind.i64)) e)->
  Small RU (Sigma.mk (Ty.slice (55:Nat) (Ty.user (1:Nat))) cd)->
  Small RU (Sigma.mk (Ty.slice (59:Nat) (Ty.user (2:Nat))) ou)->
  (List.length cd+List.length i)*(112:Nat)<=(140737488355328:Nat)/\
  (g,a,d,e,sp,rd,h,ce,op,ks,oc,cd++i,ou,())=(g,a,d,e,sp,rd,h,ce,op,ks,oc,cd++i,ou,())):=by kernel_rfl
theorem ch8 (reg fr g:Int) (a:List Ins) (d e:List Int) (sp:Spans) (rd:Reads) (h:Holds) (ce:List (Int×Int)) (op ks oc:Int) (cd:List RIns) (ou:List Place):vc (EV [(107,cBin)]) noL Go.Proofs.Tryd.f100 cNext (reg,fr,g,a,d,e,sp,rd,h,ce,op,ks,oc,cd,ou,())=(
 let b:Int:=(↑(List.length (List.takeWhile (λ(x:den RU.T i64)=>decide (x<fr)) (Option.getD (mget (λ(x y:Int)=>x==y) rd reg) []))):Int);
 let f:Int×List Ins×List Int×List Int×List (Int×Span)×List (Int×List Int)×List (Place×Int)×List (Int×Int)×Int×Int×Int×List RIns×List Place×Unit:=
  (g,a,d,e,sp,rd,h,ce,op,ks,oc,cd,ou,());
 let i:Int×Int×List Ins×List Int×List Int×List (Int×Span)×List (Int×List Int)×List (Place×Int)×List (Int×Int)×Int×Int×Int×List RIns×List Place×Unit:=
  (M3 rd (↑(List.length a):Int) reg fr,f);
 let c:List Int:=Option.getD (mget (λ(x y:Int)=>x==y) rd reg) [];
  Small RU (Sigma.mk (Ty.slice (52:Nat) (Ty.user (0:Nat))) a)->
  Small RU (Sigma.mk (Ty.slice (3:Nat) (Ty.int IntKind.i64)) d)->
  Small RU (Sigma.mk (Ty.slice (3:Nat) (Ty.int IntKind.i64)) e)->
  Small RU (Sigma.mk (Ty.slice (55:Nat) (Ty.user (1:Nat))) cd)->
  Small RU (Sigma.mk (Ty.slice (59:Nat) (Ty.user (2:Nat))) ou)->
  List.Pairwise (λ(j k:den RU.T i64)=>j<=k) c/\
  ((b==(↑(List.length c):Int))=true->((↑(List.length a):Int),f)=i)/\
  ((b==(↑(List.length c):Int))=false->((0:Int)<=b/\b<(↑(List.length c):Int))/\(List.getD c (Int.toNat b) (0:Int),f)=i)):=by kernel_rfl
theorem bO3 (a b c d e f:Int):vc (EV []) noL Go.Proofs.Tryd.f102 cBetter (a,b,c,d,e,f,())=((decide (c >f)||c==f&&decide (b >e),())=(ag8 (Held.mk a b c) (Held.mk d e f),())):=by kernel_rfl
theorem ch9 (l:List Held):vc (EV [(102,cBetter)]) (ch4 l) Go.Proofs.Tryd.f101 cBest (l,())=(
 let c:Int:=(↑(List.length (List.drop (1:Nat) l)):Int);
 let d:Held:=List.getD l (0:Nat) (Held.mk (0:Int) (0:Int) (0:Int));
 let a:List Held:=List.drop (1:Nat) l;
 let b:Value:=Value.func (Fn.func (102:Nat)) #[] #[];
  Small RU (Sigma.mk (Ty.slice (131:Nat) (Ty.user (4:Nat))) l)->
  ((0:Int)<=(0:Int)/\(0:Int)<(↑(List.length l):Int))/\
  ((0:Int)<=(1:Int)/\(1:Int)<=(↑(List.length l):Int))/\
  (∃ (p:Int×Int×Int×Int×Unit),
  b=b/\
  l=l/\
  a=a/\
  c=c/\
  (0:Int)=p.1/\
  b=b/\
  (0:Int)=(0:Int)/\
  (0:Int)=(0:Int)/\
  (0:Int)=(0:Int)/\
  d.slot=p.2.1/\
  d.reg=p.2.2.1/\
  d.next=p.2.2.2.1/\
  (0:Int)<=p.1/\
  p.1<=(↑(List.length (List.tail l)):Int)/\
  Held.mk p.2.1 p.2.2.1 p.2.2.2.1=List.foldl G4 (List.headD l held0) (List.take (Int.toNat p.1) (List.tail l)))/\
  ∀ (p:Int×Int×Int×Int×Unit),
 let e0_1:Bool:=
  ag8
  (Held.mk (List.getD a (Int.toNat p.1) (Held.mk (0:Int) (0:Int) (0:Int))).slot (List.getD a (Int.toNat p.1) (Held.mk (0:Int) (0:Int) (0:Int))).reg
  (List.getD a (Int.toNat p.1) (Held.mk (0:Int) (0:Int) (0:Int))).next)
  (Held.mk p.2.1 p.2.2.1 p.2.2.2.1);
 let d:Held:=List.getD a (Int.toNat p.1) (Held.mk (0:Int) (0:Int) (0:Int));
 let e2_1:Int:=p.1;
 let e3_1:Int:=p.2.2.2.1;
 let e:Int:=p.2.2.1;
 let f:Int:=p.2.1;
 let g:Bool:=decide (e2_1<c);
  (0:Int)<=e2_1/\e2_1<=(↑(List.length (List.tail l)):Int)/\Held.mk f e e3_1=List.foldl G4 (List.headD l held0) (List.take (Int.toNat e2_1) (List.tail l))->
  (g=true->
  ((0:Int)<=e2_1/\e2_1<c)/\
  ∃ (p':Int×Int×Int×Int×Unit),
  b=b/\
  (bif e0_1 then l else l)=l/\
  (bif e0_1 then a else a)=a/\
  (bif e0_1 then c else c)=c/\
  IntKind.i64.wrap ((bif e0_1 then e2_1 else e2_1)+(1:Int))=p'.1/\
  b=b/\
  (bif e0_1 then (0:Int) else (0:Int))=(0:Int)/\
  (bif e0_1 then (0:Int) else (0:Int))=(0:Int)/\
  (bif e0_1 then (0:Int) else (0:Int))=(0:Int)/\
  (bif e0_1 then d.slot else f)=p'.2.1/\
  (bif e0_1 then d.reg else e)=p'.2.2.1/\
  (bif e0_1 then d.next else e3_1)=p'.2.2.2.1/\
  ((0:Int)<=p'.1/\
  p'.1<=(↑(List.length (List.tail l)):Int)/\
  Held.mk p'.2.1 p'.2.2.1 p'.2.2.2.1=List.foldl G4 (List.headD l held0) (List.take (Int.toNat p'.1) (List.tail l)))/\
  List.length (List.tail l)-Int.toNat p'.1<List.length (List.tail l)-Int.toNat e2_1)/\
  (g=false->(f,e,e3_1,())=((L7 l).slot,(L7 l).reg,(L7 l).next,()))):=by kernel_rfl
theorem bn5:C9 prog RG 110 cIsNaN:=E8 C1 (λ_=>noL) (by kernel_rfl) (by kernel_rfl) (by kernel_rfl) λ(a,()) _=>(bX4 a).mpr (by rw [bne_self_eq_false])
theorem bf7:C9 prog RG 111 cIsNaN:=E8 C1 (λ_=>noL) (by kernel_rfl) (by kernel_rfl) (by kernel_rfl) λ(a,()) _=>(bO2 a).mpr (by rw [bne_self_eq_false])
theorem bC6:C9 prog RG 109 cLess:=E8 (A8 bf7 C1) (λ_=>noL) (by kernel_rfl) (by kernel_rfl) (by kernel_rfl) λ(a,b,()) _=>(ch5 a b).mpr (by dsimp only;rw [Bool.false_and,Bool.false_or])
theorem aW2 {l:List Int} {t:Int} {k:Nat} (b:k<=l.length) (h1:∀ x∈l.take k,x<t) (h2:∀ x∈l.drop k,t<=x):l.takeWhile (λx=>decide (x<t))=l.take k:=by
 induction l generalizing k with
 |nil=>simp
 |cons x r ih=>
  cases k with
  |zero=>have:=h2 x (by simp);rw [List.takeWhile_cons_of_neg (by simp;omega)];rfl
  |succ k=>have c:=h1 x (by simp);rw [List.takeWhile_cons_of_pos (by simpa using c),List.take_succ_cons,ih (by simpa using b) (λy a=>h1 y (by simp [a])) (λy a=>h2 y (by simpa using a))]
theorem bf8 {l:List Int} (h:l.Pairwise (·<=·)) {i j:Nat} (a:i<=j) (b:j<l.length):l.getD i 0<=l.getD j 0:=by
 rw [cq6,cq6,cp4 (by omega),cp4 b];rcases Nat.lt_or_eq_of_le a with h1|h1
 .exact List.pairwise_iff_getElem.1 h i j (by omega) b h1
 .subst h1;exact Int.le_refl _
theorem aW3 {l:List Int} {k:Nat} {x:Int} (h:x∈l.take k):∃ i,i<k/\i<l.length/\x=l.getD i 0:=by obtain ⟨i,a,rfl⟩:=List.mem_iff_getElem.1 h;rw [cs4] at a;exact ⟨i,by omega,by omega,by rw [List.getElem_take,cq6,cp4 (by omega)];rfl⟩
theorem aW4 {l:List Int} {k:Nat} {x:Int} (h:x∈l.drop k):∃ i,k<=i/\i<l.length/\x=l.getD i 0:=by obtain ⟨i,a,rfl⟩:=List.mem_iff_getElem.1 h;rw [List.length_drop] at a;exact ⟨k+i,by omega,by omega,by rw [List.getElem_drop,cq6,cp4 (by omega)];rfl⟩
theorem cn2 (l:List Int) (t:Int) (o:l.Pairwise (·<=·)):vc (EV [(109,cLess),(110,cIsNaN)]) (lBin l t) Go.Proofs.Tryd.f107 cBin (l,t,()):=by
 rw [cn1 l t];intro r p hs;have hl:l.length<=140737488355328:=hs.len;have e:p=2:=rfl;dsimp only [r];simp only [true_and,and_true,Bool.cond_self,e]
 clear_value p
 refine ⟨⟨(0,(l.length:Int),()),rfl,rfl,Int.le_refl _,by dsimp only;omega,Int.le_refl _,λx a=>?_,λx a=>?_⟩,?_⟩
 .change x∈l.take 0 at a;simp at a
 .dsimp only at a;change x∈l.drop (l.length:Int).toNat at a;simp at a
 rintro ⟨i,j,⟨⟩⟩ ⟨h0,h1,h2,h3,h4⟩;dsimp only at h0 h1 h2 h3 h4 |-;have h3:∀ x∈l.take i.toNat,x<t:=h3;have h4:∀ x∈l.drop j.toNat,t<=x:=h4;obtain ⟨i,rfl⟩:=cp8 h0;obtain ⟨j,rfl⟩:=cp8 (Int.le_trans h0 h1);simp only [cp6] at h3 h4 |-;refine ⟨λb=>?_,λf=>?_⟩
 .have b:(i:Int)<j:=cq2 b;have hm:IntKind.i64.wrap (Int.fdiv (IntKind.u64.wrap (IntKind.i64.wrap ((i:Int)+j))) 2)=((i+j) / 2:Nat):=by
   rw [G0 (n:=(i:Int)+j) (by omega) (by omega)];have s:IntKind.u64.wrap ((i:Int)+j)=(i:Int)+j:=by simp only [IntKind.wrap,IntKind.bits,IntKind.signed,Bool.false_and,Bool.false_eq_true,if_false];omega
   rw [s,Int.fdiv_eq_ediv_of_nonneg _ (by omega),G0 (by omega) (by omega)];omega
  rw [hm];have c:i<=(i+j) / 2/\(i+j) / 2<j:=by omega
  generalize (i+j) / 2=m at c |-;simp only [cp6];refine ⟨by omega,⟨by omega,by omega⟩,?_⟩;cases d:decide (l.getD m 0<t) with
  |true=>have d:l.getD m 0<t:=cq2 d;simp only [cond_true];refine ⟨((m+1:Nat),(j:Int),()),B8 (m:=l.length) (by omega) hl,rfl,⟨by omega,by dsimp only;omega,by dsimp only;omega,λx a=>?_,λx a=>h4 x a⟩,by dsimp only;omega⟩;have a:x∈l.take ((m+1:Nat):Int).toNat:=a;rw [cp6] at a;obtain ⟨q,g,h,rfl⟩:=aW3 a;have:=bf8 o (i:=q) (j:=m) (by omega) (by omega);omega
  |false=>have d:¬ l.getD m 0<t:=cq1 d;simp only [cond_false];refine ⟨((i:Int),(m:Int),()),rfl,rfl,⟨by omega,by dsimp only;omega,by dsimp only;omega,λx a=>h3 x a,λx a=>?_⟩,by dsimp only;omega⟩;have a:x∈l.drop ((m:Nat):Int).toNat:=a;rw [cp6] at a;obtain ⟨q,g,h,rfl⟩:=aW4 a;have:=bf8 o (i:=m) (j:=q) (by omega) (by omega);omega
 .have k:i=j:=by have:¬ (i:Int)<j:=cq1 f;omega
  subst k;refine ⟨λq=>⟨h0,cq2 q⟩,λq _=>⟨h0,cq2 q⟩,?_⟩;have:=aW2 (by omega) h3 h4;have u:(List.takeWhile (λ(x:den RU.T i64)=>decide (x<t)) l).length=i:=by show (List.takeWhile (λ(x:Int)=>decide (x<t)) l).length=i;rw [this,cs4];omega
  rw [u]
theorem bO4:C9 prog RG 107 cBin:=E8 (A8 bC6 (A8 bn5 C1)) (λp=>lBin p.1 p.2.1) (by kernel_rfl) (by kernel_rfl) (by kernel_rfl) λ(l,t,()) a=>cn2 l t a
theorem au6 {m:Holds} {reg:Int} {s:Nat}:al2 m reg s=true<->mget eqP m ⟨false,(s:Int)⟩=some reg:=by simp [al2]
theorem bC7 {p:Nat->Bool} {n s:Nat} (h1:∀ x∈List.range s,p x=false) (hs:s<n) (h2:p s=true):(List.range n).find? p=some s:=by rw [List.find?_range_eq_some];exact ⟨h2,by simpa using hs,λj a=>by have:=h1 j (by simpa using a);simp [this]⟩
theorem aI4 {p:Nat->Bool} {n:Nat} (h1:∀ x∈List.range n,p x=false):(List.range n).find? p=none:=by rw [List.find?_eq_none];intro x a;rw [h1 x a];simp
theorem ci0 (reg e:Int) (f:List Ins) (g h:List Int) (sp:Spans) (rd:Reads) (a:Holds) (ce:List (Int×Int)) (op ks oc:Int) (cd:List RIns) (ou:List Place) (o:ks<=64):vc (EV []) (ch3 a ks reg) Go.Proofs.Tryd.f54 cSlot (reg,e,f,g,h,sp,rd,a,ce,op,ks,oc,cd,ou,()):=by
 rw [ch6 reg e f g h sp rd a ce op ks oc cd ou];intro j k _ _ _ _ _;have b:k=((D4 a ks reg).cell,(D4 a ks reg).n,j):=rfl
 clear_value k j
 simp only [true_and,and_true];refine ⟨⟨(0,()),rfl,Int.le_refl _,.inr rfl,λs hs=>?_⟩,?_⟩
 .change s∈List.range 0 at hs;simp at hs
 rintro ⟨i,⟨⟩⟩ ⟨h0,h1,h2⟩;dsimp only at h0 h1 h2 |-;have h2:∀ s∈List.range i.toNat,al2 a reg s=false:=h2;obtain ⟨i,rfl⟩:=cp8 h0;simp only [cp6] at h2 |-;have l:((mget (F3 RU (Ty.user 2)) a ⟨false,(i:Int)⟩).isSome&&(mget (F3 RU (Ty.user 2)) a ⟨false,(i:Int)⟩).getD 0==reg)=al2 a reg i:=by
  show ((mget eqP a ⟨false,(i:Int)⟩).isSome&&(mget eqP a ⟨false,(i:Int)⟩).getD 0==reg)=decide (mget eqP a ⟨false,(i:Int)⟩=some reg);cases mget eqP a ⟨false,(i:Int)⟩ with
  |none=>rfl
  |some v=>rw [Bool.eq_iff_iff];simp
 rw [l];refine ⟨λc=>?_,λd=>?_⟩
 .have c:(i:Int)<ks:=cq2 c;refine ⟨λq=>?_,λq=>?_⟩
  .rw [b,show D4 a ks reg=⟨false,(i:Int)⟩ by unfold D4;rw [bC7 h2 (by omega) q]]
  .refine ⟨((i+1:Nat),()),?_,⟨by omega,.inl (by dsimp only;omega),λs hs=>?_⟩,by dsimp only;omega⟩
   .rw [G0 (by omega) (by omega)];rfl
   .have hs:s∈List.range ((i+1:Nat):Int).toNat:=hs;rw [cp6,List.range_succ,cr9] at hs;rcases hs with hs|hs
    .exact h2 s hs
    .simp only [cq3] at hs;rw [hs];exact q
 .have d:¬ (i:Int)<ks:=cq1 d;have p:List.range ks.toNat=List.range (min i ks.toNat):=by congr 1;omega
  have m:(List.range ks.toNat).find? (al2 a reg)=none:=aI4 (λx n=>h2 x (by simp at n |-;omega));rw [b,show D4 a ks reg=bO1 by unfold D4;rw [m]];rfl
theorem au7:C9 prog RG 54 cSlot:=E8 C1 (λp=>ch3 p.2.2.2.2.2.2.2.1 p.2.2.2.2.2.2.2.2.2.2.1 p.1) (by kernel_rfl) (by kernel_rfl) (by kernel_rfl) λ(reg,a,b,c,d,sp,rd,e,ce,op,ks,oc,cd,ou,()) f=>ci0 reg a b c d sp rd e ce op ks oc cd ou f
theorem aP3:C9 prog RG 85 cPutA:=E8 C1 (λ_=>noL) (by kernel_rfl) (by kernel_rfl) (by kernel_rfl) λ(k,s,c,o,n,t,f,b,d,e,g,h,sp,rd,i,ce,op,ks,oc,cd,ou,()) a=>(ch7 k s c o n t f b d e g h sp rd i ce op ks oc cd ou).mpr (by
 have a:cd.length<=1000000000:=a;intro j _ _ _ _ _ _ _ _;exact ⟨by show (cd.length+1)*112<=_;omega,rfl⟩)
theorem bf9 {t:Int}:∀ (l:List Int),l.find? (λx=>decide (t<=x))=l[(l.takeWhile (λx=>decide (x<t))).length]?
 |[]=>rfl
 |x::r=>by
  by_cases h:x<t
  .rw [List.find?_cons_of_neg (by simpa using h),List.takeWhile_cons_of_pos (by simpa using h)];simp only [cq8,List.getElem?_cons_succ];exact bf9 r
  .rw [List.find?_cons_of_pos (by simp;omega),List.takeWhile_cons_of_neg (by simpa using h)];rfl
theorem bC8:C9 prog RG 100 cNext:=E8 (A8 bO4 C1) (λ_=>noL) (by kernel_rfl) (by kernel_rfl) (by kernel_rfl) λ(reg,fr,h,d,i,j,sp,rd,k,ce,op,ks,oc,cd,ou,()) e=>(ch8 reg fr h d i j sp rd k ce op ks oc cd ou).mpr (by
 have e:ag9 rd:=e;intro l f g a _ _ _ _ _;have m:a=getL rd reg:=rfl;have c:l=((a.takeWhile (λx=>decide (x<fr))).length:Int):=rfl;have b:g=(M3 rd d.length reg fr,f):=rfl;have n:M3 rd d.length reg fr=(a[(a.takeWhile (λx=>decide (x<fr))).length]?).getD d.length:=by rw [<-bf9];rfl
 have o:(a.takeWhile (λx=>decide (x<fr))).length<=a.length:=(List.takeWhile_prefix _).length_le;rw [n] at b
 clear_value g f
 refine ⟨e reg,λq=>?_,λq=>?_⟩
 .rw [c] at q;have q:(a.takeWhile (λx=>decide (x<fr))).length=a.length:=by have:=eq_of_beq q;omega
  rw [b,List.getElem?_eq_none (by omega)];rfl
 .rw [c] at q |-;have q:¬ (a.takeWhile (λx=>decide (x<fr))).length=a.length:=by have:=beq_eq_false_iff_ne.1 q;omega
  refine ⟨by omega,?_⟩;rw [b,cp6,cq6,cp4 (by omega)];rfl)
theorem bg0:C9 prog RG 102 cBetter:=E8 C1 (λ_=>noL) (by kernel_rfl) (by kernel_rfl) (by kernel_rfl) λ(a,b,c,d,e,f,()) _=>(bO3 a b c d e f).mpr rfl
theorem ci1 (l:List Held) (r:l≠[]):vc (EV [(102,cBetter)]) (ch4 l) Go.Proofs.Tryd.f101 cBest (l,()):=by
 rw [ch9 l];intro n o e s hs;have hl:l.length<=140737488355328:=hs.len;have p:0<l.length:=by cases l with|nil=>exact absurd rfl r|cons=>simp
 have f:e=l.tail:=List.drop_one;have t:l.tail.length=l.length-1:=by simp
 have g:o=l.headD held0:=by show l.getD 0 held0=_;cases l<;>rfl
 have h:n=(e.length:Int):=rfl
 clear_value n o e
 subst h g f;dsimp only [s];simp only [true_and,and_true,Bool.cond_self];have u:(⟨0,0,0⟩:Held)=held0:=rfl;rw [u];refine ⟨by omega,by omega,⟨(0,(l.headD held0).slot,(l.headD held0).reg,(l.headD held0).next,()),rfl,rfl,rfl,rfl,Int.le_refl _,by dsimp only;omega,rfl⟩,?_⟩;rintro ⟨i,a,b,c,⟨⟩⟩ ⟨h0,h1,h2⟩;dsimp only at h0 h1 h2 |-;obtain ⟨k,rfl⟩:=cp8 h0;simp only [cp6] at h2 |-;refine ⟨λd=>?_,λj=>?_⟩
 .have d:(k:Int)<l.tail.length:=cq2 d;have q:(l.tail.take (k+1)).foldl G4 (l.headD held0)=G4 ⟨a,b,c⟩ (l.tail.getD k held0):=by
   rw [A5 (by omega) held0,List.foldl_append,<-h2];rfl
  generalize l.tail.getD k held0=y at q |-;refine ⟨⟨h0,d⟩,((k+1:Nat),(G4 ⟨a,b,c⟩ y).slot,(G4 ⟨a,b,c⟩ y).reg,(G4 ⟨a,b,c⟩ y).next,()),B8 (m:=l.length) (by omega) hl,?_,?_,?_,⟨by omega,by dsimp only;omega,by dsimp only;rw [cp6,q]⟩,by dsimp only;omega⟩
  all_goals
   show (bif ag8 ⟨y.slot,y.reg,y.next⟩ ⟨a,b,c⟩ then _ else _)=_;dsimp only [G4];rw [show (⟨y.slot,y.reg,y.next⟩:Held)=y from rfl];cases ag8 y ⟨a,b,c⟩<;>rfl
 .have v:k=l.tail.length:=by have:¬ (k:Int)<l.tail.length:=cq1 j;omega
  subst v;rw [cs3] at h2;rw [L7,<-h2]
theorem bC9:C9 prog RG 101 cBest:=E8 (A8 bg0 C1) (λp=>ch4 p.1) (by kernel_rfl) (by kernel_rfl) (by kernel_rfl) λ(l,()) a=>ci1 l a
def cRoom:Con RU:=⟨[one,one,one],i64::ints::tysA,[.ptr 0 0,.d 0,.d 1],objA 0 2,some λp=>match p with
  |(pl,st,a0,a1,a2,a3,sp,rd,ho,ce,op,ks,oc,cd,ou,())=>ag9 rd/\ad9 sp rd ks a1.length ho pl st/\ks<=64/\0<=oc/\oc<=1000000000/\cd.length<=1000000000,
 none,[one],i64::tysA,[.d 0],objA 0 1,λp=>match p with
  |(pl,st,a0,a1,a2,a3,sp,rd,ho,ce,op,ks,oc,cd,ou,())=>((E5 sp rd ks a1.length ⟨ho,ce,oc,cd⟩ pl st).1,a0,a1,a2,a3,sp,rd,(E5 sp rd ks a1.length ⟨ho,ce,oc,cd⟩ pl st).2.holds,(E5 sp rd ks a1.length ⟨ho,ce,oc,cd⟩ pl st).2.cells,op,ks,(E5 sp rd ks a1.length ⟨ho,ce,oc,cd⟩ pl st).2.ocells,(E5 sp rd ks a1.length ⟨ho,ce,oc,cd⟩ pl st).2.code,ou,()),[],[],[]⟩
def ci2 (sp:Spans) (rd:Reads) (ks N:Int) (ho:Holds) (pl:Int) (st:List Int):Nat->St RU->Ann RU:=λ_ _=>⟨[8],[.slot 22,.row 900001],[i64,cl6],λp=>0<=p.1/\(p.1<=ks\/p.1=0)/\C0 sp rd N ho pl st (List.range p.1.toNat) []=(none,p.2.1),λp=>ks.toNat-p.1.toNat,[(.slot 8,900001,131,.user 4)]⟩
def cGetA:Con RU:=⟨[one,one],i64::tysA,[.d 0,.ptr 0 0],.box 79 [.ptr 1 0]::objA 1 1,some λp=>p.2.2.2.2.2.2.2.2.2.2.1<=64,none,[one],i64::tysA,[.d 0],.box 79 [.ptr 1 0]::objA 1 1,λp=>((D4 p.2.2.2.2.2.2.2.1 p.2.2.2.2.2.2.2.2.2.2.1 p.1).n,p.2),[0],[],[]⟩
def cCalledA:Con RU:=⟨[(true,5),one,one],ax2++tysA++[mapI],[.d 0,.d 1,.d 2,.d 3,.d 4,.clo 86 [0],.clo 87 [8]],.box 79 [.ptr 1 0]::objA 1 5++[.box 84 [.map 9],.map 18],some λp=>match p with
  |(x1,x2,x3,x4,x5,a0,a1,a2,a3,sp,rd,ho,ce,op,ks,oc,cd,ou,sl,())=>ag6 x3 x4 x5=true/\ks<=64,none,
 [(true,5)],ax2++tysA++[mapI],[.d 0,.d 1,.d 2,.d 3,.d 4],.box 79 [.ptr 1 0]::objA 1 5++[.box 84 [.map 9],.map 18],
 λp=>match p with
  |(x1,x2,x3,x4,x5,a0,a1,a2,a3,sp,rd,ho,ce,op,ks,oc,cd,ou,sl,())=>(x1,x2,x3.map (λn=>(D4 ho ks n).n),x4.map (getI sl),x5,a0,a1,a2,a3,sp,rd,ho,ce,op,ks,oc,cd,ou,sl,()),[0,8],[],[]⟩
def aW5 (x1 x2:Int) (x3 x4:List Int) (x5:List Ins) (ho:Holds) (ks:Int) (sl:List (Int×Int)):Nat->St RU->Ann RU:=λk s=>match k with
 |0=>⟨[],[.slot 20,.row 896],[i64,inss],λp=>0<=p.1/\p.1<=x4.length/\p.2.1=[⟨x1,x2,x3,(x4.take p.1.toNat).map (getI sl)++x4.drop p.1.toNat,x5⟩],λp=>x4.length-p.1.toNat,[]⟩
 |_=>⟨[],[.slot 36,.row 896],[i64,inss],λp=>0<=p.1/\p.1<=x3.length/\p.2.1=[⟨x1,x2,(x3.take p.1.toNat).map (λn=>(D4 ho ks n).n)++x3.drop p.1.toNat,x4.map (getI sl),x5⟩],λp=>x3.length-p.1.toNat,[]⟩
def cReads:Con RU:=⟨[(true,5)],ax2,[.d 0,.d 1,.d 2,.d 3,.d 4],[],none,none,[one],ax2,[.clo 83 [0]],[.box 52 [.d 0,.d 1,.d 2,.d 3,.d 4]],λp=>p,[],[],[]⟩
def ar8:Con RU:=⟨[one,one],[i64,i64,ints],[.d 0,.yld 0],[.loop 1,.box 23 [.row 2],.row 2],some λp=>p.2.1=0/\p.2.2.1.length<=17592186044400,none,[one],[.bool,i64,ints],[.d 0],[.loop 1,.box 23 [.row 2],.row 2],λp=>(true,0,p.2.2.1++[p.1],()),[],[(0,0),(1,1)],[(1,1000001)]⟩
def aW6:Con RU:=⟨[one,one],[i64,ints,i64,i64,ints,ints,inss],[.yld 0,.ptr 3 0],[.loop 0,.box 23 [.row 2],.row 1,.box 52 [.d 2,.d 3,.d 4,.d 5,.d 6]],some λp=>p.1=0/\p.2.1.length+p.2.2.2.2.2.1.length<=17592186044400,none,[],[i64,ints],[],[.loop 0,.box 23 [.row 2],.row 1,.box 52 [.un,.un,.un,.un,.un]],
 λp=>(0,p.2.1++B3 p.2.2.2.2.2.1,()),[],[(0,0),(1,1)],[(1,384)]⟩
def itDo:FuncId->List (Con RU×Con RU×List (Nat×Nat)):=λf=>bif Nat.beq f 83 then [(aW6,ar8,[(0,0),(1,1),(2,2)])] else []
def bn6 (fr:List Int) (r0:List Int):Nat->St RU->Ann RU:=λ_ _=>⟨[],[.slot 8,.row 1000000,.row 1000002],[i64,i64,ints],λp=>0<=p.1/\p.1<=fr.length/\p.2.1=0/\p.2.2.1=r0++B3 (fr.take p.1.toNat),λp=>fr.length-p.1.toNat,[]⟩
def cDo:Con RU:=⟨[one,one,(true,5)],i64::ax2++tysA,[.ptr 0 0,.d 0,.d 1,.d 2,.d 3,.d 4,.d 5],objA 0 6,some λp=>match p with
  |(i,x1,x2,x3,x4,x5,a0,a1,a2,a3,sp,rd,ho,ce,op,ks,oc,cd,ou,())=>ag6 x3 x4 x5=true/\x4.length<=17592186044400/\(B3 x4).length<=64/\x3.length<=64/\ag9 rd/\doOk sp rd ks a1.length i ⟨x1,x2,x3,x4,x5⟩ ⟨ho,ce,oc,cd⟩/\ks<=64/\0<=i/\i<=1000000/\0<=oc/\oc<=100000000/\cd.length<=100000000,
 none,[],tysA,[],objA 0 0,λp=>match p with
  |(i,x1,x2,x3,x4,x5,a0,a1,a2,a3,sp,rd,ho,ce,op,ks,oc,cd,ou,())=>(a0,a1,a2,a3,sp,rd,(doOf sp rd ks a1.length i ⟨x1,x2,x3,x4,x5⟩ ⟨ho,ce,oc,cd⟩).holds,(doOf sp rd ks a1.length i ⟨x1,x2,x3,x4,x5⟩ ⟨ho,ce,oc,cd⟩).cells,op,ks,(doOf sp rd ks a1.length i ⟨x1,x2,x3,x4,x5⟩ ⟨ho,ce,oc,cd⟩).ocells,(doOf sp rd ks a1.length i ⟨x1,x2,x3,x4,x5⟩ ⟨ho,ce,oc,cd⟩).code,ou,()),[],[],[]⟩
def lDo (sp:Spans) (rd:Reads) (ks N i:Int) (x3 x4:List Int) (s0:AS):Nat->St RU->Ann RU:=λk s=>match k with
 |0=>⟨[],[],[],λ_=>False,λ_=>0,[(.box 384 0,900001,3,i64)]⟩
 |1=>⟨[],[.slot 27,.row 1000003,.row 1000004,.box 1000000 10,.row 1000005],[i64,mapP,mapI,i64,aU2],λp=>0<=p.1/\p.1<=(B3 x4).length/\C3 sp rd ks N i (B3 x4) s0 ((B3 x4).take p.1.toNat)=⟨p.2.1,p.2.2.1,p.2.2.2.1,p.2.2.2.2.1⟩,λp=>(B3 x4).length-p.1.toNat,[(.cell 384 0,0,3,i64),(.row 25,0,3,i64)]⟩
 |2=>⟨[],[.slot 61,.row 3712],[i64,mapI],λp=>0<=p.1/\p.1<=(B3 x4).length/\p.2.1=ac6 (C3 sp rd ks N i (B3 x4) s0 (B3 x4)).holds ks ((B3 x4).take p.1.toNat),λp=>(B3 x4).length-p.1.toNat,[]⟩
 |_=>⟨[],[.slot 75,.row 1000003,.row 1000004,.box 1000000 10,.row 1000005],[i64,mapP,mapI,i64,aU2],λp=>0<=p.1/\p.1<=x3.length/\I8 sp rd ks N i x3 (C3 sp rd ks N i (B3 x4) s0 (B3 x4)) (x3.take p.1.toNat)=⟨p.2.1,p.2.2.1,p.2.2.2.1,p.2.2.2.2.1⟩,λp=>x3.length-p.1.toNat,[]⟩
theorem ci3 (pl:Int) (st:List Int) (f:Int) (b:List Ins) (d e:List Int) (sp:Spans) (rd:Reads) (a:Holds) (ce:List (Int×Int)) (op ks oc:Int) (cd:List RIns) (ou:List Place):vc (EV [(100,cNext),(61,cContains),(69,cAt),(101,cBest),(85,cPutA)]) (ci2 sp rd ks b.length a pl st) Go.Proofs.Tryd.f84 cRoom (pl,st,f,b,d,e,sp,rd,a,ce,op,ks,oc,cd,ou,())=(
 let h:Int×Int×List Ins×List Int×List Int×List (Int×Span)×List (Int×List Int)×List (Place×Int)×List (Int×Int)×Int×Int×Int×List RIns×List Place×Unit:=
  ((E5 sp rd ks (↑(List.length b):Int) (AS.mk a ce oc cd) pl st).1,f,b,d,e,sp,rd,(E5 sp rd ks (↑(List.length b):Int) (AS.mk a ce oc cd) pl st).2.holds,
  (E5 sp rd ks (↑(List.length b):Int) (AS.mk a ce oc cd) pl st).2.cells,op,ks,(E5 sp rd ks (↑(List.length b):Int) (AS.mk a ce oc cd) pl st).2.ocells,
  (E5 sp rd ks (↑(List.length b):Int) (AS.mk a ce oc cd) pl st).2.code,ou,());
 let i:Int×List Ins×List Int×List Int×List (Int×Span)×List (Int×List Int)×List (Place×Int)×List (Int×Int)×Int×Int×Int×List RIns×List Place×Unit:=
  (f,b,d,e,sp,rd,a,ce,op,ks,oc,cd,ou,());
  Small RU (Sigma.mk (Ty.slice (3:Nat) (Ty.int IntKind.i64)) st)->
  Small RU (Sigma.mk (Ty.slice (52:Nat) (Ty.user (0:Nat))) b)->
  Small RU (Sigma.mk (Ty.slice (3:Nat) (Ty.int IntKind.i64)) d)->
  Small RU (Sigma.mk (Ty.slice (3:Nat) (Ty.int IntKind.i64)) e)->
  Small RU (Sigma.mk (Ty.slice (55:Nat) (Ty.user (1:Nat))) cd)->
  Small RU (Sigma.mk (Ty.slice (59:Nat) (Ty.user (2:Nat))) ou)->
  (∃ (p:Int×List Held×Unit),
  pl=pl/\
  st=st/\
  ks=ks/\
  (0:Int)=p.1/\
  f=f/\
  b=b/\
  d=d/\
  e=e/\
  op=op/\
  ks=ks/\
  oc=oc/\
  sp=sp/\
  rd=rd/\
  a=a/\
  ce=ce/\
  cd=cd/\
  ou=ou/\
  []=p.2.1/\
  (0:Int)<=p.1/\
  (p.1<=ks\/p.1=(0:Int))/\C0 sp rd (↑(List.length b):Int) a pl st (List.range (Int.toNat p.1)) []=(none,p.2.1))/\
  ∀ (p:Int×List Held×Unit),
 let e0_1:Bool:=!Option.isSome (mget (λ(x y:Int)=>x==y) ce (L7 p.2.1).reg);
 let e1_1:Bool:=
  !G6
  (Option.getD (mget (λ(x y:Int)=>x==y) sp (Option.getD (mget (F3 RU (Ty.user (2:Nat))) a (Place.mk false p.1)) (0:Int))) (Span.mk (0:Int) (0:Int))).first
  (Option.getD (mget (λ(x y:Int)=>x==y) sp (Option.getD (mget (F3 RU (Ty.user (2:Nat))) a (Place.mk false p.1)) (0:Int))) (Span.mk (0:Int) (0:Int))).last pl;
 let g:List Held:=p.2.1;
 let j:List Held:=
  [Held.mk p.1 (Option.getD (mget (F3 RU (Ty.user (2:Nat))) a (Place.mk false p.1)) (0:Int))
  (M3 rd (↑(List.length b):Int) (Option.getD (mget (F3 RU (Ty.user (2:Nat))) a (Place.mk false p.1)) (0:Int)) pl)];
 let c:Int:=p.1;
 let k:Bool:=List.contains st (Option.getD (mget (F3 RU (Ty.user (2:Nat))) a (Place.mk false c)) (0:Int));
 let l:Bool:=decide (c<ks);
 let m:Bool:=!Option.isSome (mget (F3 RU (Ty.user (2:Nat))) a (Place.mk false c));
  (0:Int)<=c/\(c<=ks\/c=(0:Int))/\C0 sp rd (↑(List.length b):Int) a pl st (List.range (Int.toNat c)) []=(none,g)->
  (l=true->
  (m=true->(c,i)=h)/\
  (m=false->
  (k=true->
  ∃ (p':Int×List Held×Unit),
  pl=pl/\
  st=st/\
  ks=ks/\
  IntKind.i64.wrap (c+(1:Int))=p'.1/\
  f=f/\
  b=b/\
  d=d/\
  e=e/\
  op=op/\
  ks=ks/\
  oc=oc/\
  sp=sp/\
  rd=rd/\
  a=a/\
  ce=ce/\
  cd=cd/\
  ou=ou/\
  g=p'.2.1/\
  ((0:Int)<=p'.1/\
  (p'.1<=ks\/p'.1=(0:Int))/\
  C0 sp rd (↑(List.length b):Int) a pl st (List.range (Int.toNat p'.1)) []=(none,p'.2.1))/\
  Int.toNat ks-Int.toNat p'.1<Int.toNat ks-Int.toNat c)/\
  (k=false->
  (e1_1=true->(c,i)=h)/\
  (e1_1=false->
  (∀ (n:Int),List.Pairwise (λ(o q:Int)=>o<=q) (getL rd n))/\
  (List.length g+List.length j)*(24:Nat)<=(140737488355328:Nat)/\
  ∃ (p':Int×List Held×Unit),
  pl=pl/\
  st=st/\
  ks=ks/\
  IntKind.i64.wrap (c+(1:Int))=p'.1/\
  f=f/\
  b=b/\
  d=d/\
  e=e/\
  op=op/\
  ks=ks/\
  oc=oc/\
  sp=sp/\
  rd=rd/\
  a=a/\
  ce=ce/\
  cd=cd/\
  ou=ou/\
  g++j=p'.2.1/\
  ((0:Int)<=p'.1/\
  (p'.1<=ks\/p'.1=(0:Int))/\
  C0 sp rd (↑(List.length b):Int) a pl st (List.range (Int.toNat p'.1)) []=(none,p'.2.1))/\
  Int.toNat ks-Int.toNat p'.1<Int.toNat ks-Int.toNat c))))/\
  (l=false->
  g≠[]/\
  (e0_1=true->List.length cd<=(1000000000:Nat))/\
  (bif e0_1 then (L7 g).slot else (L7 g).slot,bif e0_1 then f else f,bif e0_1 then b else b,bif e0_1 then d else d,bif e0_1 then e else e,
  bif e0_1 then sp else sp,bif e0_1 then rd else rd,bif e0_1 then a else a,bif e0_1 then mput (λ(x y:Int)=>x==y) ce (L7 g).reg oc else ce,
  bif e0_1 then op else op,bif e0_1 then ks else ks,bif e0_1 then IntKind.i64.wrap (oc+(1:Int)) else oc,
  bif e0_1 then cd++[RIns.mk (2:Int) (L7 g).slot oc (Ins.mk (0:Int) (0:Int) [] [] [])] else cd,bif e0_1 then ou else ou,())=
  h)):=by kernel_rfl
theorem ci4 (n e:Int) (a:List Ins) (b c:List Int) (sp:Spans) (rd:Reads) (d:Holds) (ce:List (Int×Int)) (op ks oc:Int) (cd:List RIns) (ou:List Place):vc (EV [(54,cSlot)]) noL Go.Proofs.Tryd.f86 cGetA (n,e,a,b,c,sp,rd,d,ce,op,ks,oc,cd,ou,())=(
 let f:Int×Int×List Ins×List Int×List Int×List (Int×Span)×List (Int×List Int)×List (Place×Int)×List (Int×Int)×Int×Int×Int×List RIns×List Place×Unit:=
  ((D4 d ks n).n,e,a,b,c,sp,rd,d,ce,op,ks,oc,cd,ou,());
  Small RU (Sigma.mk (Ty.slice (52:Nat) (Ty.user (0:Nat))) a)->
  Small RU (Sigma.mk (Ty.slice (3:Nat) (Ty.int IntKind.i64)) b)->
  Small RU (Sigma.mk (Ty.slice (3:Nat) (Ty.int IntKind.i64)) c)->
  Small RU (Sigma.mk (Ty.slice (55:Nat) (Ty.user (1:Nat))) cd)->Small RU (Sigma.mk (Ty.slice (59:Nat) (Ty.user (2:Nat))) ou)->ks<=(64:Int)/\f=f):=by kernel_rfl
theorem ci5 (n:Int) (m:List (Int×Int)):vc (EV []) noL Go.Proofs.Tryd.f87 cOld (n,m,())=((Option.getD (mget (λ(x y:Int)=>x==y) m n) (0:Int),m,())=(getI m n,m,())):=by kernel_rfl
theorem bD0 (a b:Int) (c e:List Int) (d:List Ins) (m:Int) (j:List Ins) (k l:List Int) (sp:Spans) (rd:Reads) (f:Holds) (ce:List (Int×Int)) (op ks oc:Int) (cd:List RIns) (ou:List Place) (sl:List (Int×Int)):vc (EV [(96,cBody),(86,cGetA),(87,cOld)]) (aW5 a b c e d f ks sl) Go.Proofs.Tryd.f73 cCalledA (a,b,c,e,d,m,j,k,l,sp,rd,f,ce,op,ks,oc,cd,ou,sl,())=(
 let q:
  List Ins×
  Int×List Ins×List Int×List Int×List (Int×Span)×List (Int×List Int)×List (Place×Int)×List (Int×Int)×Int×Int×Int×List RIns×List Place×List (Int×Int)×Unit:=
  (d,m,j,k,l,sp,rd,f,ce,op,ks,oc,cd,ou,sl,());
 let g:Ins:=Ins.mk (0:Int) (0:Int) [] [] [];
 let h:List Ins:=[Ins.mk a b c e d];
 let i:Int:=(↑(List.length e):Int);
  Small RU (Sigma.mk (Ty.slice (3:Nat) (Ty.int IntKind.i64)) c)->
  Small RU (Sigma.mk (Ty.slice (3:Nat) (Ty.int IntKind.i64)) e)->
  Small RU (Sigma.mk (Ty.slice (52:Nat) (Ty.user (0:Nat))) d)->
  Small RU (Sigma.mk (Ty.slice (52:Nat) (Ty.user (0:Nat))) j)->
  Small RU (Sigma.mk (Ty.slice (3:Nat) (Ty.int IntKind.i64)) k)->
  Small RU (Sigma.mk (Ty.slice (3:Nat) (Ty.int IntKind.i64)) l)->
  Small RU (Sigma.mk (Ty.slice (55:Nat) (Ty.user (1:Nat))) cd)->
  Small RU (Sigma.mk (Ty.slice (59:Nat) (Ty.user (2:Nat))) ou)->
  (List.length h<=(1599289640354:Nat)/\I3 h=true)/\
  ((0:Int)<=(0:Int)/\(0:Int)<(↑(List.length h):Int))/\
  (∃ (p:Int×List Ins×Unit),
  a=a/\
  b=b/\
  c=c/\
  e=e/\
  d=d/\
  (0:Int)=(0:Int)/\
  i=i/\
  (0:Int)=p.1/\
  m=m/\
  j=j/\
  k=k/\
  l=l/\
  op=op/\
  ks=ks/\
  oc=oc/\
  sp=sp/\
  rd=rd/\
  f=f/\
  ce=ce/\
  cd=cd/\
  ou=ou/\
  sl=sl/\
  a=a/\
  b=b/\
  c=c/\
  e=e/\
  d=d/\
  (0:Int)=(0:Int)/\
  (0:Int)=(0:Int)/\
  h=h/\
  h=p.2.1/\
  a=a/\
  b=b/\
  (0:Int)=(0:Int)/\
  (0:Int)=(0:Int)/\
  d=d/\
  (0:Int)<=p.1/\
  p.1<=i/\
  p.2.1=
  [Ins.mk a b c
  (List.map (getI sl) (List.take (Int.toNat p.1) e)++List.drop (Int.toNat p.1) e) d])/\
  ∀ (p:Int×List Ins×Unit),
 let e0_1:Ins:=List.getD p.2.1 (0:Nat) g;
 let e1_1:Bool:=decide (p.1<i);
 let e2_1:Int:=p.1;
 let e3_1:List Ins:=p.2.1;
 let o:Int:=(↑(List.length e0_1.to):Int);
  (0:Int)<=e2_1/\e2_1<=i/\e3_1=[Ins.mk a b c (List.map (getI sl) (List.take (Int.toNat e2_1) e)++List.drop (Int.toNat e2_1) e) d]->
  (e1_1=true->
  ((0:Int)<=e2_1/\e2_1<(↑(List.length e0_1.from_):Int))/\
  (True/\sl=sl/\True)/\
  ((0:Int)<=e2_1/\e2_1<(↑(List.length e0_1.from_):Int))/\
  ∃ (p':Int×List Ins×Unit),
  a=a/\
  b=b/\
  c=c/\
  e=e/\
  d=d/\
  (0:Int)=(0:Int)/\
  i=i/\
  IntKind.i64.wrap (e2_1+(1:Int))=p'.1/\
  m=m/\
  j=j/\
  k=k/\
  l=l/\
  op=op/\
  ks=ks/\
  oc=oc/\
  sp=sp/\
  rd=rd/\
  f=f/\
  ce=ce/\
  cd=cd/\
  ou=ou/\
  sl=sl/\
  a=a/\
  b=b/\
  c=c/\
  e=e/\
  d=d/\
  (0:Int)=(0:Int)/\
  (0:Int)=(0:Int)/\
  h=h/\
  List.set e3_1 (0:Nat)
  (Ins.mk e0_1.op e0_1.n e0_1.to
  (List.set e0_1.from_ (Int.toNat e2_1)
  (getI sl (List.getD e0_1.from_ (Int.toNat e2_1) (0:Int))))
  e0_1.body)=
  p'.2.1/\
  a=a/\
  b=b/\
  (0:Int)=(0:Int)/\
  (0:Int)=(0:Int)/\
  d=d/\
  ((0:Int)<=p'.1/\
  p'.1<=i/\
  p'.2.1=
  [Ins.mk a b c
  (List.map (getI sl) (List.take (Int.toNat p'.1) e)++
  List.drop (Int.toNat p'.1) e)
  d])/\
  List.length e-Int.toNat p'.1<List.length e-Int.toNat e2_1)/\
  (e1_1=false->
  (∃ (p:Int×List Ins×Unit),
  a=a/\
  b=b/\
  c=c/\
  e=e/\
  d=d/\
  (0:Int)=(0:Int)/\
  i=i/\
  e2_1=e2_1/\
  e1_1=e1_1/\
  (0:Int)=(0:Int)/\
  o=o/\
  (0:Int)=p.1/\
  m=m/\
  j=j/\
  k=k/\
  l=l/\
  op=op/\
  ks=ks/\
  oc=oc/\
  sp=sp/\
  rd=rd/\
  f=f/\
  ce=ce/\
  cd=cd/\
  ou=ou/\
  sl=sl/\
  a=a/\
  b=b/\
  c=c/\
  e=e/\
  d=d/\
  (0:Int)=(0:Int)/\
  (0:Int)=(0:Int)/\
  h=h/\
  e3_1=p.2.1/\
  a=a/\
  b=b/\
  (0:Int)=(0:Int)/\
  (0:Int)=(0:Int)/\
  d=d/\
  (0:Int)<=p.1/\
  p.1<=(↑(List.length c):Int)/\
  p.2.1=
  [Ins.mk a b
  (List.map (λ(n:Int)=>(D4 f ks n).n)
  (List.take (Int.toNat p.1) c)++
  List.drop (Int.toNat p.1) c)
  (List.map (getI sl) e) d])/\
  ∀ (p:Int×List Ins×Unit),
 let e0_2:Ins:=List.getD p.2.1 (0:Nat) g;
 let g:Int:=p.1;
 let e2_2:Bool:=decide (g<o);
 let e3_2:List Ins:=p.2.1;
  (0:Int)<=g/\
  g<=(↑(List.length c):Int)/\
  e3_2=[Ins.mk a b (List.map (λ(n:Int)=>(D4 f ks n).n) (List.take (Int.toNat g) c)++List.drop (Int.toNat g) c) (List.map (getI sl) e) d]->
  (e2_2=true->
  ((0:Int)<=g/\g<(↑(List.length e0_2.to):Int))/\
  (ks<=(64:Int)/\True)/\
  ((0:Int)<=g/\g<(↑(List.length e0_2.to):Int))/\
  ∃ (p':Int×List Ins×Unit),
  a=a/\
  b=b/\
  c=c/\
  e=e/\
  d=d/\
  (0:Int)=(0:Int)/\
  i=i/\
  e2_1=e2_1/\
  e1_1=e1_1/\
  (0:Int)=(0:Int)/\
  o=o/\
  IntKind.i64.wrap (g+(1:Int))=p'.1/\
  m=m/\
  j=j/\
  k=k/\
  l=l/\
  op=op/\
  ks=ks/\
  oc=oc/\
  sp=sp/\
  rd=rd/\
  f=f/\
  ce=ce/\
  cd=cd/\
  ou=ou/\
  sl=sl/\
  a=a/\
  b=b/\
  c=c/\
  e=e/\
  d=d/\
  (0:Int)=(0:Int)/\
  (0:Int)=(0:Int)/\
  h=h/\
  List.set e3_2 (0:Nat)
  (Ins.mk e0_2.op e0_2.n
  (List.set e0_2.to (Int.toNat g)
  (D4 f ks (List.getD e0_2.to (Int.toNat g) (0:Int))).n)
  e0_2.from_ e0_2.body)=
  p'.2.1/\
  a=a/\
  b=b/\
  (0:Int)=(0:Int)/\
  (0:Int)=(0:Int)/\
  d=d/\
  ((0:Int)<=p'.1/\
  p'.1<=(↑(List.length c):Int)/\
  p'.2.1=
  [Ins.mk a b
  (List.map (λ(n:Int)=>(D4 f ks n).n)
  (List.take (Int.toNat p'.1) c)++
  List.drop (Int.toNat p'.1) c)
  (List.map (getI sl) e) d])/\
  List.length c-Int.toNat p'.1<List.length c-Int.toNat g)/\
  (e2_2=false->(a,b,e0_2.to,e0_2.from_,q)=(a,b,List.map (λ(n:Int)=>(D4 f ks n).n) c,List.map (getI sl) e,q)))):=by kernel_rfl
theorem bX5 (d e:Int) (a b:List Int) (c:List Ins):vc (EV []) noL Go.Proofs.Tryd.f52 cReads (d,e,a,b,c,())=(
 let f:Int×Int×List Int×List Int×List Ins×Unit:=(d,e,a,b,c,());
  Small RU (Sigma.mk (Ty.slice (3:Nat) (Ty.int IntKind.i64)) a)->
  Small RU (Sigma.mk (Ty.slice (3:Nat) (Ty.int IntKind.i64)) b)->Small RU (Sigma.mk (Ty.slice (52:Nat) (Ty.user (0:Nat))) c)->f=f):=by kernel_rfl
theorem bO5 (st:Int) (d:List Int) (g h:Int) (e a:List Int) (f:List Ins):vc (EVy [(0,0),(1,1)] (some ar8) [(61,cContains)]) (bn6 a d) Go.Proofs.Tryd.f83 aW6 (st,d,g,h,e,a,f,())=(
 let j:Int×List Int×Unit:=((0:Int),d++B3 a,());
 let b:Int:=(↑(List.length a):Int);
  Small RU (Sigma.mk (Ty.slice (3:Nat) (Ty.int IntKind.i64)) d)->
  Small RU (Sigma.mk (Ty.slice (3:Nat) (Ty.int IntKind.i64)) e)->
  Small RU (Sigma.mk (Ty.slice (3:Nat) (Ty.int IntKind.i64)) a)->
  Small RU (Sigma.mk (Ty.slice (52:Nat) (Ty.user (0:Nat))) f)->
  (∃ (p:Int×Int×List Int×Unit),
  a=a/\
  b=b/\
  (0:Int)=p.1/\
  st=p.2.1/\
  d=p.2.2.1/\
  g=g/\h=h/\e=e/\a=a/\f=f/\(0:Int)<=p.1/\p.1<=b/\p.2.1=(0:Int)/\p.2.2.1=d++B3 (List.take (Int.toNat p.1) a))/\
  ∀ (p:Int×Int×List Int×Unit),
 let e0_1:List Int:=p.2.2.1;
 let e1_1:List Int:=e0_1++[List.getD a (Int.toNat p.1) (0:Int)];
 let k:Bool:=List.contains (List.take (Int.toNat p.1) a) (List.getD a (Int.toNat p.1) (0:Int));
 let c:Int:=p.1;
 let i:Int:=p.2.1;
 let l:Bool:=decide (c<b);
  (0:Int)<=c/\c<=b/\i=(0:Int)/\e0_1=d++B3 (List.take (Int.toNat c) a)->
  (l=true->
  ((0:Int)<=c/\c<b)/\
  ((0:Int)<=c/\c<=b)/\
  (k=true->
  ∃ (p':Int×Int×List Int×Unit),
  a=a/\
  b=b/\
  IntKind.i64.wrap (c+(1:Int))=p'.1/\
  i=p'.2.1/\
  e0_1=p'.2.2.1/\
  g=g/\
  h=h/\
  e=e/\
  a=a/\
  f=f/\
  ((0:Int)<=p'.1/\p'.1<=b/\p'.2.1=(0:Int)/\p'.2.2.1=d++B3 (List.take (Int.toNat p'.1) a))/\
  List.length a-Int.toNat p'.1<List.length a-Int.toNat c)/\
  (k=false->
  (i=(0:Int)/\List.length e0_1<=(17592186044400:Nat))/\
  ((!true)=true->((0:Int),e1_1,())=j)/\
  ((!true)=false->
  ∃ (p':Int×Int×List Int×Unit),
  a=a/\
  b=b/\
  IntKind.i64.wrap (c+(1:Int))=p'.1/\
  (0:Int)=p'.2.1/\
  e1_1=p'.2.2.1/\
  g=g/\
  h=h/\
  e=e/\
  a=a/\
  f=f/\
  ((0:Int)<=p'.1/\p'.1<=b/\p'.2.1=(0:Int)/\p'.2.2.1=d++B3 (List.take (Int.toNat p'.1) a))/\
  List.length a-Int.toNat p'.1<List.length a-Int.toNat c)))/\
  (l=false->(i,e0_1,())=j)):=by kernel_rfl
theorem co8 (i d e:Int) (c b:List Int) (f:List Ins) (l:Int) (h:List Ins) (j k:List Int) (sp:Spans) (rd:Reads) (o:Holds) (ce:List (Int×Int)) (op ks oc:Int) (cd:List RIns) (ou:List Place):vc (EVd [] itDo [(52,cReads),(54,cSlot),(84,cRoom),(85,cPutA),(73,cCalledA)]) (lDo sp rd ks h.length i c b ⟨o,ce,oc,cd⟩) Go.Proofs.Tryd.f53 cDo (i,d,e,c,b,f,l,h,j,k,sp,rd,o,ce,op,ks,oc,cd,ou,())=(
 let g:Int:=(↑(List.length ([]++B3 b)):Int);
 let a:List Int:=[]++B3 b;
 let t:AS:=doOf sp rd ks (↑(List.length h):Int) i (Ins.mk d e c b f) (AS.mk o ce oc cd);
 let m:Int:=(↑(List.length h):Int);
 let u:Int:=IntKind.i64.wrap (i+(1:Int));
 let q:Int:=(↑(List.length c):Int);
 let r:AS:=C3 sp rd ks m i (B3 b) (AS.mk o ce oc cd) (B3 b);
  Small RU (Sigma.mk (Ty.slice (3:Nat) (Ty.int IntKind.i64)) c)->
  Small RU (Sigma.mk (Ty.slice (3:Nat) (Ty.int IntKind.i64)) b)->
  Small RU (Sigma.mk (Ty.slice (52:Nat) (Ty.user (0:Nat))) f)->
  Small RU (Sigma.mk (Ty.slice (52:Nat) (Ty.user (0:Nat))) h)->
  Small RU (Sigma.mk (Ty.slice (3:Nat) (Ty.int IntKind.i64)) j)->
  Small RU (Sigma.mk (Ty.slice (3:Nat) (Ty.int IntKind.i64)) k)->
  Small RU (Sigma.mk (Ty.slice (55:Nat) (Ty.user (1:Nat))) cd)->
  Small RU (Sigma.mk (Ty.slice (59:Nat) (Ty.user (2:Nat))) ou)->
  (∀ (xs:Int×Int×List Int×Unit),
 let g:List Int:=xs.2.2.1;
  xs.2.1=(0:Int)/\List.length g<=(17592186044400:Nat)->
  Small RU (Sigma.mk (Ty.slice (3:Nat) (Ty.int IntKind.i64)) g)->
  xs.2.1=(0:Int)/\(List.length g+List.length [xs.1])*(8:Nat)<=(140737488355328:Nat)/\(true,(0:Int),g++[xs.1],())=ar8.fn xs)/\
  ((0:Int)=(0:Int)/\List.length ([]:List Int)+List.length b<=(17592186044400:Nat))/\
  (0:Int)=(0:Int)/\
  (∃ (p:Int×List (Place×Int)×List (Int×Int)×Int×List RIns×Unit),
  i=i/\
  d=d/\
  e=e/\
  c=c/\
  b=b/\
  f=f/\
  a=a/\
  g=g/\
  (0:Int)=p.1/\
  l=l/\
  h=h/\
  j=j/\
  k=k/\
  op=op/\
  ks=ks/\
  oc=p.2.2.2.1/\
  sp=sp/\
  rd=rd/\
  o=p.2.1/\
  ce=p.2.2.1/\
  cd=p.2.2.2.2.1/\
  ou=ou/\
  d=d/\
  e=e/\
  c=c/\
  b=b/\
  f=f/\
  a=a/\
  a=a/\
  (0:Int)<=p.1/\
  p.1<=(↑(List.length (B3 b)):Int)/\
  C3 sp rd ks m i (B3 b) (AS.mk o ce oc cd) (List.take (Int.toNat p.1) (B3 b))=
  AS.mk p.2.1 p.2.2.1 p.2.2.2.1 p.2.2.2.2.1)/\
  ∀ (p:Int×List (Place×Int)×List (Int×Int)×Int×List RIns×Unit),
 let e0_1:AS:=(E5 sp rd ks m (AS.mk p.2.1 p.2.2.1 p.2.2.2.1 p.2.2.2.2.1) i a).2;
 let e1_1:Int:=p.2.2.2.1;
 let e2_1:List RIns:=p.2.2.2.2.1;
 let e3_1:List (Place×Int):=p.2.1;
 let e4_1:List (Int×Int):=p.2.2.1;
 let e5_1:Bool:=decide (p.1<g);
 let e6_1:Int:=p.1;
 let v:Bool:=
  !((D4 e3_1 ks (List.getD a (Int.toNat e6_1) (0:Int))).cell==true&&((D4 e3_1 ks (List.getD a (Int.toNat e6_1) (0:Int))).n==(-1:Int)&&true));
 let w:Int:=(E5 sp rd ks m (AS.mk e3_1 e4_1 e1_1 e2_1) i a).1;
 let s:Int:=(↑(List.length (B3 b)):Int);
  (0:Int)<=e6_1/\e6_1<=s/\C3 sp rd ks m i (B3 b) (AS.mk o ce oc cd) (List.take (Int.toNat e6_1) (B3 b))=AS.mk e3_1 e4_1 e1_1 e2_1->
  (e5_1=true->
  ((0:Int)<=e6_1/\e6_1<g)/\
  ks<=(64:Int)/\
  (v=true->
  ∃ (p':Int×List (Place×Int)×List (Int×Int)×Int×List RIns×Unit),
  i=i/\
  d=d/\
  e=e/\
  c=c/\
  b=b/\
  f=f/\
  a=a/\
  g=g/\
  IntKind.i64.wrap (e6_1+(1:Int))=p'.1/\
  l=l/\
  h=h/\
  j=j/\
  k=k/\
  op=op/\
  ks=ks/\
  e1_1=p'.2.2.2.1/\
  sp=sp/\
  rd=rd/\
  e3_1=p'.2.1/\
  e4_1=p'.2.2.1/\
  e2_1=p'.2.2.2.2.1/\
  ou=ou/\
  d=d/\
  e=e/\
  c=c/\
  b=b/\
  f=f/\
  a=a/\
  a=a/\
  ((0:Int)<=p'.1/\
  p'.1<=s/\
  C3 sp rd ks m i (B3 b) (AS.mk o ce oc cd)
  (List.take (Int.toNat p'.1) (B3 b))=
  AS.mk p'.2.1 p'.2.2.1 p'.2.2.2.1 p'.2.2.2.2.1)/\
  List.length (B3 b)-Int.toNat p'.1<List.length (B3 b)-Int.toNat e6_1)/\
  (v=false->
  ((∀ (n:Int),List.Pairwise (λ(d e:Int)=>d<=e) (getL rd n))/\
  ((K9 sp rd ks m e3_1 i a).1=none->(K9 sp rd ks m e3_1 i a).2≠[])/\
  ks<=(64:Int)/\(0:Int)<=e1_1/\e1_1<=(1000000000:Int)/\List.length e2_1<=(1000000000:Nat))/\
  List.length e0_1.code<=(1000000000:Nat)/\
  ∃ (p':Int×List (Place×Int)×List (Int×Int)×Int×List RIns×Unit),
  i=i/\
  d=d/\
  e=e/\
  c=c/\
  b=b/\
  f=f/\
  a=a/\
  g=g/\
  IntKind.i64.wrap (e6_1+(1:Int))=p'.1/\
  l=l/\
  h=h/\
  j=j/\
  k=k/\
  op=op/\
  ks=ks/\
  e0_1.ocells=p'.2.2.2.1/\
  sp=sp/\
  rd=rd/\
  mput (F3 RU (Ty.user (2:Nat))) e0_1.holds (Place.mk false w) (List.getD a (Int.toNat e6_1) (0:Int))=
  p'.2.1/\
  e0_1.cells=p'.2.2.1/\
  e0_1.code++
  [RIns.mk (1:Int) w
  (Option.getD (mget (λ(x y:Int)=>x==y) e0_1.cells (List.getD a (Int.toNat e6_1) (0:Int)))
  (0:Int))
  (Ins.mk (0:Int) (0:Int) [] [] [])]=
  p'.2.2.2.2.1/\
  ou=ou/\
  d=d/\
  e=e/\
  c=c/\
  b=b/\
  f=f/\
  a=a/\
  a=a/\
  ((0:Int)<=p'.1/\
  p'.1<=s/\
  C3 sp rd ks m i (B3 b) (AS.mk o ce oc cd)
  (List.take (Int.toNat p'.1) (B3 b))=
  AS.mk p'.2.1 p'.2.2.1 p'.2.2.2.1 p'.2.2.2.2.1)/\
  List.length (B3 b)-Int.toNat p'.1<List.length (B3 b)-Int.toNat e6_1))/\
  (e5_1=false->
  (∃ (p:Int×List (Int×Int)×Unit),
  i=i/\
  d=d/\
  e=e/\
  c=c/\
  b=b/\
  f=f/\
  a=a/\
  g=g/\
  e6_1=e6_1/\
  e5_1=e5_1/\
  a=a/\
  g=g/\
  (0:Int)=p.1/\
  l=l/\
  h=h/\
  j=j/\
  k=k/\
  op=op/\
  ks=ks/\
  e1_1=e1_1/\
  sp=sp/\
  rd=rd/\
  e3_1=e3_1/\
  e4_1=e4_1/\
  e2_1=e2_1/\
  ou=ou/\
  d=d/\
  e=e/\
  c=c/\
  b=b/\
  f=f/\
  a=a/\
  a=a/\
  []=p.2.1/\
  (0:Int)<=p.1/\
  p.1<=s/\p.2.1=ac6 r.holds ks (List.take (Int.toNat p.1) (B3 b)))/\
  ∀ (p:Int×List (Int×Int)×Unit),
 let e0_2:Bool:=decide (p.1<g);
 let e1_2:List (Int×Int):=p.2.1;
 let e2_2:Int:=p.1;
  (0:Int)<=e2_2/\e2_2<=s/\e1_2=ac6 r.holds ks (List.take (Int.toNat e2_2) (B3 b))->
  (e0_2=true->
  ((0:Int)<=e2_2/\e2_2<g)/\
  ks<=(64:Int)/\
  ∃ (p':Int×List (Int×Int)×Unit),
  i=i/\
  d=d/\
  e=e/\
  c=c/\
  b=b/\
  f=f/\
  a=a/\
  g=g/\
  e6_1=e6_1/\
  e5_1=e5_1/\
  a=a/\
  g=g/\
  IntKind.i64.wrap (e2_2+(1:Int))=p'.1/\
  l=l/\
  h=h/\
  j=j/\
  k=k/\
  op=op/\
  ks=ks/\
  e1_1=e1_1/\
  sp=sp/\
  rd=rd/\
  e3_1=e3_1/\
  e4_1=e4_1/\
  e2_1=e2_1/\
  ou=ou/\
  d=d/\
  e=e/\
  c=c/\
  b=b/\
  f=f/\
  a=a/\
  a=a/\
  mput (λ(x y:Int)=>x==y) e1_2 (List.getD a (Int.toNat e2_2) (0:Int))
  (D4 e3_1 ks (List.getD a (Int.toNat e2_2) (0:Int))).n=
  p'.2.1/\
  ((0:Int)<=p'.1/\
  p'.1<=s/\
  p'.2.1=ac6 r.holds ks (List.take (Int.toNat p'.1) (B3 b)))/\
  List.length (B3 b)-Int.toNat p'.1<
  List.length (B3 b)-Int.toNat e2_2)/\
  (e0_2=false->
  (∃ (p:Int×List (Place×Int)×List (Int×Int)×Int×List RIns×Unit),
  i=i/\
  d=d/\
  e=e/\
  c=c/\
  b=b/\
  f=f/\
  a=a/\
  g=g/\
  e6_1=e6_1/\
  e5_1=e5_1/\
  a=a/\
  g=g/\
  e2_2=e2_2/\
  e0_2=e0_2/\
  c=c/\
  q=q/\
  (0:Int)=p.1/\
  l=l/\
  h=h/\
  j=j/\
  k=k/\
  op=op/\
  ks=ks/\
  e1_1=p.2.2.2.1/\
  sp=sp/\
  rd=rd/\
  e3_1=p.2.1/\
  e4_1=p.2.2.1/\
  e2_1=p.2.2.2.2.1/\
  ou=ou/\
  d=d/\
  e=e/\
  c=c/\
  b=b/\
  f=f/\
  a=a/\
  a=a/\
  e1_2=e1_2/\
  (0:Int)<=p.1/\
  p.1<=q/\
  I8 sp rd ks m i c r (List.take (Int.toNat p.1) c)=
  AS.mk p.2.1 p.2.2.1 p.2.2.2.1 p.2.2.2.2.1)/\
  ∀ (p:Int×List (Place×Int)×List (Int×Int)×Int×List RIns×Unit),
 let e0_3:AS:=(E5 sp rd ks m (AS.mk p.2.1 p.2.2.1 p.2.2.2.1 p.2.2.2.2.1) u c).2;
 let e1_3:AS:=AS.mk p.2.1 p.2.2.1 p.2.2.2.1 p.2.2.2.2.1;
 let e2_3:Int:=p.2.2.2.1;
 let e3_2:List RIns:=p.2.2.2.2.1;
 let e4_2:List (Place×Int):=p.2.1;
 let e5_2:Int:=p.1;
 let e6_2:Bool:=decide (e5_2<q);
  (0:Int)<=e5_2/\e5_2<=q/\I8 sp rd ks m i c r (List.take (Int.toNat e5_2) c)=e1_3->
  (e6_2=true->
  ((0:Int)<=e5_2/\e5_2<q)/\
  ((∀ (n:Int),List.Pairwise (λ(d e:Int)=>d<=e) (getL rd n))/\
  ((K9 sp rd ks m e4_2 u c).1=none->(K9 sp rd ks m e4_2 u c).2≠[])/\
  ks<=(64:Int)/\(0:Int)<=e2_3/\e2_3<=(1000000000:Int)/\List.length e3_2<=(1000000000:Nat))/\
  ∃ (p':Int×List (Place×Int)×List (Int×Int)×Int×List RIns×Unit),
  i=i/\
  d=d/\
  e=e/\
  c=c/\
  b=b/\
  f=f/\
  a=a/\
  g=g/\
  e6_1=e6_1/\
  e5_1=e5_1/\
  a=a/\
  g=g/\
  e2_2=e2_2/\
  e0_2=e0_2/\
  c=c/\
  q=q/\
  IntKind.i64.wrap (e5_2+(1:Int))=p'.1/\
  l=l/\
  h=h/\
  j=j/\
  k=k/\
  op=op/\
  ks=ks/\
  e0_3.ocells=p'.2.2.2.1/\
  sp=sp/\
  rd=rd/\
  mput (F3 RU (Ty.user (2:Nat))) e0_3.holds
  (Place.mk false (E5 sp rd ks m e1_3 u c).1)
  (List.getD c (Int.toNat e5_2) (0:Int))=
  p'.2.1/\
  e0_3.cells=p'.2.2.1/\
  e0_3.code=p'.2.2.2.2.1/\
  ou=ou/\
  d=d/\
  e=e/\
  c=c/\
  b=b/\
  f=f/\
  a=a/\
  a=a/\
  e1_2=e1_2/\
  ((0:Int)<=p'.1/\
  p'.1<=q/\
  I8 sp rd ks m i c r
  (List.take (Int.toNat p'.1) c)=
  AS.mk p'.2.1 p'.2.2.1 p'.2.2.2.1
  p'.2.2.2.2.1)/\
  List.length c-Int.toNat p'.1<
  List.length c-Int.toNat e5_2)/\
  (e6_2=false->
  (((ag6 c b f=true/\ks<=(64:Int))/\True)/\True)/\
  List.length e3_2<=(1000000000:Nat)/\
  (l,h,j,k,sp,rd,e4_2,p.2.2.1,op,ks,e2_3,
  e3_2++
  [RIns.mk (0:Int) (0:Int) (0:Int) (Ins.mk d e (List.map (λ(n:Int)=>(D4 e4_2 ks n).n) c) (List.map (getI e1_2) b) f)],
  ou,())=
  (l,h,j,k,sp,rd,t.holds,t.cells,op,ks,t.ocells,t.code,ou,()))))):=by kernel_rfl
theorem Y4 (sp:Spans) (rd:Reads) (N:Int) (m:Holds) (pl:Int) (st:List Int) (r:List Nat):∀ (l:List Nat) (acc:List Held),C0 sp rd N m pl st (l++r) acc=match C0 sp rd N m pl st l acc with
  |(none,acc')=>C0 sp rd N m pl st r acc'
  |x=>x
 |[],acc=>rfl
 |s::l,acc=>by
  simp only [List.cons_append,C0];cases mget eqP m ⟨false,(s:Int)⟩ with
  |none=>rfl
  |some n=>
   simp only;cases st.contains n with
   |true=>exact Y4 sp rd N m pl st r l acc
   |false=>
    simp only [cond_false];cases G6 (getS sp n).first (getS sp n).last pl with
    |true=>exact Y4 sp rd N m pl st r l _
    |false=>rfl
theorem ah0 (sp:Spans) (rd:Reads) (N:Int) (m:Holds) (pl:Int) (st:List Int):∀ (l:List Nat) (acc:List Held),(C0 sp rd N m pl st l acc).2.length<=acc.length+l.length
 |[],acc=>by simp [C0]
 |s::l,acc=>by
  simp only [C0];cases mget eqP m ⟨false,(s:Int)⟩ with
  |none=>simp
  |some n=>
   simp only;cases st.contains n with
   |true=>have:=ah0 sp rd N m pl st l acc;simp only [cond_true,cq8];omega
   |false=>
    simp only [cond_false];cases G6 (getS sp n).first (getS sp n).last pl with
    |true=>have:=ah0 sp rd N m pl st l (acc++[⟨(s:Int),n,M3 rd N n pl⟩]);simp only [cond_true,cq8,cr3,List.length_nil] at this |-;omega
    |false=>simp
theorem ar9 {sp:Spans} {rd:Reads} {N:Int} {m:Holds} {pl:Int} {st:List Int} {k:Nat} {acc:List Held} (h:C0 sp rd N m pl st (List.range k) []=(none,acc)):C0 sp rd N m pl st (List.range (k+1)) []=C0 sp rd N m pl st [k] acc:=by rw [List.range_succ,Y4,h]
theorem aW7 {sp:Spans} {rd:Reads} {N:Int} {m:Holds} {pl:Int} {st:List Int} {k n:Nat} {acc:List Held} (a:k<n) (h:C0 sp rd N m pl st (List.range k) []=(none,acc)) {i:Int} (h2:C0 sp rd N m pl st [k] acc=(some i,acc)):C0 sp rd N m pl st (List.range n) []=(some i,acc):=by
 have:List.range n=List.range (k+1)++(List.range (n-(k+1))).map ((k+1)+·):=by rw [<-List.range_add];congr 1;omega
 rw [this,Y4,ar9 h,h2]
theorem ci6 (pl:Int) (st:List Int) (m:Int) (b:List Ins) (o p:List Int) (sp:Spans) (rd:Reads) (a:Holds) (ce:List (Int×Int)) (op ks oc:Int) (cd:List RIns) (ou:List Place)
  (x:ag9 rd/\ad9 sp rd ks b.length a pl st/\ks<=64/\0<=oc/\oc<=1000000000/\cd.length<=1000000000):vc (EV [(100,cNext),(61,cContains),(69,cAt),(101,cBest),(85,cPutA)]) (ci2 sp rd ks b.length a pl st) Go.Proofs.Tryd.f84 cRoom (pl,st,m,b,o,p,sp,rd,a,ce,op,ks,oc,cd,ou,()):=by
 rw [ci3 pl st m b o p sp rd a ce op ks oc cd ou];intro q r _ _ _ _ _ _;obtain ⟨s,e,y,z,A,t⟩:=x;have c:q=((E5 sp rd ks b.length ⟨a,ce,oc,cd⟩ pl st).1,m,b,o,p,sp,rd,(E5 sp rd ks b.length ⟨a,ce,oc,cd⟩ pl st).2.holds,(E5 sp rd ks b.length ⟨a,ce,oc,cd⟩ pl st).2.cells,op,ks,(E5 sp rd ks b.length ⟨a,ce,oc,cd⟩ pl st).2.ocells,(E5 sp rd ks b.length ⟨a,ce,oc,cd⟩ pl st).2.code,ou,()):=rfl;have u:r=(m,b,o,p,sp,rd,a,ce,op,ks,oc,cd,ou,()):=rfl
 clear_value q r
 generalize (b.length:Int)=N at e c |-;simp only [true_and,and_true,Bool.cond_self];refine ⟨⟨(0,[],()),rfl,rfl,Int.le_refl _,.inr rfl,rfl⟩,?_⟩;rintro ⟨i,l,⟨⟩⟩ ⟨h0,h1,h2⟩;dsimp only at h0 h1 h2 |-;obtain ⟨k,rfl⟩:=cp8 h0;simp only [cp6] at h2 |-;have d:=ah0 sp rd N a pl st (List.range k) [];rw [h2] at d;simp only [List.length_nil,List.length_range,Nat.zero_add] at d;refine ⟨λf=>?_,λg=>?_⟩
 .have f:(k:Int)<ks:=cq2 f;have stop:C0 sp rd N a pl st [k] l=(some (k:Int),l)->((k:Int),r)=q:=λh=>by
   have hr:(K9 sp rd ks N a pl st)=(some (k:Int),l):=aW7 (by omega) h2 h;have:E5 sp rd ks N ⟨a,ce,oc,cd⟩ pl st=((k:Int),⟨a,ce,oc,cd⟩):=by simp only [E5,hr]
   rw [c,this,u]
  have next:∀ l',C0 sp rd N a pl st [k] l=(none,l')->∃ p':Int×List Held×Unit,IntKind.i64.wrap ((k:Int)+1)=p'.1/\l'=p'.2.1/\(0<=p'.1/\(p'.1<=ks\/p'.1=0)/\C0 sp rd N a pl st (List.range p'.1.toNat) []=(none,p'.2.1))/\ks.toNat-p'.1.toNat<ks.toNat-k:=λl' h=>
   ⟨((k+1:Nat),l',()),by rw [G0 (by omega) (by omega)];rfl,rfl,⟨by omega,.inl (by dsimp only;omega),by dsimp only;rw [cp6,ar9 h2,h]⟩,by dsimp only;omega⟩
  show ((!(mget eqP a ⟨false,(k:Int)⟩).isSome)=true->_)/\((!(mget eqP a ⟨false,(k:Int)⟩).isSome)=false->_);cases j:mget eqP a ⟨false,(k:Int)⟩ with
  |none=>refine ⟨λ_=>stop ?_,λh=>(by cases h)⟩;simp only [C0,j]
  |some n=>
   refine ⟨λh=>(by cases h),λ_=>?_⟩;have v:mget (F3 RU (Ty.user 2)) a ⟨false,(k:Int)⟩=some n:=j;simp only [v,Option.getD_some];refine ⟨λh=>?_,λh=>⟨λh3=>stop ?_,λh3=>⟨s,?_,?_⟩⟩⟩
   .exact next l (by simp only [C0,j,h,cond_true])
   .have h3:G6 (getS sp n).first (getS sp n).last pl=false:=by simpa [getS] using h3
    simp only [C0,j,h,h3,cond_false]
   .simp only [cq8,List.length_nil];omega
   .have h3:G6 (getS sp n).first (getS sp n).last pl=true:=by simpa [getS] using h3
    exact next _ (by simp only [C0,j,h,h3,cond_false,cond_true])
 .have g:¬ (k:Int)<ks:=cq1 g;have hr:K9 sp rd ks N a pl st=(none,l):=by
   rw [<-h2];show C0 sp rd N a pl st (List.range ks.toNat) []=_;congr 2;omega
  have w:l≠[]:=by have:=e;unfold ad9 at this;rw [hr] at this;exact this rfl
  have B:E5 sp rd ks N ⟨a,ce,oc,cd⟩ pl st=((L7 l).slot,aK9 ⟨a,ce,oc,cd⟩ (L7 l)):=by simp only [E5,hr]
  rw [B] at c;refine ⟨w,λ_=>t,?_⟩;rw [c];dsimp only [aK9];show (_,_,_,_,_,_,_,_,(bif !(mget eqI ce (L7 l).reg).isSome then mput eqI ce (L7 l).reg oc else ce),_,_,(bif !(mget eqI ce (L7 l).reg).isSome then IntKind.i64.wrap (oc+1) else oc),(bif !(mget eqI ce (L7 l).reg).isSome then cd++[⟨2,(L7 l).slot,oc,ins0⟩] else cd),_,_)=_;rw [G0 (by omega) (by omega)];cases (mget eqI ce (L7 l).reg).isSome<;>rfl
theorem bD1:C9 prog RG 84 cRoom:=E8 (A8 bC8 (A8 N6 (A8 bu2 (A8 bC9 (A8 aP3 C1))))) (λ(pl,st,c,a,d,e,sp,rd,b,ce,op,ks,oc,cd,ou,())=>ci2 sp rd ks a.length b pl st) (by kernel_rfl) (by kernel_rfl) (by kernel_rfl) λ(pl,st,c,a,d,e,sp,rd,b,ce,op,ks,oc,cd,ou,()) f=>ci6 pl st c a d e sp rd b ce op ks oc cd ou f
theorem bD2:C9 prog RG 86 cGetA:=E8 (A8 au7 C1) (λ_=>noL) (by kernel_rfl) (by kernel_rfl) (by kernel_rfl) λ(n,b,c,d,e,sp,rd,f,ce,op,ks,oc,cd,ou,()) a=>(ci4 n b c d e sp rd f ce op ks oc cd ou).mpr (by
 have a:ks<=64:=a;intros;simp only [true_and,and_true];exact a)
theorem bD3:C9 prog RG 87 cOld:=E8 C1 (λ_=>noL) (by kernel_rfl) (by kernel_rfl) (by kernel_rfl) λ(n,m,()) _=>(ci5 n m).mpr rfl
theorem bD4 (g h:Int) (b c:List Int) (f:List Ins) (s:Int) (t:List Ins) (u v:List Int) (sp:Spans) (rd:Reads) (j:Holds) (ce:List (Int×Int)) (op ks oc:Int) (cd:List RIns) (ou:List Place) (sl:List (Int×Int)) (w:ag6 b c f=true/\ks<=64):
  vc (EV [(96,cBody),(86,cGetA),(87,cOld)]) (aW5 g h b c f j ks sl) Go.Proofs.Tryd.f73 cCalledA (g,h,b,c,f,s,t,u,v,sp,rd,j,ce,op,ks,oc,cd,ou,sl,()):=by
 rw [bD0 g h b c f s t u v sp rd j ce op ks oc cd ou sl];intro x y z A m o _ _ _ _ _ _;have p:b.length<=140737488355328:=m.len;have q:c.length<=140737488355328:=o.len
 clear_value x
 dsimp only [y,z,A];simp only [true_and,and_true];refine ⟨⟨by simp,?_⟩,⟨by omega,by simp⟩,⟨(0,_,()),rfl,rfl,Int.le_refl _,by dsimp only;omega,by simp⟩,?_⟩
 .simp only [I3,Bool.and_true];exact (T5 _).2 (ak2.1 w.1)
 rintro ⟨i,l,⟨⟩⟩ ⟨h0,h1,h2⟩;dsimp only at h0 h1 h2 |-;subst h2;obtain ⟨k,rfl⟩:=cp8 h0;simp only [cp6,List.getD_cons_zero,List.set_cons_zero];have e:((c.take k).map (getI sl)).length=k:=by simp;omega
 refine ⟨λa=>?_,λd=>?_⟩
 .have a:(k:Int)<c.length:=cq2 a;rw [ak1 e (by omega),aV3 e (by omega),aV4 e (by omega)];refine ⟨⟨h0,a⟩,⟨h0,a⟩,((k+1:Nat),[⟨g,h,b,(c.take (k+1)).map (getI sl)++c.drop (k+1),f⟩],()),B8 (by omega) q,?_,⟨by omega,by dsimp only;omega,by dsimp only;rw [cp6]⟩,by dsimp only;omega⟩;dsimp only;rw [A5 (by omega) 0,List.map_append];rfl
 have r:k=c.length:=by have:¬ (k:Int)<c.length:=cq1 d;omega
 subst r;simp only [cs3,List.drop_length,List.append_nil];clear h0 h1 d e;refine ⟨⟨(0,_,()),rfl,rfl,Int.le_refl _,by dsimp only;omega,by simp⟩,?_⟩;rintro ⟨i,l,⟨⟩⟩ ⟨h0,h1,h2⟩;dsimp only at h0 h1 h2 |-;subst h2;obtain ⟨k,rfl⟩:=cp8 h0;simp only [cp6,List.getD_cons_zero,List.set_cons_zero];have e:((b.take k).map (λn=>(D4 j ks n).n)).length=k:=by simp;omega
 refine ⟨λa=>?_,λd=>?_⟩
 .have a:(k:Int)<b.length:=cq2 a;rw [ak1 e (by omega),aV3 e (by omega),aV4 e (by omega)];refine ⟨⟨h0,a⟩,w.2,⟨h0,a⟩,((k+1:Nat),[⟨g,h,(b.take (k+1)).map (λn=>(D4 j ks n).n)++b.drop (k+1),c.map (getI sl),f⟩],()),B8 (by omega) p,?_,⟨by omega,by dsimp only;omega,by dsimp only;rw [cp6]⟩,by dsimp only;omega⟩;dsimp only;rw [A5 (by omega) 0,List.map_append];rfl
 .have r:k=b.length:=by have:¬ (k:Int)<b.length:=cq1 d;omega
  subst r;simp only [cs3,List.drop_length,List.append_nil]
theorem aW8:C9 prog RG 73 cCalledA:=E8 (A8 aO6 (A8 bD2 (A8 bD3 C1))) (λ(a,b,c,d,e,g,h,i,j,sp,rd,f,ce,op,ks,oc,cd,ou,sl,())=>aW5 a b c d e f ks sl) (by kernel_rfl) (by kernel_rfl) (by kernel_rfl) λ(a,b,c,d,e,g,h,i,j,sp,rd,f,ce,op,ks,oc,cd,ou,sl,()) k=>bD4 a b c d e g h i j sp rd f ce op ks oc cd ou sl k
theorem al3 (x:Int):∀ (l seen:List Int),G2 seen (l++[x])=G2 seen l++bif (seen++l).contains x then [] else [x]
 |[],seen=>by simp only [List.nil_append,G2,List.append_nil]
 |y::l,seen=>by have ih:=al3 x l (seen++[y]);rw [cr8,List.singleton_append] at ih;simp only [List.cons_append,G2,ih];cases seen.contains y<;>rfl
theorem aP4 (l:List Int) (x:Int):B3 (l++[x])=bif l.contains x then B3 l else B3 l++[x]:=by unfold B3;rw [al3,List.nil_append];cases l.contains x<;>simp
theorem ah1 (l:List Int):(B3 l).length<=l.length:=by
 have key:∀ (l seen:List Int),(G2 seen l).length<=l.length:=by
  intro l
  induction l with
  |nil=>intro seen;simp [G2]
  |cons x r ih=>
   intro seen;have:=ih (seen++[x]);simp only [G2];cases seen.contains x with
   |true=>simp only [cond_true,cq8];omega
   |false=>simp only [cond_false,cq8];omega
 exact key l []
theorem aI5:C9 prog RG 52 cReads:=E8 C1 (λ_=>noL) (by kernel_rfl) (by kernel_rfl) (by kernel_rfl) λ(a,b,c,d,e,()) _=>(bX5 a b c d e).mpr (by intros;rfl)
theorem bO6 (s0:Int) (c:List Int) (j m:Int) (n a:List Int) (o:List Ins) (r:s0=0/\c.length+a.length<=17592186044400):vc (EVy [(0,0),(1,1)] (some ar8) [(61,cContains)]) (bn6 a c) Go.Proofs.Tryd.f83 aW6 (s0,c,j,m,n,a,o,()):=by
 rw [bO5 s0 c j m n a o];intro p s _ _ e _;have d:a.length<=140737488355328:=e.len;have f:p=(0,c++B3 a,()):=rfl
 clear_value p
 dsimp only [s];simp only [true_and,and_true];refine ⟨⟨(0,0,c,()),rfl,r.1,rfl,Int.le_refl _,by dsimp only;omega,rfl,by simp [B3,G2]⟩,?_⟩;rintro ⟨i,st,l,⟨⟩⟩ ⟨h0,h1,h2,h3⟩;dsimp only at h0 h1 h2 h3 |-;subst h2;obtain ⟨k,rfl⟩:=cp8 h0;simp only [cp6] at h3 |-;subst h3;refine ⟨λb=>?_,λg=>?_⟩
 .have b:(k:Int)<a.length:=cq2 b;have hs:=aP4 (a.take k) (a.getD k 0);rw [<-A5 (by omega)] at hs;have hl:=ah1 (a.take k);rw [cs4] at hl;refine ⟨⟨h0,b⟩,⟨h0,by omega⟩,λq=>?_,λq=>⟨⟨trivial,by rw [cr3];omega⟩,λh=>(by cases h),λ_=>?_⟩⟩
  .rw [q] at hs;exact ⟨((k+1:Nat),0,_,()),B8 (by omega) d,rfl,rfl,⟨by omega,by dsimp only;omega,rfl,by dsimp only;rw [cp6,hs];rfl⟩,by dsimp only;omega⟩
  .rw [q] at hs;exact ⟨((k+1:Nat),0,_,()),B8 (by omega) d,rfl,rfl,⟨by omega,by dsimp only;omega,rfl,by dsimp only;rw [cp6,hs,cr8];rfl⟩,by dsimp only;omega⟩
 .have t:k=a.length:=by have:¬ (k:Int)<a.length:=cq1 g;omega
  subst t;rw [f,cs3]
theorem ci7:ItOk itDo:=by
 intro f k kY mp h Y' b;unfold itDo at h;cases hf:Nat.beq f 83 with
 |false=>rw [hf] at h;cases h
 |true=>
  have hf:=cp3 hf;subst hf;simp only [Nat.beq_refl,cond_true,List.mem_cons,List.not_mem_nil,or_false,cq4] at h;obtain ⟨rfl,rfl,rfl⟩:=h;exact aj7 (E:=EVy [(0,0),(1,1)] (some ar8) [(61,cContains)]) (bU5 _ _ _) ⟨X9 (λx a=>by rcases List.mem_cons.1 a with rfl|a;exact N6 _;cases a),λ_ _ _ _ _ h=>(by cases h),λ_ _ _ h=>(by cases h),λk c=>by cases c;exact b,λ_ _ _ _ h=>(by cases h)⟩ bk9 Go.Proofs.Tryd.func83 (by kernel_rfl)
    (λp=>bn6 p.2.2.2.2.2.1 p.2.1) (λ(st,d,e,g,i,j,l,()) m=>bO6 st d e g i j l m) (by kernel_rfl) rfl
theorem bO7 (s:AS) (x:Held):(aK9 s x).code.length<=s.code.length+1/\s.ocells<=(aK9 s x).ocells/\(aK9 s x).ocells<=s.ocells+1:=by
 unfold aK9;cases (mget eqI s.cells x.reg).isSome with
 |true=>simp only [cond_true];omega
 |false=>simp only [cond_false,cr3,cq8,List.length_nil];omega
theorem au8 (sp:Spans) (rd:Reads) (ks N:Int) (s:AS) (pl:Int) (st:List Int):(E5 sp rd ks N s pl st).2.code.length<=s.code.length+1/\s.ocells<=(E5 sp rd ks N s pl st).2.ocells/\(E5 sp rd ks N s pl st).2.ocells<=s.ocells+1:=by
 unfold E5;split
 .simp only;omega
 .exact bO7 _ _
theorem bg1 (sp:Spans) (rd:Reads) (ks N i:Int) (fr:List Int) (s:AS) (n:Int):(G7 sp rd ks N i fr s n).code.length<=s.code.length+2/\s.ocells<=(G7 sp rd ks N i fr s n).ocells/\(G7 sp rd ks N i fr s n).ocells<=s.ocells+1:=by
 unfold G7;have:=au8 sp rd ks N s i fr;cases (D4 s.holds ks n).cell with
 |true=>simp only [cond_true,cr3,cq8,List.length_nil];omega
 |false=>simp only [cond_false];omega
theorem ac7 (sp:Spans) (rd:Reads) (ks N i:Int) (fr:List Int):∀ (l:List Int) (s:AS),(C3 sp rd ks N i fr s l).code.length<=s.code.length+2*l.length/\s.ocells<=(C3 sp rd ks N i fr s l).ocells/\(C3 sp rd ks N i fr s l).ocells<=s.ocells+l.length
 |[],s=>by simp [C3]
 |x::r,s=>by have h1:=ac7 sp rd ks N i fr r (G7 sp rd ks N i fr s x);have h2:=bg1 sp rd ks N i fr s x;simp only [C3,List.foldl_cons,cq8] at h1 |-;omega
theorem bD5 (sp:Spans) (rd:Reads) (ks N i:Int) (to:List Int) (s:AS) (n:Int):(ae0 sp rd ks N i to s n).code.length<=s.code.length+1/\s.ocells<=(ae0 sp rd ks N i to s n).ocells/\(ae0 sp rd ks N i to s n).ocells<=s.ocells+1:=by have:=au8 sp rd ks N s (i+1) to;exact this
theorem aI6 (sp:Spans) (rd:Reads) (ks N i:Int) (to:List Int):∀ (l:List Int) (s:AS),(I8 sp rd ks N i to s l).code.length<=s.code.length+l.length/\s.ocells<=(I8 sp rd ks N i to s l).ocells/\(I8 sp rd ks N i to s l).ocells<=s.ocells+l.length
 |[],s=>by simp [I8]
 |x::r,s=>by have h1:=aI6 sp rd ks N i to r (ae0 sp rd ks N i to s x);have h2:=bD5 sp rd ks N i to s x;simp only [I8,List.foldl_cons,cq8] at h1 |-;omega
theorem ah2 (sp:Spans) (rd:Reads) (ks N i:Int) (fr:List Int) (s:AS) (l:List Int) (x:Int):C3 sp rd ks N i fr s (l++[x])=G7 sp rd ks N i fr (C3 sp rd ks N i fr s l) x:=by simp [C3]
theorem ak3 (sp:Spans) (rd:Reads) (ks N i:Int) (to:List Int) (s:AS) (l:List Int) (x:Int):I8 sp rd ks N i to s (l++[x])=ae0 sp rd ks N i to (I8 sp rd ks N i to s l) x:=by simp [I8]
theorem bg2 (m:Holds) (ks n:Int):((D4 m ks n).cell==true&&((D4 m ks n).n==(-1:Int)))=(D4 m ks n).cell:=by
 unfold D4;split
 .rfl
 .rfl
theorem co9 (i x y:Int) (b a:List Int) (w:List Ins) (K:Int) (C:List Ins) (L M:List Int) (sp:Spans) (rd:Reads) (p:Holds) (ce:List (Int×Int)) (op ks oc:Int) (cd:List RIns) (ou:List Place)
  (S:ag6 b a w=true/\a.length<=17592186044400/\(B3 a).length<=64/\b.length<=64/\ag9 rd/\doOk sp rd ks C.length i ⟨x,y,b,a,w⟩ ⟨p,ce,oc,cd⟩/\ks<=64/\0<=i/\i<=1000000/\0<=oc/\oc<=100000000/\cd.length<=100000000):
  vc (EVd [] itDo [(52,cReads),(54,cSlot),(84,cRoom),(85,cPutA),(73,cCalledA)]) (lDo sp rd ks C.length i b a ⟨p,ce,oc,cd⟩) Go.Proofs.Tryd.f53 cDo (i,x,y,b,a,w,K,C,L,M,sp,rd,p,ce,op,ks,oc,cd,ou,()):=by
 rw [co8 i x y b a w K C L M sp rd p ce op ks oc cd ou];obtain ⟨D,T,U,V,z,E,r,W,X,N,O,P⟩:=S;intro Y Z F g Q e5 u _ G _ _ _ _ _ _;have hl4:a.length<=140737488355328:=G.len;have hdl:=ah1 a;have he2:F=doOf sp rd ks g i ⟨x,y,b,a,w⟩ ⟨p,ce,oc,cd⟩:=rfl;have H:Q=i+1:=G0 (by omega) (by omega);have v:u=C3 sp rd ks g i (B3 a) ⟨p,ce,oc,cd⟩ (B3 a):=rfl;have A:=ac7 sp rd ks g i (B3 a) (B3 a) ⟨p,ce,oc,cd⟩;rw [<-v] at A;have I:F=⟨(I8 sp rd ks g i b u b).holds,(I8 sp rd ks g i b u b).cells,(I8 sp rd ks g i b u b).ocells,(I8 sp rd ks g i b u b).code++[⟨0,0,0,⟨x,y,b.map (λn=>(D4 (I8 sp rd ks g i b u b).holds ks n).n),a.map (getI (ac6 u.holds ks (B3 a))),w⟩⟩]⟩:=rfl;obtain ⟨s,t⟩:=E;change ∀ k,k<(B3 a).length->(D4 (C3 sp rd ks g i (B3 a) ⟨p,ce,oc,cd⟩ ((B3 a).take k)).holds ks ((B3 a).getD k 0)).cell=true->ad9 sp rd ks g (C3 sp rd ks g i (B3 a) ⟨p,ce,oc,cd⟩ ((B3 a).take k)).holds i (B3 a) at s;change ∀ k,k<b.length->ad9 sp rd ks g (I8 sp rd ks g i b u (b.take k)).holds (i+1) b at t
 clear_value F Q u g
 subst H;dsimp only [Y,Z,e5];simp only [true_and,and_true,List.nil_append,Bool.and_true,bg2];refine ⟨?_,?_,⟨(0,p,ce,oc,cd,()),rfl,rfl,rfl,rfl,rfl,Int.le_refl _,by dsimp only;omega,rfl⟩,?_⟩
 .rintro ⟨n,st,l,⟨⟩⟩ ⟨h1,h2⟩ _;dsimp only at h1 h2 |-;exact ⟨h1,by simp only [cq8,List.length_nil];omega,rfl⟩
 .simp only [List.length_nil];omega
 rintro ⟨j,m,cc,c,q,⟨⟩⟩ ⟨h0,h1,h2⟩;dsimp only at h0 h1 h2 |-;obtain ⟨k,rfl⟩:=cp8 h0;simp only [cp6] at h2 |-;have J:=ac7 sp rd ks g i (B3 a) ((B3 a).take k) ⟨p,ce,oc,cd⟩;rw [h2,cs4] at J;dsimp only at J;refine ⟨λd=>?_,λh=>?_⟩
 .have d:(k:Int)<(B3 a).length:=cq2 d;have e:k<(B3 a).length:=by omega
  have o:=s k e;rw [h2] at o;have f:C3 sp rd ks g i (B3 a) ⟨p,ce,oc,cd⟩ ((B3 a).take (k+1))=G7 sp rd ks g i (B3 a) ⟨m,cc,c,q⟩ ((B3 a).getD k 0):=by rw [A5 e 0,ah2,h2]
  generalize (B3 a).getD k 0=n at o f |-;dsimp only at o;refine ⟨⟨h0,d⟩,r,λhc=>?_,λhc=>?_⟩
  .have hc:(D4 m ks n).cell=false:=by simpa using hc
   have hS:G7 sp rd ks g i (B3 a) ⟨m,cc,c,q⟩ n=⟨m,cc,c,q⟩:=by simp only [G7,hc,cond_false]
   exact ⟨((k+1:Nat),m,cc,c,q,()),B8 (m:=(B3 a).length) e (by omega),rfl,rfl,rfl,rfl,⟨by omega,by dsimp only;omega,by dsimp only;rw [cp6,f,hS]⟩,by dsimp only;omega⟩
  .have hc:(D4 m ks n).cell=true:=by simpa using hc
   have hR:=au8 sp rd ks g ⟨m,cc,c,q⟩ i (B3 a);dsimp only at hR;refine ⟨⟨z,o hc,r,by omega,by omega,by omega⟩,by omega,((k+1:Nat),_,_,_,_,()),B8 (m:=(B3 a).length) e (by omega),rfl,rfl,rfl,rfl,⟨by omega,by dsimp only;omega,?_⟩,by dsimp only;omega⟩;dsimp only;rw [cp6,f];simp only [G7,hc,cond_true];rfl
 have B:k=(B3 a).length:=by have:¬ (k:Int)<(B3 a).length:=cq1 h;omega
 subst B;rw [cs3,<-v] at h2;clear v s h0 h1 h J;subst h2;dsimp only at A I t |-;refine ⟨⟨(0,[],()),rfl,rfl,Int.le_refl _,by dsimp only;omega,rfl⟩,?_⟩;rintro ⟨j,sl,⟨⟩⟩ ⟨h0,h1,h2⟩;dsimp only at h0 h1 h2 |-;obtain ⟨k,rfl⟩:=cp8 h0;simp only [cp6] at h2 |-;refine ⟨λd=>?_,λh=>?_⟩
 .have d:(k:Int)<(B3 a).length:=cq2 d;have e:k<(B3 a).length:=by omega
  refine ⟨⟨h0,d⟩,r,((k+1:Nat),_,()),B8 (m:=(B3 a).length) e (by omega),rfl,⟨by omega,by dsimp only;omega,?_⟩,by dsimp only;omega⟩;dsimp only;rw [cp6,A5 e 0,h2];simp only [ac6,List.foldl_append,List.foldl_cons,List.foldl_nil]
 have B:k=(B3 a).length:=by have:¬ (k:Int)<(B3 a).length:=cq1 h;omega
 subst B;rw [cs3] at h2;subst h2;clear h0 h1 h;refine ⟨⟨(0,m,cc,c,q,()),rfl,rfl,rfl,rfl,rfl,Int.le_refl _,by dsimp only;omega,rfl⟩,?_⟩;rintro ⟨j,m2,cc2,c2,q2,⟨⟩⟩ ⟨h0,h1,h2⟩;dsimp only at h0 h1 h2 |-;obtain ⟨k,rfl⟩:=cp8 h0;simp only [cp6] at h2 |-;have R:=aI6 sp rd ks g i b (b.take k) ⟨m,cc,c,q⟩;rw [h2,cs4] at R;dsimp only at R;refine ⟨λd=>?_,λh=>?_⟩
 .have d:(k:Int)<b.length:=cq2 d;have e:k<b.length:=by omega
  have o:=t k e;rw [h2] at o;have f:I8 sp rd ks g i b ⟨m,cc,c,q⟩ (b.take (k+1))=ae0 sp rd ks g i b ⟨m2,cc2,c2,q2⟩ (b.getD k 0):=by rw [A5 e 0,ak3,h2]
  refine ⟨⟨h0,d⟩,⟨z,o,r,by omega,by omega,by omega⟩,((k+1:Nat),_,_,_,_,()),B8 (m:=b.length) e (by omega),rfl,rfl,rfl,rfl,⟨by omega,by dsimp only;omega,?_⟩,by dsimp only;omega⟩;dsimp only;rw [cp6,f];rfl
 .have B:k=b.length:=by have:¬ (k:Int)<b.length:=cq1 h;omega
  subst B;rw [cs3] at h2;rw [h2] at I;refine ⟨⟨D,r⟩,by omega,?_⟩;rw [I]
theorem bX6:C9 prog RG 53 cDo:=bt8 ci7 (A8 aI5 (A8 au7 (A8 bD1 (A8 aP3 (A8 aW8 C1))))) (λ(i,e,f,a,b,g,h,c,j,k,sp,rd,d,ce,op,ks,oc,cd,ou,())=>lDo sp rd ks c.length i a b ⟨d,ce,oc,cd⟩) (by kernel_rfl) (by kernel_rfl) (by kernel_rfl) λ(i,e,f,a,b,g,h,c,j,k,sp,rd,d,ce,op,ks,oc,cd,ou,()) l=>co9 i e f a b g h c j k sp rd d ce op ks oc cd ou l
def F7 (m:Reads) (l:List Int) (i:Int):Reads:=l.foldl (λm n=>mput eqI m n (getL m n++[i])) m
def N3:List Ins->Int->Reads->Reads
 |[],_,m=>m
 |x::r,i,m=>N3 r (i+1) (F7 m (B3 x.from_) i)
def E3 (code:List Ins):Reads:=N3 code 0 []
def ah3 (a:Nat):List (Int×Int):=(List.range a).foldl (λ(m:List (Int×Int)) (k:Nat)=>mput eqI m (k:Int) (k:Int)) []
def H6 (a:Int):AS:=⟨[],ah3 a.toNat,a,[]⟩
def runA (sp:Spans) (rd:Reads) (ks N:Int):List Ins->Int->AS->AS
 |[],_,s=>s
 |x::r,i,s=>runA sp rd ks N r (i+1) (doOf sp rd ks N i x s)
def fewX (ks:Int) (x:Ins):Bool:=decide (((B3 x.from_).length:Int)<=ks)&&decide ((x.to.length:Int)<=ks)
def outA (s:AS) (ks n:Int):Place:=bif (D4 s.holds ks n).cell then ⟨true,getI s.cells n⟩ else D4 s.holds ks n
def bn7 (f:VFun) (ks:Int):AS:=runA (A6 f.params f.code f.out) (E3 f.code) ks f.code.length f.code 0 (H6 f.params)
def B0 (f:VFun) (ks:Int):RCode×Int:=
 if E6 f≠0 then (aG0,E6 f) else if ks<1\/64<ks then (aG0,2) else if f.code.all (fewX ks)=false then (aG0,9)
 else (⟨f.params,ks,(bn7 f ks).ocells,(bn7 f ks).code,f.out.map (outA (bn7 f ks) ks)⟩,0)
theorem bu6 (sp:Spans) (rd:Reads) (ks N:Int) (r:List Ins):∀ (l:List Ins) (i:Int) (s:AS),runA sp rd ks N (l++r) i s=runA sp rd ks N r (i+l.length) (runA sp rd ks N l i s)
 |[],i,s=>by simp [runA]
 |x::l,i,s=>by simp only [List.cons_append,runA,bu6 sp rd ks N r l,cq8];congr 1;omega
theorem as0 (sp:Spans) (rd:Reads) (ks N:Int) (l:List Ins) (x:Ins) (s:AS):runA sp rd ks N (l++[x]) 0 s=doOf sp rd ks N l.length x (runA sp rd ks N l 0 s):=by rw [bu6];simp [runA]
theorem ah4 {p q:Place}:eqP p q=true<->p=q:=by obtain ⟨c,n⟩:=p;obtain ⟨c',n'⟩:=q;show ((c==c')&&((n==n')&&true))=true<->_;simp
theorem aP5 {β:Type} (m:List (Place×β)) (k:Place) (v:β) (n:Place):mget eqP (mput eqP m k v) n=if k=n then some v else mget eqP m n:=by
 induction m with
 |nil=>
  show (bif eqP k n then some v else none)=_;by_cases h:k=n
  .rw [if_pos h,ah4.2 h];rfl
  .have:eqP k n=false:=by rw [Bool.eq_false_iff];exact λh2=>h (ah4.1 h2)
   rw [if_neg h,this];rfl
 |cons x r ih=>
  obtain ⟨k',v'⟩:=x;show mget eqP (bif eqP k' k then (k,v)::r else (k',v')::mput eqP r k v) n=if k=n then some v else bif eqP k' n then some v' else mget eqP r n;by_cases h:k'=k
  .subst h;rw [ah4.2 rfl];show (bif eqP k' n then some v else mget eqP r n)=_;by_cases h1:k'=n
   .rw [if_pos h1,ah4.2 h1];rfl
   .have:eqP k' n=false:=by rw [Bool.eq_false_iff];exact λh2=>h1 (ah4.1 h2)
    rw [if_neg h1,this];rfl
  .have h2:eqP k' k=false:=by rw [Bool.eq_false_iff];exact λh2=>h (ah4.1 h2)
   rw [h2];show (bif eqP k' n then some v' else mget eqP (mput eqP r k v) n)=_;rw [ih];by_cases h1:k'=n
   .subst h1;rw [show eqP k' k'=true from ah4.2 rfl,cond_true,cond_true,if_neg (λe=>h e.symm)]
   .have:eqP k' n=false:=by rw [Bool.eq_false_iff];exact λh2=>h1 (ah4.1 h2)
    rw [this];rfl
def bO8 (m:Holds) (ks n:Int):Prop:=∀ a:Nat,a<ks.toNat->mget eqP m ⟨false,(a:Int)⟩≠some n
structure Fine (P:Int->Prop) (ks:Int) (m:Holds):Prop where
 inj:∀ a b:Nat,a<ks.toNat->b<ks.toNat->∀ r,mget eqP m ⟨false,(a:Int)⟩=some r->mget eqP m ⟨false,(b:Int)⟩=some r->a=b
 reg:∀ a:Nat,a<ks.toNat->∀ r,mget eqP m ⟨false,(a:Int)⟩=some r->P r
theorem ac8 {m:Holds} {ks n:Int}:(D4 m ks n).cell=true<->bO8 m ks n:=by
 unfold D4 bO8;constructor
 .intro h a c hm;split at h
  .cases h
  .rename_i b;rw [List.find?_eq_none] at b;exact b a (by simpa using c) (au6.2 hm)
 .intro h;split
  .rename_i s hs;have h1:=List.find?_some hs;have h2:=List.mem_of_find?_eq_some hs;exact (h s (by simpa using h2) (au6.1 h1)).elim
  .rfl
theorem bO9 {m:Holds} {ks n:Int} (h:(D4 m ks n).cell=false):∃ a:Nat,a<ks.toNat/\D4 m ks n=⟨false,(a:Int)⟩/\mget eqP m ⟨false,(a:Int)⟩=some n:=by
 unfold D4 at h |-;split at h
 .rename_i s hs;have h1:=List.find?_some hs;have h2:=List.mem_of_find?_eq_some hs;exact ⟨s,by simpa using h2,rfl,au6.1 h1⟩
 .cases h
theorem ac9:∀ (l m:List Int),l.Nodup->(∀ x∈l,x∈m)->l.length<=m.length
 |[],_,_,_=>Nat.zero_le _
 |x::r,m,h,hs=>by obtain ⟨h1,h2⟩:=List.nodup_cons.1 h;have a:=hs x (by simp);have:=ac9 r (m.erase x) h2 (λy b=>(List.mem_erase_of_ne (λe=>by subst e;exact h1 b)).2 (hs y (by simp [b])));rw [List.length_erase_of_mem a] at this;have:=List.length_pos_of_mem a;simp only [cq8];omega
theorem au9 (sp:Spans) (rd:Reads) (N:Int) (m:Holds) (pl:Int) (st:List Int):∀ (l:List Nat) (acc:List Held),C0 sp rd N m pl st l acc=(none,[])->acc=[]/\∀ s∈l,∃ n∈st,mget eqP m ⟨false,(s:Int)⟩=some n
 |[],acc,h=>by simp only [C0,cq4,true_and] at h;exact ⟨h,by simp⟩
 |s::r,acc,h=>by
  simp only [C0] at h;cases hm:mget eqP m ⟨false,(s:Int)⟩ with
  |none=>rw [hm] at h;simp at h
  |some n=>
   rw [hm] at h;simp only at h;cases hc:st.contains n with
   |true=>
    rw [hc] at h;obtain ⟨h1,h2⟩:=au9 sp rd N m pl st r acc h;refine ⟨h1,λx a=>?_⟩;rcases List.mem_cons.1 a with rfl|a
    .exact ⟨n,by simpa [List.contains_iff_mem] using hc,hm⟩
    .exact h2 x a
   |false=>
    rw [hc] at h;simp only [cond_false] at h;cases hs:G6 (getS sp n).first (getS sp n).last pl with
    |true=>rw [hs] at h;have:=(au9 sp rd N m pl st r _ h).1;simp at this
    |false=>rw [hs] at h;simp at h
theorem bg3 {P:Int->Prop} {ks:Int} {m:Holds} (F:Fine P ks m) {n:Int} (p:bO8 m ks n) {st:List Int} (hs:n∈st) (hl:(st.length:Int)<=ks) (sp:Spans) (rd:Reads) (N pl:Int):ad9 sp rd ks N m pl st:=by
 intro h1 h2;have h3:C0 sp rd N m pl st (List.range ks.toNat) []=(none,[]):=Prod.ext h1 h2;obtain ⟨_,h4⟩:=au9 sp rd N m pl st _ _ h3
 let f:Nat->Int:=λs=>(mget eqP m ⟨false,(s:Int)⟩).getD 0
 have hf:∀ s,s<ks.toNat->f s∈st/\mget eqP m ⟨false,(s:Int)⟩=some (f s):=by
  intro s hs;obtain ⟨r,g,d⟩:=h4 s (by simpa using hs);have:f s=r:=by simp only [f,d,Option.getD_some]
  rw [this];exact ⟨g,d⟩
 have h:((List.range ks.toNat).map f).Nodup:=by rw [List.nodup_iff_pairwise_ne,List.pairwise_map];refine List.Pairwise.imp_of_mem ?_ (List.nodup_iff_pairwise_ne.1 List.nodup_range);intro a b l o i j;refine i (F.inj a b (by simpa using l) (by simpa using o) (f a) (hf a (by simpa using l)).2 ?_);rw [j];exact (hf b (by simpa using o)).2
 have k:=ac9 _ (st.erase n) h (λx q=>by
  obtain ⟨s,c,rfl⟩:=List.mem_map.1 q;have c:s<ks.toNat:=by simpa using c
  exact (List.mem_erase_of_ne (λe=>p s c (by rw [(hf s c).2,e]))).2 (hf s c).1)
 rw [List.length_erase_of_mem hs,cs6,List.length_range] at k;have:=List.length_pos_of_mem hs;omega
theorem Fine.put {P P':Int->Prop} {ks:Int} {m:Holds} (F:Fine P ks m) (f:∀ r,P r->P' r) {n:Int} (d:bO8 m ks n) (g:P' n) (q:Int):Fine P' ks (mput eqP m ⟨false,q⟩ n):=by
 have hg:∀ (a:Nat),mget eqP (mput eqP m ⟨false,q⟩ n) ⟨false,(a:Int)⟩=if q=a then some n else mget eqP m ⟨false,(a:Int)⟩:=by intro a;rw [aP5];simp
 refine ⟨λa b c e r h1 h2=>?_,λa c r h1=>?_⟩
 .rw [hg] at h1 h2;by_cases h3:q=a<;>by_cases h4:q=b
  .omega
  .rw [if_pos h3] at h1;rw [if_neg h4] at h2;simp only [cp2] at h1;subst h1;exact (d b e h2).elim
  .rw [if_neg h3] at h1;rw [if_pos h4] at h2;simp only [cp2] at h2;subst h2;exact (d a c h1).elim
  .rw [if_neg h3] at h1;rw [if_neg h4] at h2;exact F.inj a b c e r h1 h2
 .rw [hg] at h1;by_cases h3:q=a
  .rw [if_pos h3] at h1;simp only [cp2] at h1;subst h1;exact g
  .rw [if_neg h3] at h1;exact f r (F.reg a c r h1)
theorem Fine.mono {P P':Int->Prop} {ks:Int} {m:Holds} (F:Fine P ks m) (b:∀ r,P r->P' r):Fine P' ks m:=⟨F.inj,λa c r h=>b r (F.reg a c r h)⟩
theorem bn8 (s:AS) (x:Held):(aK9 s x).holds=s.holds:=by unfold aK9;cases (mget eqI s.cells x.reg).isSome<;>rfl
theorem Y5 (sp:Spans) (rd:Reads) (ks N:Int) (s:AS) (pl:Int) (st:List Int):(E5 sp rd ks N s pl st).2.holds=s.holds:=by
 unfold E5;split
 .rfl
 .exact bn8 _ _
theorem aL0 (sp:Spans) (rd:Reads) (ks N i:Int) (fr:List Int) (s:AS) (n:Int):((D4 s.holds ks n).cell=true/\(G7 sp rd ks N i fr s n).holds=mput eqP s.holds ⟨false,(E5 sp rd ks N s i fr).1⟩ n)\/((D4 s.holds ks n).cell=false/\G7 sp rd ks N i fr s n=s):=by
 unfold G7;have:=Y5 sp rd ks N s i fr;cases h:(D4 s.holds ks n).cell with
 |true=>exact .inl ⟨rfl,by simp only [cond_true];rw [this]⟩
 |false=>exact .inr ⟨rfl,rfl⟩
theorem R8 {P:Int->Prop} {sp:Spans} {rd:Reads} {ks N i:Int} {fr:List Int}:∀ (l:List Int) {s:AS},Fine P ks s.holds->(∀ n∈l,P n)->Fine P ks (C3 sp rd ks N i fr s l).holds
 |[],s,F,_=>F
 |n::r,s,F,h=>by
  refine R8 r (s:=G7 sp rd ks N i fr s n) ?_ (λx a=>h x (by simp [a]));rcases aL0 sp rd ks N i fr s n with ⟨h1,h2⟩|⟨h1,h2⟩
  .rw [h2];exact F.put (λ_ h=>h) (ac8.1 h1) (h n (by simp)) _
  .rw [h2];exact F
theorem bg4 (sp:Spans) (rd:Reads) (ks N i:Int) (to:List Int) (s:AS) (n:Int):(ae0 sp rd ks N i to s n).holds=mput eqP s.holds ⟨false,(E5 sp rd ks N s (i+1) to).1⟩ n:=by have:=Y5 sp rd ks N s (i+1) to;show mput eqP (E5 sp rd ks N s (i+1) to).2.holds ⟨false,(E5 sp rd ks N s (i+1) to).1⟩ n=_;rw [this]
theorem as1 {P:Int->Prop} {sp:Spans} {rd:Reads} {ks N i:Int} {to:List Int} {s:AS} (F:Fine P ks s.holds) (l:to.Nodup) (f:∀ n∈to,¬ P n):∀ (k:Nat),k<=to.length->Fine (λr=>P r\/r∈to.take k) ks (I8 sp rd ks N i to s (to.take k)).holds/\(∀ n,k<to.length->n=to.getD k 0->bO8 (I8 sp rd ks N i to s (to.take k)).holds ks n):=by
 intro k
 induction k with
 |zero=>intro _;refine ⟨F.mono λr h=>.inl h,λn g b a e hm=>?_⟩;have:=F.reg a e n hm;exact f n (by rw [b];exact G3 g 0) this
 |succ k ih=>
  intro g;obtain ⟨h1,h2⟩:=ih (by omega);have j:Fine (λr=>P r\/r∈to.take (k+1)) ks (I8 sp rd ks N i to s (to.take (k+1))).holds:=by
   rw [A5 (by omega) 0,ak3,bg4];refine h1.put (λr h=>?_) (h2 _ (by omega) rfl) (.inr (by simp)) _;rcases h with h|h
   .exact .inl h
   .exact .inr (by simp [h])
  refine ⟨j,λn c b a e hm=>?_⟩;rcases j.reg a e n hm with h3|h3
  .exact f n (by rw [b];exact G3 c 0) h3
  .have d:=l;rw [<-List.take_append_drop (k+1) to,List.nodup_append] at d;refine d.2.2 n h3 n ?_ rfl;rw [b,cq6,cp4 c];exact List.mem_iff_getElem.2 ⟨0,by rw [List.length_drop];omega,by simp⟩
theorem H1 {l:List Int} {n:Int}:n∈B3 l<->n∈l:=by
 have key:∀ (l seen:List Int),(n∈G2 seen l->n∈l)/\(n∈l->n∈G2 seen l\/n∈seen):=by
  intro l
  induction l with
  |nil=>intro seen;simp [G2]
  |cons x r ih=>
   intro seen;obtain ⟨h1,h2⟩:=ih (seen++[x]);simp only [G2];cases hc:seen.contains x with
   |true=>
    have hc:x∈seen:=by simpa [List.contains_iff_mem] using hc
    refine ⟨λh=>by simp [h1 h],λh=>?_⟩;simp only [List.mem_cons] at h;rcases h with rfl|h
    .exact .inr hc
    .rcases h2 h with h3|h3
     .exact .inl h3
     .simp only [cr9,cq3] at h3;rcases h3 with h3|rfl
      .exact .inr h3
      .exact .inr hc
   |false=>
    simp only [cond_false,List.mem_cons];refine ⟨λh=>?_,λh=>?_⟩
    .rcases h with h|h
     .exact .inl h
     .exact .inr (h1 h)
    .rcases h with rfl|h
     .exact .inl (.inl rfl)
     .rcases h2 h with h3|h3
      .exact .inl (.inr h3)
      .simp only [cr9,cq3] at h3;rcases h3 with h3|rfl
       .exact .inr h3
       .exact .inl (.inl rfl)
 obtain ⟨h1,h2⟩:=key l [];exact ⟨h1,λh=>(h2 h).resolve_right (by simp)⟩
theorem aP6 (sp:Spans) (rd:Reads) (ks N i:Int) (x:Ins) (s:AS):(doOf sp rd ks N i x s).holds=(I8 sp rd ks N i x.to (C3 sp rd ks N i (B3 x.from_) s (B3 x.from_)) x.to).holds:=rfl
theorem bP0 {P:Int->Prop} {sp:Spans} {rd:Reads} {ks N i:Int} {x:Ins} {s:AS} (F:Fine P ks s.holds) (a:fewX ks x=true) (hf:∀ n∈x.from_,P n) (b:x.to.Nodup) (d:∀ n∈x.to,¬ P n):
  doOk sp rd ks N i x s/\Fine (λr=>P r\/r∈x.to) ks (doOf sp rd ks N i x s).holds:=by
 simp only [fewX,cp5,cr4] at a;have e:∀ n∈B3 x.from_,P n:=λn b=>hf n (H1.1 b);have F1:=R8 (sp:=sp) (rd:=rd) (N:=N) (i:=i) (fr:=B3 x.from_) (B3 x.from_) F e;refine ⟨⟨λk c hc=>?_,λk c=>?_⟩,?_⟩
 .have Fk:=R8 (sp:=sp) (rd:=rd) (N:=N) (i:=i) (fr:=B3 x.from_) ((B3 x.from_).take k) F (λn b=>e n (List.mem_of_mem_take b));exact bg3 Fk (ac8.1 hc) (G3 c 0) a.1 sp rd N i
 .obtain ⟨h1,h2⟩:=as1 (sp:=sp) (rd:=rd) (N:=N) (i:=i) F1 b d k (by omega);exact bg3 h1 (h2 _ c rfl) (G3 c 0) a.2 sp rd N (i+1)
 .have:=(as1 (sp:=sp) (rd:=rd) (N:=N) (i:=i) F1 b d x.to.length (Nat.le_refl _)).1;rw [cs3] at this;exact this
theorem bg5 {a:Int} {b:List Ins} {c:List Int} (C:Checked a b c) {ks:Int} (g:b.all (fewX ks)=true) (sp:Spans) (rd:Reads) (N:Int):∀ k,k<=b.length->Fine (λr=>r<a\/r∈wr (b.take k)) ks (runA sp rd ks N (b.take k) 0 (H6 a)).holds/\(k<b.length->doOk sp rd ks N k (b.getD k ins0) (runA sp rd ks N (b.take k) 0 (H6 a))):=by
 have step:∀ k,k<b.length->Fine (λr=>r<a\/r∈wr (b.take k)) ks (runA sp rd ks N (b.take k) 0 (H6 a)).holds->doOk sp rd ks N k (b.getD k ins0) (runA sp rd ks N (b.take k) 0 (H6 a))/\Fine (λr=>(r<a\/r∈wr (b.take k))\/r∈(b.getD k ins0).to) ks (doOf sp rd ks N k (b.getD k ins0) (runA sp rd ks N (b.take k) 0 (H6 a))).holds:=by
  intro k f F;have j:b=b.take k++b.getD k ins0::b.drop (k+1):=by
   conv=>lhs;rw [<-List.take_append_drop (k+1) b,A5 f ins0]
   simp
  have e:=G3 f ins0;refine bP0 F (cs5.1 g _ e) (λn i=>?_) ?_ (λn i=>?_)
  .have:=C.there;rw [j] at this;simpa using M1 this n i
  .have d:=G8.1 C.once;rw [j,L1,ac3] at d;exact (List.nodup_append.1 (List.nodup_append.1 d).2.1).1
  .rintro (h|h)
   .have:=C.new n (ca8.2 ⟨_,e,i⟩);omega
   .have d:=G8.1 C.once;rw [j,L1,ac3] at d;exact (List.nodup_append.1 d).2.2 n h n (List.mem_append_left _ i) rfl
 intro k
 induction k with
 |zero=>intro _;have F0:Fine (λr=>r<a\/r∈wr (b.take 0)) ks (runA sp rd ks N (b.take 0) 0 (H6 a)).holds:=⟨λx y _ _ r h=>by simp [runA,H6,mget] at h,λx _ r h=>by simp [runA,H6,mget] at h⟩;exact ⟨F0,λf=>(step 0 f F0).1⟩
 |succ k ih=>
  intro f;obtain ⟨F,_⟩:=ih (by omega);have F1:=(step k (by omega) F).2;have F2:Fine (λr=>r<a\/r∈wr (b.take (k+1))) ks (runA sp rd ks N (b.take (k+1)) 0 (H6 a)).holds:=by
   rw [A5 (by omega) ins0,as0,cs4,Nat.min_eq_left (by omega)];refine F1.mono λr h=>?_;rw [L1,cr9];rcases h with (h|h)|h
   .exact .inl h
   .exact .inr (.inl h)
   .exact .inr (.inr (by simpa [wr] using h))
  exact ⟨F2,λf=>(step (k+1) f F2).1⟩
theorem bX7 (sp:Spans) (rd:Reads) (ks N i:Int) (x:Ins) (s:AS):(doOf sp rd ks N i x s).code.length<=s.code.length+2*(B3 x.from_).length+x.to.length+1/\s.ocells<=(doOf sp rd ks N i x s).ocells/\(doOf sp rd ks N i x s).ocells<=s.ocells+(B3 x.from_).length+x.to.length:=by
 have h1:=ac7 sp rd ks N i (B3 x.from_) (B3 x.from_) s;have h2:=aI6 sp rd ks N i x.to x.to (C3 sp rd ks N i (B3 x.from_) s (B3 x.from_));have hc:(doOf sp rd ks N i x s).code.length=(I8 sp rd ks N i x.to (C3 sp rd ks N i (B3 x.from_) s (B3 x.from_)) x.to).code.length+1:=by simp only [doOf,cr3,cq8,List.length_nil]
 have a:(doOf sp rd ks N i x s).ocells=(I8 sp rd ks N i x.to (C3 sp rd ks N i (B3 x.from_) s (B3 x.from_)) x.to).ocells:=rfl;rw [hc,a];omega
theorem bu7 {ks:Int} (a:ks<=64) (sp:Spans) (rd:Reads) (N:Int):∀ (l:List Ins) (i:Int) (s:AS),l.all (fewX ks)=true->(runA sp rd ks N l i s).code.length<=s.code.length+193*l.length/\s.ocells<=(runA sp rd ks N l i s).ocells/\(runA sp rd ks N l i s).ocells<=s.ocells+128*l.length
 |[],i,s,_=>by simp [runA]
 |x::r,i,s,h=>by simp only [List.all_cons,cp5] at h;have h1:=h.1;simp only [fewX,cp5,cr4] at h1;have h2:=bX7 sp rd ks N i x s;have h3:=bu7 a sp rd N r (i+1) (doOf sp rd ks N i x s) h.2;simp only [runA,cq8];omega
theorem aI7 (m:Reads) (k:Int) (l:List Int) (n:Int):getL (mput eqI m k l) n=if k=n then l else getL m n:=by unfold getL;rw [ar2];split<;>rfl
theorem ah5 (i:Int):∀ (l:List Int) (m:Reads),(∀ n,(getL m n).Pairwise (·<=·)/\∀ x∈getL m n,x<=i)->∀ n,(getL (F7 m l i) n).Pairwise (·<=·)/\∀ x∈getL (F7 m l i) n,x<=i
 |[],m,h,n=>h n
 |y::r,m,h,n=>by
  refine ah5 i r (mput eqI m y (getL m y++[i])) (λk=>?_) n;rw [aI7];split
  .rename_i e;subst e;refine ⟨List.pairwise_append.2 ⟨(h y).1,by simp,λa f b d=>?_⟩,λx c=>?_⟩
   .simp only [cq3] at d;subst d;exact (h y).2 a f
   .simp only [cr9,cq3] at c;rcases c with c|rfl
    .exact (h y).2 x c
    .exact Int.le_refl _
  .exact h k
theorem al4:∀ (l:List Ins) (i:Int) (m:Reads),(∀ n,(getL m n).Pairwise (·<=·)/\∀ x∈getL m n,x<=i)->ag9 (N3 l i m)
 |[],i,m,h=>λn=>(h n).1
 |x::r,i,m,h=>by refine al4 r (i+1) _ (λn=>?_);obtain ⟨h1,h2⟩:=ah5 i (B3 x.from_) m h n;exact ⟨h1,λy a=>by have:=h2 y a;omega⟩
theorem al5 (code:List Ins):ag9 (E3 code):=al4 code 0 [] (λn=>by simp [getL,mget])
theorem ah6 (x:Ins):∀ (l:List Ins) (i:Int) (m:Reads),N3 (l++[x]) i m=F7 (N3 l i m) (B3 x.from_) (i+l.length)
 |[],i,m=>by simp [N3]
 |y::l,i,m=>by simp only [List.cons_append,N3,ah6 x l,cq8];congr 1;omega
theorem bn9 (k:Nat):ah3 (k+1)=mput eqI (ah3 k) k k:=by simp [ah3,List.range_succ]
abbrev tysR:List Ty:=[i64,inss,ints,ints,mapS,mapR,mapP,mapI,i64,i64,i64,i64,i64]
abbrev objR (b:Nat):List OPat:=[.box 79 [.ptr 2 0],.box 86 [.d b,.d (b+1),.d (b+2),.d (b+3),.map 4,.ms 3,.map 5,.map 6,.d (b+8),.d (b+9),.d (b+10),.nil,.nil],.ms (b+5),.map (b+4),.map (b+6),.map (b+7),.box 3 [.d (b+11)],.box 3 [.d (b+12)]]
abbrev ylR:List (Nat×Nat):=[(0,0),(1,1),(2,2),(4,4),(5,5),(6,6),(7,7),(8,8)]
def as2:Con RU:=⟨[one,one],i64::i64::tysR,[.d 0,.yld 0],.loop 1::objR 2,some λp=>match p with
  |(n,st,a0,a1,a2,a3,sp,rd,ho,ce,op,ks,oc,i,many,())=>st=0/\(∀ n,(getL rd n).length<=1000001)/\0<=many/\many<=140737488356000,
 none,[one],.bool::i64::tysR,[.d 0],.loop 1::objR 2,λp=>match p with
  |(n,st,a0,a1,a2,a3,sp,rd,ho,ce,op,ks,oc,i,many,())=>(true,0,a0,a1,a2,a3,sp,mput eqI rd n (getL rd n++[i]),ho,ce,op,ks,oc,i,many+1,()),[],ylR,[(1,1000001),(7,1000007),(8,1000008)]⟩
def aW9:Con RU:=⟨[one,one],i64::tysR++ax2,[.yld 0,.ptr 9 0],.loop 0::objR 1++[.box 52 [.d 14,.d 15,.d 16,.d 17,.d 18]],some λp=>match p with
  |(st,a0,a1,a2,a3,sp,rd,ho,ce,op,ks,oc,i,many,x1,x2,x3,x4,x5,())=>st=0/\(∀ n,(getL rd n).length<=1000000)/\many=0,
 none,[],i64::tysR,[],.loop 0::objR 1++[.box 52 [.un,.un,.un,.un,.un]],λp=>match p with
  |(st,a0,a1,a2,a3,sp,rd,ho,ce,op,ks,oc,i,many,x1,x2,x3,x4,x5,())=>(0,a0,a1,a2,a3,sp,F7 rd (B3 x4) i,ho,ce,op,ks,oc,i,many+(B3 x4).length,()),[],ylR,[(1,448),(7,512),(8,640)]⟩
def itAlloc:FuncId->List (Con RU×Con RU×List (Nat×Nat)):=λf=>bif Nat.beq f 83 then [(aW9,as2,[(0,0),(1,1),(2,2),(3,3),(4,4),(5,5),(6,6),(7,7),(8,8)])] else []
def bo0 (fr:List Int) (rd:Reads) (i many:Int):Nat->St RU->Ann RU:=λ_ _=>⟨[],[.slot 8,.row 1000000,.row 1000003,.box 1000008 0],[i64,i64,mapR,i64],λp=>0<=p.1/\p.1<=fr.length/\p.2.1=0/\p.2.2.1=F7 rd (B3 (fr.take p.1.toNat)) i/\p.2.2.2.1=many+(B3 (fr.take p.1.toNat)).length,λp=>fr.length-p.1.toNat,[]⟩
def cAlloc:Con RU:=con [(true,4),one] [i64,inss,ints,ints,i64] [(true,5),one] [i64,i64,i64,aU2,ax1,i64] [false,false,false,false,false,false] (some λp=>N0 p.2.1=true/\I3 p.2.1=true/\p.2.2.1.length<=8796093022200) λp=>
 ((B0 ⟨p.1,p.2.1,p.2.2.1,p.2.2.2.1⟩ p.2.2.2.2.1).1.params,(B0 ⟨p.1,p.2.1,p.2.2.1,p.2.2.2.1⟩ p.2.2.2.2.1).1.slots,(B0 ⟨p.1,p.2.1,p.2.2.1,p.2.2.2.1⟩ p.2.2.2.2.1).1.cells,(B0 ⟨p.1,p.2.1,p.2.2.1,p.2.2.2.1⟩ p.2.2.2.2.1).1.code,(B0 ⟨p.1,p.2.1,p.2.2.1,p.2.2.2.1⟩ p.2.2.2.2.1).1.out,(B0 ⟨p.1,p.2.1,p.2.2.1,p.2.2.2.1⟩ p.2.2.2.2.1).2,())
def bP1 (a:Int) (b:List Ins) (c:List Int) (ks:Int):Nat->St RU->Ann RU:=λk s=>match k with
 |0=>⟨[],[.slot 48,.row 2176],[i64,mapR],λp=>0<=p.1/\p.1<=b.length/\p.2.1=N3 (b.take p.1.toNat) 0 []/\(b.take p.1.toNat).all (fewX ks)=true,λp=>b.length-p.1.toNat,[(.seen 2176,0,0,.bool)]⟩
 |1=>⟨[],[],[],λ_=>False,λ_=>0,[]⟩
 |2=>⟨[],[.slot 86,.row 2304],[i64,mapI],λp=>0<=p.1/\p.1<=a/\p.2.1=ah3 p.1.toNat,λp=>a.toNat-p.1.toNat,[(.seen 2176,0,0,.bool)]⟩
 |3=>⟨[],[.slot 99,.row 2240,.row 2304,.box 2816 10,.row 900001],[i64,mapP,mapI,i64,aU2],λp=>0<=p.1/\p.1<=b.length/\runA (A6 a b c) (E3 b) ks b.length (b.take p.1.toNat) 0 (H6 a)=⟨p.2.1,p.2.2.1,p.2.2.2.1,p.2.2.2.2.1⟩,λp=>b.length-p.1.toNat,[(.box 2816 11,900001,55,.user 1),(.box 2816 12,900002,59,.user 2)]⟩
 |_=>⟨[],[.slot 112,.row 900002],[i64,ax1],λp=>0<=p.1/\p.1<=c.length/\p.2.1=(c.take p.1.toNat).map (outA (runA (A6 a b c) (E3 b) ks b.length b 0 (H6 a)) ks),λp=>c.length-p.1.toNat,[]⟩
theorem bP2 (st g:Int) (d:List Ins) (e f:List Int) (sp:Spans) (rd:Reads) (h:Holds) (ce:List (Int×Int)) (op ks oc i many l m:Int) (j a:List Int) (k:List Ins):vc (EVy ylR (some as2) [(61,cContains)]) (bo0 a rd i many) Go.Proofs.Tryd.f83 aW9 (st,g,d,e,f,sp,rd,h,ce,op,ks,oc,i,many,l,m,j,a,k,())=(
 let q:Int×Int×List Ins×List Int×List Int×List (Int×Span)×List (Int×List Int)×List (Place×Int)×List (Int×Int)×Int×Int×Int×Int×Int×Unit:=
  ((0:Int),g,d,e,f,sp,F7 rd (B3 a) i,h,ce,op,ks,oc,i,many+(↑(List.length (B3 a)):Int),());
 let c:Int:=(↑(List.length a):Int);
  Small RU (Sigma.mk (Ty.slice (52:Nat) (Ty.user (0:Nat))) d)->
  Small RU (Sigma.mk (Ty.slice (3:Nat) (Ty.int IntKind.i64)) e)->
  Small RU (Sigma.mk (Ty.slice (3:Nat) (Ty.int IntKind.i64)) f)->
  Small RU (Sigma.mk (Ty.slice (3:Nat) (Ty.int IntKind.i64)) j)->
  Small RU (Sigma.mk (Ty.slice (3:Nat) (Ty.int IntKind.i64)) a)->
  Small RU (Sigma.mk (Ty.slice (52:Nat) (Ty.user (0:Nat))) k)->
  (∃ (p:Int×Int×List (Int×List Int)×Int×Unit),
  a=a/\
  c=c/\
  (0:Int)=p.1/\
  st=p.2.1/\
  g=g/\
  d=d/\
  e=e/\
  f=f/\
  op=op/\
  ks=ks/\
  oc=oc/\
  rd=p.2.2.1/\
  sp=sp/\
  h=h/\
  ce=ce/\
  i=i/\
  many=p.2.2.2.1/\
  l=l/\
  m=m/\
  j=j/\
  a=a/\
  k=k/\
  (0:Int)<=p.1/\
  p.1<=c/\
  p.2.1=(0:Int)/\
  p.2.2.1=F7 rd (B3 (List.take (Int.toNat p.1) a)) i/\
  p.2.2.2.1=many+(↑(List.length (B3 (List.take (Int.toNat p.1) a))):Int))/\
  ∀ (p:Int×Int×List (Int×List Int)×Int×Unit),
 let e0_1:Int:=p.2.2.2.1;
 let e1_1:List (Int×List Int):=p.2.2.1;
 let r:List (Int×List Int):=mput eqI e1_1 (List.getD a (Int.toNat p.1) (0:Int)) (getL e1_1 (List.getD a (Int.toNat p.1) (0:Int))++[i]);
 let b:Int:=p.1;
 let o:Int:=p.2.1;
 let s:Bool:=decide (b<c);
 let t:Bool:=List.contains (List.take (Int.toNat b) a) (List.getD a (Int.toNat b) (0:Int));
 let u:Int:=e0_1+(1:Int);
  (0:Int)<=b/\b<=c/\o=(0:Int)/\e1_1=F7 rd (B3 (List.take (Int.toNat b) a)) i/\e0_1=many+(↑(List.length (B3 (List.take (Int.toNat b) a))):Int)->
  (s=true->
  ((0:Int)<=b/\b<c)/\
  ((0:Int)<=b/\b<=c)/\
  (t=true->
  ∃ (p':Int×Int×List (Int×List Int)×Int×Unit),
  a=a/\
  c=c/\
  IntKind.i64.wrap (b+(1:Int))=p'.1/\
  o=p'.2.1/\
  g=g/\
  d=d/\
  e=e/\
  f=f/\
  op=op/\
  ks=ks/\
  oc=oc/\
  e1_1=p'.2.2.1/\
  sp=sp/\
  h=h/\
  ce=ce/\
  i=i/\
  e0_1=p'.2.2.2.1/\
  l=l/\
  m=m/\
  j=j/\
  a=a/\
  k=k/\
  ((0:Int)<=p'.1/\
  p'.1<=c/\
  p'.2.1=(0:Int)/\
  p'.2.2.1=F7 rd (B3 (List.take (Int.toNat p'.1) a)) i/\
  p'.2.2.2.1=many+(↑(List.length (B3 (List.take (Int.toNat p'.1) a))):Int))/\
  List.length a-Int.toNat p'.1<List.length a-Int.toNat b)/\
  (t=false->
  (o=(0:Int)/\(∀ (n:Int),List.length (getL e1_1 n)<=(1000001:Nat))/\(0:Int)<=e0_1/\e0_1<=(140737488356000:Int))/\
  ((!true)=true->((0:Int),g,d,e,f,sp,r,h,ce,op,ks,oc,i,u,())=q)/\
  ((!true)=false->
  ∃ (p':Int×Int×List (Int×List Int)×Int×Unit),
  a=a/\
  c=c/\
  IntKind.i64.wrap (b+(1:Int))=p'.1/\
  (0:Int)=p'.2.1/\
  g=g/\
  d=d/\
  e=e/\
  f=f/\
  op=op/\
  ks=ks/\
  oc=oc/\
  r=p'.2.2.1/\
  sp=sp/\
  h=h/\
  ce=ce/\
  i=i/\
  u=p'.2.2.2.1/\
  l=l/\
  m=m/\
  j=j/\
  a=a/\
  k=k/\
  ((0:Int)<=p'.1/\
  p'.1<=c/\
  p'.2.1=(0:Int)/\
  p'.2.2.1=F7 rd (B3 (List.take (Int.toNat p'.1) a)) i/\
  p'.2.2.2.1=many+(↑(List.length (B3 (List.take (Int.toNat p'.1) a))):Int))/\
  List.length a-Int.toNat p'.1<List.length a-Int.toNat b)))/\
  (s=false->(o,g,d,e,f,sp,e1_1,h,ce,op,ks,oc,i,e0_1,())=q)):=by kernel_rfl
theorem bX8 (a:Int) (b:List Ins) (c d:List Int) (ks:Int):vc (EVd [] itAlloc [(41,cCheck),(51,cSpans),(52,cReads),(53,cDo),(54,cSlot)]) (bP1 a b c ks) Go.Proofs.Tryd.f15 cAlloc (a,b,c,d,ks,())=(
 let j:Int×Int×Int×List RIns×List Place×Int×Unit:=
  ((B0 (VFun.mk a b c d) ks).1.params,(B0 (VFun.mk a b c d) ks).1.slots,(B0 (VFun.mk a b c d) ks).1.cells,(B0 (VFun.mk a b c d) ks).1.code,
  (B0 (VFun.mk a b c d) ks).1.out,(B0 (VFun.mk a b c d) ks).2,());
 let g:Bool:=decide (ks<(1:Int))||decide (ks >(64:Int));
 let e:Int:=(↑(List.length b):Int);
 let f:Ins:=Ins.mk (0:Int) (0:Int) [] [] [];
 let h:Bool:=E6 (VFun.mk a b c d) !=(0:Int);
 let l:Int:=(↑(List.length c):Int);
 let i:Int:=E6 (VFun.mk a b c d);
  Small RU (Sigma.mk (Ty.slice (52:Nat) (Ty.user (0:Nat))) b)->
  Small RU (Sigma.mk (Ty.slice (3:Nat) (Ty.int IntKind.i64)) c)->
  Small RU (Sigma.mk (Ty.slice (3:Nat) (Ty.int IntKind.i64)) d)->
  (h=true->((0:Int),(0:Int),(0:Int),[],[],i,())=j)/\
  (h=false->
  (g=true->((0:Int),(0:Int),(0:Int),[],[],(2:Int),())=j)/\
  (g=false->
  a<=(4000:Int)/\
  (∃ (p:Int×List (Int×List Int)×Unit),
  a=a/\
  b=b/\
  c=c/\
  d=d/\
  ks=ks/\
  i=i/\
  h=h/\
  g=g/\
  a=a/\
  b=b/\
  c=c/\
  d=d/\
  b=b/\
  e=e/\
  (0:Int)=p.1/\
  a=a/\
  b=b/\
  c=c/\
  d=d/\
  (0:Int)=(0:Int)/\
  (0:Int)=(0:Int)/\
  (0:Int)=(0:Int)/\
  A6 a b c=A6 a b c/\
  []=p.2.1/\
  ([]:List (Place×Int))=[]/\
  ([]:List (Int×Int))=[]/\
  a=a/\
  b=b/\
  c=c/\
  d=d/\
  a=a/\
  ks=ks/\
  a=a/\
  (0:Int)<=p.1/\
  p.1<=e/\
  p.2.1=N3 (List.take (Int.toNat p.1) b) (0:Int) []/\
  List.all (List.take (Int.toNat p.1) b) (fewX ks)=true)/\
  ∀ (p:Int×List (Int×List Int)×Unit),
 let e0_1:Bool:=
  decide ((0:Int)+(↑(List.length (B3 (List.getD b (Int.toNat p.1) f).from_)):Int) >ks)||decide ((↑(List.length (List.getD b (Int.toNat p.1) f).to):Int) >ks);
 let e1_1:List (Int×List Int):=p.2.1;
 let e2_1:Bool:=decide (p.1<e);
 let e3_1:Int:=p.1;
  (0:Int)<=e3_1/\e3_1<=e/\e1_1=N3 (List.take (Int.toNat e3_1) b) (0:Int) []/\List.all (List.take (Int.toNat e3_1) b) (fewX ks)=true->
  (e2_1=true->
  ((0:Int)<=e3_1/\e3_1<e)/\
  (∀
  (xs:
  Int×
  Int×
  Int×List Ins×List Int×List Int×List (Int×Span)×List (Int×List Int)×List (Place×Int)×List (Int×Int)×Int×Int×Int×Int×Int×Unit),
 let j:Int:=xs.2.2.2.2.2.2.2.2.2.2.2.2.2.1;
 let g:Int×Int×Int×Unit:=xs.2.2.2.2.2.2.2.2.2.2.2.2;
 let e:List Int:=Option.getD (mget (λ(x y:Int)=>x==y) xs.2.2.2.2.2.2.2.1 xs.1) [];
 let f:Int×Int×Int×Int×Int×Unit:=xs.2.2.2.2.2.2.2.2.2.2;
 let h:List (Place×Int)×List (Int×Int)×Int×Int×Int×Int×Int×Unit:=xs.2.2.2.2.2.2.2.2;
 let l:List (Int×Span)×List (Int×List Int)×List (Place×Int)×List (Int×Int)×Int×Int×Int×Int×Int×Unit:=xs.2.2.2.2.2.2;
 let i:List Int:=xs.2.2.2.2.2.1;
 let q:List Int:=xs.2.2.2.2.1;
 let m:List Ins:=xs.2.2.2.1;
 let r:Int:=xs.1;
 let o:
  Int×
  Int×List Ins×List Int×List Int×List (Int×Span)×List (Int×List Int)×List (Place×Int)×List (Int×Int)×Int×Int×Int×Int×Int×Unit:=
  xs.2;
  xs.2.1=(0:Int)/\
  (∀ (n:Int),List.length (getL xs.2.2.2.2.2.2.2.1 n)<=(1000001:Nat))/\
  (0:Int)<=xs.2.2.2.2.2.2.2.2.2.2.2.2.2.2.1/\xs.2.2.2.2.2.2.2.2.2.2.2.2.2.2.1<=(140737488356000:Int)->
  Small RU (Sigma.mk (Ty.slice (52:Nat) (Ty.user (0:Nat))) m)->
  Small RU (Sigma.mk (Ty.slice (3:Nat) (Ty.int IntKind.i64)) q)->
  Small RU (Sigma.mk (Ty.slice (3:Nat) (Ty.int IntKind.i64)) i)->
  o.1=(0:Int)/\
  (List.length e+List.length [j])*(8:Nat)<=(140737488355328:Nat)/\
  r=r/\
  (true,(0:Int),o.2.1,m,q,i,l.1,mput (λ(x y:Int)=>x==y) l.2.1 r (e++[j]),h.1,h.2.1,f.1,f.2.1,
  g.1,j,IntKind.i64.wrap (g.2.2.1+(1:Int)),())=
  as2.fn xs)/\
  ((0:Int)=(0:Int)/\(∀ (n:Int),List.length (getL e1_1 n)<=(1000000:Nat))/\(0:Int)=(0:Int))/\
  (0:Int)=(0:Int)/\
  (e0_1=true->((0:Int),(0:Int),(0:Int),[],[],(9:Int),())=j)/\
  (e0_1=false->
  ∃ (p':Int×List (Int×List Int)×Unit),
  a=a/\
  b=b/\
  c=c/\
  d=d/\
  ks=ks/\
  i=i/\
  h=h/\
  g=g/\
  a=a/\
  b=b/\
  c=c/\
  d=d/\
  b=b/\
  e=e/\
  IntKind.i64.wrap (e3_1+(1:Int))=p'.1/\
  a=a/\
  b=b/\
  c=c/\
  d=d/\
  (0:Int)=(0:Int)/\
  (0:Int)=(0:Int)/\
  (0:Int)=(0:Int)/\
  A6 a b c=A6 a b c/\
  F7 e1_1 (B3 (List.getD b (Int.toNat e3_1) f).from_) e3_1=p'.2.1/\
  ([]:List (Place×Int))=[]/\
  ([]:List (Int×Int))=[]/\
  a=a/\
  b=b/\
  c=c/\
  d=d/\
  a=a/\
  ks=ks/\
  a=a/\
  ((0:Int)<=p'.1/\
  p'.1<=e/\
  p'.2.1=N3 (List.take (Int.toNat p'.1) b) (0:Int) []/\
  List.all (List.take (Int.toNat p'.1) b) (fewX ks)=true)/\
  List.length b-Int.toNat p'.1<List.length b-Int.toNat e3_1))/\
  (e2_1=false->
  (∃ (p:Int×List (Int×Int)×Unit),
  a=a/\
  b=b/\
  c=c/\
  d=d/\
  ks=ks/\
  i=i/\
  h=h/\
  g=g/\
  a=a/\
  b=b/\
  c=c/\
  d=d/\
  b=b/\
  e=e/\
  e3_1=e3_1/\
  e2_1=e2_1/\
  a=a/\
  (0:Int)=p.1/\
  a=a/\
  b=b/\
  c=c/\
  d=d/\
  (0:Int)=(0:Int)/\
  (0:Int)=(0:Int)/\
  (0:Int)=(0:Int)/\
  A6 a b c=A6 a b c/\
  e1_1=e1_1/\
  ([]:List (Place×Int))=[]/\
  []=p.2.1/\
  a=a/\
  b=b/\
  c=c/\
  d=d/\a=a/\ks=ks/\a=a/\(0:Int)<=p.1/\p.1<=a/\p.2.1=ah3 (Int.toNat p.1))/\
  ∀ (p:Int×List (Int×Int)×Unit),
 let e0_2:Bool:=decide (p.1<a);
 let e1_2:Int:=p.1;
 let e2_2:List (Int×Int):=p.2.1;
  (0:Int)<=e1_2/\e1_2<=a/\e2_2=ah3 (Int.toNat e1_2)->
  (e0_2=true->
  ∃ (p':Int×List (Int×Int)×Unit),
  a=a/\
  b=b/\
  c=c/\
  d=d/\
  ks=ks/\
  i=i/\
  h=h/\
  g=g/\
  a=a/\
  b=b/\
  c=c/\
  d=d/\
  b=b/\
  e=e/\
  e3_1=e3_1/\
  e2_1=e2_1/\
  a=a/\
  IntKind.i64.wrap (e1_2+(1:Int))=p'.1/\
  a=a/\
  b=b/\
  c=c/\
  d=d/\
  (0:Int)=(0:Int)/\
  (0:Int)=(0:Int)/\
  (0:Int)=(0:Int)/\
  A6 a b c=A6 a b c/\
  e1_1=e1_1/\
  ([]:List (Place×Int))=[]/\
  mput (λ(x y:Int)=>x==y) e2_2 e1_2 e1_2=p'.2.1/\
  a=a/\
  b=b/\
  c=c/\
  d=d/\
  a=a/\
  ks=ks/\
  a=a/\
  ((0:Int)<=p'.1/\p'.1<=a/\p'.2.1=ah3 (Int.toNat p'.1))/\
  Int.toNat a-Int.toNat p'.1<Int.toNat a-Int.toNat e1_2)/\
  (e0_2=false->
  (∃ (p:Int×List (Place×Int)×List (Int×Int)×Int×List RIns×Unit),
  a=a/\
  b=b/\
  c=c/\
  d=d/\
  ks=ks/\
  i=i/\
  h=h/\
  g=g/\
  a=a/\
  b=b/\
  c=c/\
  d=d/\
  b=b/\
  e=e/\
  e3_1=e3_1/\
  e2_1=e2_1/\
  a=a/\
  e1_2=e1_2/\
  e0_2=e0_2/\
  b=b/\
  e=e/\
  (0:Int)=p.1/\
  a=a/\
  b=b/\
  c=c/\
  d=d/\
  (0:Int)=(0:Int)/\
  (0:Int)=(0:Int)/\
  (0:Int)=(0:Int)/\
  A6 a b c=A6 a b c/\
  e1_1=e1_1/\
  []=p.2.1/\
  e2_2=p.2.2.1/\
  a=a/\
  b=b/\
  c=c/\
  d=d/\
  a=a/\
  ks=ks/\
  a=p.2.2.2.1/\
  []=p.2.2.2.2.1/\
  ([]:List Place)=[]/\
  (0:Int)<=p.1/\
  p.1<=e/\
  runA (A6 a b c) (E3 b) ks e (List.take (Int.toNat p.1) b)
  (0:Int) (H6 a)=
  AS.mk p.2.1 p.2.2.1 p.2.2.2.1
  p.2.2.2.2.1)/\
  ∀ (p:Int×List (Place×Int)×List (Int×Int)×Int×List RIns×Unit),
 let e0_3:AS:=AS.mk p.2.1 p.2.2.1 p.2.2.2.1 p.2.2.2.2.1;
 let e1_3:Int:=p.2.2.2.1;
 let e2_3:AS:=
  doOf (A6 a b c) e1_1 ks e p.1
  (Ins.mk (List.getD b (Int.toNat p.1) f).op (List.getD b (Int.toNat p.1) f).n (List.getD b (Int.toNat p.1) f).to
  (List.getD b (Int.toNat p.1) f).from_ (List.getD b (Int.toNat p.1) f).body)
  e0_3;
 let e3_2:List RIns:=p.2.2.2.2.1;
 let e4_1:Int:=p.1;
 let e5_1:List (Int×Int):=p.2.2.1;
 let e6_1:List (Place×Int):=p.2.1;
 let q:Bool:=decide (e4_1<e);
 let m:List Int:=B3 (List.getD b (Int.toNat e4_1) f).from_;
 let r:List Int:=(List.getD b (Int.toNat e4_1) f).to;
 let o:Int:=e4_1+(1:Int);
  (0:Int)<=e4_1/\e4_1<=e/\runA (A6 a b c) (E3 b) ks e (List.take (Int.toNat e4_1) b) (0:Int) (H6 a)=e0_3->
  (q=true->
  ((0:Int)<=e4_1/\e4_1<e)/\
  (ag6 r (List.getD b (Int.toNat e4_1) f).from_ (List.getD b (Int.toNat e4_1) f).body=true/\
  List.length (List.getD b (Int.toNat e4_1) f).from_<=(17592186044400:Nat)/\
  List.length m<=(64:Nat)/\
  List.length r<=(64:Nat)/\
  (∀ (n:Int),List.Pairwise (λ(s t:Int)=>s<=t) (getL e1_1 n))/\
  ((∀ (k:Nat),
 let j:Option Int×List Held:=
  K9 (A6 a b c) e1_1 ks e (C3 (A6 a b c) e1_1 ks e e4_1 m e0_3 (List.take k m)).holds e4_1 m;
  k<List.length m->
  (D4 (C3 (A6 a b c) e1_1 ks e e4_1 m e0_3 (List.take k m)).holds ks (List.getD m k (0:Int))).cell=true->
  j.1=none->j.2≠[])/\
  ∀ (k:Nat),
 let j:Option Int×List Held:=
  K9 (A6 a b c) e1_1 ks e
  (I8 (A6 a b c) e1_1 ks e e4_1 r (C3 (A6 a b c) e1_1 ks e e4_1 m e0_3 m) (List.take k r)).holds o r;
  k<List.length r->j.1=none->j.2≠[])/\
  ks<=(64:Int)/\
  (0:Int)<=e4_1/\e4_1<=(1000000:Int)/\(0:Int)<=e1_3/\e1_3<=(100000000:Int)/\List.length e3_2<=(100000000:Nat))/\
  ∃ (p':Int×List (Place×Int)×List (Int×Int)×Int×List RIns×Unit),
  a=a/\
  b=b/\
  c=c/\
  d=d/\
  ks=ks/\
  i=i/\
  h=h/\
  g=g/\
  a=a/\
  b=b/\
  c=c/\
  d=d/\
  b=b/\
  e=e/\
  e3_1=e3_1/\
  e2_1=e2_1/\
  a=a/\
  e1_2=e1_2/\
  e0_2=e0_2/\
  b=b/\
  e=e/\
  IntKind.i64.wrap o=p'.1/\
  a=a/\
  b=b/\
  c=c/\
  d=d/\
  (0:Int)=(0:Int)/\
  (0:Int)=(0:Int)/\
  (0:Int)=(0:Int)/\
  A6 a b c=A6 a b c/\
  e1_1=e1_1/\
  e2_3.holds=p'.2.1/\
  e2_3.cells=p'.2.2.1/\
  a=a/\
  b=b/\
  c=c/\
  d=d/\
  a=a/\
  ks=ks/\
  e2_3.ocells=p'.2.2.2.1/\
  e2_3.code=p'.2.2.2.2.1/\
  ([]:List Place)=[]/\
  ((0:Int)<=p'.1/\
  p'.1<=e/\
  runA (A6 a b c) (E3 b) ks e
  (List.take (Int.toNat p'.1) b) (0:Int)
  (H6 a)=
  AS.mk p'.2.1 p'.2.2.1 p'.2.2.2.1
  p'.2.2.2.2.1)/\
  List.length b-Int.toNat p'.1<
  List.length b-Int.toNat e4_1)/\
  (q=false->
  (∃ (p:Int×List Place×Unit),
  a=a/\
  b=b/\
  c=c/\
  d=d/\
  ks=ks/\
  i=i/\
  h=h/\
  g=g/\
  a=a/\
  b=b/\
  c=c/\
  d=d/\
  b=b/\
  e=e/\
  e3_1=e3_1/\
  e2_1=e2_1/\
  a=a/\
  e1_2=e1_2/\
  e0_2=e0_2/\
  b=b/\
  e=e/\
  e4_1=e4_1/\
  q=q/\
  c=c/\
  l=l/\
  (0:Int)=p.1/\
  a=a/\
  b=b/\
  c=c/\
  d=d/\
  (0:Int)=(0:Int)/\
  (0:Int)=(0:Int)/\
  (0:Int)=(0:Int)/\
  A6 a b c=A6 a b c/\
  e1_1=e1_1/\
  e6_1=e6_1/\
  e5_1=e5_1/\
  a=a/\
  b=b/\
  c=c/\
  d=d/\
  a=a/\
  ks=ks/\
  e1_3=e1_3/\
  e3_2=e3_2/\
  []=p.2.1/\
  (0:Int)<=p.1/\
  p.1<=l/\
  p.2.1=
  List.map
  (outA
  (runA (A6 a b c) (E3 b) ks e b
  (0:Int) (H6 a))
  ks)
  (List.take (Int.toNat p.1) c))/\
  ∀ (p:Int×List Place×Unit),
 let e0_4:Bool:=
  (D4 e6_1 ks (List.getD c (Int.toNat p.1) (0:Int))).cell==true&&
  ((D4 e6_1 ks (List.getD c (Int.toNat p.1) (0:Int))).n==(-1:Int)&&true);
 let e1_4:List Place:=
  [Place.mk (bif e0_4 then true else (D4 e6_1 ks (List.getD c (Int.toNat p.1) (0:Int))).cell)
  (bif e0_4 then Option.getD (mget (λ(x y:Int)=>x==y) e5_1 (List.getD c (Int.toNat p.1) (0:Int))) (0:Int)
  else (D4 e6_1 ks (List.getD c (Int.toNat p.1) (0:Int))).n)];
 let e2_4:List Place:=p.2.1;
 let f:Int:=p.1;
 let e4_2:Bool:=decide (f<l);
  (0:Int)<=f/\f<=l/\e2_4=List.map (outA (runA (A6 a b c) (E3 b) ks e b (0:Int) (H6 a)) ks) (List.take (Int.toNat f) c)->
  (e4_2=true->
  ((0:Int)<=f/\f<l)/\
  ks<=(64:Int)/\
  (List.length (bif e0_4 then e2_4 else e2_4)+List.length e1_4)*(16:Nat)<=(140737488355328:Nat)/\
  ∃ (p':Int×List Place×Unit),
  (bif e0_4 then a else a)=a/\
  (bif e0_4 then b else b)=b/\
  (bif e0_4 then c else c)=c/\
  (bif e0_4 then d else d)=d/\
  (bif e0_4 then ks else ks)=ks/\
  (bif e0_4 then i else i)=i/\
  (bif e0_4 then h else h)=h/\
  (bif e0_4 then g else g)=g/\
  (bif e0_4 then a else a)=a/\
  (bif e0_4 then b else b)=b/\
  (bif e0_4 then c else c)=c/\
  (bif e0_4 then d else d)=d/\
  (bif e0_4 then b else b)=b/\
  (bif e0_4 then e else e)=e/\
  (bif e0_4 then e3_1 else e3_1)=e3_1/\
  (bif e0_4 then e2_1 else e2_1)=e2_1/\
  (bif e0_4 then a else a)=a/\
  (bif e0_4 then e1_2 else e1_2)=e1_2/\
  (bif e0_4 then e0_2 else e0_2)=e0_2/\
  (bif e0_4 then b else b)=b/\
  (bif e0_4 then e else e)=e/\
  (bif e0_4 then e4_1 else e4_1)=e4_1/\
  (bif e0_4 then q else q)=q/\
  (bif e0_4 then c else c)=c/\
  (bif e0_4 then l else l)=l/\
  IntKind.i64.wrap ((bif e0_4 then f else f)+(1:Int))=p'.1/\
  (bif e0_4 then a else a)=a/\
  (bif e0_4 then b else b)=b/\
  (bif e0_4 then c else c)=c/\
  (bif e0_4 then d else d)=d/\
  (bif e0_4 then (0:Int) else (0:Int))=(0:Int)/\
  (bif e0_4 then (0:Int) else (0:Int))=(0:Int)/\
  (bif e0_4 then (0:Int) else (0:Int))=(0:Int)/\
  (bif e0_4 then A6 a b c else A6 a b c)=A6 a b c/\
  (bif e0_4 then e1_1 else e1_1)=e1_1/\
  (bif e0_4 then e6_1 else e6_1)=e6_1/\
  (bif e0_4 then e5_1 else e5_1)=e5_1/\
  (bif e0_4 then a else a)=a/\
  (bif e0_4 then b else b)=b/\
  (bif e0_4 then c else c)=c/\
  (bif e0_4 then d else d)=d/\
  (bif e0_4 then a else a)=a/\
  (bif e0_4 then ks else ks)=ks/\
  (bif e0_4 then e1_3 else e1_3)=e1_3/\
  (bif e0_4 then e3_2 else e3_2)=e3_2/\
  (bif e0_4 then e2_4 else e2_4)++e1_4=
  p'.2.1/\
  ((0:Int)<=p'.1/\
  p'.1<=l/\
  p'.2.1=
  List.map
  (outA
  (runA (A6 a b c)
  (E3 b) ks e b (0:Int)
  (H6 a))
  ks)
  (List.take (Int.toNat p'.1)
  c))/\
  List.length c-Int.toNat p'.1<
  List.length c-Int.toNat f)/\
  (e4_2=false->(a,ks,e1_3,e3_2,e2_4,(0:Int),())=j))))))):=by kernel_rfl
theorem M4 (l:List Int):(B3 l).Nodup:=by
 have key:∀ (l seen:List Int),(G2 seen l).Nodup/\∀ x∈G2 seen l,x∉seen:=by
  intro l
  induction l with
  |nil=>intro seen;simp [G2]
  |cons y r ih=>
   intro seen;obtain ⟨h1,h2⟩:=ih (seen++[y]);simp only [G2];cases hc:seen.contains y with
   |true=>exact ⟨h1,λx a h=>h2 x a (by simp [h])⟩
   |false=>
    have hc:y∉seen:=by rw [Bool.eq_false_iff,ne_eq,List.contains_iff_mem] at hc;exact hc
    simp only [cond_false];refine ⟨List.nodup_cons.2 ⟨λh=>h2 y h (by simp),h1⟩,λx a h=>?_⟩;rcases List.mem_cons.1 a with rfl|a
    .exact hc h
    .exact h2 x a (by simp [h])
 exact (key l []).1
theorem aX0 (m:Reads) (l:List Int) (x i:Int):F7 m (l++[x]) i=mput eqI (F7 m l i) x (getL (F7 m l i) x++[i]):=by simp [F7]
theorem ah7 (i n:Int):∀ (l:List Int) (m:Reads),l.Nodup->(getL (F7 m l i) n).length<=(getL m n).length+(if n∈l then 1 else 0)
 |[],m,_=>by simp [F7]
 |y::r,m,h=>by
  obtain ⟨h1,h2⟩:=List.nodup_cons.1 h;have:=ah7 i n r (mput eqI m y (getL m y++[i])) h2;rw [aI7] at this;show (getL (F7 (mput eqI m y (getL m y++[i])) r i) n).length<=_;by_cases a:y=n
  .subst a;rw [if_pos rfl,if_neg h1] at this;simp only [cr3,cq8,List.length_nil] at this;rw [if_pos (by simp)];omega
  .rw [if_neg a] at this;have b:(n∈y::r)<->n∈r:=by simp [Ne.symm a]
   simp only [b];exact this
theorem aI8 (n:Int):∀ (l:List Ins) (i:Int) (m:Reads),(getL (N3 l i m) n).length<=(getL m n).length+l.length
 |[],i,m=>by simp [N3]
 |x::r,i,m=>by have h1:=aI8 n r (i+1) (F7 m (B3 x.from_) i);have h2:=ah7 i n (B3 x.from_) m (M4 _);simp only [N3,cq8];split at h2<;>omega
theorem bP3 (st d:Int) (e:List Ins) (f g:List Int) (sp:Spans) (rd:Reads) (l:Holds) (ce:List (Int×Int)) (op ks oc i many s t:Int) (u a:List Int) (v:List Ins) (w:st=0/\(∀ n,(getL rd n).length<=1000000)/\many=0):
  vc (EVy ylR (some as2) [(61,cContains)]) (bo0 a rd i many) Go.Proofs.Tryd.f83 aW9 (st,d,e,f,g,sp,rd,l,ce,op,ks,oc,i,many,s,t,u,a,v,()):=by
 rw [bP2 st d e f g sp rd l ce op ks oc i many s t u a v];intro x y _ _ _ _ o _;have c:a.length<=140737488355328:=o.len;have p:x=(0,d,e,f,g,sp,F7 rd (B3 a) i,l,ce,op,ks,oc,i,many+(B3 a).length,()):=rfl
 clear_value x
 dsimp only [y];simp only [true_and,and_true];refine ⟨⟨(0,0,rd,many,()),rfl,w.1,rfl,rfl,Int.le_refl _,by dsimp only;omega,rfl,rfl,by simp [B3,G2]⟩,?_⟩;rintro ⟨j,s0,m,mm,⟨⟩⟩ ⟨h0,h1,h2,h3,h4⟩;dsimp only at h0 h1 h2 h3 h4 |-;obtain ⟨k,rfl⟩:=cp8 h0;simp only [cp6] at h3 h4 |-;subst h2;refine ⟨λb=>?_,λr=>?_⟩
 .have b:(k:Int)<a.length:=cq2 b;have hs:=aP4 (a.take k) (a.getD k 0);rw [<-A5 (by omega)] at hs;have hl:=ah1 (a.take k);rw [cs4] at hl;refine ⟨⟨h0,b⟩,⟨h0,by omega⟩,λq=>?_,λq=>⟨⟨rfl,λn=>?_,by omega,by omega⟩,λh=>(by cases h),λ_=>?_⟩⟩
  .rw [q] at hs;exact ⟨((k+1:Nat),0,m,mm,()),B8 (by omega) c,rfl,rfl,rfl,⟨by omega,by dsimp only;omega,rfl,by dsimp only;rw [cp6,hs];exact h3,by dsimp only;rw [cp6,hs];exact h4⟩,by dsimp only;omega⟩
  .have z:=ah7 i n (B3 (a.take k)) rd (M4 _);have B:=w.2.1 n;rw [h3];split at z<;>omega
  .rw [q,cond_false] at hs;refine ⟨((k+1:Nat),0,_,_,()),B8 (by omega) c,rfl,rfl,rfl,⟨by omega,by dsimp only;omega,rfl,?_,?_⟩,by dsimp only;omega⟩
   .dsimp only;rw [cp6,hs,aX0,<-h3]
   .dsimp only;rw [cp6,hs,cr3,h4];simp only [cq8,List.length_nil];omega
 .have A:k=a.length:=by have:¬ (k:Int)<a.length:=cq1 r;omega
  subst A;rw [cs3] at h3 h4;rw [p,h3,h4]
theorem bD6:ItOk itAlloc:=by
 intro f k kY mp h Y' p;unfold itAlloc at h;cases hf:Nat.beq f 83 with
 |false=>rw [hf] at h;cases h
 |true=>
  have hf:=cp3 hf;subst hf;simp only [Nat.beq_refl,cond_true,List.mem_cons,List.not_mem_nil,or_false,cq4] at h;obtain ⟨rfl,rfl,rfl⟩:=h;exact aj7 (E:=EVy ylR (some as2) [(61,cContains)]) (bU5 _ _ _) ⟨X9 (λx a=>by rcases List.mem_cons.1 a with rfl|a;exact N6 _;cases a),λ_ _ _ _ _ h=>(by cases h),λ_ _ _ h=>(by cases h),λk q=>by cases q;exact p,λ_ _ _ _ h=>(by cases h)⟩ bk9 Go.Proofs.Tryd.func83 (by kernel_rfl)
    (λ(st,c,d,e,g,sp,rd,j,ce,op,ks,oc,i,many,l,m,n,b,o,())=>bo0 b rd i many) (λ(st,c,d,e,g,sp,rd,j,ce,op,ks,oc,i,many,l,m,n,b,o,()) r=>bP3 st c d e g sp rd j ce op ks oc i many l m n b o r) (by kernel_rfl) rfl
theorem aP7:∀ {l:List Ins},I3 l=true->∀ x∈l,aK6 x=true
 |[],_,x,a=>by simp at a
 |y::r,h,x,a=>by
  simp only [I3,cp5] at h;rcases List.mem_cons.1 a with rfl|a
  .exact h.1
  .exact aP7 h.2 x a
theorem bX9 (a:Int) (b:List Ins) (c d:List Int) (ks:Int) (hp:N0 b=true/\I3 b=true/\c.length<=8796093022200):vc (EVd [] itAlloc [(41,cCheck),(51,cSpans),(52,cReads),(53,cDo),(54,cSlot)]) (bP1 a b c ks) Go.Proofs.Tryd.f15 cAlloc (a,b,c,d,ks,()):=by
 rw [bX8 a b c d ks];intro O Y e2 Z P e5 N _ _ _;obtain ⟨Q,R,hp3⟩:=hp;have o:O=((B0 ⟨a,b,c,d⟩ ks).1.params,(B0 ⟨a,b,c,d⟩ ks).1.slots,(B0 ⟨a,b,c,d⟩ ks).1.cells,(B0 ⟨a,b,c,d⟩ ks).1.code,(B0 ⟨a,b,c,d⟩ ks).1.out,(B0 ⟨a,b,c,d⟩ ks).2,()):=rfl;have s:N=E6 ⟨a,b,c,d⟩:=rfl;have y:P=(N !=0):=rfl;have z:Y=(decide (ks<1)||decide (ks >64)):=rfl;have S:Z=ins0:=rfl;have hA:B0 ⟨a,b,c,d⟩ ks=if E6 ⟨a,b,c,d⟩≠0 then (aG0,E6 ⟨a,b,c,d⟩) else if ks<1\/64<ks then (aG0,2) else if b.all (fewX ks)=false then (aG0,9)
   else (⟨a,ks,(runA (A6 a b c) (E3 b) ks b.length b 0 (H6 a)).ocells,(runA (A6 a b c) (E3 b) ks b.length b 0 (H6 a)).code,c.map (outA (runA (A6 a b c) (E3 b) ks b.length b 0 (H6 a)) ks)⟩,0):=rfl
 rw [hA] at o;clear hA
 clear_value O Y Z P
 subst S;have D:P=true->((0:Int),(0:Int),(0:Int),([]:List RIns),([]:List Place),N,())=O:=λh=>by
  have:E6 ⟨a,b,c,d⟩≠0:=by rw [y] at h;simpa [s] using h
  rw [o,if_pos this,<-s];rfl
 refine ⟨D,λh4=>⟨λh=>?_,λh=>?_⟩⟩
 .have E:¬ E6 ⟨a,b,c,d⟩≠0:=by rw [y] at h4;simpa [s] using h4
  have F:ks<1\/64<ks:=by rw [z] at h;simp only [Bool.or_eq_true,cr4] at h;omega
  rw [o,if_neg E,if_pos F];rfl
 have E:E6 ⟨a,b,c,d⟩=0:=by rw [y] at h4;simpa [s] using h4
 have F:1<=ks/\ks<=64:=by rw [z] at h;simp only [Bool.or_eq_false_iff,decide_eq_false_iff_not] at h;omega
 have C:=bm5 E;rw [if_neg (by rw [E];simp),if_neg (by omega)] at o;clear D E s
 clear_value N
 clear y z h4 h;have hlen:=C.len;have G:=C.pos;have hfew:=C.few;dsimp only [e2,e5];simp only [true_and,and_true,Bool.cond_self,Bool.and_true,bg2];refine ⟨C.few,⟨(0,[],()),rfl,rfl,Int.le_refl _,by dsimp only;omega,rfl,rfl⟩,?_⟩;rintro ⟨j,rd,⟨⟩⟩ ⟨h0,h1,h2,h3⟩;dsimp only at h0 h1 h2 h3 |-;obtain ⟨k,rfl⟩:=cp8 h0;simp only [cp6] at h2 h3 |-;refine ⟨λe=>?_,λg=>?_⟩
 .have e:(k:Int)<b.length:=cq2 e;have f:k<b.length:=by omega
  have hb:∀ x:Bool,fewX ks (b.getD k ins0)=x->b.all (fewX ks)=true->x=true:=λx h1 h2=>by rw [<-h1];exact cs5.1 h2 _ (G3 f _)
  have p:N3 (b.take (k+1)) 0 []=F7 rd (B3 (b.getD k ins0).from_) k:=by rw [A5 f ins0,ah6,cs4,Nat.min_eq_left (by omega),<-h2];simp
  have r:fewX ks (b.getD k ins0)=true->(b.take (k+1)).all (fewX ks)=true:=λh=>ar6 ins0 f h3 h;have t:fewX ks (b.getD k ins0)=false->b.all (fewX ks)=false:=λh=>aV5 ins0 f h;obtain ⟨x,T⟩:∃ x,b.getD k ins0=x:=⟨_,rfl⟩;simp only [T] at hb p r t |-;have H:(decide ((0:Int)+((B3 x.from_).length:Int) >ks)||decide ((x.to.length:Int) >ks))=!fewX ks x:=by unfold fewX;rw [Bool.eq_iff_iff];simp only [Bool.or_eq_true,cr4,Bool.not_eq_true',Bool.and_eq_false_iff,decide_eq_false_iff_not];omega
  rw [H];refine ⟨⟨h0,e⟩,?_,?_,λq=>?_,λq=>?_⟩
  .rintro ⟨n,st,a0,a1,a2,a3,sp,rd2,ho,ce,op,ks2,oc,i,many,⟨⟩⟩ ⟨q1,q2,q3,q4⟩ _ _ _;dsimp only at q1 q2 q3 q4 |-;have q5:=q2 n;refine ⟨q1,?_,?_⟩
   .show ((getL rd2 n).length+1)*8<=_;omega
   .rw [G0 (by omega) (by omega)];rfl
  .intro n;have:=aI8 n (b.take k) 0 [];rw [<-h2,cs4] at this;have hg:(getL ([]:Reads) n).length=0:=rfl;omega
  .have q:fewX ks x=false:=by simpa using q
   rw [o,if_pos (t q)];rfl
  .have q:fewX ks x=true:=by simpa using q
   exact ⟨((k+1:Nat),_,()),B8 f (by omega),rfl,⟨by omega,by dsimp only;omega,by dsimp only;rw [cp6,p];rfl,by dsimp only;rw [cp6];exact r q⟩,by dsimp only;omega⟩
 have I:k=b.length:=by have:¬ (k:Int)<b.length:=cq1 g;omega
 subst I;rw [cs3] at h2 h3;have U:rd=E3 b:=h2;subst U;clear h2 h0 h1 g;rw [if_neg (by rw [h3];simp)] at o;refine ⟨⟨(0,[],()),rfl,rfl,Int.le_refl _,G,rfl⟩,?_⟩;rintro ⟨j,ce,⟨⟩⟩ ⟨h0,h1,h2⟩;dsimp only at h0 h1 h2 |-;obtain ⟨k,rfl⟩:=cp8 h0;simp only [cp6] at h2 |-;subst h2;refine ⟨λe=>?_,λg=>?_⟩
 .have e:(k:Int)<a:=cq2 e;refine ⟨((k+1:Nat),ah3 (k+1),()),?_,(bn9 k).symm,⟨by omega,by dsimp only;omega,by dsimp only;rw [cp6]⟩,by dsimp only;omega⟩;rw [G0 (by omega) (by omega)];rfl
 have I:(k:Int)=a:=by have:¬ (k:Int)<a:=cq1 g;omega
 have V:H6 a=⟨[],ah3 k,a,[]⟩:=by
  have:a.toNat=k:=by omega
  simp only [H6,this]
 clear h0 h1 g;refine ⟨⟨(0,[],ah3 k,a,[],()),rfl,rfl,rfl,rfl,rfl,Int.le_refl _,by dsimp only;omega,by simp only [Int.toNat_zero,List.take_zero,runA];exact V⟩,?_⟩;rintro ⟨j,m,cc,oc,q,⟨⟩⟩ ⟨h0,h1,h2⟩;dsimp only at h0 h1 h2 |-;obtain ⟨u,rfl⟩:=cp8 h0;simp only [cp6] at h2 |-;have W:=bu7 F.2 (A6 a b c) (E3 b) b.length (b.take u) 0 (H6 a) (cs5.2 λx hx=>cs5.1 h3 x (List.mem_of_mem_take hx));rw [h2,cs4] at W;simp only [H6,List.length_nil] at W;refine ⟨λe=>?_,λg=>?_⟩
 .have e:(u:Int)<b.length:=cq2 e;have f:u<b.length:=by omega
  have X:=(bg5 C h3 (A6 a b c) (E3 b) b.length u (by omega)).2 f;rw [h2] at X;have v:runA (A6 a b c) (E3 b) ks b.length (b.take (u+1)) 0 (H6 a)=doOf (A6 a b c) (E3 b) ks b.length u (b.getD u ins0) ⟨m,cc,oc,q⟩:=by rw [A5 f ins0,as0,cs4,Nat.min_eq_left (by omega),h2]
  have w:=G3 f ins0;have J:=aP7 R _ w;have A:=cs5.1 Q _ w;have K:=cs5.1 h3 _ w;generalize b.getD u ins0=x at X v J A K |-;simp only [cp5,cr4] at A;simp only [fewX,cp5,cr4] at K;refine ⟨⟨h0,e⟩,⟨ak2.2 ((T5 x).1 J),A.1,by omega,by omega,al5 b,X,F.2,by omega,by omega,by omega,by omega,by omega⟩,((u+1:Nat),_,_,_,_,()),B8 f (by omega),rfl,rfl,rfl,rfl,⟨by omega,by dsimp only;omega,?_⟩,by dsimp only;omega⟩;dsimp only;rw [cp6,v];rfl
 have L:u=b.length:=by have:¬ (u:Int)<b.length:=cq1 g;omega
 subst L;rw [cs3] at h2;rw [h2] at o |-;clear h0 h1 g W;dsimp only at o;refine ⟨⟨(0,[],()),rfl,rfl,Int.le_refl _,by dsimp only;omega,rfl⟩,?_⟩;rintro ⟨j,l,⟨⟩⟩ ⟨h0,h1,h4⟩;dsimp only at h0 h1 h4 |-;obtain ⟨B,rfl⟩:=cp8 h0;simp only [cp6] at h4 |-;subst h4;refine ⟨λe=>?_,λg=>?_⟩
 .have e:(B:Int)<c.length:=cq2 e;have f:B<c.length:=by omega
  refine ⟨⟨h0,e⟩,F.2,?_,((B+1:Nat),_,()),B8 f (by omega),rfl,⟨by omega,by dsimp only;omega,?_⟩,by dsimp only;omega⟩
  .rw [cs6,cs4];simp only [cq8,List.length_nil];omega
  .dsimp only;rw [cp6,A5 f 0,List.map_append];congr 1;show _=[outA _ ks (c.getD B 0)];generalize c.getD B 0=n;unfold outA;dsimp only;cases hc:(D4 m ks n).cell with
   |true=>rfl
   |false=>simp only [cond_false];rw [<-hc]
 .have M:B=c.length:=by have:¬ (B:Int)<c.length:=cq1 g;omega
  subst M;rw [cs3,o]
theorem aI9:C9 prog RG 15 cAlloc:=bt8 bD6 (A8 ao0 (A8 aH4 (A8 aI5 (A8 bX6 (A8 au7 C1))))) (λp=>bP1 p.1 p.2.1 p.2.2.1 p.2.2.2.2.1) (by kernel_rfl) (by kernel_rfl) (by kernel_rfl) λ(a,b,c,d,ks,()) e=>bX9 a b c d ks e
def insI (to:Int) (fr:List Int):Ins:=⟨1,0,[to],fr,[]⟩
def I9:VFun:=⟨2,[insI 2 [0,1],insI 3 [2,0],insI 4 [3,1],insI 5 [4,2]],[5],[]⟩
def cIns:Con RU:=con [one,one] [i64,ints] [(true,5)] ax2 [false,false,false,false,false] none λp=>(1,0,[p.1],p.2.1,[],())
def cFour:Con RU:=con [] [] [(true,4)] ax3 [false,false,false,false] none λ_=>(2,I9.code,[5],[],())
abbrev bP4:List Ty:=[i64,i64,i64,i64,i64,ints,ints,inss]
abbrev own8:List Bool:=[false,false,false,false,false,false,false,false]
def cLoadI:Con RU:=con [one,one] [i64,i64] [(true,8)] bP4 own8 none λp=>(1,p.1,p.2.1,0,0,[],[],[],())
def cStoreI:Con RU:=con [one,one] [i64,i64] [(true,8)] bP4 own8 none λp=>(2,p.1,p.2.1,0,0,[],[],[],())
def cDoI:Con RU:=con [one,one] [i64,ints] [(true,8)] bP4 own8 none λp=>(0,0,0,1,0,[p.1],p.2.1,[],())
def bY0 (x y:RIns):Bool:=(x.kind==y.kind)&&((x.kind==0)&&insB x.ins y.ins||((x.kind !=0)&&(x.slot==y.slot)&&(x.cell==y.cell)))
def W4 (l m:List RIns) (k:Nat):Bool:=(decide (l.length=m.length))&&((l.zip m).take k).all λp=>bY0 p.1 p.2
def bo1 (l m:List RIns):Bool:=W4 l m l.length
def cSame:Con RU:=con [one,one] [aU2,aU2] [one] [.bool] [false] none λp=>(bo1 p.1 p.2.1,())
def ci8 (l m:List RIns):Nat->St RU->Ann RU:=λ_ _=>⟨[],[.slot 5,.slot 6],[.bool,i64],λp=>0<=p.2.1/\p.2.1<=l.length/\p.1=W4 l m p.2.1.toNat,λp=>l.length-p.2.1.toNat,[]⟩
def cSlotted:Con RU:=con [] [] [one] [.bool] [false] none λ_=>(true,())
end Go.Rg
end
section
namespace Go.Proofs.YtknhkhdbonjhgaaDoor
open Go.ChangeShapes Go.WideShapes Go.ChangeAt Go.RowKit Go.VT
theorem own:ownKnob Tryd.prog.godebug=none:=by kernel_rfl
theorem ci9:laidOutB Tryd.prog=true:=by kernel_rfl
theorem cn3:Tryd.prog.globalNamed "sheafworks/regs.never"=some 1:=by kernel_rfl
theorem bY1:Tryd.prog.globalNamed "sheafworks/regs.nowhere"=some 0:=by kernel_rfl
theorem cn4:(Tryd.prog.globals[1]?).map (·.type)=some 107:=by kernel_rfl
theorem bY2:(Tryd.prog.globals[0]?).map (·.type)=some 59:=by kernel_rfl
abbrev bD7:List (String×DataW Unit):=[("sheafworks/regs.never",Rows.laid_sheafworks_regs_never),("sheafworks/regs.nowhere",Rows.laid_sheafworks_regs_nowhere)]
theorem bY3 (os:Os) (args:Array Value):laidMetH Tryd.prog bD7 ((World.doorLaid Tryd.prog 600 os).forCall (λ_ _=>0) ⟨#[],args,[]⟩).memory:=
 laidMetH_of_parts3 (fuel:=8) (laidMet_of_run' 8 (by kernel_rfl) (by kernel_rfl)) (by kernel_rfl) (by kernel_rfl)
theorem aJ0:Tryd.prog.cellsOf 3=1:=by kernel_rfl
theorem cn5:Tryd.prog.cellsOf 4=1:=by kernel_rfl
theorem cj0:Tryd.prog.cellsOf 22=1:=by kernel_rfl
theorem bP5:Tryd.prog.cellsOf 23=1:=by kernel_rfl
theorem bo2:Tryd.prog.cellsOf 52=5:=by kernel_rfl
theorem cj1:Tryd.prog.cellsOf 59=2:=by kernel_rfl
theorem bY4:Tryd.prog.cellsOf 107=2:=by kernel_rfl
theorem cn6:Tryd.prog.bytesOf 3=8:=by kernel_rfl
theorem cj2:Tryd.prog.bytesOf 52=88:=by kernel_rfl
theorem aP8 {W:World} {g i:Nat} {v:Value} (h:W.cell? ⟨g,i,none⟩=some v):g<W.heap.size:=by
 unfold World.cell? at h;cases a:W.heap[g]? with
 |none=>simp [a] at h
 |some ob=>exact (cr0.1 a).1
theorem cj3 {W:World} (h:laidMetH Tryd.prog bD7 W):∀ g fs,(g,fs)∈Go.Rg.RG->g<W.heap.size/\∀ i f,fs.cell i=some f->W.cell? ⟨g,i,none⟩=some f:=by
 obtain ⟨ps,⟨I,J,cs1,fuel1,K,L,a,q,e,r,⟨M,t0,cs0,fuel0,p0,N,b,s,k,t,_⟩,_⟩,_⟩:laidMet Tryd.prog bD7 W:=h;obtain rfl:=Option.some.inj (cn3.symm.trans a);obtain rfl:=Option.some.inj (bY1.symm.trans b);obtain rfl:=Option.some.inj (cn4.symm.trans q);obtain rfl:=Option.some.inj (bY2.symm.trans s);obtain ⟨O,P,n,p,hl,c,d⟩:=trod_struct2 Tryd.underlying107 r;obtain ⟨Q,R,m,kx,kl,ky1,ky2⟩:=trod_struct2 Tryd.underlying59 t;rw [bY4] at hl;rw [cj1] at kl;obtain ⟨S,eu1,u⟩:=aN9 (cs:=cs1.toList) (j:=0) (by omega);obtain ⟨T,eu2,v⟩:=aN9 (cs:=cs1.toList) (j:=1) (by omega);obtain ⟨w1,ew1,w⟩:=aN9 (cs:=cs0.toList) (j:=0) (by omega);obtain ⟨U,ew2,x⟩:=aN9 (cs:=cs0.toList) (j:=1) (by omega);dsimp only at c d ky1 ky2;rw [aJ0,u] at c;rw [aJ0,v] at d;rw [cn5,w] at ky1;rw [aJ0,x] at ky2;obtain ⟨V,A,E,_⟩:=DataW.trod_int Tryd.underlying3 c;obtain ⟨X,B,F,_⟩:=DataW.trod_int Tryd.underlying3 d;obtain ⟨Y,C,G⟩:=DataW.trod_bool Tryd.underlying4 ky1;obtain ⟨Z,D,H,_⟩:=DataW.trod_int Tryd.underlying3 ky2;rw [E,F] at p;rw [G,H] at kx;simp only [Rows.laid_sheafworks_regs_never,cq4,DataW.agg.injEq,List.cons.injEq,DataW.lit.injEq,Lit.int.injEq,true_and,and_true] at p;simp only [Rows.laid_sheafworks_regs_nowhere,cq4,DataW.agg.injEq,List.cons.injEq,DataW.lit.injEq,Lit.int.injEq,Lit.bool.injEq,true_and,and_true] at kx;simp only [List.cons.injEq,and_true] at A B C D;rw [A,<-p.1.1] at eu1;rw [B,<-p.1.2] at eu2;rw [C,<-kx.1.1] at ew1;rw [D,<-kx.1.2] at ew2;have l:W.cell? ⟨1,0,none⟩=some (.int .i64 0):=by rw [World.var?_cell a e 0];simpa using eu1
 have y:W.cell? ⟨1,1,none⟩=some (.int .i64 (-1)):=by rw [World.var?_cell a e 1];simpa using eu2
 have o:W.cell? ⟨0,0,none⟩=some (.bool true):=by rw [World.var?_cell b k 0];simpa using ew1
 have z:W.cell? ⟨0,1,none⟩=some (.int .i64 (-1)):=by rw [World.var?_cell b k 1];simpa using ew2
 intro g fs hm;simp only [Go.Rg.RG,List.mem_cons,List.not_mem_nil,or_false,cq4] at hm;rcases hm with ⟨rfl,rfl⟩|⟨rfl,rfl⟩
 .refine ⟨aP8 o,λi f hf=>?_⟩
  match i,hf with
  |0,hf=>cases hf;exact o
  |1,hf=>cases hf;exact z
  |_+2,hf=>simp [Glob.cell] at hf
 .refine ⟨aP8 l,λi f hf=>?_⟩
  match i,hf with
  |0,hf=>cases hf;exact l
  |1,hf=>cases hf;exact y
  |_+2,hf=>simp [Glob.cell] at hf
def readL:List (TypeId×Ty):=[(3,Go.Rg.i64),(4,.bool),(52,.user 0),(23,Go.Rg.ints),(22,Go.Rg.inss)]
theorem cj4:bt5 Tryd.prog Go.Rg.RU readL:=by
 intro t ty hm;simp only [readL,List.mem_cons,cq4,List.not_mem_nil,or_false] at hm;rcases hm with ⟨rfl,rfl⟩|⟨rfl,rfl⟩|⟨rfl,rfl⟩|⟨rfl,rfl⟩|⟨rfl,rfl⟩
 .exact Tryd.underlying3
 .exact Tryd.underlying4
 .refine ⟨_,Tryd.underlying52,bo2,rfl,λj f ty' hf a=>?_⟩
  match j,hf,a with
  |0,hf,a=>cases hf;cases a;exact ⟨rfl,aJ0,rfl,by simp [readL]⟩
  |1,hf,a=>cases hf;cases a;exact ⟨rfl,aJ0,rfl,by simp [readL]⟩
  |2,hf,a=>cases hf;cases a;exact ⟨rfl,bP5,rfl,by simp [readL]⟩
  |3,hf,a=>cases hf;cases a;exact ⟨rfl,bP5,rfl,by simp [readL]⟩
  |4,hf,a=>cases hf;cases a;exact ⟨rfl,cj0,rfl,by simp [readL]⟩
  |j+5,hf,a=>simp [Go.Rg.RU] at a
 .exact ⟨Tryd.underlying23,aJ0,by rw [aJ0];decide,by rw [cn6];decide,by simp [readL]⟩
 .exact ⟨Tryd.underlying22,bo2,by rw [bo2];decide,by rw [cj2];decide,by simp [readL]⟩
theorem cj5:bU4 Tryd.prog Go.Rg.RU readL 3 false [Go.Rg.i64]:=.inl ⟨rfl,_,rfl,rfl,by simp [readL]⟩
theorem bY5:bU4 Tryd.prog Go.Rg.RU readL 23 false [Go.Rg.ints]:=.inl ⟨rfl,_,rfl,rfl,by simp [readL]⟩
theorem as3 {H:Type} {enc:TypeId×Value->H} {W W':World} (f:Below W.heap.size W W'):∀ {ts:List TypeId} {vs:List Value} {ds:List (DataW H)} {ps:List MemPlace},(∀ t∈ts,Tryd.prog.readableRec t=true/\t<Tryd.prog.types.size)->
  DataW.TrodAll enc Tryd.prog W 0 (λ_=>true) true ts vs ds ps->(∀ x∈ps,x.block<W.heap.size)->DataW.TrodAll enc Tryd.prog W' 0 (λb=>decide (b<W.heap.size)) true ts vs ds ps
 |[],[],[],ps,_,h,_=>h
 |[],_::_,_,_,_,h,_=>h.elim
 |[],[],_::_,_,_,h,_=>h.elim
 |_::_,[],_,_,_,h,_=>h.elim
 |_::_,_::_,[],_,_,h,_=>h.elim
 |t::ts,v::vs,d::ds,ps,c,h,a=>by obtain ⟨p,q,h1,h2,rfl⟩:=h;exact ⟨p,q,Below.trod ci9 (c t (by simp)).1 (c t (by simp)).2 h1 f (λx e=>a x (by simp [e])),as3 f (λt' h'=>c t' (by simp [h'])) h2 (λx e=>a x (by simp [e])),rfl⟩
theorem bY6 {H:Type} {enc:TypeId×Value->H} {fn:Func} {s:ChangeSpec} (hs:s.vars=[]) {W W':World} {args:Array Value} {ds gs:List (DataW H)} {ag1:List MemPlace}
  (e:DataW.Whole enc Tryd.prog fn.params.toList s.vars false W args.toList ds gs ag1) (f:Below W.heap.size W W') (b:fn.resultTypes=#[4])
  (a:s.fn H ds={ results:=[.lit (.bool true)],args:=ds }) (i:∀ t∈fn.params.toList,Tryd.prog.readableRec t=true/\t<Tryd.prog.types.size):
  s.post enc Tryd.prog fn false true false false W args (.bool true) W':=by
 have c:=e;obtain ⟨p,q,j,d,rfl,k,l⟩:=e;rw [hs] at d;obtain ⟨rfl,rfl⟩:gs=[]/\q=[]:=by
  cases gs with
  |nil=>exact ⟨rfl,d⟩
  |cons g r=>exact absurd d (by intro h;cases h)
 refine ⟨ds,[],p++[],[],p,[],c,?_,?_,?_,f.frame _,λh=>by cases h⟩
 .rw [List.append_nil,a,b];exact trodAll_mk1 (shut_bool Tryd.underlying4 true)
 .rw [List.append_nil,a];exact as3 f i j (λx m=>c.lt x (by simp [m]))
 .rw [List.append_nil,a,hs];rfl
theorem aJ1 {H:Type} {enc:TypeId×Value->H} {P:Program} {w:World} {base:Nat} {sp:Nat->Bool} {held:Bool}:∀ {ts:List TypeId} {vs:List Value} {ds:List (DataW H)} {ps:List MemPlace},DataW.TrodAll enc P w base sp held ts vs ds ps->ds.length=ts.length
 |[],[],[],_,_=>rfl
 |[],_::_,_,_,h=>h.elim
 |[],[],_::_,_,h=>h.elim
 |_::_,[],_,_,h=>h.elim
 |_::_,_::_,[],_,h=>h.elim
 |t::ts,v::vs,d::ds,ps,h=>by obtain ⟨p,q,_,h2,_⟩:=h;simp [aJ1 h2]
end Go.Proofs.YtknhkhdbonjhgaaDoor
end
section
namespace Go.Rg
open Go Go.VT
theorem cn7 (a:Int) (b:List Int):vc (EV []) noL Go.Proofs.Tryd.f46 cIns (a,b,())=(
 let c:Int×Int×List Int×List Int×List Ins×Unit:=((1:Int),(0:Int),[a],b,[],());
  Small RU (Sigma.mk (Ty.slice (3:Nat) (Ty.int IntKind.i64)) b)->c=c):=by kernel_rfl
theorem bY7 (a b:Int):vc (EV []) noL Go.Proofs.Tryd.f47 cLoadI (a,b,())=(
 let c:Int×Int×Int×Int×Int×List Int×List Int×List Ins×Unit:=((1:Int),a,b,(0:Int),(0:Int),[],[],[],());
  c=c):=by kernel_rfl
theorem bP6 (a b:Int):vc (EV []) noL Go.Proofs.Tryd.f48 cStoreI (a,b,())=(
 let c:Int×Int×Int×Int×Int×List Int×List Int×List Ins×Unit:=((2:Int),a,b,(0:Int),(0:Int),[],[],[],());
  c=c):=by kernel_rfl
theorem cn8 (a:Int) (b:List Int):vc (EV [(46,cIns)]) noL Go.Proofs.Tryd.f49 cDoI (a,b,())=(
 let c:Int×Int×Int×Int×Int×List Int×List Int×List Ins×Unit:=((0:Int),(0:Int),(0:Int),(1:Int),(0:Int),[a],b,[],());
  Small RU (Sigma.mk (Ty.slice (3:Nat) (Ty.int IntKind.i64)) b)->c=c):=by kernel_rfl
theorem cj6 (l m:List RIns):vc (EV [(57,cSameIns)]) (ci8 l m) Go.Proofs.Tryd.f45 cSame (l,m,())=(
 let b:RIns:=RIns.mk (0:Int) (0:Int) (0:Int) ins0;
 let c:Int:=(↑(List.length l):Int);
 let e:Int:=(↑(List.length m):Int);
  Small RU (Sigma.mk (Ty.slice (55:Nat) (Ty.user (1:Nat))) l)->
  Small RU (Sigma.mk (Ty.slice (55:Nat) (Ty.user (1:Nat))) m)->
  (∃ (p:Bool×Int×Unit),l=l/\m=m/\false=false/\(c==e)=p.1/\(0:Int)=p.2.1/\(0:Int)<=p.2.1/\p.2.1<=c/\p.1=W4 l m (Int.toNat p.2.1))/\
  ∀ (p:Bool×Int×Unit),
 let e0_1:Bool:=
  (List.getD l (Int.toNat p.2.1) b).kind==(0:Int)&&
  insB
  (Ins.mk (List.getD l (Int.toNat p.2.1) b).ins.op (List.getD l (Int.toNat p.2.1) b).ins.n (List.getD l (Int.toNat p.2.1) b).ins.to
  (List.getD l (Int.toNat p.2.1) b).ins.from_ (List.getD l (Int.toNat p.2.1) b).ins.body)
  (Ins.mk (List.getD m (Int.toNat p.2.1) b).ins.op (List.getD m (Int.toNat p.2.1) b).ins.n (List.getD m (Int.toNat p.2.1) b).ins.to
  (List.getD m (Int.toNat p.2.1) b).ins.from_ (List.getD m (Int.toNat p.2.1) b).ins.body);
 let e1_1:Bool:=(List.getD l (Int.toNat p.2.1) b).kind !=(0:Int)&&(List.getD l (Int.toNat p.2.1) b).slot==(List.getD m (Int.toNat p.2.1) b).slot;
 let e2_1:Bool:=p.1&&decide (p.2.1<c);
 let a:Int:=p.2.1;
 let d:Bool:=(List.getD l (Int.toNat a) b).kind==(List.getD m (Int.toNat a) b).kind;
  (0:Int)<=a/\a<=c/\p.1=W4 l m (Int.toNat a)->
  (e2_1=true->
  ((0:Int)<=a/\a<c)/\
  ((0:Int)<=a/\a<e)/\
  (d=true->(0:Int)<=a/\a<c)/\
  (d=true->((List.getD l (Int.toNat a) b).kind==(0:Int))=true->(0:Int)<=a/\a<c)/\
  (d=true->((List.getD l (Int.toNat a) b).kind==(0:Int))=true->(0:Int)<=a/\a<e)/\
  (d=true->e0_1=false->(0:Int)<=a/\a<c)/\
  (d=true->e0_1=false->((List.getD l (Int.toNat a) b).kind !=(0:Int))=true->(0:Int)<=a/\a<c)/\
  (d=true->e0_1=false->((List.getD l (Int.toNat a) b).kind !=(0:Int))=true->(0:Int)<=a/\a<e)/\
  (d=true->e0_1=false->e1_1=true->(0:Int)<=a/\a<c)/\
  (d=true->e0_1=false->e1_1=true->(0:Int)<=a/\a<e)/\
  ∃ (p':Bool×Int×Unit),
  l=l/\
  m=m/\
  false=false/\
  (d&&(e0_1||e1_1&&(List.getD l (Int.toNat a) b).cell==(List.getD m (Int.toNat a) b).cell))=p'.1/\
  IntKind.i64.wrap (a+(1:Int))=p'.2.1/\
  ((0:Int)<=p'.2.1/\p'.2.1<=c/\p'.1=W4 l m (Int.toNat p'.2.1))/\
  List.length l-Int.toNat p'.2.1<List.length l-Int.toNat a)/\
  (e2_1=false->(p.1,())=(bo1 l m,()))):=by kernel_rfl
theorem cj7:vc (EV [(46,cIns)]) noL Go.Proofs.Tryd.f50 cFour ()=(
 let a:List Int×List Int×Unit:=([(5:Int)],[],());
  ((2:Int),
  [Ins.mk (1:Int) (0:Int) [(2:Int)] [(0:Int),(1:Int)] [],Ins.mk (1:Int) (0:Int) [(3:Int)] [(2:Int),(0:Int)] [],
  Ins.mk (1:Int) (0:Int) [(4:Int)] [(3:Int),(1:Int)] [],Ins.mk (1:Int) (0:Int) [(5:Int)] [(4:Int),(2:Int)] []],
  a)=
  ((2:Int),I9.code,a)):=by kernel_rfl
theorem bD8:vc (EV [(50,cFour),(33,cLive),(29,cPress),(15,cAlloc),(20,cBack),(17,cCount),(41,cCheck),(22,cValid),(47,cLoadI),(48,cStoreI),(49,cDoI),(45,cSame),(43,cEqualLists),(24,cSameVec)]) noL Go.Proofs.Tryd.f14 cSlotted ()=(
 let c:VFun:=
  (M8
  (RCode.mk (B0 (VFun.mk (2:Int) I9.code [(5:Int)] []) (2:Int)).1.params (B0 (VFun.mk (2:Int) I9.code [(5:Int)] []) (2:Int)).1.slots
  (B0 (VFun.mk (2:Int) I9.code [(5:Int)] []) (2:Int)).1.cells (B0 (VFun.mk (2:Int) I9.code [(5:Int)] []) (2:Int)).1.code
  (B0 (VFun.mk (2:Int) I9.code [(5:Int)] []) (2:Int)).1.out)).1;
 let e:Bool:=
  (P9 (VFun.mk (2:Int) I9.code [(5:Int)] [])).2 !=(0:Int)||(E2 (VFun.mk (2:Int) I9.code [(5:Int)] [])).2 !=(0:Int)||
  (B0 (VFun.mk (2:Int) I9.code [(5:Int)] []) (3:Int)).2 !=(0:Int)||
  (B0 (VFun.mk (2:Int) I9.code [(5:Int)] []) (2:Int)).2 !=(0:Int)||
  (B0 (VFun.mk (2:Int) I9.code [(5:Int)] []) (1:Int)).2 !=(9:Int)||
  (M8
  (RCode.mk (B0 (VFun.mk (2:Int) I9.code [(5:Int)] []) (2:Int)).1.params (B0 (VFun.mk (2:Int) I9.code [(5:Int)] []) (2:Int)).1.slots
  (B0 (VFun.mk (2:Int) I9.code [(5:Int)] []) (2:Int)).1.cells (B0 (VFun.mk (2:Int) I9.code [(5:Int)] []) (2:Int)).1.code
  (B0 (VFun.mk (2:Int) I9.code [(5:Int)] []) (2:Int)).1.out)).2 !=
  (0:Int)||
  E6 (VFun.mk (2:Int) I9.code [(5:Int)] []) !=(0:Int)||
  O1
  (RCode.mk (B0 (VFun.mk (2:Int) I9.code [(5:Int)] []) (3:Int)).1.params (B0 (VFun.mk (2:Int) I9.code [(5:Int)] []) (3:Int)).1.slots
  (B0 (VFun.mk (2:Int) I9.code [(5:Int)] []) (3:Int)).1.cells (B0 (VFun.mk (2:Int) I9.code [(5:Int)] []) (3:Int)).1.code
  (B0 (VFun.mk (2:Int) I9.code [(5:Int)] []) (3:Int)).1.out) !=
  (0:Int);
 let f:Bool:=
  decide
  ((P9 (VFun.mk (2:Int) I9.code [(5:Int)] [])).1=
  [[(0:Int),(1:Int)],[(0:Int),(1:Int),(2:Int)],[(1:Int),(2:Int),(3:Int)],[(2:Int),(4:Int)],[(5:Int)]])&&
  (E2 (VFun.mk (2:Int) I9.code [(5:Int)] [])).1==(3:Int)&&
  bo1 (B0 (VFun.mk (2:Int) I9.code [(5:Int)] []) (3:Int)).1.code
  [RIns.mk (1:Int) (0:Int) (0:Int) (Ins.mk (0:Int) (0:Int) [] [] []),RIns.mk (1:Int) (1:Int) (1:Int) (Ins.mk (0:Int) (0:Int) [] [] []),
  RIns.mk (0:Int) (0:Int) (0:Int) (Ins.mk (1:Int) (0:Int) [(2:Int)] [(0:Int),(1:Int)] []),
  RIns.mk (0:Int) (0:Int) (0:Int) (Ins.mk (1:Int) (0:Int) [(0:Int)] [(2:Int),(0:Int)] []),
  RIns.mk (0:Int) (0:Int) (0:Int) (Ins.mk (1:Int) (0:Int) [(0:Int)] [(0:Int),(1:Int)] []),
  RIns.mk (0:Int) (0:Int) (0:Int) (Ins.mk (1:Int) (0:Int) [(0:Int)] [(0:Int),(2:Int)] [])]&&
  bo1 (B0 (VFun.mk (2:Int) I9.code [(5:Int)] []) (2:Int)).1.code
  [RIns.mk (1:Int) (0:Int) (0:Int) (Ins.mk (0:Int) (0:Int) [] [] []),RIns.mk (1:Int) (1:Int) (1:Int) (Ins.mk (0:Int) (0:Int) [] [] []),
  RIns.mk (0:Int) (0:Int) (0:Int) (Ins.mk (1:Int) (0:Int) [(1:Int)] [(0:Int),(1:Int)] []),
  RIns.mk (0:Int) (0:Int) (0:Int) (Ins.mk (1:Int) (0:Int) [(0:Int)] [(1:Int),(0:Int)] []),RIns.mk (2:Int) (1:Int) (2:Int) (Ins.mk (0:Int) (0:Int) [] [] []),
  RIns.mk (1:Int) (1:Int) (1:Int) (Ins.mk (0:Int) (0:Int) [] [] []),RIns.mk (0:Int) (0:Int) (0:Int) (Ins.mk (1:Int) (0:Int) [(0:Int)] [(0:Int),(1:Int)] []),
  RIns.mk (1:Int) (1:Int) (2:Int) (Ins.mk (0:Int) (0:Int) [] [] []),RIns.mk (0:Int) (0:Int) (0:Int) (Ins.mk (1:Int) (0:Int) [(0:Int)] [(0:Int),(1:Int)] [])]&&
  (B0 (VFun.mk (2:Int) I9.code [(5:Int)] []) (2:Int)).1.slots==(2:Int)&&
  (B0 (VFun.mk (2:Int) I9.code [(5:Int)] []) (2:Int)).1.cells==(3:Int)&&
  (↑(List.length (B0 (VFun.mk (2:Int) I9.code [(5:Int)] []) (2:Int)).1.out):Int)==(1:Int);
 let g:Int×Int:=
  W2
  (RCode.mk (B0 (VFun.mk (2:Int) I9.code [(5:Int)] []) (2:Int)).1.params (B0 (VFun.mk (2:Int) I9.code [(5:Int)] []) (2:Int)).1.slots
  (B0 (VFun.mk (2:Int) I9.code [(5:Int)] []) (2:Int)).1.cells (B0 (VFun.mk (2:Int) I9.code [(5:Int)] []) (2:Int)).1.code
  (B0 (VFun.mk (2:Int) I9.code [(5:Int)] []) (2:Int)).1.out);
 let a:RCode:=(B0 (VFun.mk (2:Int) I9.code [(5:Int)] []) (2:Int)).1;
 let b:VFun:=VFun.mk (2:Int) I9.code [(5:Int)] [];
 let d:RCode:=(B0 b (3:Int)).1;
  (N0 I9.code=true/\I3 I9.code=true/\List.length [(5:Int)]<=(8796093022200:Nat))/\
  (N0 I9.code=true/\I3 I9.code=true/\List.length [(5:Int)]<=(8796093022200:Nat))/\
  (N0 I9.code=true/\I3 I9.code=true/\List.length [(5:Int)]<=(8796093022200:Nat))/\
  ((-9223372036854775808:Int)<=a.slots/\a.slots<(9223372036854775808:Int)/\W3 a.code=true/\List.length a.out<=(17592186044400:Nat))/\
  (((P9 b).2 !=(0:Int)||(E2 b).2 !=(0:Int)||(B0 b (3:Int)).2 !=(0:Int)||(B0 b (2:Int)).2 !=(0:Int)||
  (B0 b (1:Int)).2 !=(9:Int)||
  (M8 (RCode.mk a.params a.slots a.cells a.code a.out)).2 !=(0:Int)||
  E6 b !=(0:Int))=
  false->
  (-9223372036854775808:Int)<=d.slots/\d.slots<(9223372036854775808:Int)/\W3 d.code=true/\List.length d.out<=(17592186044400:Nat))/\
  (e=true->(false,())=(true,()))/\
  (e=false->
  (f=true->(0:Int)<=(0:Int)/\(0:Int)<(↑(List.length a.out):Int))/\
  (f&&(false==false&&((↑(0:Nat):Int)==(0:Int)&&true))&&g.1==(4:Int)&&g.2==(1:Int)&&
  (decide (c.params=(2:Int))&&W5 c.code I9.code&&decide (c.out=[(5:Int)])&&decide (c.at_=[])),
  ())=
  (true,()))):=by kernel_rfl
theorem bg6:C9 prog RG 46 cIns:=E8 C1 (λ_=>noL) (by kernel_rfl) (by kernel_rfl) (by kernel_rfl) λ(a,b,()) _=>(cn7 a b).mpr (by intros;rfl)
theorem bo3:C9 prog RG 47 cLoadI:=E8 C1 (λ_=>noL) (by kernel_rfl) (by kernel_rfl) (by kernel_rfl) λ(a,b,()) _=>(bY7 a b).mpr rfl
theorem bg7:C9 prog RG 48 cStoreI:=E8 C1 (λ_=>noL) (by kernel_rfl) (by kernel_rfl) (by kernel_rfl) λ(a,b,()) _=>(bP6 a b).mpr rfl
theorem bP7:C9 prog RG 49 cDoI:=E8 (A8 bg6 C1) (λ_=>noL) (by kernel_rfl) (by kernel_rfl) (by kernel_rfl) λ(a,b,()) _=>(cn8 a b).mpr (by intros;rfl)
theorem bD9:C9 prog RG 50 cFour:=E8 (A8 bg6 C1) (λ_=>noL) (by kernel_rfl) (by kernel_rfl) (by kernel_rfl) λ() _=>cj7.mpr (by intros;rfl)
theorem bo4 {l m:List RIns} {k:Nat} (hl:k<l.length) (h:W4 l m k=true):W4 l m (k+1)=bY0 (l.getD k rins0) (m.getD k rins0):=by
 unfold W4 at h |-;simp only [cp5,cr4] at h;obtain ⟨h1,h2⟩:=h;have a:k<(l.zip m).length:=by rw [List.length_zip];omega
 rw [A5 a (rins0,rins0),List.all_append,h2,decide_eq_true h1];simp only [Bool.true_and,List.all_cons,List.all_nil,Bool.and_true];have hg:(l.zip m).getD k (rins0,rins0)=(l.getD k rins0,m.getD k rins0):=by rw [cq6,cp4 a,cq6,cq6,cp4 hl,cp4 (by omega)];simp [List.getElem_zip]
 rw [hg]
theorem bP8 {l m:List RIns} {k:Nat} (h:W4 l m k=false):bo1 l m=false:=by unfold bo1;rw [Bool.eq_false_iff] at h |-;intro h2;refine h ?_;unfold W4 at h2 |-;simp only [cp5,cr4,cs5] at h2 |-;refine ⟨h2.1,λx a=>h2.2 x ?_⟩;rw [List.take_of_length_le (by rw [List.length_zip];omega)];exact List.mem_of_mem_take a
theorem bg8 (x:Ins):(⟨x.op,x.n,x.to,x.from_,x.body⟩:Ins)=x:=by cases x;rfl
theorem cj8 (l m:List RIns):vc (EV [(57,cSameIns)]) (ci8 l m) Go.Proofs.Tryd.f45 cSame (l,m,()):=by
 rw [cj6 l m];intro c d e hs _;have hl:l.length<=140737488355328:=hs.len;have f:c=rins0:=rfl
 clear_value c
 subst f;dsimp only [d,e];simp only [true_and,and_true];refine ⟨⟨(W4 l m 0,0,()),?_,rfl,Int.le_refl _,by dsimp only;omega,rfl⟩,?_⟩
 .dsimp only [W4];rw [List.take_zero,List.all_nil,Bool.and_true,Bool.eq_iff_iff];simp only [beq_iff_eq,cr4];omega
 rintro ⟨g,i,⟨⟩⟩ ⟨h0,h1,h2⟩;dsimp only at h0 h1 h2 |-;obtain ⟨k,rfl⟩:=cp8 h0;simp only [cp6] at h2 |-;subst h2;refine ⟨λh=>?_,λh=>?_⟩
 .simp only [cp5,cr4] at h;obtain ⟨hg,a⟩:=h;have b:=bo4 (by omega) hg;have j:l.length=m.length:=by
   unfold W4 at hg;simp only [cp5,cr4] at hg;exact hg.1
  have hm:(k:Int)<m.length:=by omega
  refine ⟨⟨h0,a⟩,⟨h0,hm⟩,λ_=>⟨h0,a⟩,λ_ _=>⟨h0,a⟩,λ_ _=>⟨h0,hm⟩,λ_ _=>⟨h0,a⟩,λ_ _ _=>⟨h0,a⟩,λ_ _ _=>⟨h0,hm⟩,λ_ _ _=>⟨h0,a⟩,λ_ _ _=>⟨h0,hm⟩,(bY0 (l.getD k rins0) (m.getD k rins0),((k+1:Nat):Int),()),by dsimp only [bY0];rw [bg8,bg8],B8 (by omega) hl,⟨by dsimp only;omega,by dsimp only;omega,?_⟩,by dsimp only;omega⟩;dsimp only;rw [cp6,b]
 .have key:W4 l m k=bo1 l m:=by
   cases hg:W4 l m k with
   |false=>exact (bP8 hg).symm
   |true=>
    rw [hg] at h;simp only [Bool.true_and,decide_eq_false_iff_not] at h;have n:k=l.length:=by omega
    subst n;exact hg.symm
  rw [key]
theorem bE0:C9 prog RG 45 cSame:=E8 (A8 aU5 C1) (λp=>ci8 p.1 p.2.1) (by kernel_rfl) (by kernel_rfl) (by kernel_rfl) λ(l,m,()) _=>cj8 l m
theorem aX1:C9 prog RG 14 cSlotted:=E8 (A8 bD9 (A8 aO9 (A8 aH8 (A8 aI9 (A8 bC5 (A8 aG6 (A8 ao0 (A8 aI3 (A8 bo3 (A8 bg7 (A8 bP7 (A8 bE0 (A8 ay3 (A8 aU6 C1)))))))))))))) (λ_=>noL) (by kernel_rfl) (by kernel_rfl) (by kernel_rfl) λ() _=>bD8.mpr (by
 refine ⟨by decide+kernel,by decide+kernel,by decide+kernel,by decide+kernel,λ_=>by decide+kernel,by decide+kernel,λ_=>⟨by decide+kernel,by decide+kernel⟩⟩)
def F8 (n b:Int):Int:=if b<1 then 0 else n % b
def cTurn:Con RU:=con [one,one] [i64,i64] [one] [i64] [false] (some λp=>p.2.1<=4611686018427387904) λp=>(F8 p.1 p.2.1,())
def W6 (l:List Int) (n:Int):Int:=if l=[] then 0 else l.getD (n % l.length).toNat 0
def cNth:Con RU:=con [one,one] [ints,i64] [one] [i64] [false] none λp=>(W6 p.1 p.2.1,())
def cReadsL:Con RU:=con [(true,5)] ax2 [one] [ints] [false] (some λp=>p.2.2.2.1.length<=17592186044400) λp=>(B9 [] p.2.2.2.1,())
def iota (n:Nat):List Int:=(List.range n).map Int.ofNat
def bY8 (there:List Int) (c:Int) (k:Nat):Int:=W6 there (IntKind.i64.wrap (IntKind.i64.wrap (Int.tdiv c (1+5*(k:Int)))+k))
def O2 (there:List Int) (c:Int) (n:Nat):List Int:=(List.range n).map (bY8 there c)
def ah8 (there:List Int) (b c:Int):List Int:=if there=[] then [] else O2 there c (F8 b 4).toNat
def toK (p count:Int) (k:Nat):Int:=p+((count+k)*7+5) % 97
def P8 (p count:Int) (n:Nat):List Int:=(List.range n).map (toK p count)
def toN (d:Int):Nat:=1+(F8 d 5).toNat / 4
abbrev BS:=List Ins×List Int×Int
def bY9 (p:Int) (l:List Int) (i:Nat) (s:BS):BS:=
 (s.1++[⟨F8 (l.getD i 0) 15,F8 (l.getD i 0) 12,P8 p s.2.2 (toN (l.getD (i+3) 0)),ah8 s.2.1 (l.getD (i+1) 0) (l.getD (i+2) 0),[]⟩],
  s.2.1++P8 p s.2.2 (toN (l.getD (i+3) 0)),s.2.2+toN (l.getD (i+3) 0))
def parB (l:List Int):Int:=F8 (W6 l 0) 4
def runB (l:List Int):Nat->BS
 |0=>([],iota (parB l).toNat,0)
 |j+1=>bY9 (parB l) l (4*j+1) (runB l j)
def goB (l:List Int) (m:Int) (j:Nat):Bool:=decide (4*j+4<l.length)&&decide ((j:Int)<m)&&decide ((runB l j).2.2<90)
def endB (l:List Int) (m:Int):Nat:=((List.range 91).find? λj=>!goB l m j).getD 0
def outB (there:List Int):List Int:=if there=[] then [] else [W6 there (there.length-1),W6 there (there.length-3)]
def A4 (l:List Int) (m:Int):VFun:=⟨parB l,(runB l (endB l m)).1,outB (runB l (endB l m)).2.1,[]⟩
def cBuilt:Con RU:=con [one,one] [ints,i64] [(true,4)] ax3 [false,false,false,false] none λp=>(parB p.1,(A4 p.1 p.2.1).code,(A4 p.1 p.2.1).out,[],())
def bP9 (l:List Int) (m:Int):Nat->St RU->Ann RU:=λn s=>match n with
 |0=>⟨[6],[.slot 7,.row 1216],[i64,ints],λp=>0<=p.1/\p.1<=parB l/\p.2.1=iota p.1.toNat,λp=>(parB l).toNat-p.1.toNat,[]⟩
 |1=>⟨[6],[.slot 8,.slot 9,.row 1216,.row 900001],[i64,i64,ints,inss],λp=>∃ j:Nat,p.2.1=4*j+1/\j<=90/\(∀ i,i<j->goB l m i=true)/\(p.2.2.2.1,p.2.2.1,p.1)=runB l j,λp=>400-p.2.1.toNat,[(.box 320 1,900001,52,.user 0)]⟩
 |2=>⟨[],[.slot 11,.row 900002],[i64,ints],λp=>0<=p.1/\p.1<=F8 (l.getD ((s.intAt 9).toNat+1) 0) 4/\p.2.1=O2 (s.rowInts 1216) (l.getD ((s.intAt 9).toNat+2) 0) p.1.toNat/\(s.rowInts 1216=[]->p.1=0),λp=>4-p.1.toNat,[(.box 640 3,900002,3,i64)]⟩
 |3=>⟨[],[.slot 12,.slot 8,.row 900003],[i64,i64,ints],λp=>0<=p.1/\p.1<=toN (l.getD ((s.intAt 9).toNat+3) 0)/\p.2.1=s.intAt 8+p.1/\p.2.2.1=P8 (parB l) (s.intAt 8) p.1.toNat,λp=>4-p.1.toNat,[(.box 640 2,900003,3,i64)]⟩
 |_=>⟨[],[.slot 14,.row 900004],[i64,ints],λp=>0<=p.1/\p.1<=2/\p.2.1=(outB (s.rowInts 1216)).take p.1.toNat,λp=>2-p.1.toNat,[(.box 320 2,900004,3,i64)]⟩
def J9 (l:List Ins):Int:=l.foldl (λk x=>max (max k ((B9 [] x.from_).length:Int)) (x.to.length:Int)) 1
def C2 (f:VFun) (n more:Int):Int:=J9 f.code+F8 n more
def cSlots:Con RU:=con [(true,4),one,one] [i64,inss,ints,ints,i64,i64] [one] [i64] [false] (some λp=>N0 p.2.1=true/\p.2.2.2.2.2.1<=1000) λp=>(C2 ⟨p.1,p.2.1,p.2.2.1,p.2.2.2.1⟩ p.2.2.2.2.1 p.2.2.2.2.2.1,())
def bQ0 (l:List Ins):Nat->St RU->Ann RU:=λ_ _=>⟨[],[.slot 7,.slot 8],[i64,i64],λp=>0<=p.2.1/\p.2.1<=l.length/\p.1=J9 (l.take p.2.1.toNat),λp=>l.length-p.2.1.toNat,[]⟩
theorem cj9 (n b:Int):vc (EV []) noL Go.Proofs.Tryd.f65 cTurn (n,b,())=(
 let c:Bool:=decide (b<(1:Int));
 let d:Bool:=decide (Int.tmod n b<(0:Int));
 let a:Int×Unit:=(F8 n b,());
  (c=true->((0:Int),())=a)/\(c=false->b≠(0:Int)/\(d=true->(IntKind.i64.wrap (Int.tmod n b+b),())=a)/\(d=false->(Int.tmod n b,())=a))):=by kernel_rfl
theorem cn9 (l:List Int) (n:Int):vc (EV [(65,cTurn)]) noL Go.Proofs.Tryd.f66 cNth (l,n,())=(
 let a:Int:=(↑(List.length l):Int);
  Small RU (Sigma.mk (Ty.slice (3:Nat) (Ty.int IntKind.i64)) l)->
  ((a==(0:Int))=true->((0:Int),())=(W6 l n,()))/\
  ((a==(0:Int))=false->a<=(4611686018427387904:Int)/\((0:Int)<=F8 n a/\F8 n a<a)/\(List.getD l (Int.toNat (F8 n a)) (0:Int),())=(W6 l n,()))):=by kernel_rfl
theorem bQ1 (o n:Int) (t f:List Int) (b:List Ins):vc (EV [(35,cUnion)]) noL Go.Proofs.Tryd.f36 cReadsL (o,n,t,f,b,())=(Small RU (Sigma.mk (Ty.slice (3:Nat) (Ty.int IntKind.i64)) t)->
 Small RU (Sigma.mk (Ty.slice (3:Nat) (Ty.int IntKind.i64)) f)->
 Small RU (Sigma.mk (Ty.slice (52:Nat) (Ty.user (0:Nat))) b)->List.length ([]:List Int)+List.length f<=(17592186044400:Nat)/\(B9 [] f,())=(B9 [] f,())):=by kernel_rfl
theorem bZ0 (a:Int) (b:List Ins) (c d:List Int) (n k:Int):vc (EV [(36,cReadsL),(65,cTurn)]) (bQ0 b) Go.Proofs.Tryd.f27 cSlots (a,b,c,d,n,k,())=(
 let f:Ins:=Ins.mk (0:Int) (0:Int) [] [] [];
  Small RU (Sigma.mk (Ty.slice (52:Nat) (Ty.user (0:Nat))) b)->
  Small RU (Sigma.mk (Ty.slice (3:Nat) (Ty.int IntKind.i64)) c)->
  Small RU (Sigma.mk (Ty.slice (3:Nat) (Ty.int IntKind.i64)) d)->
  (∃ (p:Int×Int×Unit),
  a=a/\
  b=b/\
  c=c/\
  d=d/\
  n=n/\
  k=k/\
  (0:Int)=(0:Int)/\
  (1:Int)=p.1/\
  (0:Int)=p.2.1/\a=a/\b=b/\c=c/\d=d/\(0:Int)<=p.2.1/\p.2.1<=(↑(List.length b):Int)/\p.1=J9 (List.take (Int.toNat p.2.1) b))/\
  ∀ (p:Int×Int×Unit),
 let e0_1:Bool:=decide (p.2.1<(↑(List.length b):Int));
 let e:Int:=p.2.1;
  (0:Int)<=e/\e<=(↑(List.length b):Int)/\p.1=J9 (List.take (Int.toNat e) b)->
  (e0_1=true->
  ((0:Int)<=e/\e<(↑(List.length b):Int))/\
  List.length (List.getD b (Int.toNat e) f).from_<=(17592186044400:Nat)/\
  ((0:Int)<=e/\e<(↑(List.length b):Int))/\
  ∃ (p':Int×Int×Unit),
  a=a/\
  b=b/\
  c=c/\
  d=d/\
  n=n/\
  k=k/\
  (0:Int)=(0:Int)/\
  max (max p.1 (↑(List.length (B9 [] (List.getD b (Int.toNat e) f).from_)):Int)) (↑(List.length (List.getD b (Int.toNat e) f).to):Int)=p'.1/\
  IntKind.i64.wrap (e+(1:Int))=p'.2.1/\
  a=a/\
  b=b/\
  c=c/\
  d=d/\
  ((0:Int)<=p'.2.1/\p'.2.1<=(↑(List.length b):Int)/\p'.1=J9 (List.take (Int.toNat p'.2.1) b))/\
  List.length b-Int.toNat p'.2.1<List.length b-Int.toNat e)/\
  (e0_1=false->k<=(4611686018427387904:Int)/\(IntKind.i64.wrap (p.1+F8 n k),())=(C2 (VFun.mk a b c d) n k,()))):=by kernel_rfl
theorem bZ1 (l:List Int) (m:Int):vc (EV [(65,cTurn),(66,cNth)]) (bP9 l m) Go.Proofs.Tryd.f25 cBuilt (l,m,())=(
 let b:Int:=F8 (W6 l (0:Int)) (4:Int);
 let g:Int:=(↑(List.length l):Int);
  Small RU (Sigma.mk (Ty.slice (3:Nat) (Ty.int IntKind.i64)) l)->
  (4:Int)<=(4611686018427387904:Int)/\
  (∃ (p:Int×List Int×Unit),l=l/\m=m/\(0:Int)=p.1/\(0:Int)=(0:Int)/\b=b/\[]=p.2.1/\(0:Int)<=p.1/\p.1<=parB l/\p.2.1=iota (Int.toNat p.1))/\
  ∀ (p:Int×List Int×Unit),
 let e0_1:Bool:=decide (p.1<b);
 let e1_1:Int:=p.1;
 let c:List Int:=p.2.1;
  (0:Int)<=e1_1/\e1_1<=parB l/\c=iota (Int.toNat e1_1)->
  (e0_1=true->
  (List.length c+List.length [e1_1])*(8:Nat)<=(140737488355328:Nat)/\
  ∃ (p':Int×List Int×Unit),
  l=l/\
  m=m/\
  IntKind.i64.wrap (e1_1+(1:Int))=p'.1/\
  (0:Int)=(0:Int)/\
  b=b/\
  c++[e1_1]=p'.2.1/\
  ((0:Int)<=p'.1/\p'.1<=parB l/\p'.2.1=iota (Int.toNat p'.1))/\Int.toNat (parB l)-Int.toNat p'.1<Int.toNat (parB l)-Int.toNat e1_1)/\
  (e0_1=false->
  (∃ (p:Int×Int×List Int×List Ins×Unit),
  l=l/\
  m=m/\
  e1_1=e1_1/\
  e0_1=e0_1/\
  (0:Int)=p.1/\
  (1:Int)=p.2.1/\
  (0:Int)=(0:Int)/\
  b=b/\
  c=p.2.2.1/\
  []=p.2.2.2.1/\
  ∃ (j:Nat),
  p.2.1=(4:Int)*(↑j:Int)+(1:Int)/\
  j<=(90:Nat)/\(∀ (i:Nat),i<j->goB l m i=true)/\(p.2.2.2.1,p.2.2.1,p.1)=runB l j)/\
  ∀ (p:Int×Int×List Int×List Ins×Unit),
 let e0_2:Bool:=decide (IntKind.i64.wrap (p.2.1+(3:Int))<g)&&decide ((↑(List.length p.2.2.2.1):Int)<m)&&decide (p.1<(90:Int));
 let e1_2:List Int:=p.2.2.1;
 let c:List Ins:=p.2.2.2.1;
 let a:Int:=p.2.1;
 let h:Bool:=decide ((↑(List.length e1_2):Int) >(0:Int));
 let d:Int:=p.1;
 let r:Int:=F8 (List.getD l (Int.toNat (IntKind.i64.wrap (a+(1:Int)))) (0:Int)) (4:Int);
 let e:Int:=F8 (List.getD l (Int.toNat a) (0:Int)) (12:Int);
 let f:Int:=F8 (List.getD l (Int.toNat a) (0:Int)) (15:Int);
 let o:Int:=IntKind.i64.wrap (a+(3:Int));
 let k:Int:=IntKind.i64.wrap (a+(2:Int));
 let q:Int:=IntKind.i64.wrap ((↑(List.length e1_2):Int)-(1:Int));
 let n:Int:=IntKind.i64.wrap (a+(1:Int));
  (∃ (j:Nat),a=(4:Int)*(↑j:Int)+(1:Int)/\j<=(90:Nat)/\(∀ (i:Nat),i<j->goB l m i=true)/\(c,e1_2,d)=runB l j)->
  (e0_2=true->
  ((0:Int)<=a/\a<g)/\
  (15:Int)<=(4611686018427387904:Int)/\
  ((0:Int)<=a/\a<g)/\
  (12:Int)<=(4611686018427387904:Int)/\
  (∃ (p:Int×List Int×Unit),
  l=l/\
  m=m/\
  e1_1=e1_1/\
  e0_1=e0_1/\
  d=d/\
  a=a/\
  e0_2=e0_2/\
  (0:Int)=p.1/\
  (0:Int)=(0:Int)/\
  b=b/\
  e1_2=e1_2/\
  c=c/\
  f=f/\
  e=e/\
  []=p.2.1/\
  (0:Int)<=p.1/\
  p.1<=F8 (List.getD l (Int.toNat a+(1:Nat)) (0:Int)) (4:Int)/\
  p.2.1=O2 e1_2 (List.getD l (Int.toNat a+(2:Nat)) (0:Int)) (Int.toNat p.1)/\(e1_2=[]->p.1=(0:Int)))/\
  ∀ (p:Int×List Int×Unit),
 let e0_3:Bool:=decide (p.1<r)&&h;
 let e1_3:List Int:=
  [W6 e1_2
  (IntKind.i64.wrap
  (IntKind.i64.wrap
  (Int.tdiv (List.getD l (Int.toNat k) (0:Int)) (IntKind.i64.wrap ((1:Int)+IntKind.i64.wrap ((5:Int)*p.1))))+
  p.1))];
 let e2_1:List Int:=p.2.1;
 let e3_1:Int:=p.1;
 let h:Int:=F8 (List.getD l (Int.toNat a+(1:Nat)) (0:Int)) (4:Int);
 let e5_1:Int:=List.getD l (Int.toNat a+(2:Nat)) (0:Int);
  (0:Int)<=e3_1/\e3_1<=h/\e2_1=O2 e1_2 e5_1 (Int.toNat e3_1)/\(e1_2=[]->e3_1=(0:Int))->
  ((0:Int)<=n/\n<g)/\
  (4:Int)<=(4611686018427387904:Int)/\
  (e0_3=true->
  ((0:Int)<=k/\k<g)/\
  IntKind.i64.wrap ((1:Int)+IntKind.i64.wrap ((5:Int)*e3_1))≠(0:Int)/\
  (List.length e2_1+List.length e1_3)*(8:Nat)<=(140737488355328:Nat)/\
  ∃ (p':Int×List Int×Unit),
  l=l/\
  m=m/\
  e1_1=e1_1/\
  e0_1=e0_1/\
  d=d/\
  a=a/\
  e0_2=e0_2/\
  IntKind.i64.wrap (e3_1+(1:Int))=p'.1/\
  (0:Int)=(0:Int)/\
  b=b/\
  e1_2=e1_2/\
  c=c/\
  f=f/\
  e=e/\
  e2_1++e1_3=p'.2.1/\
  ((0:Int)<=p'.1/\
  p'.1<=h/\p'.2.1=O2 e1_2 e5_1 (Int.toNat p'.1)/\(e1_2=[]->p'.1=(0:Int)))/\
  (4:Nat)-Int.toNat p'.1<(4:Nat)-Int.toNat e3_1)/\
  (e0_3=false->
  (∃ (p:Int×Int×List Int×Unit),
  l=l/\
  m=m/\
  e1_1=e1_1/\
  e0_1=e0_1/\
  a=a/\
  e0_2=e0_2/\
  e3_1=e3_1/\
  e0_3=e0_3/\
  (0:Int)=p.1/\
  d=p.2.1/\
  (0:Int)=(0:Int)/\
  b=b/\
  e1_2=e1_2/\
  c=c/\
  f=f/\
  e=e/\
  e2_1=e2_1/\
  []=p.2.2.1/\
  (0:Int)<=p.1/\
  p.1<=(↑(toN (List.getD l (Int.toNat a+(3:Nat)) (0:Int))):Int)/\
  p.2.1=d+p.1/\p.2.2.1=P8 (parB l) d (Int.toNat p.1))/\
  ∀ (p:Int×Int×List Int×Unit),
 let e0_4:Bool:=
  decide
  (p.1<
  IntKind.i64.wrap ((1:Int)+IntKind.i64.wrap (Int.tdiv (F8 (List.getD l (Int.toNat o) (0:Int)) (5:Int)) (4:Int))));
 let e1_4:List Int:=p.2.2.1;
 let e2_2:List Int:=
  [IntKind.i64.wrap (b+Int.tmod (IntKind.i64.wrap (IntKind.i64.wrap (p.2.1*(7:Int))+(5:Int))) (97:Int))];
 let e3_2:Int:=p.1;
 let h:Int:=p.2.1;
 let e5_2:Int:=(↑(toN (List.getD l (Int.toNat a+(3:Nat)) (0:Int))):Int);
  (0:Int)<=e3_2/\e3_2<=e5_2/\h=d+e3_2/\e1_4=P8 (parB l) d (Int.toNat e3_2)->
  ((0:Int)<=o/\o<g)/\
  (5:Int)<=(4611686018427387904:Int)/\
  (4:Int)≠(0:Int)/\
  (e0_4=true->
  (97:Int)≠(0:Int)/\
  (List.length e1_4+List.length e2_2)*(8:Nat)<=(140737488355328:Nat)/\
  ∃ (p':Int×Int×List Int×Unit),
  l=l/\
  m=m/\
  e1_1=e1_1/\
  e0_1=e0_1/\
  a=a/\
  e0_2=e0_2/\
  e3_1=e3_1/\
  e0_3=e0_3/\
  IntKind.i64.wrap (e3_2+(1:Int))=p'.1/\
  IntKind.i64.wrap (h+(1:Int))=p'.2.1/\
  (0:Int)=(0:Int)/\
  b=b/\
  e1_2=e1_2/\
  c=c/\
  f=f/\
  e=e/\
  e2_1=e2_1/\
  e1_4++e2_2=p'.2.2.1/\
  ((0:Int)<=p'.1/\
  p'.1<=e5_2/\
  p'.2.1=d+p'.1/\p'.2.2.1=P8 (parB l) d (Int.toNat p'.1))/\
  (4:Nat)-Int.toNat p'.1<(4:Nat)-Int.toNat e3_2)/\
  (e0_4=false->
  (List.length e1_2+List.length e1_4)*(8:Nat)<=(140737488355328:Nat)/\
  (List.length c+List.length [Ins.mk f e e1_4 e2_1 []])*(88:Nat)<=(140737488355328:Nat)/\
  ∃ (p':Int×Int×List Int×List Ins×Unit),
  l=l/\
  m=m/\
  e1_1=e1_1/\
  e0_1=e0_1/\
  h=p'.1/\
  IntKind.i64.wrap (a+(4:Int))=p'.2.1/\
  (0:Int)=(0:Int)/\
  b=b/\
  e1_2++e1_4=p'.2.2.1/\
  c++[Ins.mk f e e1_4 e2_1 []]=p'.2.2.2.1/\
  (∃ (j:Nat),
  p'.2.1=(4:Int)*(↑j:Int)+(1:Int)/\
  j<=(90:Nat)/\
  (∀ (i:Nat),i<j->goB l m i=true)/\(p'.2.2.2.1,p'.2.2.1,p'.1)=runB l j)/\
  (400:Nat)-Int.toNat p'.2.1<(400:Nat)-Int.toNat a)))/\
  (e0_2=false->
  (∃ (p:Int×List Int×Unit),
  l=l/\
  m=m/\
  e1_1=e1_1/\
  e0_1=e0_1/\
  d=d/\
  a=a/\
  e0_2=e0_2/\
  (0:Int)=p.1/\
  (0:Int)=(0:Int)/\
  b=b/\e1_2=e1_2/\c=c/\[]=p.2.1/\(0:Int)<=p.1/\p.1<=(2:Int)/\p.2.1=List.take (Int.toNat p.1) (outB e1_2))/\
  ∀ (p:Int×List Int×Unit),
 let e0_3:Bool:=decide (p.1<(2:Int))&&h;
 let g:List Int:=[W6 e1_2 (IntKind.i64.wrap (q-IntKind.i64.wrap ((2:Int)*p.1)))];
 let e2_1:List Int:=p.2.1;
 let e3_1:Int:=p.1;
  (0:Int)<=e3_1/\e3_1<=(2:Int)/\e2_1=List.take (Int.toNat e3_1) (outB e1_2)->
  (e0_3=true->
  (List.length e2_1+List.length g)*(8:Nat)<=(140737488355328:Nat)/\
  ∃ (p':Int×List Int×Unit),
  l=l/\
  m=m/\
  e1_1=e1_1/\
  e0_1=e0_1/\
  d=d/\
  a=a/\
  e0_2=e0_2/\
  IntKind.i64.wrap (e3_1+(1:Int))=p'.1/\
  (0:Int)=(0:Int)/\
  b=b/\
  e1_2=e1_2/\
  c=c/\
  e2_1++g=p'.2.1/\
  ((0:Int)<=p'.1/\p'.1<=(2:Int)/\p'.2.1=List.take (Int.toNat p'.1) (outB e1_2))/\
  (2:Nat)-Int.toNat p'.1<(2:Nat)-Int.toNat e3_1)/\
  (e0_3=false->(b,c,e2_1,([]:List Int),())=(parB l,(A4 l m).code,(A4 l m).out,([]:List Int),()))))):=by kernel_rfl
theorem bQ2 {n b:Int} (d:1<=b):(Int.tmod n b<0->Int.tmod n b+b=n % b)/\(¬ Int.tmod n b<0->Int.tmod n b=n % b)/\-b<Int.tmod n b:=by
 have h:=Int.tmod_eq_emod (a:=n) (b:=b);have h1:=Int.emod_nonneg n (b:=b) (by omega);have h2:=Int.emod_lt_of_pos n (b:=b) (by omega);split at h
 .refine ⟨λ_=>by omega,λ_=>by omega,by omega⟩
 .rename_i hc;have h3:¬ n % b=0:=λc=>hc (.inr (Int.dvd_of_emod_eq_zero c));refine ⟨λ_=>by omega,λ_=>by omega,by omega⟩
theorem ck0 (n b:Int) (d:b<=4611686018427387904):vc (EV []) noL Go.Proofs.Tryd.f65 cTurn (n,b,()):=(cj9 n b).mpr (by
 intro e f a;refine ⟨λh=>?_,λh=>?_⟩
 .have h:=cq2 h;simp [a,F8,h]
 .have h:=cq1 h;obtain ⟨h1,h2,h3⟩:=bQ2 (n:=n) (b:=b) (by omega);have c:F8 n b=n % b:=by unfold F8;rw [if_neg h]
  refine ⟨by omega,λhc=>?_,λhc=>?_⟩
  .have hc:=cq2 hc;simp only [a];rw [c,<-h1 hc,G0 (by omega) (by omega)]
  .have hc:=cq1 hc;simp only [a];rw [c,<-h2 hc])
theorem av0:C9 prog RG 65 cTurn:=E8 C1 (λ_=>noL) (by kernel_rfl) (by kernel_rfl) (by kernel_rfl) λ(n,b,()) a=>ck0 n b a
theorem P7 {n b:Int} (a:1<=b):0<=F8 n b/\F8 n b<b:=by unfold F8;rw [if_neg (by omega)];exact ⟨Int.emod_nonneg n (by omega),Int.emod_lt_of_pos n (by omega)⟩
theorem co0 (l:List Int) (n:Int):vc (EV [(65,cTurn)]) noL Go.Proofs.Tryd.f66 cNth (l,n,()):=(cn9 l n).mpr (by
 intro a hs;have hl:l.length<=140737488355328:=hs.len;refine ⟨λh=>?_,λh=>?_⟩
 .have h:(l.length:Int)=0:=by simpa [a] using h
  have:l=[]:=List.length_eq_zero_iff.1 (by omega);rw [this];rfl
 .have h:¬ (l.length:Int)=0:=by simpa [a] using h
  have c:l≠[]:=λd=>h (by rw [d];rfl);have e:=P7 (n:=n) (b:=(l.length:Int)) (by omega);refine ⟨by dsimp only [a];omega,e,?_⟩;dsimp only [a];unfold W6 F8;rw [if_neg c,if_neg (by omega)])
theorem bQ3:C9 prog RG 66 cNth:=E8 (A8 av0 C1) (λ_=>noL) (by kernel_rfl) (by kernel_rfl) (by kernel_rfl) λ(l,n,()) _=>co0 l n
theorem bg9:C9 prog RG 36 cReadsL:=E8 (A8 bl2 C1) (λ_=>noL) (by kernel_rfl) (by kernel_rfl) (by kernel_rfl) λ(o,n,t,f,b,()) a=>(bQ1 o n t f b).mpr (λ_ _ _=>⟨by simp only [List.length_nil,Nat.zero_add];exact a,rfl⟩)
theorem aX2 (l:List Int):0<=parB l/\parB l<4:=P7 (by omega)
theorem bu8 (d:Int):1<=toN d/\toN d<=2:=by have:=P7 (n:=d) (b:=5) (by omega);unfold toN;omega
theorem bQ4 (k:Nat):iota (k+1)=iota k++[(k:Int)]:=by simp [iota,List.range_succ]
theorem aJ2 (k:Nat):(iota k).length=k:=by simp [iota]
theorem bE1 (p c:Int) (k:Nat):P8 p c (k+1)=P8 p c k++[toK p c k]:=by simp [P8,List.range_succ]
theorem Y6 (p c:Int) (k:Nat):(P8 p c k).length=k:=by simp [P8]
theorem bh0 (t:List Int) (c:Int) (k:Nat):O2 t c (k+1)=O2 t c k++[bY8 t c k]:=by simp [O2,List.range_succ]
theorem al6 (t:List Int) (c:Int) (k:Nat):(O2 t c k).length=k:=by simp [O2]
theorem aX3 (l:List Int):∀ j,(runB l j).1.length=j/\(runB l j).2.1.length<=3+2*j/\(j:Int)<=(runB l j).2.2/\(runB l j).2.2<=2*j
 |0=>by have:=aX2 l;refine ⟨rfl,?_,Int.le_refl _,Int.le_refl _⟩;show (iota _).length<=_;rw [aJ2];omega
 |j+1=>by
  obtain ⟨h1,h2,h3,h4⟩:=aX3 l j;have a:=bu8 (l.getD (4*j+1+3) 0);refine ⟨?_,?_,?_,?_⟩
  .show (_++[_]).length=_;rw [cr3,h1];rfl
  .show (_++P8 _ _ _).length<=_;rw [cr3,Y6];omega
  .show _<=(runB l j).2.2+_;omega
  .show (runB l j).2.2+_<=_;omega
theorem ck1 {l:List Int} {m:Int} {j:Nat} (h1:j<=90) (h2:∀ i,i<j->goB l m i=true) (h3:goB l m j=false):endB l m=j:=by
 unfold endB;have:(List.range 91).find? (λj=>!goB l m j)=some j:=by rw [List.find?_eq_some_iff_getElem];refine ⟨by rw [h3];rfl,j,by simp;omega,by simp,λi a=>?_⟩;simp only [List.getElem_range];rw [h2 i a];rfl
 rw [this];rfl
theorem cp0 (d:Int):IntKind.i64.wrap (1+IntKind.i64.wrap (Int.tdiv (F8 d 5) 4))=(toN d:Int):=by have h:=P7 (n:=d) (b:=5) (by omega);have h2:Int.tdiv (F8 d 5) 4=F8 d 5 / 4:=Int.tdiv_eq_ediv_of_nonneg h.1;rw [h2,G0 (n:=F8 d 5 / 4) (by omega) (by omega),G0 (by omega) (by omega)];unfold toN;omega
theorem cp1 {p n:Int} (a:0<=p/\p<4) (h0:0<=n) (h1:n<=1000):IntKind.i64.wrap (p+Int.tmod (IntKind.i64.wrap (IntKind.i64.wrap (n*7)+5)) 97)=p+(n*7+5) % 97:=by rw [G0 (n:=n*7) (by omega) (by omega),G0 (n:=n*7+5) (by omega) (by omega),Int.tmod_eq_emod_of_nonneg (by omega),G0 (by omega) (by omega)]
theorem ck2 (there:List Int) (c:Int) {k:Nat} (a:k<=4):W6 there (IntKind.i64.wrap (IntKind.i64.wrap (Int.tdiv c (IntKind.i64.wrap (1+IntKind.i64.wrap (5*(k:Int)))))+k))=bY8 there c k:=by rw [G0 (n:=5*(k:Int)) (by omega) (by omega),G0 (n:=1+5*(k:Int)) (by omega) (by omega)];rfl
theorem bZ2 (l:List Int) (m:Int):vc (EV [(65,cTurn),(66,cNth)]) (bP9 l m) Go.Proofs.Tryd.f25 cBuilt (l,m,()):=by
 rw [bZ1 l m];intro P Q hs;have hl:l.length<=140737488355328:=hs.len;have z:P=parB l:=rfl;have A:Q=(l.length:Int):=rfl
 clear_value P Q
 subst z A;have R:=aX2 l;simp only [true_and,and_true];refine ⟨by omega,⟨(0,[],()),rfl,rfl,Int.le_refl _,R.1,rfl⟩,?_⟩;rintro ⟨r,th,⟨⟩⟩;dsimp only;rintro ⟨h0,h1,rfl⟩;obtain ⟨k,rfl⟩:=cp8 h0;simp only [cp6] at*
 refine ⟨λg=>?_,λe=>?_⟩
 .have g:=cq2 g;refine ⟨by rw [aJ2];simp;omega,((k+1:Nat),iota (k+1),()),B8 (m:=4) (by omega) (by omega),(bQ4 k).symm,⟨by dsimp only;omega,by dsimp only;omega,by dsimp only;rw [cp6]⟩,by dsimp only;omega⟩
 have e:=cq1 e;have B:(k:Int)=parB l:=by omega
 have p:iota k=(runB l 0).2.1:=by show _=iota (parB l).toNat;rw [<-B,cp6]
 refine ⟨⟨(0,1,iota k,[],()),rfl,rfl,rfl,rfl,0,rfl,by omega,λi y=>by omega,by rw [p];rfl⟩,?_⟩;clear e p;rintro ⟨count,i,there,code,⟨⟩⟩;dsimp only;rintro ⟨j,rfl,T,s,a⟩;obtain ⟨t,U,V,W⟩:=aX3 l j;have hc:code=(runB l j).1:=congrArg (·.1) a;have d:there=(runB l j).2.1:=congrArg (·.2.1) a;have c:count=(runB l j).2.2:=congrArg (·.2.2) a;clear a;have C:IntKind.i64.wrap (4*(j:Int)+1+3)=((4*j+4:Nat):Int):=by rw [G0 (by omega) (by omega)];omega
 have D:IntKind.i64.wrap (4*(j:Int)+1+2)=((4*j+3:Nat):Int):=by rw [G0 (by omega) (by omega)];omega
 have E:IntKind.i64.wrap (4*(j:Int)+1+1)=((4*j+2:Nat):Int):=by rw [G0 (by omega) (by omega)];omega
 have F:(4*(j:Int)+1).toNat=4*j+1:=by omega
 have v:IntKind.i64.wrap ((there.length:Int)-1)=(there.length:Int)-1:=by rw [G0 (by rw [d];omega) (by rw [d];omega)]
 simp only [C,D,E,F,v,cp6];have G:(decide (((4*j+4:Nat):Int)<(l.length:Int))&&decide ((code.length:Int)<m)&&decide (count<90))=goB l m j:=by unfold goB;rw [hc,t,c];congr 2;simp only [decide_eq_decide];omega
 rw [G];refine ⟨λhg=>?_,λhg=>?_⟩
 .have H:(4*j+4<l.length/\(j:Int)<m)/\(runB l j).2.2<90:=by simpa [goB] using hg
  obtain ⟨⟨g1,g2⟩,g3⟩:=H;have I:=P7 (n:=l.getD (4*j+2) 0) (b:=4) (by omega);refine ⟨⟨by omega,by omega⟩,by omega,⟨by omega,by omega⟩,by omega,⟨(0,[],()),rfl,rfl,Int.le_refl _,I.1,rfl,λ_=>rfl⟩,?_⟩;rintro ⟨q,fr,⟨⟩⟩;dsimp only;rintro ⟨J,K,rfl,L⟩;obtain ⟨q,rfl⟩:=cp8 J;have K:(q:Int)<=F8 (l.getD (4*j+2) 0) 4:=K;have hf:=ck2 there (l.getD (4*j+3) 0) (k:=q) (by omega);simp only [cp6,hf] at*
  refine ⟨⟨by omega,by omega⟩,by omega,λh=>?_,λh=>?_⟩
  .simp only [cp5,cr4] at h;refine ⟨⟨by omega,by omega⟩,by rw [G0 (n:=5*(q:Int)) (by omega) (by omega),G0 (by omega) (by omega)];omega,by rw [al6];simp;omega,((q+1:Nat),O2 there (l.getD (4*j+3) 0) (q+1),()),B8 (m:=4) (by omega) (by omega),(bh0 _ _ _).symm,⟨by dsimp only;omega,?_,by dsimp only;rw [cp6],λc=>?_⟩,by dsimp only;omega⟩
   .show ((q+1:Nat):Int)<=F8 (l.getD (4*j+2) 0) 4;omega
   .rw [c] at h;simp at h
  .have M:O2 there (l.getD (4*j+3) 0) q=ah8 there (l.getD (4*j+2) 0) (l.getD (4*j+3) 0):=by
    unfold ah8;simp only [Bool.and_eq_false_iff,decide_eq_false_iff_not] at h;split
    .rename_i c;have:=L c;have:q=0:=by omega
     rw [this];rfl
    .rename_i c;have w:0<there.length:=List.length_pos_iff.2 c;rw [show (F8 (l.getD (4*j+2) 0) 4).toNat=q from by omega]
   have hN:=bu8 (l.getD (4*j+4) 0);have X:=cp0 (l.getD (4*j+4) 0);refine ⟨⟨(0,count,[],()),rfl,rfl,rfl,Int.le_refl _,by dsimp only;omega,(Int.add_zero _).symm,rfl⟩,?_⟩;rintro ⟨u,n2,to,⟨⟩⟩;dsimp only;rintro ⟨Y,S,rfl,rfl⟩;obtain ⟨u,rfl⟩:=cp8 Y;have S:(u:Int)<=(toN (l.getD (4*j+4) 0):Int):=S;have B:=cp1 R (n:=count+(u:Int)) (by omega) (by omega);simp only [cp6,X,B] at*
   refine ⟨⟨by omega,by omega⟩,by omega,by omega,λh=>?_,λh=>?_⟩
   .have h:=cq2 h;refine ⟨by omega,by rw [Y6];simp;omega,((u+1:Nat),count+((u+1:Nat):Int),P8 (parB l) count (u+1),()),B8 (m:=4) (by omega) (by omega),by rw [G0 (by omega) (by omega)];dsimp only;omega,(bE1 _ _ _).symm,⟨by dsimp only;omega,?_,rfl,by dsimp only;rw [cp6]⟩,by dsimp only;omega⟩;show ((u+1:Nat):Int)<=(toN (l.getD (4*j+4) 0):Int);omega
   .have h:=cq1 h;have Z:u=toN (l.getD (4*j+4) 0):=by omega
    have f:runB l (j+1)=(code++[⟨F8 (l.getD (4*j+1) 0) 15,F8 (l.getD (4*j+1) 0) 12,P8 (parB l) count u,O2 there (l.getD (4*j+3) 0) q,[]⟩],there++P8 (parB l) count u,count+u):=by rw [M,Z,hc,d,c];rfl
    refine ⟨by rw [d,Y6];omega,by rw [hc,t];simp;omega,(count+u,((4*(j+1)+1:Nat):Int),there++P8 (parB l) count u,code++[⟨F8 (l.getD (4*j+1) 0) 15,F8 (l.getD (4*j+1) 0) 12,P8 (parB l) count u,O2 there (l.getD (4*j+3) 0) q,[]⟩],()),rfl,by rw [G0 (by omega) (by omega)];dsimp only;omega,rfl,rfl,⟨j+1,by dsimp only;omega,by omega,λi y=>?_,f.symm⟩,by dsimp only;omega⟩;rcases Nat.lt_succ_iff_lt_or_eq.1 y with y|rfl
    .exact s i y
    .exact hg
 .have x:=ck1 T s hg;refine ⟨⟨(0,[],()),rfl,rfl,Int.le_refl _,by dsimp only;omega,by dsimp only;rfl⟩,?_⟩;rintro ⟨q,o,⟨⟩⟩;dsimp only;rintro ⟨J,K,rfl⟩;obtain ⟨q,rfl⟩:=cp8 J;simp only [cp6] at*
  refine ⟨λh=>?_,λh=>?_⟩
  .simp only [cp5,cr4] at h;have N:there≠[]:=by rintro hh;rw [hh] at h;simp at h
   have ho:outB there=[W6 there (there.length-1),W6 there (there.length-3)]:=if_neg N;have L:q=0\/q=1:=by omega
   rw [ho];rcases L with rfl|rfl
   .refine ⟨by show (0+1)*8<=140737488355328;omega,(1,[W6 there (there.length-1)],()),rfl,?_,⟨by dsimp only;omega,by dsimp only;omega,rfl⟩,by dsimp only;omega⟩;show []++[W6 there _]=_;rw [G0 (n:=2*((0:Nat):Int)) (by omega) (by omega),G0 (by rw [d];omega) (by rw [d];omega),show ((there.length:Int)-1-2*((0:Nat):Int))=there.length-1 from by omega];rfl
   .refine ⟨by show (1+1)*8<=140737488355328;omega,(2,[W6 there (there.length-1),W6 there (there.length-3)],()),rfl,?_,⟨by dsimp only;omega,by dsimp only;omega,rfl⟩,by dsimp only;omega⟩;show [W6 there _]++[W6 there _]=_;rw [G0 (n:=2*((1:Nat):Int)) (by omega) (by omega),G0 (n:=(there.length:Int)-1-2*((1:Nat):Int)) (by rw [d];omega) (by rw [d];omega)];rw [show ((there.length:Int)-1-2*((1:Nat):Int))=there.length-3 from by omega];rfl
  .have O:(outB there).take q=outB there:=by
    simp only [Bool.and_eq_false_iff,decide_eq_false_iff_not] at h;apply List.take_of_length_le;unfold outB;split
    .exact Nat.zero_le _
    .rename_i c;have w:0<there.length:=List.length_pos_iff.2 c;show 2<=q;omega
   rw [O,hc,d];show _=(parB l,(runB l (endB l m)).1,outB (runB l (endB l m)).2.1,[],());rw [x]
theorem bo5:C9 prog RG 25 cBuilt:=E8 (A8 av0 (A8 bQ3 C1)) (λp=>bP9 p.1 p.2.1) (by kernel_rfl) (by kernel_rfl) (by kernel_rfl) λ(l,m,()) _=>bZ2 l m
theorem bh1 (l:List Ins) (x:Ins):J9 (l++[x])=max (max (J9 l) ((B9 [] x.from_).length:Int)) (x.to.length:Int):=by simp [J9]
theorem aJ3 {N:Int}:∀ (l:List Ins) (a:Int),1<=a/\a<=N->(∀ x∈l,(x.from_.length:Int)<=N/\(x.to.length:Int)<=N)->1<=l.foldl (λk x=>max (max k ((B9 [] x.from_).length:Int)) (x.to.length:Int)) a/\l.foldl (λk x=>max (max k ((B9 [] x.from_).length:Int)) (x.to.length:Int)) a<=N
 |[],a,h,_=>h
 |x::r,a,h,b=>by
  have h2:=b x (by simp);have h3:=S1 [] x.from_;simp only [List.length_nil,Nat.zero_add] at h3;refine aJ3 r _ ⟨?_,?_⟩ (λy c=>b y (by simp [c]))
  .dsimp only;omega
  .dsimp only;omega
theorem aP9 {N:Int} (a:1<=N) (l:List Ins) (h:∀ x∈l,(x.from_.length:Int)<=N/\(x.to.length:Int)<=N):1<=J9 l/\J9 l<=N:=aJ3 l 1 ⟨Int.le_refl _,a⟩ h
theorem bZ3 (a:Int) (b:List Ins) (c d:List Int) (n k:Int) (l:N0 b=true/\k<=1000):vc (EV [(36,cReadsL),(65,cTurn)]) (bQ0 b) Go.Proofs.Tryd.f27 cSlots (a,b,c,d,n,k,()):=by
 rw [bZ0 a b c d n k];intro j hs _ _;have m:b.length<=140737488355328:=hs.len;have o:j=ins0:=rfl
 clear_value j
 subst o;simp only [true_and,and_true];obtain ⟨e,p⟩:=l;have f:∀ x∈b,x.from_.length<=17592186044400/\x.to.length<=17592186044400:=by intro x f;unfold N0 at e;have:=cs5.1 e x f;simpa using this
 refine ⟨⟨(1,0,()),rfl,rfl,Int.le_refl _,by dsimp only;omega,rfl⟩,?_⟩;rintro ⟨s,i,⟨⟩⟩;dsimp only;rintro ⟨h0,h1,rfl⟩;obtain ⟨i,rfl⟩:=cp8 h0;simp only [cp6] at*
 refine ⟨λh=>?_,λh=>?_⟩
 .have h:=cq2 h;have g:i<b.length:=by omega
  refine ⟨⟨by omega,by omega⟩,(f _ (G3 g _)).1,⟨by omega,by omega⟩,(J9 (b.take (i+1)),((i+1:Nat):Int),()),?_,B8 (by omega) m,⟨by dsimp only;omega,by dsimp only;omega,by dsimp only;rw [cp6]⟩,by dsimp only;omega⟩;rw [A5 g ins0,bh1]
 .have h:=cq1 h;refine ⟨by omega,?_⟩;have g:i=b.length:=by omega
  subst g;rw [cs3];have r:=aP9 (N:=17592186044400) (by omega) b (λx hm=>by have:=f x hm;omega);have t:0<=F8 n k/\F8 n k<=1000:=by
   by_cases q:k<1
   .unfold F8;rw [if_pos q];omega
   .have:=P7 (n:=n) (b:=k) (by omega);omega
  rw [G0 (by omega) (by omega)];rfl
theorem bo6:C9 prog RG 27 cSlots:=E8 (A8 bg9 (A8 av0 C1)) (λp=>bQ0 p.2.1) (by kernel_rfl) (by kernel_rfl) (by kernel_rfl) λ(a,b,c,d,n,k,()) e=>bZ3 a b c d n k e
theorem aJ4 {l:List Int} (n:Int) (h:l≠[]):W6 l n∈l:=by have a:0<l.length:=List.length_pos_iff.2 h;unfold W6;rw [if_neg h];have h1:=Int.emod_nonneg n (b:=(l.length:Int)) (by omega);have h2:=Int.emod_lt_of_pos n (b:=(l.length:Int)) (by omega);exact G3 (by omega) _
theorem bu9 {k:Nat} {x:Int}:x∈iota k<->0<=x/\x<k:=by
 simp only [iota,List.mem_map,List.mem_range];constructor
 .rintro ⟨i,a,rfl⟩;simp only [Int.ofNat_eq_natCast];omega
 .rintro ⟨h0,h1⟩;exact ⟨x.toNat,by omega,by simp only [Int.ofNat_eq_natCast];omega⟩
theorem bQ5 {p:Int} {c:Int} {k:Nat} {x:Int} (hc:0<=c) (h:x∈P8 p c k):p<=x/\x<p+97:=by simp only [P8,List.mem_map,List.mem_range,toK] at h;obtain ⟨i,a,rfl⟩:=h;omega
theorem bQ6 (p:Int) (c n:Nat):P8 p 0 (c+n)=P8 p 0 c++P8 p (c:Int) n:=by simp only [P8,List.range_add,List.map_append,List.map_map];congr 1;apply List.map_congr_left;intro k _;simp only [Function.comp,toK];congr 3;omega
theorem bo7 {p:Int} {n:Nat} (h:n<=97):(P8 p 0 n).Nodup:=by unfold P8;unfold List.Nodup;rw [List.pairwise_map];refine List.Pairwise.imp_of_mem (R:=λa b=>a<b) ?_ List.pairwise_lt_range;intro a b c d e;simp only [List.mem_range] at c d;simp only [toK];omega
theorem bo8 (l:List Ins) (x:Ins):wr (l++[x])=wr l++x.to:=by simp [wr]
theorem bo9 {there:List Int} {b c x:Int} (h:x∈ah8 there b c):x∈there:=by
 unfold ah8 at h;split at h
 .simp at h
 .rename_i a;simp only [O2,List.mem_map,bY8] at h;obtain ⟨k,_,rfl⟩:=h;exact aJ4 _ a
theorem aL1 (there:List Int) (b c:Int):(ah8 there b c).length<=3:=by
 have:=P7 (n:=b) (b:=4) (by omega);unfold ah8;split
 .exact Nat.zero_le _
 .rw [al6];omega
theorem bv0 {there:List Int} {x:Int} (h:x∈outB there):x∈there:=by
 unfold outB at h;split at h
 .simp at h
 .rename_i a;simp only [List.mem_cons,List.not_mem_nil,or_false] at h;rcases h with rfl|rfl
  .exact aJ4 _ a
  .exact aJ4 _ a
structure BuiltOk (p:Int) (s:BS) (n:Nat):Prop where
 cnt:s.2.2=n
 wrs:wr s.1=P8 p 0 n
 ther:s.2.1=iota p.toNat++wr s.1
 thr:F6 p [] s.1=true
 froms:∀ x∈s.1,x.from_.length<=3/\∀ y∈x.from_,y∈s.2.1
 tos:∀ x∈s.1,1<=x.to.length/\x.to.length<=2
 bod:∀ x∈s.1,x.body=[]
theorem bv1 (l:List Int):∀ j,∃ n,BuiltOk (parB l) (runB l j) n
 |0=>⟨0,rfl,rfl,by show _=_++[];rw [List.append_nil];rfl,rfl,λx a=>by simp [runB] at a,λx a=>by simp [runB] at a,λx a=>by simp [runB] at a⟩
 |j+1=>by
  obtain ⟨n,h⟩:=bv1 l j;have p:=aX2 l;obtain ⟨s,hs⟩:∃ s,runB l j=s:=⟨_,rfl⟩;rw [hs] at h;obtain ⟨d,i⟩:∃ d,toN (l.getD (4*j+1+3) 0)=d:=⟨_,rfl⟩;have k:=bu8 (l.getD (4*j+1+3) 0);have e:runB l (j+1)=bY9 (parB l) l (4*j+1) s:=by show bY9 _ _ _ (runB l j)=_;rw [hs]
  rw [e];unfold bY9;rw [i] at*
  obtain ⟨fr,c⟩:∃ fr,ah8 s.2.1 (l.getD (4*j+1+1) 0) (l.getD (4*j+1+2) 0)=fr:=⟨_,rfl⟩;have f:∀ y∈fr,y∈s.2.1:=λy b=>by rw [<-c] at b;exact bo9 b
  have g:fr.length<=3:=by rw [<-c];exact aL1 _ _ _
  rw [c];refine ⟨n+d,?_,?_,?_,?_,?_,?_,?_⟩
  .show s.2.2+(d:Int)=_;rw [h.cnt];omega
  .show wr (s.1++[_])=_;rw [bo8,h.wrs,bQ6,h.cnt]
  .show s.2.1++_=_++wr (s.1++[_]);rw [bo8,h.ther,cr8]
  .show F6 _ _ (s.1++[_])=true;rw [M0,h.thr];simp only [Bool.true_and,F6,Bool.and_true,List.nil_append,cs5,Bool.or_eq_true,cr4,List.contains_iff_mem];intro y b;have:=f y b;rw [h.ther,cr9] at this;rcases this with m|o
   .have:=bu9.1 m;left;omega
   .exact .inr o
  .intro x a;rcases cr9.1 a with a|a
   .exact ⟨(h.froms x a).1,λy b=>cr9.2 (.inl ((h.froms x a).2 y b))⟩
   .rw [cq3] at a;subst a;exact ⟨g,λy b=>cr9.2 (.inl (f y b))⟩
  .intro x a;rcases cr9.1 a with a|a
   .exact h.tos x a
   .rw [cq3] at a;subst a;show 1<=(P8 _ _ d).length/\(P8 _ _ d).length<=2;rw [Y6];exact k
  .intro x a;rcases cr9.1 a with a|a
   .exact h.bod x a
   .rw [cq3] at a;subst a;rfl
theorem bQ7 (l:List Int) (m:Int):endB l m<=90/\∀ i,i<endB l m->goB l m i=true:=by
 unfold endB;cases h:(List.range 91).find? λj=>!goB l m j with
 |none=>exact ⟨by simp,λi a=>by simp at a⟩
 |some j=>rw [List.find?_eq_some_iff_getElem] at h;obtain ⟨_,k,b,h1,h2⟩:=h;simp only [List.length_range,List.getElem_range] at b h1 h2;subst h1;refine ⟨by show k<=90;omega,λi a=>?_⟩;have:=h2 i a;simpa using this
theorem ck3 {l:List Int} {m:Int} (hm:0<=m):(endB l m:Int)<=m:=by
 have h:=(bQ7 l m).2;by_cases h0:endB l m=0
 .omega
 .have h1:=h (endB l m-1) (by omega);unfold goB at h1;simp only [cp5,cr4] at h1;omega
structure Made (a:Int) (b:List Ins) (c:List Int):Prop where
 chk:Checked a b c
 par:0<=a/\a<=3
 froms:∀ x∈b,x.from_.length<=3
 tos:∀ x∈b,1<=x.to.length/\x.to.length<=2
 bod:∀ x∈b,x.body=[]
 out:c.length<=2
 regs:∀ n∈wr b,n<100
theorem made (l:List Int) {m:Int} (hm:0<=m):Made (parB l) (A4 l m).code (A4 l m).out/\((A4 l m).code.length:Int)<=m:=by
 obtain ⟨n,h⟩:=bv1 l (endB l m);have hl:=aX3 l (endB l m);obtain ⟨g,d⟩:=bQ7 l m;have i:=aX2 l;have p:n<=91:=by
  have h1:=h.cnt;by_cases h0:endB l m=0
  .rw [h0] at h1;have:(0:Int)=n:=h1;omega
  .obtain ⟨k,j⟩:∃ k,endB l m=k+1:=⟨endB l m-1,by omega⟩;have h2:=d k (by omega);unfold goB at h2;simp only [cp5,cr4] at h2;rw [j] at h1;have h3:(runB l k).2.2+(toN (l.getD (4*k+1+3) 0):Int)=n:=h1;have:=bu8 (l.getD (4*k+1+3) 0);omega
 show Made (parB l) (runB l (endB l m)).1 (outB (runB l (endB l m)).2.1)/\((runB l (endB l m)).1.length:Int)<=m;obtain ⟨s,hs⟩:∃ s,runB l (endB l m)=s:=⟨_,rfl⟩;have o:=ck3 (l:=l) hm;rw [hs] at h hl |-;have b:∀ x∈wr s.1,parB l<=x/\x<parB l+97:=λx a=>by rw [h.wrs] at a;exact bQ5 (Int.le_refl _) a
 have e:∀ x∈s.2.1,(0<=x/\x<parB l)\/x∈wr s.1:=by
  intro x a;rw [h.ther,cr9] at a;rcases a with a|a
  .have:=bu9.1 a;left;omega
  .exact .inr a
 have c:∀ x∈s.2.1,0<=x/\x<=3999:=by
  intro x a;rcases e x a with a|a
  .omega
  .have:=b x a;omega
 refine ⟨⟨⟨by omega,i.1,by omega,λx a=>c x (bv0 a),?_,λx a y f=>c y ((h.froms x a).2 y f),?_,λx a=>(b x a).1,h.thr,?_⟩,by omega,λx a=>(h.froms x a).1,h.tos,h.bod,?_,λx a=>by have:=b x a;omega⟩,by omega⟩
 .intro x a y f;have:=b y (List.mem_flatMap.2 ⟨x,a,f⟩);omega
 .rw [G8,h.wrs];exact bo7 (by omega)
 .intro x a;rcases e x (bv0 a) with a|a
  .left;omega
  .exact .inr a
 .unfold outB;split<;>simp
theorem aQ0 {a:Int} {b:List Ins} {c d:List Int} (h:Checked a b c):E6 ⟨a,b,c,d⟩=0:=by
 have f:(lies a 0 4000&&c.all T4&&b.all λx=>x.to.all T4&&x.from_.all T4)=true:=by simp only [cp5,cs5,ar4,lies,cr4];exact ⟨⟨⟨h.pos,h.few⟩,h.outR⟩,λx e=>⟨h.toR x e,h.fromR x e⟩⟩
 have g:(D5 (wr b)&&(wr b).all λn=>decide (a<=n))=true:=by simp only [cp5,cs5,cr4];exact ⟨h.once,h.new⟩
 have i:(F6 a [] b&&c.all λn=>decide (n<a)||(wr b).contains n)=true:=by simp only [cp5,cs5,cr4,Bool.or_eq_true,List.contains_iff_mem];exact ⟨h.there,h.outT⟩
 simp only [E6,f,g,i,if_neg (Nat.not_lt.2 h.len)];rfl
theorem aa1 (sp:Spans) (rd:Reads) (N:Int) (m:Holds) (pl:Int) (st:List Int):∀ (l:List Nat) (acc:List Held),
  (∀ i acc',C0 sp rd N m pl st l acc=(some i,acc')->∃ s∈l,i=(s:Int)/\∀ r,mget eqP m ⟨false,(s:Int)⟩=some r->r∉st/\G6 (getS sp r).first (getS sp r).last pl=false)/\
  (∀ acc',C0 sp rd N m pl st l acc=(none,acc')->∀ x∈acc',x∈acc\/∃ s∈l,x.slot=(s:Int)/\mget eqP m ⟨false,(s:Int)⟩=some x.reg/\x.reg∉st)
 |[],acc=>by
  refine ⟨λi acc' h=>?_,λacc' h x c=>?_⟩
  .simp [C0] at h
  .simp only [C0,cq4,true_and] at h;subst h;exact .inl c
 |s::r,acc=>by
  refine ⟨λi acc' h=>?_,λacc' h x c=>?_⟩
  .simp only [C0] at h;cases hm:mget eqP m ⟨false,(s:Int)⟩ with
   |none=>rw [hm] at h;simp only [cq4,cp2] at h;exact ⟨s,by simp,h.1.symm,λr hr=>by rw [hm] at hr;cases hr⟩
   |some n=>
    rw [hm] at h;simp only at h;cases hc:st.contains n with
    |true=>rw [hc,cond_true] at h;obtain ⟨s',h1,h2,h3⟩:=(aa1 sp rd N m pl st r acc).1 i acc' h;exact ⟨s',by simp [h1],h2,h3⟩
    |false=>
     rw [hc,cond_false] at h;have b:n∉st:=λd=>by rw [List.contains_iff_mem.2 d] at hc;cases hc
     cases a:G6 (getS sp n).first (getS sp n).last pl with
     |true=>rw [a,cond_true] at h;obtain ⟨s',h1,h2,h3⟩:=(aa1 sp rd N m pl st r _).1 i acc' h;exact ⟨s',by simp [h1],h2,h3⟩
     |false=>rw [a,cond_false] at h;simp only [cq4,cp2] at h;refine ⟨s,by simp,h.1.symm,λr hr=>?_⟩;rw [hm] at hr;cases hr;exact ⟨b,a⟩
  .simp only [C0] at h;cases hm:mget eqP m ⟨false,(s:Int)⟩ with
   |none=>rw [hm] at h;simp at h
   |some n=>
    rw [hm] at h;simp only at h;cases hc:st.contains n with
    |true=>
     rw [hc,cond_true] at h;rcases (aa1 sp rd N m pl st r acc).2 acc' h x c with h1|⟨s',h1,h2⟩
     .exact .inl h1
     .exact .inr ⟨s',by simp [h1],h2⟩
    |false=>
     rw [hc,cond_false] at h;have b:n∉st:=λd=>by rw [List.contains_iff_mem.2 d] at hc;cases hc
     cases a:G6 (getS sp n).first (getS sp n).last pl with
     |true=>
      rw [a,cond_true] at h;rcases (aa1 sp rd N m pl st r _).2 acc' h x c with h1|⟨s',h1,h2⟩
      .rcases cr9.1 h1 with h1|h1
       .exact .inl h1
       .rw [cq3] at h1;subst h1;exact .inr ⟨s,by simp,rfl,hm,b⟩
      .exact .inr ⟨s',by simp [h1],h2⟩
     |false=>rw [a,cond_false] at h;simp at h
theorem bv2 {l:List Held} (h:l≠[]):L7 l∈l:=by
 cases l with
 |nil=>exact absurd rfl h
 |cons x r=>
  show r.foldl G4 x∈x::r;clear h
  induction r generalizing x with
  |nil=>simp
  |cons y r ih=>
   have h1:=ih (G4 x y);show r.foldl G4 (G4 x y)∈_;have h2:G4 x y=x\/G4 x y=y:=by
    unfold G4;cases ag8 y x
    .exact .inl rfl
    .exact .inr rfl
   rcases List.mem_cons.1 h1 with h1|h1
   .rw [h1];rcases h2 with h2|h2<;>rw [h2]<;>simp
   .simp [h1]
def goodI (ks cells:Int) (x:RIns):Prop:=ae1 ks cells x=true/\(x.kind≠0\/D5 x.ins.to=true)/\aK6 x.ins=true
theorem bE2 {n:Int} {l:List Int}:H5 n l=true<->∀ x∈l,0<=x/\x<n:=by simp [H5]
theorem goodI.mono {ks c c':Int} {x:RIns} (h:goodI ks c x) (hc:c<=c'):goodI ks c' x:=by
 obtain ⟨h1,h2⟩:=h;refine ⟨?_,h2⟩;unfold ae1 at h1 |-;split at h1
 .rename_i h0;rw [if_pos h0];exact h1
 .rename_i h0;rw [if_neg h0];split at h1
  .rename_i h3;rw [if_pos h3];simp only [cp5,bE2,cq3,forall_eq] at h1 |-;omega
  .cases h1
structure Inv (aZ7:SF) (T:List Int) (nm:Int->Int) (ks:Int) (S:AS) (m:Holds) (C:List Ins) (nx:Int):Prop where
 run:J4 S.code aZ7=((m,C,nx),true)
 slot:∀ (q:Nat) (n:Int),q<ks.toNat->mget eqP S.holds ⟨false,(q:Int)⟩=some n->n∉T->mget eqP m ⟨false,(q:Int)⟩=some (nm n)
 cell:∀ n cl,mget eqI S.cells n=some cl->0<=cl/\cl<S.ocells/\mget eqP m ⟨true,cl⟩=some (nm n)
 good:∀ x∈S.code,goodI ks S.ocells x
 low:0<=S.ocells
def InS (m:Holds) (ks n:Int):Prop:=∃ q:Nat,q<ks.toNat/\mget eqP m ⟨false,(q:Int)⟩=some n
theorem ck4 {b:List Ins} {k:Nat} (a:k<b.length):b=b.take k++b.getD k ins0::b.drop (k+1):=by
 conv=>lhs;rw [<-List.take_append_drop (k+1) b,A5 a ins0]
 simp
theorem ay0 {b:List Ins} {k:Nat} (a:k<b.length):wr (b.take (k+1))=wr (b.take k)++(b.getD k ins0).to:=by rw [A5 a ins0,bo8]
theorem av1 {a:Int} {b:List Ins} {c:List Int} (C:Checked a b c) (n:Int):∀ d k,k+d=b.length->n∈atL b c k->0<=n/\(n<a\/n∈wr (b.take k)):=by
 intro d
 induction d with
 |zero=>
  intro k i e;have:k=b.length:=by omega
  subst this;rw [ar5 b c (Nat.le_refl _),List.drop_length] at e;have e:n∈B9 [] c:=e;rw [K7] at e;rcases e with e|e
  .simp at e
  .rw [cs3];exact ⟨(C.outR n e).1,C.outT n e⟩
 |succ d ih=>
  intro k i e;have f:k<b.length:=by omega
  rw [ar5 b c (Nat.le_of_lt f),ag7 b c f] at e;have e:n∈ag1 (b.getD k ins0) (atL b c (k+1)):=e;rw [R7] at e;rcases e with e|⟨e,g⟩
  .have h1:=C.there;rw [ck4 f] at h1;exact ⟨(C.fromR _ (G3 f ins0) n e).1,by simpa using M1 h1 n e⟩
  .have h2:=ih (k+1) (by omega) e;rw [ay0 f,cr9] at h2;exact ⟨h2.1,h2.2.imp id (λh=>h.resolve_right g)⟩
theorem bQ8 {a:Int} {b:List Ins} {c:List Int} (C:Checked a b c) {k:Nat} (d:k<=b.length) (r:Int) (h:G6 (getS (A6 a b c) r).first (getS (A6 a b c) r).last k=false):¬ r∈atL b c k:=by
 intro e;have h1:=(aV1 C r k d).2 e;unfold U5 at h1;unfold getS at h;cases hm:mget eqI (A6 a b c) r with
 |none=>rw [hm] at h1;cases h1
 |some s=>rw [hm] at h1 h;simp only [Option.getD_some] at h;have h1:G6 s.first s.last k=true:=h1;rw [h] at h1;cases h1
def cLaw2:Con RU:=con [one,one] [ints,i64] [one] [.bool] [false] none λ_=>(true,())
def aX4 (l:List Int) (m:Int):List Ins:=(A4 l m).code
structure Fit (a:Int) (b:List Ins) (c:List Int) (ks:Int):Prop where
 made:Made a b c
 len:b.length<=30
 ks1:1<=ks
 ks2:ks<=64
 few:b.all (fewX ks)=true
 ok:I3 b=true
 frm:N0 b=true
theorem aQ1:∀ {b:List Ins},(∀ x∈b,aK6 x=true)->I3 b=true
 |[],_=>by simp [I3]
 |x::r,h=>by simp only [I3,cp5];exact ⟨h x (by simp),aQ1 λy a=>h y (by simp [a])⟩
theorem bp0 {a:Int} {b:List Ins} {c:List Int} (M:Made a b c):I3 b=true/\N0 b=true:=by
 refine ⟨aQ1 λx d=>?_,?_⟩
 .rw [T5,M.bod x d];have h1:=M.froms x d;have h2:=M.tos x d;exact ⟨⟨by omega,by omega,by simp⟩,by simp [I3]⟩
 .unfold N0;rw [cs5];intro x d;have h1:=M.froms x d;have h2:=M.tos x d;rw [cp5,cr4,cr4];omega
theorem aJ5:∀ (l:List Ins) (a:Int),a<=l.foldl (λk x=>max (max k ((B9 [] x.from_).length:Int)) (x.to.length:Int)) a/\∀ x∈l,((B9 [] x.from_).length:Int)<=l.foldl (λk x=>max (max k ((B9 [] x.from_).length:Int)) (x.to.length:Int)) a/\(x.to.length:Int)<=l.foldl (λk x=>max (max k ((B9 [] x.from_).length:Int)) (x.to.length:Int)) a
 |[],a=>⟨Int.le_refl _,by simp⟩
 |y::r,a=>by
  obtain ⟨h1,h2⟩:=aJ5 r (max (max a ((B9 [] y.from_).length:Int)) (y.to.length:Int));refine ⟨?_,λx b=>?_⟩
  .rw [List.foldl_cons];omega
  .rw [List.foldl_cons];rcases List.mem_cons.1 b with rfl|b
   .omega
   .exact h2 x b
theorem bp1 (l:List Int):(B3 l).length<=(B9 [] l).length:=
 ac9 _ _ (M4 l) λx a=>K7.2 (.inr (H1.1 a))
theorem bQ9 {a:Int} {b:List Ins} {c:List Int} (M:Made a b c) (hl:b.length<=30) {ks:Int} (h1:J9 b<=ks) (h2:ks<=64):Fit a b c ks:=by
 have h3:=aJ5 b 1;refine ⟨M,hl,?_,h2,?_,(bp0 M).1,(bp0 M).2⟩
 .have:=h3.1;have h4:(1:Int)<=J9 b:=this;omega
 .rw [cs5];intro x f;obtain ⟨d,e⟩:=h3.2 x f;have d:((B9 [] x.from_).length:Int)<=J9 b:=d;have e:(x.to.length:Int)<=J9 b:=e;have g:=bp1 x.from_;unfold fewX;rw [cp5,cr4,cr4];omega
theorem bh2 {a:Int} {b:List Ins} {c d:List Int} (M:Made a b c) (hl:b.length<=30) (n:Int) {k:Int} (f:1<=k) (g:k<=60):Fit a b c (C2 ⟨a,b,c,d⟩ n k)/\C2 ⟨a,b,c,d⟩ n k<=2+k:=by
 have h1:=P7 (n:=n) f;have h2:=aP9 (N:=3) (by omega) b (λx e=>by
  have h3:=M.froms x e;have h4:=M.tos x e;omega)
 unfold C2;dsimp only;exact ⟨bQ9 M hl (by omega) (by omega),by omega⟩
open Classical in
def N7 (q:List Int) (S:Int->Prop):Nat:=(q.filter λx=>decide (¬ S x)).length
def Size (T:Int->Prop) (k:Nat):Prop:=∀ l:List Int,l.Nodup->(∀ x∈l,T x)->l.length<=k
abbrev Bts:=List (Bool×List Int)
inductive Way (k:Nat):Bts->(Int->Prop)->Nat->Prop
 |nil (S:Int->Prop):Way k [] S 0
 |cons {b:Bool} {q:List Int} {bs:Bts} {S T:Int->Prop} {c:Nat} (h1:∀ x∈q,T x) (h2:∀ x,T x->S x\/x∈q) (h3:Size T k) (h4:Way k bs T c):Way k ((b,q)::bs) S (c+bif b then N7 q S else 0)
theorem D8 (x:Int) (q:List Int) (S:Int->Prop):(S x->N7 (x::q) S=N7 q S)/\(¬ S x->N7 (x::q) S=N7 q S+1):=by
 classical
 refine ⟨λh=>?_,λh=>?_⟩
 .unfold N7;rw [List.filter_cons_of_neg (by simpa using h)]
 .unfold N7;rw [List.filter_cons_of_pos (by simpa using h)];rfl
theorem T8 {A B:Int->Prop}:∀ (q:List Int),(∀ z∈q,A z->B z)->N7 q B<=N7 q A
 |[],_=>Nat.le_refl _
 |z::q,h=>by
  have ih:=T8 q λy c=>h y (by simp [c]);by_cases b:B z
  .rw [(D8 z q B).1 b];by_cases a:A z
   .rw [(D8 z q A).1 a];exact ih
   .rw [(D8 z q A).2 a];omega
  .rw [(D8 z q B).2 b,(D8 z q A).2 λa=>b (h z (by simp) a)];omega
theorem aX5 {A B:Int->Prop} {x:Int}:∀ (q:List Int),q.Nodup->(∀ z∈q,z≠x->A z->B z)->N7 q B<=N7 q A+1
 |[],_,_=>Nat.zero_le _
 |z::q,f,h=>by
  obtain ⟨h1,h2⟩:=List.nodup_cons.1 f;by_cases d:z=x
  .have ih:=T8 q (A:=A) (B:=B) λy c=>h y (by simp [c]) λe=>h1 (by rw [d,<-e];exact c);by_cases b:B z
   .rw [(D8 z q B).1 b];by_cases a:A z
    .rw [(D8 z q A).1 a];omega
    .rw [(D8 z q A).2 a];omega
   .rw [(D8 z q B).2 b];by_cases a:A z
    .rw [(D8 z q A).1 a];omega
    .rw [(D8 z q A).2 a];omega
  .have ih:=aX5 q h2 λy c=>h y (by simp [c]);by_cases b:B z
   .rw [(D8 z q B).1 b];by_cases a:A z
    .rw [(D8 z q A).1 a];exact ih
    .rw [(D8 z q A).2 a];omega
   .rw [(D8 z q B).2 b,(D8 z q A).2 λa=>b (h z (by simp) d a)];omega
theorem bh3 {A B:Int->Prop} {y:Int} (d:¬ A y) (f:B y):∀ (q:List Int),y∈q->(∀ z∈q,A z->B z)->N7 q B+1<=N7 q A
 |z::q,b,h=>by
  by_cases g:z=y
  .subst g;rw [(D8 z q B).1 f,(D8 z q A).2 d];have:=T8 q (A:=A) (B:=B) λy b=>h y (by simp [b]);omega
  .have ih:=bh3 d f q ((List.mem_cons.1 b).resolve_left λe=>g e.symm) λy b=>h y (by simp [b]);by_cases c:B z
   .rw [(D8 z q B).1 c];by_cases a:A z
    .rw [(D8 z q A).1 a];exact ih
    .rw [(D8 z q A).2 a];omega
   .rw [(D8 z q B).2 c,(D8 z q A).2 λa=>c (h z (by simp) a)];omega
 |[],b,_=>by simp at b
theorem Size.sub {S T:Int->Prop} {k:Nat} (h:Size T k) (hs:∀ x,S x->T x):Size S k:=λl a hl=>h l a λx b=>hs x (hl x b)
theorem Size.swap {T:Int->Prop} {k:Nat} (h:Size T k) {x y:Int} (d:T x):Size (λz=>(T z/\z≠x)\/z=y) k:=by
 intro l b hl;by_cases c:y∈l
 .have h1:(x::l.erase y).length<=k:=by
   refine h _ (List.nodup_cons.2 ⟨λhm=>?_,b.erase y⟩) λz a=>?_
   .rcases hl x (List.mem_of_mem_erase hm) with h1|h1
    .exact h1.2 rfl
    .rw [h1] at hm;exact (List.Nodup.not_mem_erase b) hm
   .rcases List.mem_cons.1 a with rfl|a
    .exact d
    .rcases hl z (List.mem_of_mem_erase a) with h1|h1
     .exact h1.1
     .rw [h1] at a;exact absurd a (List.Nodup.not_mem_erase b)
  rw [cq8,List.length_erase_of_mem c] at h1;have:=List.length_pos_of_mem c;omega
 .refine h l b λz a=>?_;rcases hl z a with h1|h1
  .exact h1.1
  .rw [h1] at a;exact absurd a c
theorem Way.mono {k:Nat} {bs:Bts} {S S':Int->Prop} {c:Nat} (w:Way k bs S c) (h:∀ x,S x->S' x):∃ c',c'<=c/\Way k bs S' c':=by
 cases w with
 |nil=>exact ⟨0,Nat.le_refl _,.nil _⟩
 |@cons b q bs _ T c h1 h2 h3 h4=>
  refine ⟨_,?_,.cons (b:=b) h1 (λx a=>(h2 x a).imp (h x) id) h3 h4⟩;cases b with
  |false=>exact Nat.le_refl _
  |true=>have:=T8 q (A:=S) (B:=S') λz _=>h z;simp only [cond_true];omega
def al7 (bs:Bts):Prop:=∀ p∈bs,p.2.Nodup
def Old (bs:Bts) (x:Int):Prop:=∀ p∈bs,p.1=false->x∉p.2
def Dead (bs:Bts) (x:Int):Prop:=∀ p∈bs,x∉p.2
def bh4:Bts->Int->Int->Prop
 |[],_,_=>True
 |(b,q)::bs,y,x=>(b=true/\y∈q)\/(x∉q/\y∉q/\bh4 bs y x)
theorem bv3 {k:Nat}:∀ {bs:Bts} {A:Int->Prop} {c:Nat} {x:Int},Way k bs A c->al7 bs->Old bs x->∃ c',c'<=c+1/\Way k bs (λz=>A z/\z≠x) c'
 |[],A,c,x,w,_,_=>⟨0,Nat.zero_le _,.nil _⟩
 |(b,q)::bs,A,c,x,w,l,m=>by
  cases w with
  |@cons _ _ _ _ T c h1 h2 h3 h4=>
   have g:al7 bs:=λp i=>l p (by simp [i]);have n:q.Nodup:=l (b,q) (by simp);have j:Old bs x:=λp i=>m p (by simp [i]);by_cases d:x∈q
   .have o:b=true:=by
     cases b with
     |true=>rfl
     |false=>exact absurd d (m (false,q) (by simp) rfl)
    subst o;refine ⟨_,?_,.cons (b:=true) h1 (λz a=>?_) h3 h4⟩
    .have:=aX5 q (x:=x) (A:=A) (B:=λz=>A z/\z≠x) n λz _ h1 h2=>⟨h2,h1⟩;simp only [cond_true];omega
    .rcases h2 z a with h|h
     .by_cases f:z=x
      .exact .inr (by rw [f];exact d)
      .exact .inl ⟨h,f⟩
     .exact .inr h
   .have hm:N7 q (λz=>A z/\z≠x)<=N7 q A:=T8 q λz a h=>⟨h,λe=>d (by rw [<-e];exact a)⟩;obtain ⟨c',r,w'⟩:=bv3 h4 g j;refine ⟨_,?_,.cons (b:=b) (T:=λz=>T z/\z≠x) (λz a=>⟨h1 z a,λe=>d (by rw [<-e];exact a)⟩) (λz a=>?_) (h3.sub λz a=>a.1) w'⟩
    .cases b with
     |true=>simp only [cond_true];omega
     |false=>simp only [cond_false];omega
    .rcases h2 z a.1 with h|h
     .exact .inl ⟨h,a.2⟩
     .exact .inr h
theorem bv4 {k:Nat}:∀ {bs:Bts} {A:Int->Prop} {c:Nat} {x:Int},Way k bs A c->Dead bs x->∃ c',c'<=c/\Way k bs (λz=>A z/\z≠x) c'
 |[],A,c,x,w,_=>⟨0,Nat.zero_le _,.nil _⟩
 |(b,q)::bs,A,c,x,w,f=>by
  cases w with
  |@cons _ _ _ _ T c h1 h2 h3 h4=>
   have d:x∉q:=f (b,q) (by simp);have hm:N7 q (λz=>A z/\z≠x)<=N7 q A:=T8 q λz a h=>⟨h,λe=>d (by rw [<-e];exact a)⟩;obtain ⟨c',g,w'⟩:=bv4 h4 (x:=x) λp i=>f p (by simp [i]);refine ⟨_,?_,.cons (b:=b) (T:=λz=>T z/\z≠x) (λz a=>⟨h1 z a,λe=>d (by rw [<-e];exact a)⟩) (λz a=>?_) (h3.sub λz a=>a.1) w'⟩
   .cases b with
    |true=>simp only [cond_true];omega
    |false=>simp only [cond_false];omega
   .rcases h2 z a.1 with h|h
    .exact .inl ⟨h,a.2⟩
    .exact .inr h
theorem bv5 {k:Nat}:∀ {bs:Bts} {A:Int->Prop} {c:Nat} {x y:Int},Way k bs A c->al7 bs->Old bs x->A x->¬ A y->bh4 bs y x->∃ c',c'<=c/\Way k bs (λz=>(A z/\z≠x)\/z=y) c'
 |[],A,c,x,y,w,_,_,_,_,_=>⟨0,Nat.zero_le _,.nil _⟩
 |(b,q)::bs,A,c,x,y,w,s,v,C,m,hs=>by
  cases w with
  |@cons _ _ _ _ T c h1 h2 h3 h4=>
   have i:al7 bs:=λp n=>s p (by simp [n]);have D:q.Nodup:=s (b,q) (by simp);have j:Old bs x:=λp n=>v p (by simp [n]);have E:x≠y:=λe=>m (by rw [<-e];exact C);by_cases g:y∈q
   .have F:b=true:=by
     rcases hs with hs|hs
     .exact hs.1
     .exact absurd g hs.2.1
    subst F;have t:=bh3 (A:=A) (B:=λz=>A z\/z=y) m (.inr rfl) q g λz _ h=>.inl h;have u:=aX5 q (x:=x) (A:=λz=>A z\/z=y) (B:=λz=>(A z/\z≠x)\/z=y) D λz _ h1 h2=>h2.imp (λh=>⟨h,h1⟩) id;by_cases d:x∈q
    .refine ⟨_,?_,.cons (b:=true) h1 (λz a=>?_) h3 h4⟩
     .simp only [cond_true];omega
     .rcases h2 z a with h|h
      .by_cases l:z=x
       .exact .inr (by rw [l];exact d)
       .exact .inl (.inl ⟨h,l⟩)
      .exact .inr h
    .have hm:N7 q (λz=>(A z/\z≠x)\/z=y)<=N7 q (λz=>A z\/z=y):=T8 q λz a h=>h.imp (λh=>⟨h,λe=>d (by rw [<-e];exact a)⟩) id;by_cases f:T x
     .obtain ⟨c',o,w'⟩:=bv3 h4 i j;refine ⟨_,?_,.cons (b:=true) (T:=λz=>T z/\z≠x) (λz a=>⟨h1 z a,λe=>d (by rw [<-e];exact a)⟩) (λz a=>?_) (h3.sub λz a=>a.1) w'⟩
      .simp only [cond_true];omega
      .rcases h2 z a.1 with h|h
       .exact .inl (.inl ⟨h,a.2⟩)
       .exact .inr h
     .refine ⟨_,?_,.cons (b:=true) h1 (λz a=>?_) h3 h4⟩
      .simp only [cond_true];omega
      .rcases h2 z a with h|h
       .exact .inl (.inl ⟨h,λe=>f (by rw [<-e];exact a)⟩)
       .exact .inr h
   .obtain ⟨d,_,hs⟩:x∉q/\y∉q/\bh4 bs y x:=hs.resolve_left λh=>g h.2;have hm:N7 q (λz=>(A z/\z≠x)\/z=y)<=N7 q A:=T8 q λz a h=>.inl ⟨h,λe=>d (by rw [<-e];exact a)⟩;have r:¬ T y:=λh=>(h2 y h).elim m g;by_cases f:T x
    .obtain ⟨c',o,w'⟩:=bv5 h4 i j f r hs;refine ⟨_,?_,.cons (b:=b) (T:=λz=>(T z/\z≠x)\/z=y) (λz a=>.inl ⟨h1 z a,λe=>d (by rw [<-e];exact a)⟩) (λz a=>?_) (h3.swap f) w'⟩
     .cases b with
      |true=>simp only [cond_true];omega
      |false=>simp only [cond_false];omega
     .rcases a with a|a
      .rcases h2 z a.1 with h|h
       .exact .inl (.inl ⟨h,a.2⟩)
       .exact .inr h
      .exact .inl (.inr a)
    .refine ⟨_,?_,.cons (b:=b) h1 (λz a=>?_) h3 h4⟩
     .cases b with
      |true=>simp only [cond_true];omega
      |false=>simp only [cond_false];omega
     .rcases h2 z a with h|h
      .exact .inl (.inl ⟨h,λe=>f (by rw [<-e];exact a)⟩)
      .exact .inr h
theorem aQ2 {k:Nat} {q:List Int} {bs:Bts} {H H':Int->Prop} (N:al7 bs) (HL:List Int) (O:∀ u,H u->u∈HL) (P:∀ x∈q,H' x) (Q:∀ x,H' x->H x\/x∈q) (R:∀ x,H x->Old bs x)
  (hg:∀ u,H u->¬ H' u->Dead bs u\/(∃ l:List Int,l.Nodup/\k<=l.length/\∀ x∈l,H' x)/\∀ v,H' v->v∉q->bh4 bs v u):
  ∀ (n:Nat) {T:Int->Prop} {c:Nat},(∀ l:List Int,l.Nodup->(∀ x∈l,T x/\¬ H' x)->l.length<=n)->(∀ x∈q,T x)->(∀ x,T x->H x\/x∈q)->Size T k->Way k bs T c->∃ c',c'<=c/\Way k bs H' c':=by
 intro n
 induction n with
 |zero=>intro T c hl g A B w;refine w.mono λx a=>Classical.byContradiction λh=>?_;have:=hl [x] (by simp) (λy M=>by rw [cq3] at M;subst M;exact ⟨a,h⟩);simp at this
 |succ n ih=>
  intro T c hl g A B w;by_cases i:∀ x,T x->H' x
  .exact w.mono i
  .obtain ⟨u,S⟩:=Classical.not_forall.1 i;obtain ⟨d,f⟩:=Classical.not_imp.1 S;have o:u∉q:=λh=>f (P u h);have j:H u:=(A u d).resolve_right o;rcases hg u j f with U|⟨⟨l,C,V,r⟩,D⟩
   .obtain ⟨c',E,w'⟩:=bv4 w U;obtain ⟨F,G,I⟩:=ih (T:=λz=>T z/\z≠u) (λm hm b=>by
     have:=hl (u::m) (List.nodup_cons.2 ⟨λh=>(b u h).1.2 rfl,hm⟩) (λx a=>by
      rcases List.mem_cons.1 a with rfl|a
      .exact ⟨d,f⟩
      .exact ⟨(b x a).1.1,(b x a).2⟩)
     rw [cq8] at this;omega) (λx a=>⟨g x a,λe=>o (by rw [<-e];exact a)⟩) (λx a=>A x a.1) (B.sub λx a=>a.1) w'
    exact ⟨F,by omega,I⟩
   .have J:∃ v∈l,¬ T v:=by
     refine Classical.byContradiction λh=>?_;have h2:∀ v∈l,T v:=λv W=>Classical.byContradiction λh3=>h ⟨v,W,h3⟩;have:=B (u::l) (List.nodup_cons.2 ⟨λh=>f (r u h),C⟩) (λx a=>by
      rcases List.mem_cons.1 a with rfl|a
      .exact d
      .exact h2 x a)
     rw [cq8] at this;omega
    obtain ⟨v,K,s⟩:=J;have p:=r v K;have L:v∉q:=λh=>s (g v h);obtain ⟨c',E,w'⟩:=bv5 w N (R u j) d s (D v p L);obtain ⟨F,G,I⟩:=ih (T:=λz=>(T z/\z≠u)\/z=v) (λm hm b=>by
     have t:v∉m:=λh=>(b v h).2 p;have:=hl (u::m) (List.nodup_cons.2 ⟨λh=>by
      rcases (b u h).1 with h1|h1
      .exact h1.2 rfl
      .exact t (by rw [<-h1];exact h),hm⟩) (λx a=>by
      rcases List.mem_cons.1 a with rfl|a
      .exact ⟨d,f⟩
      .rcases (b x a).1 with h1|h1
       .exact ⟨h1.1,(b x a).2⟩
       .exact absurd a (by rw [h1];exact t))
     rw [cq8] at this;omega) (λx a=>.inl ⟨g x a,λe=>o (by rw [<-e];exact a)⟩) (λx a=>by
      rcases a with a|a
      .exact A x a.1
      .rw [a];exact Q v p) (B.swap d) w'
    exact ⟨F,by omega,I⟩
end Go.Rg
end
section
namespace Go.Rg
open Go Go.VT
theorem aJ6 (sp:Spans) (rd:Reads) (N:Int) (m:Holds) (pl:Int) (st:List Int):∀ (l:List Nat) (acc acc':List Held),C0 sp rd N m pl st l acc=(none,acc')->
  (∀ x∈acc,x∈acc')/\(∀ x∈acc',x∈acc\/x.next=M3 rd N x.reg pl)/\∀ s∈l,∃ r,mget eqP m ⟨false,(s:Int)⟩=some r/\(r∈st\/(⟨(s:Int),r,M3 rd N r pl⟩:Held)∈acc')
 |[],acc,acc',h=>by simp only [C0,cq4,true_and] at h;subst h;exact ⟨λx a=>a,λx a=>.inl a,λs hs=>by simp at hs⟩
 |s::r,acc,acc',h=>by
  simp only [C0] at h;cases hm:mget eqP m ⟨false,(s:Int)⟩ with
  |none=>rw [hm] at h;simp at h
  |some n=>
   rw [hm] at h;simp only at h;cases hc:st.contains n with
   |true=>
    rw [hc,cond_true] at h;obtain ⟨h1,h2,h3⟩:=aJ6 sp rd N m pl st r acc acc' h;refine ⟨h1,h2,λx a=>?_⟩;rcases List.mem_cons.1 a with rfl|a
    .exact ⟨n,hm,.inl (List.contains_iff_mem.1 hc)⟩
    .exact h3 x a
   |false=>
    rw [hc,cond_false] at h;cases b:G6 (getS sp n).first (getS sp n).last pl with
    |false=>rw [b,cond_false] at h;simp at h
    |true=>
     rw [b,cond_true] at h;obtain ⟨h1,h2,h3⟩:=aJ6 sp rd N m pl st r _ acc' h;refine ⟨λx a=>h1 x (by simp [a]),λx a=>?_,λx a=>?_⟩
     .rcases h2 x a with h4|h4
      .rcases cr9.1 h4 with h4|h4
       .exact .inl h4
       .rw [cq3] at h4;subst h4;exact .inr rfl
      .exact .inr h4
     .rcases List.mem_cons.1 a with rfl|a
      .exact ⟨n,hm,.inr (h1 _ (by simp))⟩
      .exact h3 x a
theorem bZ4 {l:List Held}:∀ x∈l,x.next<=(L7 l).next:=by
 cases l with
 |nil=>simp
 |cons x r=>
  show ∀ y∈x::r,y.next<=(r.foldl G4 x).next
  induction r generalizing x with
  |nil=>simp
  |cons y r ih=>
   have h1:x.next<=(G4 x y).next/\y.next<=(G4 x y).next:=by
    unfold G4 ag8;by_cases h:y.next >x.next
    .rw [decide_eq_true h];exact ⟨by show x.next<=y.next;omega,Int.le_refl _⟩
    .rw [decide_eq_false h,Bool.false_or];cases h2:(y.next==x.next&&decide (y.reg >x.reg)) with
     |false=>exact ⟨Int.le_refl _,by show y.next<=x.next;omega⟩
     |true=>rw [cp5,beq_iff_eq] at h2;exact ⟨by show x.next<=y.next;omega,Int.le_refl _⟩
   have ih:=ih (G4 x y);intro z a;have h0:=ih (G4 x y) (by simp);rw [List.foldl_cons];rcases List.mem_cons.1 a with rfl|a
   .omega
   rcases List.mem_cons.1 a with rfl|a
   .omega
   .exact ih z (by simp [a])
section
variable {P:Int->Prop} {sp:Spans} {rd:Reads} {ks N:Int}
def Full (ks:Int) (m:Holds):Prop:=∀ s:Nat,s<ks.toNat->∃ r,mget eqP m ⟨false,(s:Int)⟩=some r
theorem bR0 {S:AS} {pl:Int} {st:List Int} (f:ad9 sp rd ks N S.holds pl st) (F:Fine P ks S.holds):
  ∃ q:Nat,q<ks.toNat/\(E5 sp rd ks N S pl st).1=(q:Int)/\∀ u,mget eqP S.holds ⟨false,(q:Int)⟩=some u->u∉st/\(G6 (getS sp u).first (getS sp u).last pl=false\/(Full ks S.holds/\∀ v,InS S.holds ks v->v∉st->M3 rd N v pl<=M3 rd N u pl)):=by
 obtain ⟨o,hs,a⟩:∃ o hs,K9 sp rd ks N S.holds pl st=(o,hs):=⟨_,_,rfl⟩;have b:=aa1 sp rd N S.holds pl st (List.range ks.toNat) [];cases o with
 |some i=>obtain ⟨q,g,rfl,hr⟩:=b.1 i hs a;refine ⟨q,by simpa using g,by unfold E5;rw [a],λu d=>⟨(hr u d).1,.inl (hr u d).2⟩⟩
 |none=>
  have e:hs≠[]:=by have:=f (by rw [a]);rw [a] at this;exact this
  rcases b.2 hs a _ (bv2 e) with m|⟨q,g,h,j,k⟩
  .simp at m
  obtain ⟨_,h2,h3⟩:=aJ6 sp rd N S.holds pl st _ _ _ a;refine ⟨q,by simpa using g,by unfold E5;rw [a];exact h,λu d=>?_⟩;rw [j] at d;cases d;refine ⟨k,.inr ⟨λs c=>?_,λv ⟨s,c,hm⟩ n=>?_⟩⟩
  .obtain ⟨r,h4,_⟩:=h3 s (by simpa using c);exact ⟨r,h4⟩
  .obtain ⟨r,h4,p⟩:=h3 s (by simpa using c);rw [hm] at h4;cases h4;have l:=bZ4 _ (p.resolve_left n);have t:=(h2 _ (bv2 e)).resolve_left (by simp);rw [t] at l;exact l
theorem aX6 (m:Holds) (q:Nat) (n:Int) (a:Nat):mget eqP (mput eqP m ⟨false,(q:Int)⟩ n) ⟨false,(a:Int)⟩=if q=a then some n else mget eqP m ⟨false,(a:Int)⟩:=by
 rw [aP5];by_cases h:q=a
 .rw [if_pos h,if_pos (by rw [h])]
 .rw [if_neg h,if_neg (by intro e;rw [Place.mk.injEq] at e;omega)]
theorem bv6 {m:Holds} {q:Nat} {n x:Int} (h:InS (mput eqP m ⟨false,(q:Int)⟩ n) ks x):InS m ks x\/x=n:=by
 obtain ⟨a,b,hm⟩:=h;rw [aX6] at hm;split at hm
 .exact .inr (Option.some.inj hm).symm
 .exact .inl ⟨a,b,hm⟩
theorem bR1 {m:Holds} {q:Nat} (a:q<ks.toNat) (n:Int):InS (mput eqP m ⟨false,(q:Int)⟩ n) ks n:=⟨q,a,by rw [aX6,if_pos rfl]⟩
theorem aX7 {m:Holds} {q:Nat} {n x:Int} (h:InS m ks x) (h2:¬ InS (mput eqP m ⟨false,(q:Int)⟩ n) ks x):mget eqP m ⟨false,(q:Int)⟩=some x:=by
 obtain ⟨a,c,hm⟩:=h;by_cases b:q=a
 .rw [b];exact hm
 .exact absurd ⟨a,c,by rw [aX6,if_neg b];exact hm⟩ h2
theorem bv7 {m:Holds} {q:Nat} {n:Int} (h:Full ks m):Full ks (mput eqP m ⟨false,(q:Int)⟩ n):=by
 intro s hs;rw [aX6];split
 .exact ⟨_,rfl⟩
 .exact h s hs
def Gr (sp:Spans) (rd:Reads) (ks N pl:Int) (q:List Int) (m0 m:Holds):Prop:=
 ∀ u,InS m0 ks u->¬ InS m ks u->u∉q/\(G6 (getS sp u).first (getS sp u).last pl=false\/(Full ks m/\∀ v,InS m ks v->v∉q->M3 rd N v pl<=M3 rd N u pl))
theorem bR2 {pl:Int} {q:List Int} {k:Holds} {S:AS} {n:Int} (F:Fine P ks S.holds) (d:ad9 sp rd ks N S.holds pl q) (l:n∈q) (h:Gr sp rd ks N pl q k S.holds):
  ∃ a:Nat,a<ks.toNat/\(E5 sp rd ks N S pl q).1=(a:Int)/\Gr sp rd ks N pl q k (mput eqP S.holds ⟨false,(a:Int)⟩ n)/\(∀ x∈q,InS S.holds ks x->InS (mput eqP S.holds ⟨false,(a:Int)⟩ n) ks x):=by
 obtain ⟨a,o,hr,m⟩:=bR0 d F;refine ⟨a,o,hr,λu p f=>?_,λx r g=>Classical.byContradiction λi=>(m x (aX7 g i)).1 r⟩;by_cases c:InS S.holds ks u
 .obtain ⟨h1,h2⟩:=m u (aX7 c f);refine ⟨h1,h2.imp id λ⟨h3,h4⟩=>⟨bv7 h3,λv j b=>?_⟩⟩;exact h4 v ((bv6 j).resolve_right λe=>b (by rw [e];exact l)) b
 .obtain ⟨h1,h2⟩:=h u p c;refine ⟨h1,h2.imp id λ⟨h3,h4⟩=>⟨bv7 h3,λv j b=>?_⟩⟩;exact h4 v ((bv6 j).resolve_right λe=>b (by rw [e];exact l)) b
theorem aQ3 (S:AS) (pl:Int) (st:List Int):H4 1 (E5 sp rd ks N S pl st).2.code=H4 1 S.code:=by
 unfold E5;split
 .rfl
 .unfold aK9;cases (mget eqI S.cells _).isSome with
  |true=>rfl
  |false=>show H4 1 (S.code++[_])=_;rw [R6];rfl
theorem bh5 (q:List Int) (x:Int) (S:Int->Prop):(S x->N7 (q++[x]) S=N7 q S)/\(¬ S x->N7 (q++[x]) S=N7 q S+1):=by
 classical
 refine ⟨λh=>?_,λh=>?_⟩
 .unfold N7;rw [List.filter_append,List.filter_cons_of_neg (by simpa using h)];simp
 .unfold N7;rw [List.filter_append,List.filter_cons_of_pos (by simpa using h)];simp
theorem aX8 {i:Int} {fr:List Int} {S:AS} (F:Fine P ks S.holds) (A:∀ n∈fr,P n) (m:fr.Nodup)
  (o:∀ k,k<fr.length->(D4 (C3 sp rd ks N i fr S (fr.take k)).holds ks (fr.getD k 0)).cell=true->ad9 sp rd ks N (C3 sp rd ks N i fr S (fr.take k)).holds i fr):∀ j,j<=fr.length->
  Gr sp rd ks N i fr S.holds (C3 sp rd ks N i fr S (fr.take j)).holds/\(∀ x,InS (C3 sp rd ks N i fr S (fr.take j)).holds ks x->InS S.holds ks x\/x∈fr.take j)/\
   (∀ x∈fr,InS S.holds ks x->InS (C3 sp rd ks N i fr S (fr.take j)).holds ks x)/\(∀ x∈fr.take j,InS (C3 sp rd ks N i fr S (fr.take j)).holds ks x)/\
   H4 1 (C3 sp rd ks N i fr S (fr.take j)).code=H4 1 S.code+N7 (fr.take j) (InS S.holds ks)
 |0,_=>⟨λu C v=>absurd C (by simpa [C3] using v),λx b=>.inl (by simpa [C3] using b),λx _ b=>by simpa [C3] using b,by simp,by simp [C3,N7]⟩
 |j+1,D=>by
  obtain ⟨h1,h2,h3,h4,w⟩:=aX8 F A m o j (by omega);have hg:=G3 (l:=fr) (i:=j) (by omega) 0;have Fj:=R8 (sp:=sp) (rd:=rd) (N:=N) (i:=i) (fr:=fr) (fr.take j) F (λn t=>A n (List.mem_of_mem_take t));have p:fr.getD j 0∉fr.take j:=λhm=>by have g:=m;rw [<-List.take_append_drop (j+1) fr,A5 (by omega) 0,List.nodup_append] at g;exact (List.nodup_append.1 g.1).2.2 _ hm _ (by simp) rfl
  have c:=o j (by omega);rw [A5 (by omega) 0,ah2];obtain ⟨n,t⟩:∃ n,fr.getD j 0=n:=⟨_,rfl⟩;obtain ⟨T,B⟩:∃ T,C3 sp rd ks N i fr S (fr.take j)=T:=⟨_,rfl⟩;rw [t] at hg p c;rw [B] at h1 h2 h3 h4 w Fj c;rw [t,B];cases hc:(D4 T.holds ks n).cell with
  |false=>
   have e:G7 sp rd ks N i fr T n=T:=by unfold G7;rw [hc];rfl
   have f:InS T.holds ks n:=by obtain ⟨a,q,_,hm⟩:=bO9 hc;exact ⟨a,q,hm⟩
   have r:InS S.holds ks n:=(h2 n f).resolve_right p;rw [e];refine ⟨h1,λx b=>(h2 x b).imp id λh=>by simp [h],h3,λx b=>?_,?_⟩
   .rcases cr9.1 b with b|b
    .exact h4 x b
    .rw [cq3] at b;rw [b];exact f
   .rw [(bh5 _ _ _).1 r];exact w
  |true=>
   have y:¬ InS T.holds ks n:=λ⟨a,q,hm⟩=>ac8.1 hc a q hm;have s:¬ InS S.holds ks n:=λh=>y (h3 n hg h);obtain ⟨a,q,hr,z,d⟩:=bR2 Fj (c hc) hg h1;have e:G7 sp rd ks N i fr T n=⟨mput eqP T.holds ⟨false,(a:Int)⟩ n,(E5 sp rd ks N T i fr).2.cells,(E5 sp rd ks N T i fr).2.ocells,(E5 sp rd ks N T i fr).2.code++[⟨1,(a:Int),getI (E5 sp rd ks N T i fr).2.cells n,ins0⟩]⟩:=by unfold G7;rw [hc,cond_true,<-Y5 sp rd ks N T i fr,<-hr]
   rw [e];refine ⟨z,λx b=>?_,λx b f=>d x b (h3 x b f),λx b=>?_,?_⟩
   .rcases bv6 b with h|h
    .exact (h2 x h).imp id λh=>by simp [h]
    .exact .inr (by simp [h])
   .rcases cr9.1 b with b|b
    .exact d x (List.mem_of_mem_take b) (h4 x b)
    .rw [cq3] at b;rw [b];exact bR1 q n
   .rw [R6,if_pos rfl,aQ3,(bh5 _ _ _).2 s,w];omega
theorem bR3 {i:Int} {to:List Int} {S:AS} (F:Fine P ks S.holds) (f:to.Nodup) (g:∀ n∈to,¬ P n)
  (m:∀ k,k<to.length->ad9 sp rd ks N (I8 sp rd ks N i to S (to.take k)).holds (i+1) to):∀ j,j<=to.length->
  Gr sp rd ks N (i+1) to S.holds (I8 sp rd ks N i to S (to.take j)).holds/\(∀ x,InS (I8 sp rd ks N i to S (to.take j)).holds ks x->InS S.holds ks x\/x∈to.take j)/\
   (∀ x∈to.take j,InS (I8 sp rd ks N i to S (to.take j)).holds ks x)/\H4 1 (I8 sp rd ks N i to S (to.take j)).code=H4 1 S.code
 |0,_=>⟨λu t o=>absurd t (by simpa [I8] using o),λx b=>.inl (by simpa [I8] using b),by simp,by simp [I8]⟩
 |j+1,w=>by
  obtain ⟨h1,h2,h4,q⟩:=bR3 F f g m j (by omega);have hg:=G3 (l:=to) (i:=j) (by omega) 0;have Fj:=(as1 (sp:=sp) (rd:=rd) (N:=N) (i:=i) F f g j (by omega)).1;rw [A5 (by omega) 0,ak3];have c:=m j (by omega);obtain ⟨n,r⟩:∃ n,to.getD j 0=n:=⟨_,rfl⟩;obtain ⟨T,s⟩:∃ T,I8 sp rd ks N i to S (to.take j)=T:=⟨_,rfl⟩;rw [r] at hg;rw [s] at h1 h2 h4 q Fj c;rw [r,s];obtain ⟨a,v,hr,p,d⟩:=bR2 Fj c hg h1;have e:ae0 sp rd ks N i to T n=⟨mput eqP T.holds ⟨false,(a:Int)⟩ n,(E5 sp rd ks N T (i+1) to).2.cells,(E5 sp rd ks N T (i+1) to).2.ocells,(E5 sp rd ks N T (i+1) to).2.code⟩:=by unfold ae0;rw [<-Y5 sp rd ks N T (i+1) to,<-hr]
  rw [e];refine ⟨p,λx b=>?_,λx b=>?_,?_⟩
  .rcases bv6 b with h|h
   .exact (h2 x h).imp id λh=>by simp [h]
   .exact .inr (by simp [h])
  .rcases cr9.1 b with b|b
   .exact d x (List.mem_of_mem_take b) (h4 x b)
   .rw [cq3] at b;rw [b];exact bR1 v n
  .exact (aQ3 _ _ _).trans q
theorem bR4 (m:Holds):Size (InS m ks) ks.toNat:=by
 intro l a hl;have h:=ac9 l ((List.range ks.toNat).filterMap λs:Nat=>mget eqP m ⟨false,(s:Int)⟩) a λx b=>by obtain ⟨q,c,hm⟩:=hl x b;exact List.mem_filterMap.2 ⟨q,by simpa using c,hm⟩
 have h2:((List.range ks.toNat).filterMap λs:Nat=>mget eqP m ⟨false,(s:Int)⟩).length<=_:=List.length_filterMap_le _ _;rw [List.length_range] at h2;omega
theorem aJ7 {m:Holds} (F:Fine P ks m) (h:Full ks m):∃ l:List Int,l.Nodup/\ks.toNat<=l.length/\∀ x∈l,InS m ks x:=by
 let f:Nat->Int:=λs=>(mget eqP m ⟨false,(s:Int)⟩).getD 0
 have hf:∀ s,s<ks.toNat->mget eqP m ⟨false,(s:Int)⟩=some (f s):=by
  intro s hs;obtain ⟨r,hr⟩:=h s hs;have:f s=r:=by simp only [f,hr,Option.getD_some]
  rw [this];exact hr
 refine ⟨(List.range ks.toNat).map f,?_,by simp,λx i=>?_⟩
 .rw [List.nodup_iff_pairwise_ne,List.pairwise_map];refine List.Pairwise.imp_of_mem ?_ (List.nodup_iff_pairwise_ne.1 List.nodup_range);intro a b e g c d;refine c (F.inj a b (by simpa using e) (by simpa using g) (f a) (hf a (by simpa using e)) ?_);rw [d];exact hf b (by simpa using g)
 .obtain ⟨s,hs,rfl⟩:=List.mem_map.1 i;exact ⟨s,by simpa using hs,hf s (by simpa using hs)⟩
end
end Go.Rg
end
section
namespace Go.Rg
open Go Go.VT
def bts:List Ins->Bts
 |[]=>[]
 |x::r=>(true,B3 x.from_)::(false,x.to)::bts r
theorem ad0 {b:List Ins} {k:Nat} (h:k<b.length):bts (b.drop k)=(true,B3 (b.getD k ins0).from_)::(false,(b.getD k ins0).to)::bts (b.drop (k+1)):=by rw [List.drop_eq_getElem_cons h,bts,cq6,cp4 h];rfl
theorem ah9 {b:List Ins} {k:Nat} (h:k<b.length):wr (b.drop k)=(b.getD k ins0).to++wr (b.drop (k+1)):=by rw [List.drop_eq_getElem_cons h,ac3,cq6,cp4 h];rfl
theorem bp2 {n:Int}:∀ {b:List Ins},n∉wr b->Old (bts b) n
 |[],_=>λp a=>by simp [bts] at a
 |x::r,h=>by
  rw [ac3,cr9,not_or] at h;intro p a hf;simp only [bts,List.mem_cons] at a;rcases a with rfl|rfl|a
  .cases hf
  .exact h.1
  .exact bp2 h.2 p a hf
theorem bv8 (i n:Int):∀ (l:List Int) (m:Reads),l.Nodup->getL (F7 m l i) n=getL m n++if n∈l then [i] else []
 |[],m,_=>by simp [F7]
 |x::r,m,h=>by
  obtain ⟨h1,h2⟩:=List.nodup_cons.1 h;show getL (F7 (mput eqI m x (getL m x++[i])) r i) n=_;rw [bv8 i n r _ h2,aI7];by_cases a:x=n
  .subst a;rw [if_pos rfl,if_neg h1,if_pos (by simp),List.append_nil]
  .rw [if_neg a];congr 1;by_cases hr:n∈r
   .rw [if_pos hr,if_pos (by simp [hr])]
   .rw [if_neg hr,if_neg (by simp only [List.mem_cons,not_or];exact ⟨λe=>a e.symm,hr⟩)]
theorem aJ8 (b:List Ins) (n j:Int):∀ k,k<=b.length->(j∈getL (E3 (b.take k)) n<->∃ t:Nat,t<k/\j=t/\n∈(b.getD t ins0).from_)
 |0,_=>by simp [E3,N3,getL,mget]
 |k+1,h=>by
  have ih:=aJ8 b n j k (by omega);unfold E3 at ih |-;rw [A5 (by omega) ins0,ah6,bv8 _ _ _ _ (M4 _),cr9,ih,cs4,Nat.min_eq_left (by omega)];constructor
  .rintro (⟨t,h1,h2,h3⟩|h1)
   .exact ⟨t,by omega,h2,h3⟩
   .split at h1
    .rename_i hm;rw [cq3] at h1;exact ⟨k,by omega,by omega,H1.1 hm⟩
    .simp at h1
  .rintro ⟨t,h1,h2,h3⟩;by_cases a:t=k
   .subst a;exact .inr (by rw [if_pos (H1.2 h3)];simp;omega)
   .exact .inl ⟨t,by omega,h2,h3⟩
theorem bR5 {k:Int}:∀ {l:List Int},l.Pairwise (·<=·)->k∈l->l.find? (λx=>decide (k<=x))=some k
 |x::r,b,h=>by
  obtain ⟨h1,h2⟩:=List.pairwise_cons.1 b;by_cases a:k<=x
  .rw [List.find?_cons_of_pos (by simpa using a)];rcases List.mem_cons.1 h with rfl|h
   .rfl
   .have:=h1 k h;congr 1;omega
  .rw [List.find?_cons_of_neg (by simpa using a)];refine bR5 h2 ((List.mem_cons.1 h).resolve_left λe=>a (by omega))
 |[],_,h=>by simp at h
theorem bh6 {k:Int}:∀ {l:List Int},k∉l->l.find? (λx=>decide (k<=x))=l.find? (λx=>decide (k+1<=x))
 |[],_=>rfl
 |x::r,h=>by
  have c:k≠x:=λe=>h (by simp [e]);have ih:=bh6 (l:=r) (k:=k) λb=>h (List.mem_cons_of_mem _ b);by_cases a:k<=x
  .rw [List.find?_cons_of_pos (by simpa using a),List.find?_cons_of_pos (by simp;omega)]
  .rw [List.find?_cons_of_neg (by simpa using a),List.find?_cons_of_neg (by simp;omega),ih]
section
variable {a:Int} {b:List Ins} {c:List Int}
theorem ck5 {n:Int} {k:Nat} (a:k<b.length) (h:n∈(b.getD k ins0).from_) (N:Int):M3 (E3 b) N n k=k:=by have h1:=(aJ8 b n k b.length (Nat.le_refl _)).2 ⟨k,a,rfl,h⟩;rw [cs3] at h1;unfold M3;rw [bR5 (al5 b n) h1];rfl
theorem bp3 {n:Int} {k:Nat} (h:n∉(b.getD k ins0).from_) (N:Int):M3 (E3 b) N n k=M3 (E3 b) N n ((k:Int)+1):=by
 have h1:(k:Int)∉getL (E3 b) n:=λhm=>by
  have h2:=(aJ8 b n k b.length (Nat.le_refl _)).1 (by rw [cs3];exact hm);obtain ⟨t,_,h3,h4⟩:=h2;have:t=k:=by omega
  rw [this] at h4;exact h h4
 unfold M3;rw [bh6 h1]
theorem ck6 {n:Int} {p N:Int} (h:p<=N):p<=M3 (E3 b) N n p:=by
 unfold M3;cases hf:(getL (E3 b) n).find? (λx=>decide (p<=x)) with
 |none=>exact h
 |some j=>have:=List.find?_some hf;exact cq2 this
theorem aJ9 {v u:Int}:∀ (d k:Nat),k+d=b.length->v∉wr (b.drop k)->u∉wr (b.drop k)->M3 (E3 b) b.length v k<=M3 (E3 b) b.length u k->bh4 (bts (b.drop k)) v u
 |0,k,h,_,_,_=>by rw [List.drop_of_length_le (by omega)];trivial
 |d+1,k,h,c,e,a=>by
  have f:k<b.length:=by omega
  rw [ad0 f];rw [ah9 f,cr9,not_or] at c e;by_cases h1:v∈(b.getD k ins0).from_
  .exact .inl ⟨rfl,H1.2 h1⟩
  .have h2:u∉(b.getD k ins0).from_:=λhm=>by
    have h3:=ck5 f hm b.length;have h4:=bp3 h1 b.length;have g:((k:Int)+1)<=M3 (E3 b) b.length v ((k:Int)+1):=ck6 (by omega);omega
   refine .inr ⟨λhm=>h2 (H1.1 hm),λhm=>h1 (H1.1 hm),.inr ⟨e.1,c.1,aJ9 d (k+1) (by omega) c.2 e.2 ?_⟩⟩;have h3:=bp3 h1 b.length;have h4:=bp3 h2 b.length;rw [h3,h4] at a;exact a
theorem aX9 {u:Int}:∀ (d k:Nat),k+d=b.length->u∉atL b c k->u∉wr (b.drop k)->Dead (bts (b.drop k)) u
 |0,k,h,_,_=>by rw [List.drop_of_length_le (by omega)];exact λp a=>by simp [bts] at a
 |d+1,k,h,hl,e=>by
  have f:k<b.length:=by omega
  have g:atL b c k=ag1 (b.getD k ins0) (atL b c (k+1)):=by rw [ar5 b c (Nat.le_of_lt f),ag7 b c f];rfl
  rw [g,R7,not_or] at hl;rw [ah9 f,cr9,not_or] at e;have h1:u∉atL b c (k+1):=λhm=>hl.2 ⟨hm,e.1⟩;have ih:=aX9 d (k+1) (by omega) h1 e.2;rw [ad0 f];intro p a;simp only [List.mem_cons] at a;rcases a with rfl|rfl|a
  .exact λhm=>hl.1 (H1.1 hm)
  .exact e.1
  .exact ih p a
theorem al8 (C:Checked a b c) {k:Nat} {r:Int} (h:r<a\/r∈wr (b.take k)):r∉wr (b.drop k):=by
 intro hm;have d:=G8.1 C.once;rw [<-List.take_append_drop k b,L1] at d;rcases h with h|h
 .have:=C.new r (by rw [<-List.take_append_drop k b,L1];exact List.mem_append_right _ hm);omega
 .exact (List.nodup_append.1 d).2.2 r h r hm rfl
theorem bR6 (C:Checked a b c):al7 (bts b):=by
 have key:∀ (d k:Nat),k+d=b.length->al7 (bts (b.drop k)):=by
  intro d
  induction d with
  |zero=>intro k h;rw [List.drop_of_length_le (by omega)];exact λp e=>by simp [bts] at e
  |succ d ih=>
   intro k h;have f:k<b.length:=by omega
   rw [ad0 f];intro p e;simp only [List.mem_cons] at e;rcases e with rfl|rfl|e
   .exact M4 _
   .exact aA5 C f
   .exact ih (k+1) (by omega) p e
 have:=key b.length 0 (by omega)
 rwa [List.drop_zero] at this
def aY0 (ks:Int) (m:Holds):List Int:=(List.range ks.toNat).filterMap λs:Nat=>mget eqP m ⟨false,(s:Int)⟩
theorem ay1 {ks:Int} {m:Holds} {x:Int} (h:InS m ks x):x∈aY0 ks m:=by obtain ⟨q,a,hm⟩:=h;exact List.mem_filterMap.2 ⟨q,by simpa using a,hm⟩
abbrev stA (a:Int) (b:List Ins) (c:List Int) (ks:Int) (k:Nat):AS:=runA (A6 a b c) (E3 b) ks b.length (b.take k) 0 (H6 a)
theorem aY1 (C:Checked a b c) {ks:Int} (J:b.all (fewX ks)=true):∀ (d k:Nat),k+d=b.length->
  (∀ cst,Way ks.toNat (bts (b.drop k)) (InS (stA a b c ks k).holds ks) cst->H4 1 (stA a b c ks b.length).code<=H4 1 (stA a b c ks k).code+cst)/\
  ∃ cst:Nat,Way ks.toNat (bts (b.drop k)) (InS (stA a b c ks k).holds ks) cst/\H4 1 (stA a b c ks b.length).code=H4 1 (stA a b c ks k).code+cst
 |0,k,h=>by
  have m:k=b.length:=by omega
  subst m;rw [List.drop_length];exact ⟨λcst w=>by omega,0,.nil _,by omega⟩
 |d+1,k,h=>by
  have m:k<b.length:=by omega
  obtain ⟨ih1,ih2⟩:=aY1 C J d (k+1) (by omega);obtain ⟨F,o⟩:=bg5 C J (A6 a b c) (E3 b) b.length k (by omega);have o:=o m;have hmem:=G3 m ins0;have hS:stA a b c ks (k+1)=doOf (A6 a b c) (E3 b) ks b.length k (b.getD k ins0) (stA a b c ks k):=by show runA _ _ _ _ (b.take (k+1)) 0 _=_;rw [A5 m ins0,as0,cs4,Nat.min_eq_left (by omega)]
  have hb:b=b.take k++b.getD k ins0::b.drop (k+1):=by
   conv=>lhs;rw [<-List.take_append_drop (k+1) b,A5 m ins0]
   simp
  have B:∀ n∈B3 (b.getD k ins0).from_,n<a\/n∈wr (b.take k):=λn hn=>by have:=C.there;rw [hb] at this;simpa using M1 this n (H1.1 hn)
  have L:∀ n∈(b.getD k ins0).to,¬ (n<a\/n∈wr (b.take k)):=λn hn hP=>al8 C hP (by rw [ah9 m];exact List.mem_append_left _ hn);have hnd:=bR6 C;have g:∀ p∈bts (b.drop k),p.2.Nodup:=by
   have key:∀ (j:Nat),al7 (bts (b.drop j))->j<b.length->al7 (bts (b.drop (j+1))):=λj hj hlt p D=>hj p (by rw [ad0 hlt];simp [D]);have all:∀ j,j<=k->al7 (bts (b.drop j)):=by
    intro j
    induction j with
    |zero=>intro _;rw [List.drop_zero];exact hnd
    |succ j ih=>intro hj;exact key j (ih (by omega)) (by omega)
   exact all k (Nat.le_refl _)
  rw [ad0 m] at g |-;have s:=λu (f:u<a\/u∈wr (b.take k)) (hs:G6 (getS (A6 a b c) u).first (getS (A6 a b c) u).last k=false)=>aX9 (c:=c) (d+1) k (by omega) (bQ8 C (Nat.le_of_lt m) u hs) (al8 C f);have t:=λu v (f:u<a\/u∈wr (b.take k)) (E:v<a\/v∈wr (b.take k)) M=>aJ9 (b:=b) (v:=v) (u:=u) (d+1) k (by omega) (al8 C E) (al8 C f) M;have G:=λu (f:u<a\/u∈wr (b.take k)) (hs:G6 (getS (A6 a b c) u).first (getS (A6 a b c) u).last ((k:Int)+1)=false)=>aX9 (c:=c) (u:=u) d (k+1) (by omega) (bQ8 C (k:=k+1) m u hs) (λhm=>al8 C f (by rw [ah9 m];exact List.mem_append_right _ hm));have I:=λu v (f:u<a\/u∈wr (b.take k)) (E:v<a\/v∈wr (b.take k)) M=>aJ9 (b:=b) (v:=v) (u:=u) d (k+1) (by omega) (λhm=>al8 C E (by rw [ah9 m];exact List.mem_append_right _ hm)) (λhm=>al8 C f (by rw [ah9 m];exact List.mem_append_right _ hm)) M;rw [ad0 m] at s t;obtain ⟨x,hx⟩:∃ x,b.getD k ins0=x:=⟨_,rfl⟩;have O:=aA5 C m;have hwt:∀ {n:Int},n∈wr (b.drop (k+1))->n∈wr (b.drop k):=λhm=>by rw [ah9 m];exact List.mem_append_right _ hm
  rw [hx] at hS B L o s t g O |-;obtain ⟨S,P⟩:∃ S,stA a b c ks k=S:=⟨_,rfl⟩;have F:Fine (λr=>r<a\/r∈wr (b.take k)) ks S.holds:=by rw [<-P];exact F
  have o:doOk (A6 a b c) (E3 b) ks b.length k x S:=by rw [<-P];exact o
  rw [P] at hS |-;obtain ⟨l1,W,l3,l4,l5⟩:=aX8 F B (M4 _) o.1 _ (Nat.le_refl _);rw [cs3] at l1 W l4 l5;have F1:=R8 (sp:=A6 a b c) (rd:=E3 b) (N:=b.length) (i:=k) (fr:=B3 x.from_) (B3 x.from_) F B;obtain ⟨T1,Q⟩:∃ T1,C3 (A6 a b c) (E3 b) ks b.length k (B3 x.from_) S (B3 x.from_)=T1:=⟨_,rfl⟩;have K:=o.2;rw [cs3] at l3;rw [Q] at l1 W l3 l4 l5 F1 K;obtain ⟨t1,X,t4,t5⟩:=bR3 F1 O L K _ (Nat.le_refl _);have F2:=(as1 (sp:=A6 a b c) (rd:=E3 b) (N:=b.length) (i:=k) F1 O L _ (Nat.le_refl _)).1;rw [cs3] at t1 X t4 t5 F2;obtain ⟨T2,R⟩:∃ T2,I8 (A6 a b c) (E3 b) ks b.length k x.to T1 x.to=T2:=⟨_,rfl⟩;rw [R] at t1 X t4 t5 F2;have hh:(stA a b c ks (k+1)).holds=T2.holds:=by rw [hS,aP6,Q,R]
  have hc:H4 1 (stA a b c ks (k+1)).code=H4 1 S.code+N7 (B3 x.from_) (InS S.holds ks):=by rw [hS];unfold doOf;dsimp only;rw [Q,R,R6,if_neg (λe=>by cases (show (0:Int)=1 from e)),t5,l5]
  rw [hh,hc] at ih1 ih2;have p1:∀ u,InS S.holds ks u->u<a\/u∈wr (b.take k):=λu ⟨q,hq,hm⟩=>F.reg q hq u hm;have Y:∀ u,InS T1.holds ks u->u<a\/u∈wr (b.take k):=λu f=>(W u f).elim (p1 u) (B u);refine ⟨λcst w=>?_,?_⟩
  .cases w with
   |@cons _ _ _ _ T c1 h1 h2 h3 w1=>
    obtain ⟨c1',hc1,w1'⟩:=aQ2 (q:=B3 x.from_) (H:=InS S.holds ks) (H':=InS T1.holds ks) (λp D=>g p (List.mem_cons_of_mem _ D)) (aY0 ks S.holds) (λu f=>ay1 f) l4 W
     (λu f=>by
      have:=bp2 (al8 C (p1 u f));rw [ad0 m] at this;exact λp D=>this p (by rw [hx];exact List.mem_cons_of_mem _ D))
     (λu f U=>by
      obtain ⟨g1,z⟩:=l1 u f U;rcases z with z|⟨z,g3⟩
      .exact .inl λp D=>s u (p1 u f) z p (List.mem_cons_of_mem _ D)
      .refine .inr ⟨aJ7 F1 z,λv E A=>?_⟩;rcases t u v (p1 u f) (Y v E) (g3 v E A) with h5|h5
       .exact absurd h5.2 A
       .exact h5.2.2) ks.toNat (λl hl V=>h3 l hl λy hy=>(V y hy).1) h1 h2 h3 w1
    cases w1' with
    |@cons _ _ _ _ T' c2 h1' h2' Z w2=>
     obtain ⟨c2',hc2,w2'⟩:=aQ2 (q:=x.to) (H:=InS T1.holds ks) (H':=InS T2.holds ks) (λp D=>g p (List.mem_cons_of_mem _ (List.mem_cons_of_mem _ D))) (aY0 ks T1.holds) (λu f=>ay1 f) t4 X
      (λu f=>bp2 λhm=>al8 C (Y u f) (hwt hm))
      (λu f U=>by
       obtain ⟨g1,z⟩:=t1 u f U;rcases z with z|⟨z,g3⟩
       .exact .inl (G u (Y u f) z)
       .refine .inr ⟨aJ7 F2 z,λv E A=>?_⟩;exact I u v (Y u f) (Y v ((X v E).resolve_right A)) (g3 v E A)) ks.toNat (λl hl V=>Z l hl λy hy=>(V y hy).1) h1' h2' Z w2
     have:=ih1 c2' w2';simp only [cond_true,cond_false] at*
     omega
  .obtain ⟨cst,w,he⟩:=ih2;refine ⟨_,.cons (b:=true) (T:=InS T1.holds ks) l4 W (bR4 _) (.cons (b:=false) (T:=InS T2.holds ks) t4 X (bR4 _) w),?_⟩;simp only [cond_true,cond_false];omega
end
end Go.Rg
end
section
namespace Go.Rg
open Go Go.VT
theorem Way.more {k k':Nat} (h:k<=k') {bs:Bts} {S:Int->Prop} {c:Nat} (w:Way k bs S c):Way k' bs S c:=by
 induction w with
 |nil S=>exact .nil S
 |cons h1 h2 h3 _ ih=>exact .cons h1 h2 (λl a hl=>Nat.le_trans (h3 l a hl) h) ih
theorem bh7 (sp:Spans) (rd:Reads) (N:Int) (m:Holds) (pl:Int) (st:List Int):∀ (l:List Nat) (acc acc':List Held),C0 sp rd N m pl st l acc=(none,acc')->
  ∀ s∈l,∃ r,mget eqP m ⟨false,(s:Int)⟩=some r/\(r∈st\/G6 (getS sp r).first (getS sp r).last pl=true)
 |[],acc,acc',h=>by simp
 |s::r,acc,acc',h=>by
  simp only [C0] at h;cases hm:mget eqP m ⟨false,(s:Int)⟩ with
  |none=>rw [hm] at h;simp at h
  |some n=>
   rw [hm] at h;simp only at h;have key:∀ acc,C0 sp rd N m pl st r acc=(none,acc')->(n∈st\/G6 (getS sp n).first (getS sp n).last pl=true)->∀ x∈s::r,∃ r,mget eqP m ⟨false,(x:Int)⟩=some r/\(r∈st\/G6 (getS sp r).first (getS sp r).last pl=true):=by
    intro acc h c x b;rcases List.mem_cons.1 b with rfl|b
    .exact ⟨n,hm,c⟩
    .exact bh7 sp rd N m pl st r acc acc' h x b
   cases hc:st.contains n with
   |true=>rw [hc,cond_true] at h;exact key _ h (.inl (List.contains_iff_mem.1 hc))
   |false=>
    rw [hc,cond_false] at h;cases a:G6 (getS sp n).first (getS sp n).last pl with
    |false=>rw [a,cond_false] at h;simp at h
    |true=>rw [a,cond_true] at h;exact key _ h (.inr a)
section
variable {P:Int->Prop} {sp:Spans} {rd:Reads} {ks N:Int}
theorem bh8 {S:AS} {pl:Int} {st L:List Int} {n:Int} (F:Fine P ks S.holds) (k:¬ InS S.holds ks n) (d:n∈L) (m:L.length<=ks.toNat)
  (p:∀ r,InS S.holds ks r->(r∈st\/G6 (getS sp r).first (getS sp r).last pl=true)->r∈L):
  ∃ q:Nat,q<ks.toNat/\E5 sp rd ks N S pl st=((q:Int),S)/\∀ u,mget eqP S.holds ⟨false,(q:Int)⟩=some u->u∉st/\G6 (getS sp u).first (getS sp u).last pl=false:=by
 obtain ⟨o,hs,a⟩:∃ o hs,K9 sp rd ks N S.holds pl st=(o,hs):=⟨_,_,rfl⟩;cases o with
 |some i=>obtain ⟨q,c,rfl,hr⟩:=(aa1 sp rd N S.holds pl st (List.range ks.toNat) []).1 i hs a;exact ⟨q,by simpa using c,by unfold E5;rw [a],hr⟩
 |none=>
  exfalso;have h3:=bh7 sp rd N S.holds pl st _ _ _ a;obtain ⟨l,e,t,b⟩:=aJ7 F (λs f=>by
   obtain ⟨r,h4,_⟩:=h3 s (by simpa using f);exact ⟨r,h4⟩)
  have:=ac9 (n::l) L (List.nodup_cons.2 ⟨λh=>k (b n h),e⟩) (λx g=>by
   rcases List.mem_cons.1 g with rfl|g
   .exact d
   .have j:=b x g;obtain ⟨q,c,hm⟩:=j;obtain ⟨r,h4,v⟩:=h3 q (by simpa using c);rw [hm] at h4;cases h4;exact p x ⟨q,c,hm⟩ v)
  rw [cq8] at this;omega
theorem aQ4 {i:Int} {fr L:List Int} {S:AS} (F:Fine P ks S.holds) (f:∀ n∈fr,P n) (c:L.length<=ks.toNat)
  (g:∀ r,P r->(r∈fr\/G6 (getS sp r).first (getS sp r).last i=true)->r∈L):∀ j,j<=fr.length->
  (C3 sp rd ks N i fr S (fr.take j)).cells=S.cells/\H4 2 (C3 sp rd ks N i fr S (fr.take j)).code=H4 2 S.code/\
   ∀ r,InS S.holds ks r->(r∈fr\/G6 (getS sp r).first (getS sp r).last i=true)->InS (C3 sp rd ks N i fr S (fr.take j)).holds ks r
 |0,_=>⟨rfl,rfl,λr h _=>by simpa [C3] using h⟩
 |j+1,v=>by
  obtain ⟨h1,h2,h3⟩:=aQ4 F f c g j (by omega);have hg:=G3 (l:=fr) (i:=j) (by omega) 0;have Fj:=R8 (sp:=sp) (rd:=rd) (N:=N) (i:=i) (fr:=fr) (fr.take j) F (λn d=>f n (List.mem_of_mem_take d));rw [A5 (by omega) 0,ah2];obtain ⟨n,d⟩:∃ n,fr.getD j 0=n:=⟨_,rfl⟩;obtain ⟨T,m⟩:∃ T,C3 sp rd ks N i fr S (fr.take j)=T:=⟨_,rfl⟩;rw [d] at hg;rw [m] at h1 h2 h3 Fj;rw [d,m];cases hc:(D4 T.holds ks n).cell with
  |false=>
   have e:G7 sp rd ks N i fr T n=T:=by unfold G7;rw [hc];rfl
   rw [e];exact ⟨h1,h2,h3⟩
  |true=>
   have b:¬ InS T.holds ks n:=λ⟨a,p,hm⟩=>ac8.1 hc a p hm;obtain ⟨q,o,hr,s⟩:=bh8 (sp:=sp) (rd:=rd) (N:=N) (pl:=i) (st:=fr) (L:=L) Fj b (g n (f n hg) (.inl hg)) c (λr ⟨q,o,hm⟩ h=>g r (Fj.reg q o r hm) h);have e:G7 sp rd ks N i fr T n=⟨mput eqP T.holds ⟨false,(q:Int)⟩ n,T.cells,T.ocells,T.code++[⟨1,(q:Int),getI T.cells n,ins0⟩]⟩:=by unfold G7;rw [hc,cond_true,hr]
   rw [e];refine ⟨h1,?_,λr k h=>Classical.byContradiction λb=>?_⟩
   .rw [R6,if_neg (λe=>by cases (show (1:Int)=2 from e)),h2]
   .obtain ⟨t,u⟩:=s r (aX7 (h3 r k h) b);rcases h with h|h
    .exact t h
    .rw [u] at h;cases h
theorem bv9 {i:Int} {to L:List Int} {S:AS} (F:Fine P ks S.holds) (c:to.Nodup) (d:∀ n∈to,¬ P n) (f:L.length<=ks.toNat)
  (k:∀ r,(P r\/r∈to)->(r∈to\/G6 (getS sp r).first (getS sp r).last (i+1)=true)->r∈L):∀ j,j<=to.length->
  (I8 sp rd ks N i to S (to.take j)).cells=S.cells/\H4 2 (I8 sp rd ks N i to S (to.take j)).code=H4 2 S.code/\
   ∀ r,InS S.holds ks r->G6 (getS sp r).first (getS sp r).last (i+1)=true->InS (I8 sp rd ks N i to S (to.take j)).holds ks r
 |0,_=>⟨rfl,rfl,λr h _=>by simpa [I8] using h⟩
 |j+1,w=>by
  obtain ⟨h1,h2,h3⟩:=bv9 F c d f k j (by omega);have hg:=G3 (l:=to) (i:=j) (by omega) 0;obtain ⟨Fj,g⟩:=as1 (sp:=sp) (rd:=rd) (N:=N) (i:=i) F c d j (by omega);have b:=g _ (by omega) rfl;rw [A5 (by omega) 0,ak3];obtain ⟨n,o⟩:∃ n,to.getD j 0=n:=⟨_,rfl⟩;obtain ⟨T,p⟩:∃ T,I8 sp rd ks N i to S (to.take j)=T:=⟨_,rfl⟩;rw [o] at hg b;rw [p] at h1 h2 h3 Fj b;rw [o,p];obtain ⟨q,s,hr,t⟩:=bh8 (sp:=sp) (rd:=rd) (N:=N) (pl:=i+1) (st:=to) (L:=L) Fj (λ⟨a,u,hm⟩=>b a u hm) (k n (.inr hg) (.inl hg)) f (λr ⟨q,s,hm⟩ h=>k r ((Fj.reg q s r hm).imp id List.mem_of_mem_take) h);have e:ae0 sp rd ks N i to T n=⟨mput eqP T.holds ⟨false,(q:Int)⟩ n,T.cells,T.ocells,T.code⟩:=by unfold ae0;rw [hr]
  rw [e];refine ⟨h1,h2,λr m h=>Classical.byContradiction λb=>?_⟩;obtain ⟨x,v⟩:=t r (aX7 (h3 r m h) b);rw [v] at h;cases h
end
theorem bh9 {m:Spans} {n:Int} (h:(mget eqI m n).isSome=true) (l:List Int) (i:Int):(mget eqI (uses m l i) n).isSome=true:=by
 rw [ag3];split
 .rfl
 .exact h
theorem bp4 {m:Spans} {n:Int} (h:(mget eqI m n).isSome=true) (l:List Int) (i:Int):(mget eqI (K4 m l i) n).isSome=true:=by
 rw [O0];split
 .rfl
 .exact h
theorem aK0 {n:Int}:∀ (b:List Ins) {m:Spans} (i:Int),(mget eqI m n).isSome=true->(mget eqI (I7 m b i) n).isSome=true
 |[],m,i,h=>h
 |x::r,m,i,h=>aK0 r _ (bp4 (bh9 h _ _) _ _)
section
variable {a:Int} {b:List Ins} {c:List Int}
theorem bE3 (C:Checked a b c) {n:Int} (h0:0<=n) (h:n<a\/n∈wr b):(mget eqI (A6 a b c) n).isSome=true:=by
 unfold A6;rw [aA3,Option.isSome_map];refine bh9 ?_ _ _;rcases h with h|h
 .refine aK0 _ _ ?_;unfold L0;rw [O0,if_pos]
  .rfl
  .unfold upto;exact List.mem_map.2 ⟨n.toNat,by simp;omega,by omega⟩
 .obtain ⟨l,x,r,e,f,hl⟩:=bu5 h;have d:=G8.1 C.once;rw [e,L1,ac3] at d;have hr:n∉wr r:=λh=>(List.nodup_append.1 (List.nodup_append.1 d).2.1).2.2 n f n h rfl;rw [e,Z0 n l x r _ _ f hr];rfl
theorem as4 (C:Checked a b c) {n:Int} (h0:0<=n) (h:n<a\/n∈wr b) {k:Nat} (d:k<=b.length):G6 (getS (A6 a b c) n).first (getS (A6 a b c) n).last k=true<->n∈atL b c k:=by
 rw [<-aV1 C n k d];have hs:=bE3 C h0 h;unfold U5 getS;cases hm:mget eqI (A6 a b c) n with
 |none=>rw [hm] at hs;cases hs
 |some s=>exact Iff.rfl
def rds (b:List Ins):List Int:=b.flatMap (·.from_)
def parR (a:Int) (b:List Ins):List Int:=b.foldl (λl x=>B9 l (x.from_.filter λn=>decide (n<a))) []
theorem aK1 (a:Int) (b:List Ins) (x:Ins):parR a (b++[x])=B9 (parR a b) (x.from_.filter λn=>decide (n<a)):=by simp [parR]
theorem as5 (b:List Ins) (x:Ins):rds (b++[x])=rds b++x.from_:=by simp [rds]
theorem ai0 (a:Int) (b:List Ins):∀ k,k<=b.length->incr (parR a (b.take k))/\∀ n,n∈parR a (b.take k)<->n<a/\n∈rds (b.take k)
 |0,_=>⟨by simp [parR,incr],by simp [parR,rds]⟩
 |k+1,h=>by
  obtain ⟨h1,h2⟩:=ai0 a b k (by omega);rw [A5 (by omega) ins0,aK1,as5];refine ⟨Y1 h1 _,λn=>?_⟩;rw [K7,h2,List.mem_filter,cr4,cr9];constructor
  .rintro (⟨h3,h4⟩|⟨h3,h4⟩)
   .exact ⟨h3,.inl h4⟩
   .exact ⟨h4,.inr h3⟩
  .rintro ⟨h3,h4|h4⟩
   .exact .inl ⟨h3,h4⟩
   .exact .inr ⟨h4,h3⟩
theorem aQ5 {l:List Int} (h:incr l):l.Nodup:=by unfold List.Nodup;exact List.Pairwise.imp (λh=>by omega) h
structure Free (a:Int) (b:List Ins) (c:List Int) (ks:Int) (k:Nat) (S:AS):Prop where
 fine:Fine (λr=>0<=r/\(r<a\/r∈wr (b.take k))) ks S.holds
 stores:H4 2 S.code=0
 here:∀ r∈atL b c k,(a<=r\/r∈rds (b.take k))->InS S.holds ks r
 from_:∀ r,InS S.holds ks r->r∈wr (b.take k)\/r∈rds (b.take k)
 loads:H4 1 S.code=(parR a (b.take k)).length
theorem bw0 (C:Checked a b c) {ks:Int} (D:b.all (fewX ks)=true) (h0:(atL b c 0).length<=ks.toNat) (O:∀ k,k<b.length->(B9 (atL b c (k+1)) (b.getD k ins0).to).length<=ks.toNat) (rd:Reads) (N:Int):
  ∀ k,k<=b.length->Free a b c ks k (runA (A6 a b c) rd ks N (b.take k) 0 (H6 a))
 |0,_=>by
  refine ⟨⟨λx y _ _ r h=>by simp [runA,H6,mget] at h,λx _ r h=>by simp [runA,H6,mget] at h⟩,rfl,λr hr h=>?_,λr ⟨q,_,hm⟩=>by simp [runA,H6,mget] at hm,by simp [parR,runA,H6,H4]⟩;have h1:=av1 C r b.length 0 (by omega) hr;have h2:r<a:=h1.2.resolve_right (by simp [wr]);rcases h with h|h
  .omega
  .simp [rds] at h
 |k+1,h=>by
  have m:k<b.length:=by omega
  obtain ⟨F,Z,f,o,hl⟩:=bw0 C D h0 O rd N k (by omega);have g:=G3 m ins0;have hb:b=b.take k++b.getD k ins0::b.drop (k+1):=by
   conv=>lhs;rw [<-List.take_append_drop (k+1) b,A5 m ins0]
   simp
  have z:∀ n∈B3 (b.getD k ins0).from_,0<=n/\(n<a\/n∈wr (b.take k)):=λn E=>by have:=C.there;rw [hb] at this;exact ⟨(C.fromR _ g n (H1.1 E)).1,by simpa using M1 this n (H1.1 E)⟩
  have j:∀ {r},(r<a\/r∈wr (b.take k))->r<a\/r∈wr b:=λhr=>hr.imp id λh=>by rw [hb,L1];exact List.mem_append_left _ h
  have htb:∀ {r},r∈(b.getD k ins0).to->r∈wr b:=λhr=>ca8.2 ⟨_,g,hr⟩;have H:∀ n∈(b.getD k ins0).to,¬ (0<=n/\(n<a\/n∈wr (b.take k))):=λn E hP=>al8 C hP.2 (by rw [ah9 m];exact List.mem_append_left _ E);have I:=aA5 C m;have A:atL b c k=ag1 (b.getD k ins0) (atL b c (k+1)):=by rw [ar5 b c (Nat.le_of_lt m),ag7 b c m];rfl
  have P:∀ n∈(b.getD k ins0).to,0<=n:=λn E=>(C.toR _ g n E).1;have hLl:∃ L:List Int,L.length<=ks.toNat/\∀ r∈atL b c k,r∈L:=by
   cases k with
   |zero=>exact ⟨_,h0,λr hr=>hr⟩
   |succ k=>exact ⟨_,O k (by omega),λr hr=>K7.2 (.inl hr)⟩
  obtain ⟨L,hL1,hL2⟩:=hLl;have O:=O k m;have J:=bP0 (sp:=A6 a b c) (rd:=rd) (N:=N) (i:=(k:Int)) F (cs5.1 D _ g) (λn E=>z n (H1.2 E)) I H;rw [A5 m ins0,as0,cs4,Nat.min_eq_left (by omega)];have K:=ay0 m;have Y:=A5 m ins0;obtain ⟨x,hx⟩:∃ x,b.getD k ins0=x:=⟨_,rfl⟩;obtain ⟨S,hS⟩:∃ S,runA (A6 a b c) rd ks N (b.take k) 0 (H6 a)=S:=⟨_,rfl⟩;obtain ⟨Q,p⟩:=ai0 a b k (by omega);have B:=ai0 a b (k+1) h;rw [A5 m ins0] at B K;simp only [hx,hS] at*
  obtain ⟨l1,l2,l3,l4,l5⟩:=aX8 F z (M4 _) J.1.1 _ (Nat.le_refl _);obtain ⟨f1,f2,f3⟩:=aQ4 (sp:=A6 a b c) (rd:=rd) (N:=N) (i:=k) F z hL1 (λr hr h=>hL2 r (by
   rcases h with h|h
   .rw [A,R7];exact .inl (H1.1 h)
   .exact (as4 C hr.1 (j hr.2) (by omega)).1 h)) _ (Nat.le_refl _)
  rw [cs3] at l1 l2 l3 l4 l5 f1 f2 f3;have F1:=R8 (sp:=A6 a b c) (rd:=rd) (N:=N) (i:=k) (fr:=B3 x.from_) (B3 x.from_) F z;have G:=J.1.2;have l:=J.2;rw [aP6] at l;obtain ⟨T1,R⟩:∃ T1,C3 (A6 a b c) rd ks N k (B3 x.from_) S (B3 x.from_)=T1:=⟨_,rfl⟩;rw [R] at l1 l2 l3 l4 l5 F1 G f1 f2 f3 l;obtain ⟨t1,t2,t4,t5⟩:=bR3 F1 I H G _ (Nat.le_refl _);obtain ⟨g1,g2,g3⟩:=bv9 (sp:=A6 a b c) (rd:=rd) (N:=N) (i:=k) F1 I H O (λr hr h=>by
   rw [K7];rcases h with h|h
   .exact .inr h
   .rcases hr with hr|hr
    .exact .inl ((as4 C (k:=k+1) hr.1 (j hr.2) (by omega)).1 h)
    .exact .inr hr) _ (Nat.le_refl _)
  rw [cs3] at t1 t2 t4 t5 g1 g2 g3;obtain ⟨T2,T⟩:∃ T2,I8 (A6 a b c) rd ks N k x.to T1 x.to=T2:=⟨_,rfl⟩;rw [T] at t1 t2 t4 t5 g1 g2 g3 l;have s:∃ y,y.kind=0/\doOf (A6 a b c) rd ks N k x S=⟨T2.holds,T2.cells,T2.ocells,T2.code++[y]⟩:=by unfold doOf;dsimp only;rw [R,T];exact ⟨_,rfl,rfl⟩
  obtain ⟨y,hy,s⟩:=s;rw [s];have U:∀ r∈atL b c k,(a<=r\/r∈rds (b.take k++[x]))->InS T1.holds ks r:=by
   intro r hr h;by_cases V:r∈x.from_
   .exact l4 r (H1.2 V)
   .have d:=av1 C r (b.length-k) k (by omega) hr;refine f3 r (f r hr (h.imp id λh=>?_)) (.inr ((as4 C d.1 (j d.2) (by omega)).2 hr));rw [as5,cr9] at h;exact h.resolve_right V
  refine ⟨l.mono λr h=>?_,?_,λr hr h=>?_,λr hr=>?_,?_⟩
  .rw [Y,K,cr9];rcases h with h|h
   .exact ⟨h.1,h.2.imp id .inl⟩
   .exact ⟨P r h,.inr (.inr h)⟩
  .show H4 2 (T2.code++[y])=0;rw [R6,hy,if_neg (by decide),g2,f2,Z]
  .show InS T2.holds ks r;rw [Y] at h;by_cases W:r∈x.to
   .exact t4 r W
   .have X:r∈atL b c k:=by rw [A,R7];exact .inr ⟨hr,W⟩
    have d:=av1 C r (b.length-k) k (by omega) X;exact g3 r (U r X h) ((as4 C (k:=k+1) d.1 (j d.2) (by omega)).2 hr)
  .rw [Y,K,as5,cr9,cr9];rcases t2 r hr with d|d
   .rcases l2 r d with M|M
    .exact (o r M).imp .inl .inl
    .exact .inr (.inr (H1.1 M))
   .exact .inl (.inr d)
  .show H4 1 (T2.code++[y])=_;rw [Y,R6,hy,if_neg (by decide),t5,l5,hl]
   classical
   have hq:(parR a (b.take k)++(B3 x.from_).filter λn=>decide (¬ InS S.holds ks n)).Nodup:=by rw [List.nodup_append];refine ⟨aQ5 Q,(M4 _).filter _,λu t v hv e=>?_⟩;subst e;rw [List.mem_filter,cr4] at hv;have d:=(p u).1 t;exact hv.2 (f u (by rw [A,R7];exact .inl (H1.1 hv.1)) (.inr d.2))
   have e1:=ac9 _ (parR a (b.take k++[x])) hq λu t=>by
    rw [B.2 u,as5,cr9];rcases cr9.1 t with t|t
    .have d:=(p u).1 t;exact ⟨d.1,.inl d.2⟩
    .rw [List.mem_filter,cr4] at t;have M:=H1.1 t.1;refine ⟨Classical.byContradiction λhge=>?_,.inr M⟩;exact t.2 (f u (by rw [A,R7];exact .inl M) (.inl (by omega)))
   have e2:=ac9 _ (parR a (b.take k)++(B3 x.from_).filter λn=>decide (¬ InS S.holds ks n)) (aQ5 B.1) λu t=>by
    have d:=(B.2 u).1 t;rw [as5,cr9] at d;rw [cr9];by_cases w:u∈rds (b.take k)
    .exact .inl ((p u).2 ⟨d.1,w⟩)
    .refine .inr (List.mem_filter.2 ⟨H1.2 (d.2.resolve_left w),decide_eq_true λhin=>?_⟩);rcases o u hin with h8|h8
     .have:=C.new u (by rw [hb,L1];exact List.mem_append_left _ h8);omega
     .exact w h8
   rw [cr3] at e1 e2;have e3:N7 (B3 x.from_) (InS S.holds ks)=((B3 x.from_).filter λn=>decide (¬ InS S.holds ks n)).length:=by unfold N7;congr
   omega
end
end Go.Rg
end
section
namespace Go.Rg
open Go Go.VT
def ck7 (l:List Int):Nat->St RU->Ann RU:=λk s=>match k with
 |0=>⟨[],[.slot 21,.slot 20],[i64,ints],λp=>0<=p.1/\p.1<=(aX4 l 30).length/\p.2.1=parR (parB l) ((aX4 l 30).take p.1.toNat),λp=>(aX4 l 30).length-p.1.toNat,[(.row 20,0,3,i64)]⟩
 |_=>⟨[],[.slot 22,.slot 20],[i64,ints],λp=>0<=p.1/\p.1<=((aX4 l 30).getD (s.intAt 21).toNat ins0).from_.length/\p.2.1=B9 (parR (parB l) ((aX4 l 30).take (s.intAt 21).toNat)) ((((aX4 l 30).getD (s.intAt 21).toNat ins0).from_.take p.1.toNat).filter λn=>decide (n<parB l)),λp=>((aX4 l 30).getD (s.intAt 21).toNat ins0).from_.length-p.1.toNat,[]⟩
theorem ck8 (l:List Int) (n:Int):vc (EV [(25,cBuilt),(27,cSlots),(15,cAlloc),(29,cPress),(17,cCount),(30,cPut),(14,cSlotted)]) (ck7 l) Go.Proofs.Tryd.f6 cLaw2 (l,n,())=(
 let v:Bool:=
  (B0 (VFun.mk (parB l) (A4 l (30:Int)).code (A4 l (30:Int)).out []) (C2 (VFun.mk (parB l) (A4 l (30:Int)).code (A4 l (30:Int)).out []) n (5:Int))).2 !=
  (0:Int)||
  (B0 (VFun.mk (parB l) (A4 l (30:Int)).code (A4 l (30:Int)).out [])
  (IntKind.i64.wrap (C2 (VFun.mk (parB l) (A4 l (30:Int)).code (A4 l (30:Int)).out []) n (5:Int)+(1:Int)))).2 !=
  (0:Int)||
  (E2 (VFun.mk (parB l) (A4 l (30:Int)).code (A4 l (30:Int)).out [])).2 !=(0:Int)||
  decide ((E2 (VFun.mk (parB l) (A4 l (30:Int)).code (A4 l (30:Int)).out [])).1 >(62:Int));
 let w:Int:=
  (B0 (VFun.mk (parB l) (A4 l (30:Int)).code (A4 l (30:Int)).out [])
  (if
  C2 (VFun.mk (parB l) (A4 l (30:Int)).code (A4 l (30:Int)).out []) (0:Int) (1:Int) >
  (E2 (VFun.mk (parB l) (A4 l (30:Int)).code (A4 l (30:Int)).out [])).1 then
  C2 (VFun.mk (parB l) (A4 l (30:Int)).code (A4 l (30:Int)).out []) (0:Int) (1:Int)
  else (E2 (VFun.mk (parB l) (A4 l (30:Int)).code (A4 l (30:Int)).out [])).1)).1.params;
 let x:Int:=
  (B0 (VFun.mk (parB l) (A4 l (30:Int)).code (A4 l (30:Int)).out [])
  (if
  C2 (VFun.mk (parB l) (A4 l (30:Int)).code (A4 l (30:Int)).out []) (0:Int) (1:Int) >
  (E2 (VFun.mk (parB l) (A4 l (30:Int)).code (A4 l (30:Int)).out [])).1 then
  C2 (VFun.mk (parB l) (A4 l (30:Int)).code (A4 l (30:Int)).out []) (0:Int) (1:Int)
  else (E2 (VFun.mk (parB l) (A4 l (30:Int)).code (A4 l (30:Int)).out [])).1)).1.cells;
 let y:Int:=
  (W2
  (RCode.mk w
  (B0 (VFun.mk (parB l) (A4 l (30:Int)).code (A4 l (30:Int)).out [])
  (if
  C2 (VFun.mk (parB l) (A4 l (30:Int)).code (A4 l (30:Int)).out []) (0:Int) (1:Int) >
  (E2 (VFun.mk (parB l) (A4 l (30:Int)).code (A4 l (30:Int)).out [])).1 then
  C2 (VFun.mk (parB l) (A4 l (30:Int)).code (A4 l (30:Int)).out []) (0:Int) (1:Int)
  else (E2 (VFun.mk (parB l) (A4 l (30:Int)).code (A4 l (30:Int)).out [])).1)).1.slots
  x
  (B0 (VFun.mk (parB l) (A4 l (30:Int)).code (A4 l (30:Int)).out [])
  (if
  C2 (VFun.mk (parB l) (A4 l (30:Int)).code (A4 l (30:Int)).out []) (0:Int) (1:Int) >
  (E2 (VFun.mk (parB l) (A4 l (30:Int)).code (A4 l (30:Int)).out [])).1 then
  C2 (VFun.mk (parB l) (A4 l (30:Int)).code (A4 l (30:Int)).out []) (0:Int) (1:Int)
  else (E2 (VFun.mk (parB l) (A4 l (30:Int)).code (A4 l (30:Int)).out [])).1)).1.code
  (B0 (VFun.mk (parB l) (A4 l (30:Int)).code (A4 l (30:Int)).out [])
  (if
  C2 (VFun.mk (parB l) (A4 l (30:Int)).code (A4 l (30:Int)).out []) (0:Int) (1:Int) >
  (E2 (VFun.mk (parB l) (A4 l (30:Int)).code (A4 l (30:Int)).out [])).1 then
  C2 (VFun.mk (parB l) (A4 l (30:Int)).code (A4 l (30:Int)).out []) (0:Int) (1:Int)
  else (E2 (VFun.mk (parB l) (A4 l (30:Int)).code (A4 l (30:Int)).out [])).1)).1.out)).2;
 let z:Int:=
  (B0 (VFun.mk (parB l) (A4 l (30:Int)).code (A4 l (30:Int)).out [])
  (if
  C2 (VFun.mk (parB l) (A4 l (30:Int)).code (A4 l (30:Int)).out []) (0:Int) (1:Int) >
  (E2 (VFun.mk (parB l) (A4 l (30:Int)).code (A4 l (30:Int)).out [])).1 then
  C2 (VFun.mk (parB l) (A4 l (30:Int)).code (A4 l (30:Int)).out []) (0:Int) (1:Int)
  else (E2 (VFun.mk (parB l) (A4 l (30:Int)).code (A4 l (30:Int)).out [])).1)).1.slots;
 let A:Int:=
  (W2
  (RCode.mk w z x
  (B0 (VFun.mk (parB l) (A4 l (30:Int)).code (A4 l (30:Int)).out [])
  (if
  C2 (VFun.mk (parB l) (A4 l (30:Int)).code (A4 l (30:Int)).out []) (0:Int) (1:Int) >
  (E2 (VFun.mk (parB l) (A4 l (30:Int)).code (A4 l (30:Int)).out [])).1 then
  C2 (VFun.mk (parB l) (A4 l (30:Int)).code (A4 l (30:Int)).out []) (0:Int) (1:Int)
  else (E2 (VFun.mk (parB l) (A4 l (30:Int)).code (A4 l (30:Int)).out [])).1)).1.code
  (B0 (VFun.mk (parB l) (A4 l (30:Int)).code (A4 l (30:Int)).out [])
  (if
  C2 (VFun.mk (parB l) (A4 l (30:Int)).code (A4 l (30:Int)).out []) (0:Int) (1:Int) >
  (E2 (VFun.mk (parB l) (A4 l (30:Int)).code (A4 l (30:Int)).out [])).1 then
  C2 (VFun.mk (parB l) (A4 l (30:Int)).code (A4 l (30:Int)).out []) (0:Int) (1:Int)
  else (E2 (VFun.mk (parB l) (A4 l (30:Int)).code (A4 l (30:Int)).out [])).1)).1.out)).1;
 let B:Int:=
  (B0 (VFun.mk (parB l) (A4 l (30:Int)).code (A4 l (30:Int)).out [])
  (if
  C2 (VFun.mk (parB l) (A4 l (30:Int)).code (A4 l (30:Int)).out []) (0:Int) (1:Int) >
  (E2 (VFun.mk (parB l) (A4 l (30:Int)).code (A4 l (30:Int)).out [])).1 then
  C2 (VFun.mk (parB l) (A4 l (30:Int)).code (A4 l (30:Int)).out []) (0:Int) (1:Int)
  else (E2 (VFun.mk (parB l) (A4 l (30:Int)).code (A4 l (30:Int)).out [])).1)).2;
 let C:Int:=
  (W2
  (RCode.mk
  (B0 (VFun.mk (parB l) (A4 l (30:Int)).code (A4 l (30:Int)).out [])
  (IntKind.i64.wrap (C2 (VFun.mk (parB l) (A4 l (30:Int)).code (A4 l (30:Int)).out []) n (5:Int)+(1:Int)))).1.params
  (B0 (VFun.mk (parB l) (A4 l (30:Int)).code (A4 l (30:Int)).out [])
  (IntKind.i64.wrap (C2 (VFun.mk (parB l) (A4 l (30:Int)).code (A4 l (30:Int)).out []) n (5:Int)+(1:Int)))).1.slots
  (B0 (VFun.mk (parB l) (A4 l (30:Int)).code (A4 l (30:Int)).out [])
  (IntKind.i64.wrap (C2 (VFun.mk (parB l) (A4 l (30:Int)).code (A4 l (30:Int)).out []) n (5:Int)+(1:Int)))).1.cells
  (B0 (VFun.mk (parB l) (A4 l (30:Int)).code (A4 l (30:Int)).out [])
  (IntKind.i64.wrap (C2 (VFun.mk (parB l) (A4 l (30:Int)).code (A4 l (30:Int)).out []) n (5:Int)+(1:Int)))).1.code
  (B0 (VFun.mk (parB l) (A4 l (30:Int)).code (A4 l (30:Int)).out [])
  (IntKind.i64.wrap (C2 (VFun.mk (parB l) (A4 l (30:Int)).code (A4 l (30:Int)).out []) n (5:Int)+(1:Int)))).1.out)).1;
 let D:List RIns:=
  (B0 (VFun.mk (parB l) (A4 l (30:Int)).code (A4 l (30:Int)).out [])
  (if
  C2 (VFun.mk (parB l) (A4 l (30:Int)).code (A4 l (30:Int)).out []) (0:Int) (1:Int) >
  (E2 (VFun.mk (parB l) (A4 l (30:Int)).code (A4 l (30:Int)).out [])).1 then
  C2 (VFun.mk (parB l) (A4 l (30:Int)).code (A4 l (30:Int)).out []) (0:Int) (1:Int)
  else (E2 (VFun.mk (parB l) (A4 l (30:Int)).code (A4 l (30:Int)).out [])).1)).1.code;
 let E:List Place:=
  (B0 (VFun.mk (parB l) (A4 l (30:Int)).code (A4 l (30:Int)).out [])
  (if
  C2 (VFun.mk (parB l) (A4 l (30:Int)).code (A4 l (30:Int)).out []) (0:Int) (1:Int) >
  (E2 (VFun.mk (parB l) (A4 l (30:Int)).code (A4 l (30:Int)).out [])).1 then
  C2 (VFun.mk (parB l) (A4 l (30:Int)).code (A4 l (30:Int)).out []) (0:Int) (1:Int)
  else (E2 (VFun.mk (parB l) (A4 l (30:Int)).code (A4 l (30:Int)).out [])).1)).1.out;
 let d:Int:=
  (W2
  (RCode.mk
  (B0 (VFun.mk (parB l) (A4 l (30:Int)).code (A4 l (30:Int)).out [])
  (C2 (VFun.mk (parB l) (A4 l (30:Int)).code (A4 l (30:Int)).out []) n (5:Int))).1.params
  (B0 (VFun.mk (parB l) (A4 l (30:Int)).code (A4 l (30:Int)).out [])
  (C2 (VFun.mk (parB l) (A4 l (30:Int)).code (A4 l (30:Int)).out []) n (5:Int))).1.slots
  (B0 (VFun.mk (parB l) (A4 l (30:Int)).code (A4 l (30:Int)).out [])
  (C2 (VFun.mk (parB l) (A4 l (30:Int)).code (A4 l (30:Int)).out []) n (5:Int))).1.cells
  (B0 (VFun.mk (parB l) (A4 l (30:Int)).code (A4 l (30:Int)).out [])
  (C2 (VFun.mk (parB l) (A4 l (30:Int)).code (A4 l (30:Int)).out []) n (5:Int))).1.code
  (B0 (VFun.mk (parB l) (A4 l (30:Int)).code (A4 l (30:Int)).out [])
  (C2 (VFun.mk (parB l) (A4 l (30:Int)).code (A4 l (30:Int)).out []) n (5:Int))).1.out)).1;
 let e:Int:=
  (B0 (VFun.mk (parB l) (A4 l (30:Int)).code (A4 l (30:Int)).out [])
  (IntKind.i64.wrap (C2 (VFun.mk (parB l) (A4 l (30:Int)).code (A4 l (30:Int)).out []) n (5:Int)+(1:Int)))).2;
 let h:List RIns:=
  (B0 (VFun.mk (parB l) (A4 l (30:Int)).code (A4 l (30:Int)).out [])
  (IntKind.i64.wrap (C2 (VFun.mk (parB l) (A4 l (30:Int)).code (A4 l (30:Int)).out []) n (5:Int)+(1:Int)))).1.code;
 let i:Int:=
  (B0 (VFun.mk (parB l) (A4 l (30:Int)).code (A4 l (30:Int)).out [])
  (IntKind.i64.wrap (C2 (VFun.mk (parB l) (A4 l (30:Int)).code (A4 l (30:Int)).out []) n (5:Int)+(1:Int)))).1.cells;
 let j:List Place:=
  (B0 (VFun.mk (parB l) (A4 l (30:Int)).code (A4 l (30:Int)).out [])
  (IntKind.i64.wrap (C2 (VFun.mk (parB l) (A4 l (30:Int)).code (A4 l (30:Int)).out []) n (5:Int)+(1:Int)))).1.out;
 let k:Int:=
  (B0 (VFun.mk (parB l) (A4 l (30:Int)).code (A4 l (30:Int)).out [])
  (IntKind.i64.wrap (C2 (VFun.mk (parB l) (A4 l (30:Int)).code (A4 l (30:Int)).out []) n (5:Int)+(1:Int)))).1.params;
 let m:Int:=
  (B0 (VFun.mk (parB l) (A4 l (30:Int)).code (A4 l (30:Int)).out [])
  (IntKind.i64.wrap (C2 (VFun.mk (parB l) (A4 l (30:Int)).code (A4 l (30:Int)).out []) n (5:Int)+(1:Int)))).1.slots;
 let o:Int:=
  (B0 (VFun.mk (parB l) (A4 l (30:Int)).code (A4 l (30:Int)).out []) (C2 (VFun.mk (parB l) (A4 l (30:Int)).code (A4 l (30:Int)).out []) n (5:Int))).1.slots;
 let q:Int:=
  (B0 (VFun.mk (parB l) (A4 l (30:Int)).code (A4 l (30:Int)).out []) (C2 (VFun.mk (parB l) (A4 l (30:Int)).code (A4 l (30:Int)).out []) n (5:Int))).1.params;
 let r:List Place:=
  (B0 (VFun.mk (parB l) (A4 l (30:Int)).code (A4 l (30:Int)).out []) (C2 (VFun.mk (parB l) (A4 l (30:Int)).code (A4 l (30:Int)).out []) n (5:Int))).1.out;
 let s:List RIns:=
  (B0 (VFun.mk (parB l) (A4 l (30:Int)).code (A4 l (30:Int)).out []) (C2 (VFun.mk (parB l) (A4 l (30:Int)).code (A4 l (30:Int)).out []) n (5:Int))).1.code;
 let t:Int:=
  (B0 (VFun.mk (parB l) (A4 l (30:Int)).code (A4 l (30:Int)).out []) (C2 (VFun.mk (parB l) (A4 l (30:Int)).code (A4 l (30:Int)).out []) n (5:Int))).1.cells;
 let f:Int:=C2 (VFun.mk (parB l) (A4 l (30:Int)).code (A4 l (30:Int)).out []) n (5:Int);
 let g:Int:=(E2 (VFun.mk (parB l) (A4 l (30:Int)).code (A4 l (30:Int)).out [])).2;
 let u:Int:=(E2 (VFun.mk (parB l) (A4 l (30:Int)).code (A4 l (30:Int)).out [])).1;
 let a:List Ins:=(A4 l (30:Int)).code;
 let c:List Int:=(A4 l (30:Int)).out;
 let b:List Ins:=aX4 l (30:Int);
 let G:Ins:=Ins.mk (0:Int) (0:Int) [] [] [];
 let F:Int:=(↑(List.length a):Int);
  Small RU (Sigma.mk (Ty.slice (3:Nat) (Ty.int IntKind.i64)) l)->
  (N0 a=true/\(5:Int)<=(1000:Int))/\
  (N0 a=true/\I3 a=true/\List.length c<=(8796093022200:Nat))/\
  (N0 a=true/\I3 a=true/\List.length c<=(8796093022200:Nat))/\
  (v=true->((B0 (VFun.mk (parB l) a c []) f).2==(0:Int)&&e==(0:Int)&&g==(0:Int)&&true,())=(true,()))/\
  (v=false->
  (N0 a=true/\(1:Int)<=(1000:Int))/\
  (N0 a=true/\I3 a=true/\List.length c<=(8796093022200:Nat))/\
  (∃ (p:Int×List Int×Unit),
  l=l/\
  n=n/\
  false=false/\
  f=f/\
  B=B/\
  e=e/\
  u=u/\
  g=g/\
  v=v/\
  d=d/\
  C=C/\
  A=A/\
  y=y/\
  (0:Int)=p.1/\
  []=p.2.1/\
  parB l=parB l/\
  a=a/\
  c=c/\
  ([]:List Int)=[]/\
  q=q/\
  o=o/\
  t=t/\
  s=s/\
  r=r/\
  k=k/\
  m=m/\
  i=i/\
  h=h/\
  j=j/\
  w=w/\
  z=z/\
  x=x/\
  D=D/\
  E=E/\
  ([]:List Int)=[]/\
  (0:Int)<=p.1/\
  p.1<=(↑(List.length b):Int)/\p.2.1=parR (parB l) (List.take (Int.toNat p.1) b))/\
  ∀ (p:Int×List Int×Unit),
 let e0_1:Bool:=decide (p.1<F);
 let e1_1:Int:=p.1;
 let e2_1:Int:=(↑(List.length (List.getD a (Int.toNat e1_1) G).from_):Int);
 let e3_1:List Int:=p.2.1;
 let e4_1:Nat:=List.length (List.getD b (Int.toNat e1_1) ins0).from_;
  (0:Int)<=e1_1/\e1_1<=(↑(List.length b):Int)/\e3_1=parR (parB l) (List.take (Int.toNat e1_1) b)->
  (e0_1=true->
  (∃ (p:Int×List Int×Unit),
  l=l/\
  n=n/\
  false=false/\
  f=f/\
  B=B/\
  e=e/\
  u=u/\
  g=g/\
  v=v/\
  d=d/\
  C=C/\
  A=A/\
  y=y/\
  e1_1=e1_1/\
  e0_1=e0_1/\
  (0:Int)=p.1/\
  e3_1=p.2.1/\
  parB l=parB l/\
  a=a/\
  c=c/\
  ([]:List Int)=[]/\
  q=q/\
  o=o/\
  t=t/\
  s=s/\
  r=r/\
  k=k/\
  m=m/\
  i=i/\
  h=h/\
  j=j/\
  w=w/\
  z=z/\
  x=x/\
  D=D/\
  E=E/\
  ([]:List Int)=[]/\
  (0:Int)<=p.1/\
  p.1<=(↑e4_1:Int)/\
  p.2.1=
  B9 (parR (parB l) (List.take (Int.toNat e1_1) b))
  (List.filter (λ(n:Int)=>decide (n<parB l))
  (List.take (Int.toNat p.1) (List.getD b (Int.toNat e1_1) ins0).from_)))/\
  ∀ (p:Int×List Int×Unit),
 let e0_2:Bool:=decide (List.getD (List.getD a (Int.toNat e1_1) G).from_ (Int.toNat p.1) (0:Int)<parB l);
 let e1_2:Bool:=decide (p.1<e2_1);
 let e2_2:List Int:=p.2.1;
 let e3_2:Int:=p.1;
  (0:Int)<=e3_2/\
  e3_2<=(↑e4_1:Int)/\
  e2_2=
  B9 (parR (parB l) (List.take (Int.toNat e1_1) b))
  (List.filter (λ(n:Int)=>decide (n<parB l)) (List.take (Int.toNat e3_2) (List.getD b (Int.toNat e1_1) ins0).from_))->
  ((0:Int)<=e1_1/\e1_1<F)/\
  (e1_2=true->
  ((0:Int)<=e1_1/\e1_1<F)/\
  ((0:Int)<=e3_2/\e3_2<e2_1)/\
  (e0_2=true->((0:Int)<=e1_1/\e1_1<F)/\((0:Int)<=e3_2/\e3_2<e2_1)/\List.length e2_2<=(17592186044400:Nat))/\
  ∃ (p':Int×List Int×Unit),
  (bif e0_2 then l else l)=l/\
  (bif e0_2 then n else n)=n/\
  (bif e0_2 then false else false)=false/\
  (bif e0_2 then f else f)=f/\
  (bif e0_2 then B else B)=B/\
  (bif e0_2 then e else e)=e/\
  (bif e0_2 then u else u)=u/\
  (bif e0_2 then g else g)=g/\
  (bif e0_2 then v else v)=v/\
  (bif e0_2 then d else d)=d/\
  (bif e0_2 then C else C)=C/\
  (bif e0_2 then A else A)=A/\
  (bif e0_2 then y else y)=y/\
  (bif e0_2 then e1_1 else e1_1)=e1_1/\
  (bif e0_2 then e0_1 else e0_1)=e0_1/\
  IntKind.i64.wrap ((bif e0_2 then e3_2 else e3_2)+(1:Int))=p'.1/\
  (bif e0_2 then Q9 e2_2 (List.getD (List.getD a (Int.toNat e1_1) G).from_ (Int.toNat e3_2) (0:Int)) else e2_2)=
  p'.2.1/\
  (bif e0_2 then parB l else parB l)=parB l/\
  (bif e0_2 then a else a)=a/\
  (bif e0_2 then c else c)=c/\
  (bif e0_2 then ([]:List Int) else [])=[]/\
  (bif e0_2 then q else q)=q/\
  (bif e0_2 then o else o)=o/\
  (bif e0_2 then t else t)=t/\
  (bif e0_2 then s else s)=s/\
  (bif e0_2 then r else r)=r/\
  (bif e0_2 then k else k)=k/\
  (bif e0_2 then m else m)=m/\
  (bif e0_2 then i else i)=i/\
  (bif e0_2 then h else h)=h/\
  (bif e0_2 then j else j)=j/\
  (bif e0_2 then w else w)=w/\
  (bif e0_2 then z else z)=z/\
  (bif e0_2 then x else x)=x/\
  (bif e0_2 then D else D)=D/\
  (bif e0_2 then E else E)=E/\
  (bif e0_2 then ([]:List Int) else [])=[]/\
  ((0:Int)<=p'.1/\
  p'.1<=(↑e4_1:Int)/\
  p'.2.1=
  B9 (parR (parB l) (List.take (Int.toNat e1_1) b))
  (List.filter (λ(n:Int)=>decide (n<parB l))
  (List.take (Int.toNat p'.1)
  (List.getD b (Int.toNat e1_1) ins0).from_)))/\
  e4_1-Int.toNat p'.1<e4_1-Int.toNat e3_2)/\
  (e1_2=false->
  ∃ (p':Int×List Int×Unit),
  l=l/\
  n=n/\
  false=false/\
  f=f/\
  B=B/\
  e=e/\
  u=u/\
  g=g/\
  v=v/\
  d=d/\
  C=C/\
  A=A/\
  y=y/\
  IntKind.i64.wrap (e1_1+(1:Int))=p'.1/\
  e2_2=p'.2.1/\
  parB l=parB l/\
  a=a/\
  c=c/\
  ([]:List Int)=[]/\
  q=q/\
  o=o/\
  t=t/\
  s=s/\
  r=r/\
  k=k/\
  m=m/\
  i=i/\
  h=h/\
  j=j/\
  w=w/\
  z=z/\
  x=x/\
  D=D/\
  E=E/\
  ([]:List Int)=[]/\
  ((0:Int)<=p'.1/\
  p'.1<=(↑(List.length b):Int)/\
  p'.2.1=parR (parB l) (List.take (Int.toNat p'.1) b))/\
  List.length b-Int.toNat p'.1<List.length b-Int.toNat e1_1))/\
  (e0_1=false->(decide (C<=d)&&B==(0:Int)&&y==(0:Int)&&A==(↑(List.length e3_1):Int)&&true,())=(true,())))):=by kernel_rfl
end Go.Rg
end
section
namespace Go.Rg
open Go Go.VT
theorem bR7 {f:VFun} {ks:Int} (hc:E6 f=0) (a:¬ (ks<1\/64<ks)) (hf:f.code.all (fewX ks)=true):B0 f ks=(⟨f.params,ks,(bn7 f ks).ocells,(bn7 f ks).code,f.out.map (outA (bn7 f ks) ks)⟩,0):=by unfold B0;rw [if_neg (by rw [hc];simp),if_neg a,if_neg (by rw [hf];simp)]
theorem aK2 (b:List Ins) (c:List Int):∀ k,k<=b.length->((atL b c 0).length:Int)<=M2 (D3 b c) b k/\∀ j,j<k->((B9 (atL b c (j+1)) (b.getD j ins0).to).length:Int)<=M2 (D3 b c) b k
 |0,_=>⟨by rw [S2];exact Int.le_refl _,λj d=>absurd d (by omega)⟩
 |k+1,h=>by
  obtain ⟨h1,h2⟩:=aK2 b c k (by omega);rw [aP0 b c (by omega)];refine ⟨by omega,λj d=>?_⟩;by_cases a:j=k
  .subst a;omega
  .have:=h2 j (by omega);omega
section
variable {a:Int} {b:List Ins} {c d:List Int}
theorem aY2 {ks:Int} (F:Fit a b c ks):∃ c',B0 ⟨a,b,c,d⟩ ks=(c',0)/\(W2 c').1=H4 1 (stA a b c ks b.length).code/\(W2 c').2=H4 2 (stA a b c ks b.length).code:=by
 have hl:bn7 ⟨a,b,c,d⟩ ks=stA a b c ks b.length:=by show runA _ _ _ _ b 0 _=runA _ _ _ _ (b.take b.length) 0 _;rw [cs3]
 have h1:=F.ks1;have h2:=F.ks2;exact ⟨_,bR7 (aQ0 F.made.chk) (by omega) F.few,by rw [hl];rfl,by rw [hl];rfl⟩
theorem bZ5 {ks ks':Int} (F:Fit a b c ks) (F':Fit a b c ks') (h:ks<=ks'):H4 1 (stA a b c ks' b.length).code<=H4 1 (stA a b c ks b.length).code:=by obtain ⟨_,cst,w,g⟩:=aY1 F.made.chk F.few b.length 0 (by omega);obtain ⟨d,e,f⟩:=(w.more (k':=ks'.toNat) (by omega)).mono (S':=InS (stA a b c ks' 0).holds ks') (λx ⟨q,_,hm⟩=>by simp [stA,runA,H6,mget] at hm);have h1:=(aY1 F'.made.chk F'.few b.length 0 (by omega)).1 d f;have i:H4 1 (stA a b c ks' 0).code=0:=rfl;have j:H4 1 (stA a b c ks 0).code=0:=rfl;omega
theorem bZ6 {ks:Int} (F:Fit a b c ks) (h:M2 (D3 b c) b b.length<=ks):H4 2 (stA a b c ks b.length).code=0/\H4 1 (stA a b c ks b.length).code=(parR a b).length:=by obtain ⟨h1,h2⟩:=aK2 b c b.length (Nat.le_refl _);have hr:=bw0 F.made.chk F.few (by omega) (λk d=>by have:=h2 k d;omega) (E3 b) b.length b.length (Nat.le_refl _);have hl:=hr.loads;rw [cs3] at hl;refine ⟨hr.stores,?_⟩;show H4 1 (runA _ _ _ _ (b.take b.length) 0 _).code=_;rw [cs3];exact hl
end
theorem ck9 (l:List Int) (n:Int):vc (EV [(25,cBuilt),(27,cSlots),(15,cAlloc),(29,cPress),(17,cCount),(30,cPut),(14,cSlotted)]) (ck7 l) Go.Proofs.Tryd.f6 cLaw2 (l,n,()):=by
 rw [ck8 l n];obtain ⟨M,I⟩:=made l (m:=30) (by omega);have f:(A4 l 30).code.length<=30:=by omega
 obtain ⟨F,O⟩:=bh2 (d:=[]) M f n (k:=5) (by omega) (by omega);obtain ⟨F0,u⟩:=bh2 (d:=[]) M f 0 (k:=1) (by omega) (by omega);have q:C2 ⟨parB l,(A4 l 30).code,(A4 l 30).out,[]⟩ 0 1=J9 (A4 l 30).code:=by unfold C2 F8;simp
 have J:J9 (A4 l 30).code<=C2 ⟨parB l,(A4 l 30).code,(A4 l 30).out,[]⟩ n 5:=by have:=(P7 (n:=n) (b:=5) (by omega)).1;unfold C2;dsimp only;omega
 have g:E2 ⟨parB l,(A4 l 30).code,(A4 l 30).out,[]⟩=(M2 (D3 (A4 l 30).code (A4 l 30).out) (A4 l 30).code (A4 l 30).code.length,0):=by unfold E2;rw [if_neg (by rw [aQ0 M.chk];simp)];unfold M2;rw [List.take_of_length_le (by rw [List.length_zip];exact Nat.min_le_right _ _)];rfl
 have e:=bp0 M;have hM:=M.out;have v:aX4 l 30=(A4 l 30).code:=rfl;simp only [g,v,q];rw [q] at u;obtain ⟨ks,w⟩:∃ ks,C2 ⟨parB l,(A4 l 30).code,(A4 l 30).out,[]⟩ n 5=ks:=⟨_,rfl⟩;simp only [w] at*
 clear w q v g;obtain ⟨b,t⟩:∃ b,(A4 l 30).code=b:=⟨_,rfl⟩;obtain ⟨c,hc⟩:∃ c,(A4 l 30).out=c:=⟨_,rfl⟩;obtain ⟨a,L⟩:∃ a,parB l=a:=⟨_,rfl⟩;simp only [t,hc,L] at*
 clear t hc L;obtain ⟨p,P⟩:∃ p,M2 (D3 b c) b b.length=p:=⟨_,rfl⟩;simp only [P];have Q:=F.ks1;have R:=F.ks2;have S:IntKind.i64.wrap (ks+1)=ks+1:=G0 (by omega) (by omega);have F1:Fit a b c (ks+1):=bQ9 M f (by omega) (by omega);obtain ⟨c1,T,U,a3⟩:=aY2 (d:=[]) F;obtain ⟨c2,V,W,b3⟩:=aY2 (d:=[]) F1;have r:=bZ5 F F1 (by omega);have X:(⟨0,0,[],[],[]⟩:Ins)=ins0:=rfl;have y:∀ c:RCode,(⟨c.params,c.slots,c.cells,c.code,c.out⟩:RCode)=c:=λ_=>rfl;simp only [S,T,V,y,X];intro hs;refine ⟨⟨e.2,by omega⟩,⟨e.2,e.1,by omega⟩,⟨e.2,e.1,by omega⟩,λ_=>rfl,λh0=>⟨⟨e.2,by omega⟩,⟨e.2,e.1,by omega⟩,?_⟩⟩;have N:p<=62:=by simp at h0;omega
 have Y:∃ K,(if J9 b >p then J9 b else p)=K/\J9 b<=K/\p<=K/\K<=64:=by refine ⟨_,rfl,?_⟩;split<;>omega
 obtain ⟨K,B,C,Z,D⟩:=Y;have FK:Fit a b c K:=bQ9 M f C D;obtain ⟨c3,k1,k2,k3⟩:=aY2 (d:=[]) FK;obtain ⟨r1,r2⟩:=bZ6 FK (by omega);simp only [B,k1,y,k2,k3,r1,r2,U,W,true_and,and_true,Bool.cond_self];clear h0;refine ⟨⟨(0,[],()),rfl,rfl,Int.le_refl _,by dsimp only;omega,rfl⟩,?_⟩;rintro ⟨i,ps,⟨⟩⟩;dsimp only;rintro ⟨i0,i1,rfl⟩;obtain ⟨i,rfl⟩:=cp8 i0;simp only [cp6] at*
 refine ⟨λh=>?_,λh=>?_⟩
 .have h:=cq2 h;have z:i<b.length:=by omega
  have hm:=G3 z ins0;have hf:=M.froms _ hm;have t:(0:Int)<=i/\(i:Int)<b.length:=⟨by omega,by omega⟩;have hpl:=(ai0 a b i (by omega)).1;have hps:=λn=>(ai0 a b i (by omega)).2 n;have s:parR a (b.take (i+1))=B9 (parR a (b.take i)) ((b.getD i ins0).from_.filter λn=>decide (n<a)):=by rw [A5 z ins0,aK1]
  have E:(parR a (b.take i)).length<=90:=by
   have h1:∀ k,k<=b.length->(parR a (b.take k)).length<=3*k:=by
    intro k
    induction k with
    |zero=>intro _;simp [parR]
    |succ k ih=>intro hk;have hmk:=M.froms _ (G3 (l:=b) (i:=k) (by omega) ins0);rw [A5 (by omega) ins0,aK1];have h2:=S1 (parR a (b.take k)) ((b.getD k ins0).from_.filter λn=>decide (n<a));have h3:=List.length_filter_le (λn=>decide (n<a)) (b.getD k ins0).from_;have:=ih (by omega);omega
   have:=h1 i (by omega);omega
  obtain ⟨x,hx⟩:∃ x,b.getD i ins0=x:=⟨_,rfl⟩;simp only [hx] at*
  refine ⟨⟨(0,parR a (b.take i),()),rfl,rfl,Int.le_refl _,by dsimp only;omega,by simp [B9]⟩,?_⟩;rintro ⟨j,qs,⟨⟩⟩;dsimp only;rintro ⟨j0,j1,rfl⟩;obtain ⟨j,rfl⟩:=cp8 j0;simp only [cp6] at*
  refine ⟨t,λh=>?_,λh=>?_⟩
  .have h:=cq2 h;have G:j<x.from_.length:=by omega
   have A:(0:Int)<=j/\(j:Int)<x.from_.length:=⟨by omega,by omega⟩;have hul:=S1 (parR a (b.take i)) ((x.from_.take j).filter λn=>decide (n<a));have H:=List.length_filter_le (λn=>decide (n<a)) (x.from_.take j);rw [cs4] at H;refine ⟨t,A,λ_=>⟨t,A,by omega⟩,((j+1:Nat),B9 (parR a (b.take i)) ((x.from_.take (j+1)).filter λn=>decide (n<a)),()),B8 (m:=4) (by omega) (by omega),?_,⟨by dsimp only;omega,by dsimp only;omega,by dsimp only;rw [cp6]⟩,by dsimp only;omega⟩;dsimp only;rw [A5 G 0,List.filter_append];by_cases o:x.from_.getD j 0<a
   .rw [decide_eq_true o,cond_true,List.filter_cons_of_pos (by simpa using o),List.filter_nil,ax5]
   .rw [decide_eq_false o,cond_false,List.filter_cons_of_neg (by simpa using o),List.filter_nil,List.append_nil]
  .have h:=cq1 h;have G:x.from_.take j=x.from_:=List.take_of_length_le (by omega);rw [G];exact ⟨((i+1:Nat),parR a (b.take (i+1)),()),B8 z (by omega),s.symm,⟨by dsimp only;omega,by dsimp only;omega,by dsimp only;rw [cp6]⟩,by dsimp only;omega⟩
 .have h:=cq1 h;have z:b.take i=b:=List.take_of_length_le (by omega);rw [z,decide_eq_true r];simp
theorem bZ7:C9 prog RG 6 cLaw2:=E8 (A8 bo5 (A8 bo6 (A8 aI9 (A8 aH8 (A8 aG6 (A8 bd8 (A8 aX1 C1))))))) (λp=>ck7 p.1) (by kernel_rfl) (by kernel_rfl) (by kernel_rfl) λ(l,n,()) _=>ck9 l n
end Go.Rg
end
section
namespace Go.Proofs.YtknhkhdbonjhgaaDoor
open Go.ChangeShapes Go.WideShapes Go.ChangeAt Go.RowKit Go.VT
abbrev aY3:List ArgT:=[(23,false,[Go.Rg.ints]),(3,false,[Go.Rg.i64])]
set_option maxRecDepth 100000 in
theorem bp5 (os:Os) (started:os.Started) (H:Type) (enc:TypeId×Value->H):
  ReturnsInHanded {} Tryd.checked os 6 .any (λw args=>(Rows.regsMoreSpec.pre enc Tryd.prog Tryd.f6 [] false w args/\laidMetH Tryd.prog bD7 w)/\sizedMet enc Tryd.prog Tryd.f6 (OpenSpec.ofChange Rows.regsMoreSpec) false w args)
   (Rows.regsMoreSpec.post enc Tryd.prog Tryd.f6 false true false false):=by
 refine returnsInHanded_of_change_and (C:=Tryd.checked) (X:=λw _=>laidMetH Tryd.prog bD7 w) (λ_ _ _ F h=>h.of_heap F) own started (by kernel_rfl) Tryd.func6
  (ChangeSpec.witness_shaped (enc:=enc) (C:=Tryd.checked) (os:=os) (X:=λw _=>laidMetH Tryd.prog bD7 w) false (World.doorLaid Tryd.prog 600 os) #[.slice none 0 0,.int .i64 0] 8 rfl (World.shaped_of_RefB (by kernel_rfl) (by kernel_rfl)) (by kernel_rfl) (by kernel_rfl) (by kernel_rfl) (bY3 os _)) ?_
 intro W base args ds gs ag1 d z _ l G _;have i:∀ (j:Nat) t v,Tryd.f6.params[j]? =some t->args[j]? =some v->Value.okWide Tryd.prog W .any base t v:=d;have m:=z;obtain ⟨p,q,o,B,rfl,I,J⟩:=z;have s:DataW.TrodAll enc Tryd.prog W 0 (λ_=>true) true Tryd.f6.params.toList args.toList ds p:=o;have f:Tryd.f6.params.toList=aY3.map (·.1):=by rw [Tryd.params6];rfl
 obtain ⟨rfl,rfl⟩:gs=[]/\q=[]:=by
  cases gs with
  |nil=>exact ⟨rfl,B⟩
  |cons g r=>exact absurd B (by intro h;cases h)
 have c:∀ n∈DataW.weightsEach Tryd.prog Tryd.f6.params.toList ds,n<=reachBytes:=by intro n K;have h1:(DataW.weightsEach Tryd.prog (Tryd.f6.params.toList++[]) (ds++[])).all (·<=reachBytes)=true:=l;rw [List.append_nil,List.append_nil] at h1;simpa using cs5.1 h1 n K
 rw [f] at s c;obtain ⟨xs,us,hr,L⟩:=bt6 cj4 (A:=aY3) (λa D=>by
  simp only [List.mem_cons,List.not_mem_nil,or_false] at D;rcases D with rfl|rfl
  .exact bY5
  .exact cj5) (λj t v E M=>i j t v (by rw [<-f] at E;simpa using E) (by simpa using M)) s c
 obtain ⟨u,x,rfl⟩:∃ u x,ds=[u,x]:=by
  have k:=aJ1 s
  match ds,k with
  |[u,x],_=>exact ⟨_,_,rfl⟩
 have b:=bJ6 (pre:=none) (A:=aY3) (w:=W) Go.Rg.bZ7 (cj3 G) hr L trivial;rw [Array.toArray_toList] at b;refine b.mono λe W' ⟨N,O⟩=>⟨_,N,bY6 rfl m O (by kernel_rfl) rfl (λt y=>?_)⟩;rw [f] at y;simp only [List.map_cons,List.map_nil,List.mem_cons,List.not_mem_nil,or_false] at y;rcases y with rfl|rfl<;>exact ⟨by kernel_rfl,cq2 (by kernel_rfl)⟩
theorem bE4:Rows.RegsMoreSaid:=
 OpenClaim.holds_of_wide 6 Tryd.f6 rfl rfl rfl rfl rfl rfl rfl ⟨rfl,rfl,rfl,rfl,rfl⟩ rfl rfl rfl rfl rfl (by kernel_rfl) Tryd.func6 (by kernel_rfl)
  (cq2 (by kernel_rfl)) (by unfold Func.isWrapper;first|(rw [if_pos (by decide+kernel)];kernel_rfl)|(rw [if_neg (by decide+kernel)];exact ⟨rfl,rfl⟩))
  (λos started H enc _=>bp5 os started H enc)
theorem more_card:Rows.RegsMoreCardSaid:=
 Claim7.holds_tied_plain_at .later [] [.data,.data] true (true,"168ab8e7f67d43304005f9eb622602b7a6af205c051abe541b21ac4f05ca28a5") false
  bE4 (λ_ h=>by cases h) (by kernel_rfl) (λ_ h=>by cases h) regsMore_row_tie rfl ⟨rfl,rfl⟩ (by kernel_rfl) rfl
  (λf fn hf b=>by
   obtain rfl:f=6:=Option.some.inj ((show Tryd.prog.funcNamed "sheafworks/sheafworkslaw23.RegsMore"=some 6 by kernel_rfl).symm.trans hf) |>.symm;obtain rfl:fn=Tryd.f6:=(Option.some.inj (Tryd.func6.symm.trans b)).symm;exact ⟨by kernel_rfl,λj t c=>by
    rw [Tryd.params6] at c;have hm:t∈[23,3]:=by simpa using Array.mem_of_getElem? c
    have a:([23,3].all λu=>!Tryd.prog.wantsStandIn u)=true:=by kernel_rfl
    exact (show Tryd.prog.wantsStandIn t=false by simpa using cs5.1 a t hm)⟩)
  (by kernel_rfl)
end Go.Proofs.YtknhkhdbonjhgaaDoor
end
