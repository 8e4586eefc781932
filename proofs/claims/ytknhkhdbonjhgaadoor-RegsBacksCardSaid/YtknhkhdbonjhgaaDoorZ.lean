/-
RegsBacks returns true for any code c, in whatever memory and on every schedule: Back and Valid answer as the reference's, and Count as its own
-/
import Derived.Test.YtknhkhdbonjhgaaDoorV4
import Derived.Test.YtknhkhdbonjhgaaDoorRows
import Derived.ProofKit
import Derived.LaidMore
import Derived.Stop.Joined
import Derived.ChangeSame
import Derived.Test.YtknhkhdbonjhgaaDoorCards
import Derived.Test.YtknhkhdbonjhgaaDoorTie
import Derived.SevenTiedAt
set_option linter.unusedVariables false
set_option linter.unusedSimpArgs false
set_option linter.unnecessarySimpa false
set_option maxRecDepth 100000
noncomputable section
section
namespace Go.Rg
open Go Go.VT
theorem bW0 (a:Int):vc (EV []) noL Go.Proofs.Tryd.f110 cIsNaN (a,())=((a !=a,())=(false,())):=by kernel_rfl
theorem bL9 (a:Int):vc (EV []) noL Go.Proofs.Tryd.f111 cIsNaN (a,())=((a !=a,())=(false,())):=by kernel_rfl
theorem cg6 (a b:Int):vc (EV [(111,cIsNaN)]) noL Go.Proofs.Tryd.f109 cLess (a,b,())=(
 let c:Bool:=decide (a<b);
  (false&&!false||c,())=(c,())):=by kernel_rfl
theorem cl7 (l:List Int) (t:Int):vc (EV [(109,cLess),(110,cIsNaN)]) (lBin l t) Go.Proofs.Tryd.f107 cBin (l,t,())=(
 let a:Int:=(↑(List.length l):Int);
 let c:Int:=(2:Int) ^ (1:Nat);
  Small RU (Sigma.mk (Ty.slice (3:Nat) (Ty.int IntKind.i64)) l)->
  (∃ (p:Int×Int×Unit),
  l=l/\
  t=t/\
  (0:Int)=(0:Int)/\
  false=false/\
  a=a/\
  (0:Int)=p.1/\
  a=p.2.1/\
  (0:Int)<=p.1/\
  p.1<=p.2.1/\p.2.1<=a/\(∀ (x:Int),List.Mem x (List.take (Int.toNat p.1) l)->x<t)/\∀ (x:Int),List.Mem x (List.drop (Int.toNat p.2.1) l)->t<=x)/\
  ∀ (p:Int×Int×Unit),
 let e0_1:Bool:=decide (List.getD l (Int.toNat (IntKind.i64.wrap (Int.fdiv (IntKind.wrap IntKind.u64 (IntKind.i64.wrap (p.1+p.2.1))) c))) (0:Int)<t);
 let c:Int:=IntKind.i64.wrap (Int.fdiv (IntKind.wrap IntKind.u64 (IntKind.i64.wrap (p.1+p.2.1))) c);
 let e:Bool:=decide (p.1<p.2.1);
 let d:Int:=p.2.1;
 let b:Int:=p.1;
  ((0:Int)<=b/\b<=d/\d<=a/\(∀ (x:Int),List.Mem x (List.take (Int.toNat b) l)->x<t)/\∀ (x:Int),List.Mem x (List.drop (Int.toNat d) l)->t<=x)->
  (e=true->
  (0:Int)<=(1:Int)/\
  ((0:Int)<=c/\c<a)/\
  ∃ (p':Int×Int×Unit),
  (bif e0_1 then l else l)=l/\
  (bif e0_1 then t else t)=t/\
  (bif e0_1 then (0:Int) else (0:Int))=(0:Int)/\
  (bif e0_1 then false else false)=false/\
  (bif e0_1 then a else a)=a/\
  (bif e0_1 then IntKind.i64.wrap (c+(1:Int)) else b)=p'.1/\
  (bif e0_1 then d else c)=p'.2.1/\
  ((0:Int)<=p'.1/\
  p'.1<=p'.2.1/\
  p'.2.1<=a/\(∀ (x:Int),List.Mem x (List.take (Int.toNat p'.1) l)->x<t)/\∀ (x:Int),List.Mem x (List.drop (Int.toNat p'.2.1) l)->t<=x)/\
  Int.toNat (p'.2.1-p'.1)<Int.toNat (d-b))/\
  (e=false->
  (decide (b<a)=true->(0:Int)<=b/\b<a)/\
  (decide (b<a)=true->(List.getD l (Int.toNat b) (0:Int)==t)=false->(0:Int)<=b/\b<a)/\
  (b,())=((↑(List.length (List.takeWhile (λ(x:den RU.T i64)=>decide (x<t)) l)):Int),()))):=by kernel_rfl
theorem cg7 (reg e:Int) (b:List Ins) (c d:List Int) (sp:Spans) (rd:Reads) (a:Holds) (ce:List (Int×Int)) (op ks oc:Int) (cd:List RIns) (ou:List Place):vc (EV []) (cg4 a ks reg) Go.Proofs.Tryd.f54 cSlot (reg,e,b,c,d,sp,rd,a,ce,op,ks,oc,cd,ou,())=(
 let f:Int×List Ins×List Int×List Int×List (Int×Span)×List (Int×List Int)×List (Place×Int)×List (Int×Int)×Int×Int×Int×List RIns×List Place×Unit:=
  (e,b,c,d,sp,rd,a,ce,op,ks,oc,cd,ou,());
 let g:Bool×Int×Int×List Ins×List Int×List Int×List (Int×Span)×List (Int×List Int)×List (Place×Int)×List (Int×Int)×Int×Int×Int×List RIns×List Place×Unit:=
  ((D9 a ks reg).cell,(D9 a ks reg).n,f);
  Small RU (Sigma.mk (Ty.slice (52:Nat) (Ty.user (0:Nat))) b)->
  Small RU (Sigma.mk (Ty.slice (3:Nat) (Ty.int IntKind.i64)) c)->
  Small RU (Sigma.mk (Ty.slice (3:Nat) (Ty.int IntKind.i64)) d)->
  Small RU (Sigma.mk (Ty.slice (55:Nat) (Ty.user (1:Nat))) cd)->
  Small RU (Sigma.mk (Ty.slice (59:Nat) (Ty.user (2:Nat))) ou)->
  (∃ (p:Int×Unit),
  reg=reg/\
  ks=ks/\
  (0:Int)=p.1/\
  e=e/\
  b=b/\
  c=c/\
  d=d/\
  op=op/\
  ks=ks/\
  oc=oc/\
  sp=sp/\
  rd=rd/\
  a=a/\
  ce=ce/\
  cd=cd/\
  ou=ou/\
  false=false/\
  (0:Int)=(0:Int)/\
  (0:Int)<=p.1/\(p.1<=ks\/p.1=(0:Int))/\∀ (s:Nat),List.Mem s (List.range (Int.toNat p.1))->aj2 a reg s=false)/\
  ∀ (p:Int×Unit),
 let e0_1:Bool:=
  Option.isSome (mget (E6 RU (Ty.user (2:Nat))) a (Place.mk false p.1))&&Option.getD (mget (E6 RU (Ty.user (2:Nat))) a (Place.mk false p.1)) (0:Int)==reg;
 let e1_1:Bool:=decide (p.1<ks);
  ((0:Int)<=p.1/\(p.1<=ks\/p.1=(0:Int))/\∀ (s:Nat),List.Mem s (List.range (Int.toNat p.1))->aj2 a reg s=false)->
  (e1_1=true->
  (e0_1=true->(false,p.1,f)=g)/\
  (e0_1=false->
  ∃ (p':Int×Unit),
  reg=reg/\
  ks=ks/\
  IntKind.i64.wrap (p.1+(1:Int))=p'.1/\
  e=e/\
  b=b/\
  c=c/\
  d=d/\
  op=op/\
  ks=ks/\
  oc=oc/\
  sp=sp/\
  rd=rd/\
  a=a/\
  ce=ce/\
  cd=cd/\
  ou=ou/\
  false=false/\
  (0:Int)=(0:Int)/\
  ((0:Int)<=p'.1/\
  (p'.1<=ks\/p'.1=(0:Int))/\∀ (s:Nat),List.Mem s (List.range (Int.toNat p'.1))->aj2 a reg s=false)/\
  Int.toNat ks-Int.toNat p'.1<Int.toNat ks-Int.toNat p.1))/\
  (e1_1=false->(true,(-1:Int),f)=g)):=by kernel_rfl
theorem cg8 (k s c o n:Int) (t f:List Int) (b:List Ins) (g:Int) (a:List Ins) (d e:List Int) (sp:Spans) (rd:Reads) (h:Holds) (ce:List (Int×Int)) (op ks oc:Int) (cd:List RIns) (ou:List Place):vc (EV []) noL Go.Proofs.Tryd.f85 cPutA (k,s,c,o,n,t,f,b,g,a,d,e,sp,rd,h,ce,op,ks,oc,cd,ou,())=(
 let i:List RIns:=[RIns.mk k s c (Ins.mk o n t f b)];
  Small RU (Sigma.mk (Ty.slice (3:Nat) (Ty.int IntKind.i64)) t)->
  Small RU (Sigma.mk (Ty.slice (3:Nat) (Ty.int IntKind.i64)) f)->
  Small RU (Sigma.mk (Ty.slice (52:Nat) (Ty.user (0:Nat))) b)->
  Small RU (Sigma.mk (Ty.slice (52:Nat) (Ty.user (0:Nat))) a)->
  Small RU (Sigma.mk (Ty.slice (3:Nat) (Ty.int IntKind.i64)) d)->
  Small RU (Sigma.mk (Ty.slice (3:Nat) (Ty.int IntKind.i64)) e)->
  Small RU (Sigma.mk (Ty.slice (55:Nat) (Ty.user (1:Nat))) cd)->
  Small RU (Sigma.mk (Ty.slice (59:Nat) (Ty.user (2:Nat))) ou)->
  (List.length cd+List.length i)*(112:Nat)<=(140737488355328:Nat)/\
  (g,a,d,e,sp,rd,h,ce,op,ks,oc,cd++i,ou,())=(g,a,d,e,sp,rd,h,ce,op,ks,oc,cd++i,ou,())):=by kernel_rfl
theorem cg9 (reg fr g:Int) (a:List Ins) (d e:List Int) (sp:Spans) (rd:Reads) (h:Holds) (ce:List (Int×Int)) (op ks oc:Int) (cd:List RIns) (ou:List Place):vc (EV [(107,cBin)]) noL Go.Proofs.Tryd.f100 cNext (reg,fr,g,a,d,e,sp,rd,h,ce,op,ks,oc,cd,ou,())=(
 let b:Int:=(↑(List.length (List.takeWhile (λ(x:den RU.T i64)=>decide (x<fr)) (Option.getD (mget (λ(x y:Int)=>x==y) rd reg) []))):Int);
 let f:Int×List Ins×List Int×List Int×List (Int×Span)×List (Int×List Int)×List (Place×Int)×List (Int×Int)×Int×Int×Int×List RIns×List Place×Unit:=
  (g,a,d,e,sp,rd,h,ce,op,ks,oc,cd,ou,());
 let i:Int×Int×List Ins×List Int×List Int×List (Int×Span)×List (Int×List Int)×List (Place×Int)×List (Int×Int)×Int×Int×Int×List RIns×List Place×Unit:=
  (av9 rd (↑(List.length a):Int) reg fr,f);
 let c:List Int:=Option.getD (mget (λ(x y:Int)=>x==y) rd reg) [];
  Small RU (Sigma.mk (Ty.slice (52:Nat) (Ty.user (0:Nat))) a)->
  Small RU (Sigma.mk (Ty.slice (3:Nat) (Ty.int IntKind.i64)) d)->
  Small RU (Sigma.mk (Ty.slice (3:Nat) (Ty.int IntKind.i64)) e)->
  Small RU (Sigma.mk (Ty.slice (55:Nat) (Ty.user (1:Nat))) cd)->
  Small RU (Sigma.mk (Ty.slice (59:Nat) (Ty.user (2:Nat))) ou)->
  List.Pairwise (λ(j k:den RU.T i64)=>j<=k) c/\
  ((b==(↑(List.length c):Int))=true->((↑(List.length a):Int),f)=i)/\
  ((b==(↑(List.length c):Int))=false->((0:Int)<=b/\b<(↑(List.length c):Int))/\(List.getD c (Int.toNat b) (0:Int),f)=i)):=by kernel_rfl
theorem bM0 (a b c d e f:Int):vc (EV []) noL Go.Proofs.Tryd.f102 cBetter (a,b,c,d,e,f,())=((decide (c >f)||c==f&&decide (b >e),())=(as8 (Held.mk a b c) (Held.mk d e f),())):=by kernel_rfl
theorem ch0 (l:List Held):vc (EV [(102,cBetter)]) (cg5 l) Go.Proofs.Tryd.f101 cBest (l,())=(
 let c:Int:=(↑(List.length (List.drop (1:Nat) l)):Int);
 let d:Held:=List.getD l (0:Nat) (Held.mk (0:Int) (0:Int) (0:Int));
 let a:List Held:=List.drop (1:Nat) l;
 let b:Value:=Value.func (Fn.func (102:Nat)) #[] #[];
  Small RU (Sigma.mk (Ty.slice (131:Nat) (Ty.user (4:Nat))) l)->
  ((0:Int)<=(0:Int)/\(0:Int)<(↑(List.length l):Int))/\
  ((0:Int)<=(1:Int)/\(1:Int)<=(↑(List.length l):Int))/\
  (∃ (p:Int×Int×Int×Int×Unit),
  b=b/\
  l=l/\
  a=a/\
  c=c/\
  (0:Int)=p.1/\
  b=b/\
  (0:Int)=(0:Int)/\
  (0:Int)=(0:Int)/\
  (0:Int)=(0:Int)/\
  d.slot=p.2.1/\
  d.reg=p.2.2.1/\
  d.next=p.2.2.2.1/\
  (0:Int)<=p.1/\
  p.1<=(↑(List.length (List.tail l)):Int)/\
  Held.mk p.2.1 p.2.2.1 p.2.2.2.1=List.foldl O6 (List.headD l held0) (List.take (Int.toNat p.1) (List.tail l)))/\
  ∀ (p:Int×Int×Int×Int×Unit),
 let e0_1:Bool:=
  as8
  (Held.mk (List.getD a (Int.toNat p.1) (Held.mk (0:Int) (0:Int) (0:Int))).slot (List.getD a (Int.toNat p.1) (Held.mk (0:Int) (0:Int) (0:Int))).reg
  (List.getD a (Int.toNat p.1) (Held.mk (0:Int) (0:Int) (0:Int))).next)
  (Held.mk p.2.1 p.2.2.1 p.2.2.2.1);
 let d:Held:=List.getD a (Int.toNat p.1) (Held.mk (0:Int) (0:Int) (0:Int));
 let e2_1:Int:=p.1;
 let e3_1:Int:=p.2.2.2.1;
 let e:Int:=p.2.2.1;
 let f:Int:=p.2.1;
 let g:Bool:=decide (e2_1<c);
  (0:Int)<=e2_1/\e2_1<=(↑(List.length (List.tail l)):Int)/\Held.mk f e e3_1=List.foldl O6 (List.headD l held0) (List.take (Int.toNat e2_1) (List.tail l))->
  (g=true->
  ((0:Int)<=e2_1/\e2_1<c)/\
  ∃ (p':Int×Int×Int×Int×Unit),
  b=b/\
  (bif e0_1 then l else l)=l/\
  (bif e0_1 then a else a)=a/\
  (bif e0_1 then c else c)=c/\
  IntKind.i64.wrap ((bif e0_1 then e2_1 else e2_1)+(1:Int))=p'.1/\
  b=b/\
  (bif e0_1 then (0:Int) else (0:Int))=(0:Int)/\
  (bif e0_1 then (0:Int) else (0:Int))=(0:Int)/\
  (bif e0_1 then (0:Int) else (0:Int))=(0:Int)/\
  (bif e0_1 then d.slot else f)=p'.2.1/\
  (bif e0_1 then d.reg else e)=p'.2.2.1/\
  (bif e0_1 then d.next else e3_1)=p'.2.2.2.1/\
  ((0:Int)<=p'.1/\
  p'.1<=(↑(List.length (List.tail l)):Int)/\
  Held.mk p'.2.1 p'.2.2.1 p'.2.2.2.1=List.foldl O6 (List.headD l held0) (List.take (Int.toNat p'.1) (List.tail l)))/\
  List.length (List.tail l)-Int.toNat p'.1<List.length (List.tail l)-Int.toNat e2_1)/\
  (g=false->(f,e,e3_1,())=((M2 l).slot,(M2 l).reg,(M2 l).next,()))):=by kernel_rfl
theorem bl0:C5 prog RG 110 cIsNaN:=E1 B8 (λ_=>noL) (by kernel_rfl) (by kernel_rfl) (by kernel_rfl) λ(a,()) _=>(bW0 a).mpr (by rw [bne_self_eq_false])
theorem bc9:C5 prog RG 111 cIsNaN:=E1 B8 (λ_=>noL) (by kernel_rfl) (by kernel_rfl) (by kernel_rfl) λ(a,()) _=>(bL9 a).mpr (by rw [bne_self_eq_false])
theorem bz8:C5 prog RG 109 cLess:=E1 (A6 bc9 B8) (λ_=>noL) (by kernel_rfl) (by kernel_rfl) (by kernel_rfl) λ(a,b,()) _=>(cg6 a b).mpr (by dsimp only;rw [Bool.false_and,Bool.false_or])
theorem aU0 {l:List Int} {t:Int} {k:Nat} (b:k<=l.length) (h1:∀ x∈l.take k,x<t) (h2:∀ x∈l.drop k,t<=x):l.takeWhile (λx=>decide (x<t))=l.take k:=by
 induction l generalizing k with
 |nil=>simp
 |cons x r ih=>
  cases k with
  |zero=>have:=h2 x (by simp);rw [List.takeWhile_cons_of_neg (by simp;omega)];rfl
  |succ k=>have c:=h1 x (by simp);rw [List.takeWhile_cons_of_pos (by simpa using c),List.take_succ_cons,ih (by simpa using b) (λy a=>h1 y (by simp [a])) (λy a=>h2 y (by simpa using a))]
theorem bd0 {l:List Int} (h:l.Pairwise (·<=·)) {i j:Nat} (a:i<=j) (b:j<l.length):l.getD i 0<=l.getD j 0:=by
 rw [co8,co8,cn6 (by omega),cn6 b];rcases Nat.lt_or_eq_of_le a with h1|h1
 .exact List.pairwise_iff_getElem.1 h i j (by omega) b h1
 .subst h1;exact Int.le_refl _
theorem aU1 {l:List Int} {k:Nat} {x:Int} (h:x∈l.take k):∃ i,i<k/\i<l.length/\x=l.getD i 0:=by obtain ⟨i,a,rfl⟩:=List.mem_iff_getElem.1 h;rw [cq3] at a;exact ⟨i,by omega,by omega,by rw [List.getElem_take,co8,cn6 (by omega)];rfl⟩
theorem aU2 {l:List Int} {k:Nat} {x:Int} (h:x∈l.drop k):∃ i,k<=i/\i<l.length/\x=l.getD i 0:=by obtain ⟨i,a,rfl⟩:=List.mem_iff_getElem.1 h;rw [List.length_drop] at a;exact ⟨k+i,by omega,by omega,by rw [List.getElem_drop,co8,cn6 (by omega)];rfl⟩
theorem cl8 (l:List Int) (t:Int) (o:l.Pairwise (·<=·)):vc (EV [(109,cLess),(110,cIsNaN)]) (lBin l t) Go.Proofs.Tryd.f107 cBin (l,t,()):=by
 rw [cl7 l t];intro r p hs;have hl:l.length<=140737488355328:=hs.len;have e:p=2:=rfl;dsimp only [r];simp only [true_and,and_true,Bool.cond_self,e]
 clear_value p
 refine ⟨⟨(0,(l.length:Int),()),rfl,rfl,Int.le_refl _,by dsimp only;omega,Int.le_refl _,λx a=>?_,λx a=>?_⟩,?_⟩
 .change x∈l.take 0 at a;simp at a
 .dsimp only at a;change x∈l.drop (l.length:Int).toNat at a;simp at a
 rintro ⟨i,j,⟨⟩⟩ ⟨h0,h1,h2,h3,h4⟩;dsimp only at h0 h1 h2 h3 h4 |-;have h3:∀ x∈l.take i.toNat,x<t:=h3;have h4:∀ x∈l.drop j.toNat,t<=x:=h4;obtain ⟨i,rfl⟩:=co0 h0;obtain ⟨j,rfl⟩:=co0 (Int.le_trans h0 h1);simp only [cn8] at h3 h4 |-;refine ⟨λb=>?_,λf=>?_⟩
 .have b:(i:Int)<j:=co4 b;have hm:IntKind.i64.wrap (Int.fdiv (IntKind.u64.wrap (IntKind.i64.wrap ((i:Int)+j))) 2)=((i+j) / 2:Nat):=by
   rw [L5 (n:=(i:Int)+j) (by omega) (by omega)];have s:IntKind.u64.wrap ((i:Int)+j)=(i:Int)+j:=by simp only [IntKind.wrap,IntKind.bits,IntKind.signed,Bool.false_and,Bool.false_eq_true,if_false];omega
   rw [s,Int.fdiv_eq_ediv_of_nonneg _ (by omega),L5 (by omega) (by omega)];omega
  rw [hm];have c:i<=(i+j) / 2/\(i+j) / 2<j:=by omega
  generalize (i+j) / 2=m at c |-;simp only [cn8];refine ⟨by omega,⟨by omega,by omega⟩,?_⟩;cases d:decide (l.getD m 0<t) with
  |true=>have d:l.getD m 0<t:=co4 d;simp only [cond_true];refine ⟨((m+1:Nat),(j:Int),()),B4 (m:=l.length) (by omega) hl,rfl,⟨by omega,by dsimp only;omega,by dsimp only;omega,λx a=>?_,λx a=>h4 x a⟩,by dsimp only;omega⟩;have a:x∈l.take ((m+1:Nat):Int).toNat:=a;rw [cn8] at a;obtain ⟨q,g,h,rfl⟩:=aU1 a;have:=bd0 o (i:=q) (j:=m) (by omega) (by omega);omega
  |false=>have d:¬ l.getD m 0<t:=co3 d;simp only [cond_false];refine ⟨((i:Int),(m:Int),()),rfl,rfl,⟨by omega,by dsimp only;omega,by dsimp only;omega,λx a=>h3 x a,λx a=>?_⟩,by dsimp only;omega⟩;have a:x∈l.drop ((m:Nat):Int).toNat:=a;rw [cn8] at a;obtain ⟨q,g,h,rfl⟩:=aU2 a;have:=bd0 o (i:=m) (j:=q) (by omega) (by omega);omega
 .have k:i=j:=by have:¬ (i:Int)<j:=co3 f;omega
  subst k;refine ⟨λq=>⟨h0,co4 q⟩,λq _=>⟨h0,co4 q⟩,?_⟩;have:=aU0 (by omega) h3 h4;have u:(List.takeWhile (λ(x:den RU.T i64)=>decide (x<t)) l).length=i:=by show (List.takeWhile (λ(x:Int)=>decide (x<t)) l).length=i;rw [this,cq3];omega
  rw [u]
theorem bM1:C5 prog RG 107 cBin:=E1 (A6 bz8 (A6 bl0 B8)) (λp=>lBin p.1 p.2.1) (by kernel_rfl) (by kernel_rfl) (by kernel_rfl) λ(l,t,()) a=>cl8 l t a
theorem aN9 {m:Holds} {reg:Int} {s:Nat}:aj2 m reg s=true<->mget eqP m ⟨false,(s:Int)⟩=some reg:=by simp [aj2]
theorem bz9 {p:Nat->Bool} {n s:Nat} (h1:∀ x∈List.range s,p x=false) (hs:s<n) (h2:p s=true):(List.range n).find? p=some s:=by rw [List.find?_range_eq_some];exact ⟨h2,by simpa using hs,λj a=>by have:=h1 j (by simpa using a);simp [this]⟩
theorem aH5 {p:Nat->Bool} {n:Nat} (h1:∀ x∈List.range n,p x=false):(List.range n).find? p=none:=by rw [List.find?_eq_none];intro x a;rw [h1 x a];simp
theorem ch1 (reg e:Int) (f:List Ins) (g h:List Int) (sp:Spans) (rd:Reads) (a:Holds) (ce:List (Int×Int)) (op ks oc:Int) (cd:List RIns) (ou:List Place) (o:ks<=64):vc (EV []) (cg4 a ks reg) Go.Proofs.Tryd.f54 cSlot (reg,e,f,g,h,sp,rd,a,ce,op,ks,oc,cd,ou,()):=by
 rw [cg7 reg e f g h sp rd a ce op ks oc cd ou];intro j k _ _ _ _ _;have b:k=((D9 a ks reg).cell,(D9 a ks reg).n,j):=rfl
 clear_value k j
 simp only [true_and,and_true];refine ⟨⟨(0,()),rfl,Int.le_refl _,.inr rfl,λs hs=>?_⟩,?_⟩
 .change s∈List.range 0 at hs;simp at hs
 rintro ⟨i,⟨⟩⟩ ⟨h0,h1,h2⟩;dsimp only at h0 h1 h2 |-;have h2:∀ s∈List.range i.toNat,aj2 a reg s=false:=h2;obtain ⟨i,rfl⟩:=co0 h0;simp only [cn8] at h2 |-;have l:((mget (E6 RU (Ty.user 2)) a ⟨false,(i:Int)⟩).isSome&&(mget (E6 RU (Ty.user 2)) a ⟨false,(i:Int)⟩).getD 0==reg)=aj2 a reg i:=by
  show ((mget eqP a ⟨false,(i:Int)⟩).isSome&&(mget eqP a ⟨false,(i:Int)⟩).getD 0==reg)=decide (mget eqP a ⟨false,(i:Int)⟩=some reg);cases mget eqP a ⟨false,(i:Int)⟩ with
  |none=>rfl
  |some v=>rw [Bool.eq_iff_iff];simp
 rw [l];refine ⟨λc=>?_,λd=>?_⟩
 .have c:(i:Int)<ks:=co4 c;refine ⟨λq=>?_,λq=>?_⟩
  .rw [b,show D9 a ks reg=⟨false,(i:Int)⟩ by unfold D9;rw [bz9 h2 (by omega) q]]
  .refine ⟨((i+1:Nat),()),?_,⟨by omega,.inl (by dsimp only;omega),λs hs=>?_⟩,by dsimp only;omega⟩
   .rw [L5 (by omega) (by omega)];rfl
   .have hs:s∈List.range ((i+1:Nat):Int).toNat:=hs;rw [cn8,List.range_succ,cq1] at hs;rcases hs with hs|hs
    .exact h2 s hs
    .simp only [co5] at hs;rw [hs];exact q
 .have d:¬ (i:Int)<ks:=co3 d;have p:List.range ks.toNat=List.range (min i ks.toNat):=by congr 1;omega
  have m:(List.range ks.toNat).find? (aj2 a reg)=none:=aH5 (λx n=>h2 x (by simp at n |-;omega));rw [b,show D9 a ks reg=bL8 by unfold D9;rw [m]];rfl
theorem as9:C5 prog RG 54 cSlot:=E1 B8 (λp=>cg4 p.2.2.2.2.2.2.2.1 p.2.2.2.2.2.2.2.2.2.2.1 p.1) (by kernel_rfl) (by kernel_rfl) (by kernel_rfl) λ(reg,a,b,c,d,sp,rd,e,ce,op,ks,oc,cd,ou,()) f=>ch1 reg a b c d sp rd e ce op ks oc cd ou f
theorem aO0:C5 prog RG 85 cPutA:=E1 B8 (λ_=>noL) (by kernel_rfl) (by kernel_rfl) (by kernel_rfl) λ(k,s,c,o,n,t,f,b,d,e,g,h,sp,rd,i,ce,op,ks,oc,cd,ou,()) a=>(cg8 k s c o n t f b d e g h sp rd i ce op ks oc cd ou).mpr (by
 have a:cd.length<=1000000000:=a;intro j _ _ _ _ _ _ _ _;exact ⟨by show (cd.length+1)*112<=_;omega,rfl⟩)
theorem bd1 {t:Int}:∀ (l:List Int),l.find? (λx=>decide (t<=x))=l[(l.takeWhile (λx=>decide (x<t))).length]?
 |[]=>rfl
 |x::r=>by
  by_cases h:x<t
  .rw [List.find?_cons_of_neg (by simpa using h),List.takeWhile_cons_of_pos (by simpa using h)];simp only [cp0,List.getElem?_cons_succ];exact bd1 r
  .rw [List.find?_cons_of_pos (by simp;omega),List.takeWhile_cons_of_neg (by simpa using h)];rfl
theorem bA0:C5 prog RG 100 cNext:=E1 (A6 bM1 B8) (λ_=>noL) (by kernel_rfl) (by kernel_rfl) (by kernel_rfl) λ(reg,fr,h,d,i,j,sp,rd,k,ce,op,ks,oc,cd,ou,()) e=>(cg9 reg fr h d i j sp rd k ce op ks oc cd ou).mpr (by
 have e:ae7 rd:=e;intro l f g a _ _ _ _ _;have m:a=getL rd reg:=rfl;have c:l=((a.takeWhile (λx=>decide (x<fr))).length:Int):=rfl;have b:g=(av9 rd d.length reg fr,f):=rfl;have n:av9 rd d.length reg fr=(a[(a.takeWhile (λx=>decide (x<fr))).length]?).getD d.length:=by rw [<-bd1];rfl
 have o:(a.takeWhile (λx=>decide (x<fr))).length<=a.length:=(List.takeWhile_prefix _).length_le;rw [n] at b
 clear_value g f
 refine ⟨e reg,λq=>?_,λq=>?_⟩
 .rw [c] at q;have q:(a.takeWhile (λx=>decide (x<fr))).length=a.length:=by have:=eq_of_beq q;omega
  rw [b,List.getElem?_eq_none (by omega)];rfl
 .rw [c] at q |-;have q:¬ (a.takeWhile (λx=>decide (x<fr))).length=a.length:=by have:=beq_eq_false_iff_ne.1 q;omega
  refine ⟨by omega,?_⟩;rw [b,cn8,co8,cn6 (by omega)];rfl)
theorem bd2:C5 prog RG 102 cBetter:=E1 B8 (λ_=>noL) (by kernel_rfl) (by kernel_rfl) (by kernel_rfl) λ(a,b,c,d,e,f,()) _=>(bM0 a b c d e f).mpr rfl
theorem ch2 (l:List Held) (r:l≠[]):vc (EV [(102,cBetter)]) (cg5 l) Go.Proofs.Tryd.f101 cBest (l,()):=by
 rw [ch0 l];intro n o e s hs;have hl:l.length<=140737488355328:=hs.len;have p:0<l.length:=by cases l with|nil=>exact absurd rfl r|cons=>simp
 have f:e=l.tail:=List.drop_one;have t:l.tail.length=l.length-1:=by simp
 have g:o=l.headD held0:=by show l.getD 0 held0=_;cases l<;>rfl
 have h:n=(e.length:Int):=rfl
 clear_value n o e
 subst h g f;dsimp only [s];simp only [true_and,and_true,Bool.cond_self];have u:(⟨0,0,0⟩:Held)=held0:=rfl;rw [u];refine ⟨by omega,by omega,⟨(0,(l.headD held0).slot,(l.headD held0).reg,(l.headD held0).next,()),rfl,rfl,rfl,rfl,Int.le_refl _,by dsimp only;omega,rfl⟩,?_⟩;rintro ⟨i,a,b,c,⟨⟩⟩ ⟨h0,h1,h2⟩;dsimp only at h0 h1 h2 |-;obtain ⟨k,rfl⟩:=co0 h0;simp only [cn8] at h2 |-;refine ⟨λd=>?_,λj=>?_⟩
 .have d:(k:Int)<l.tail.length:=co4 d;have q:(l.tail.take (k+1)).foldl O6 (l.headD held0)=O6 ⟨a,b,c⟩ (l.tail.getD k held0):=by
   rw [A4 (by omega) held0,List.foldl_append,<-h2];rfl
  generalize l.tail.getD k held0=y at q |-;refine ⟨⟨h0,d⟩,((k+1:Nat),(O6 ⟨a,b,c⟩ y).slot,(O6 ⟨a,b,c⟩ y).reg,(O6 ⟨a,b,c⟩ y).next,()),B4 (m:=l.length) (by omega) hl,?_,?_,?_,⟨by omega,by dsimp only;omega,by dsimp only;rw [cn8,q]⟩,by dsimp only;omega⟩
  all_goals
   show (bif as8 ⟨y.slot,y.reg,y.next⟩ ⟨a,b,c⟩ then _ else _)=_;dsimp only [O6];rw [show (⟨y.slot,y.reg,y.next⟩:Held)=y from rfl];cases as8 y ⟨a,b,c⟩<;>rfl
 .have v:k=l.tail.length:=by have:¬ (k:Int)<l.tail.length:=co3 j;omega
  subst v;rw [cq2] at h2;rw [M2,<-h2]
theorem bA1:C5 prog RG 101 cBest:=E1 (A6 bd2 B8) (λp=>cg5 p.1) (by kernel_rfl) (by kernel_rfl) (by kernel_rfl) λ(l,()) a=>ch2 l a
def cRoom:Con RU:=⟨[one,one,one],i64::ints::tysA,[.ptr 0 0,.d 0,.d 1],objA 0 2,some λp=>match p with
  |(pl,st,a0,a1,a2,a3,sp,rd,ho,ce,op,ks,oc,cd,ou,())=>ae7 rd/\aw0 sp rd ks a1.length ho pl st/\ks<=64/\0<=oc/\oc<=1000000000/\cd.length<=1000000000,
 none,[one],i64::tysA,[.d 0],objA 0 1,λp=>match p with
  |(pl,st,a0,a1,a2,a3,sp,rd,ho,ce,op,ks,oc,cd,ou,())=>((G6 sp rd ks a1.length ⟨ho,ce,oc,cd⟩ pl st).1,a0,a1,a2,a3,sp,rd,(G6 sp rd ks a1.length ⟨ho,ce,oc,cd⟩ pl st).2.holds,(G6 sp rd ks a1.length ⟨ho,ce,oc,cd⟩ pl st).2.cells,op,ks,(G6 sp rd ks a1.length ⟨ho,ce,oc,cd⟩ pl st).2.ocells,(G6 sp rd ks a1.length ⟨ho,ce,oc,cd⟩ pl st).2.code,ou,()),[],[],[]⟩
def ch3 (sp:Spans) (rd:Reads) (ks N:Int) (ho:Holds) (pl:Int) (st:List Int):Nat->St RU->Ann RU:=λ_ _=>⟨[8],[.slot 22,.row 900001],[i64,ck1],λp=>0<=p.1/\(p.1<=ks\/p.1=0)/\C8 sp rd N ho pl st (List.range p.1.toNat) []=(none,p.2.1),λp=>ks.toNat-p.1.toNat,[(.slot 8,900001,131,.user 4)]⟩
def cGetA:Con RU:=⟨[one,one],i64::tysA,[.d 0,.ptr 0 0],.box 79 [.ptr 1 0]::objA 1 1,some λp=>p.2.2.2.2.2.2.2.2.2.2.1<=64,none,[one],i64::tysA,[.d 0],.box 79 [.ptr 1 0]::objA 1 1,λp=>((D9 p.2.2.2.2.2.2.2.1 p.2.2.2.2.2.2.2.2.2.2.1 p.1).n,p.2),[0],[],[]⟩
def cCalledA:Con RU:=⟨[(true,5),one,one],aF3++tysA++[mapI],[.d 0,.d 1,.d 2,.d 3,.d 4,.clo 86 [0],.clo 87 [8]],.box 79 [.ptr 1 0]::objA 1 5++[.box 84 [.map 9],.map 18],some λp=>match p with
  |(x1,x2,x3,x4,x5,a0,a1,a2,a3,sp,rd,ho,ce,op,ks,oc,cd,ou,sl,())=>ae6 x3 x4 x5=true/\ks<=64,none,
 [(true,5)],aF3++tysA++[mapI],[.d 0,.d 1,.d 2,.d 3,.d 4],.box 79 [.ptr 1 0]::objA 1 5++[.box 84 [.map 9],.map 18],
 λp=>match p with
  |(x1,x2,x3,x4,x5,a0,a1,a2,a3,sp,rd,ho,ce,op,ks,oc,cd,ou,sl,())=>(x1,x2,x3.map (λn=>(D9 ho ks n).n),x4.map (getI sl),x5,a0,a1,a2,a3,sp,rd,ho,ce,op,ks,oc,cd,ou,sl,()),[0,8],[],[]⟩
def aU3 (x1 x2:Int) (x3 x4:List Int) (x5:List Ins) (ho:Holds) (ks:Int) (sl:List (Int×Int)):Nat->St RU->Ann RU:=λk s=>match k with
 |0=>⟨[],[.slot 20,.row 896],[i64,inss],λp=>0<=p.1/\p.1<=x4.length/\p.2.1=[⟨x1,x2,x3,(x4.take p.1.toNat).map (getI sl)++x4.drop p.1.toNat,x5⟩],λp=>x4.length-p.1.toNat,[]⟩
 |_=>⟨[],[.slot 36,.row 896],[i64,inss],λp=>0<=p.1/\p.1<=x3.length/\p.2.1=[⟨x1,x2,(x3.take p.1.toNat).map (λn=>(D9 ho ks n).n)++x3.drop p.1.toNat,x4.map (getI sl),x5⟩],λp=>x3.length-p.1.toNat,[]⟩
def cReads:Con RU:=⟨[(true,5)],aF3,[.d 0,.d 1,.d 2,.d 3,.d 4],[],none,none,[one],aF3,[.clo 83 [0]],[.box 52 [.d 0,.d 1,.d 2,.d 3,.d 4]],λp=>p,[],[],[]⟩
def ap7:Con RU:=⟨[one,one],[i64,i64,ints],[.d 0,.yld 0],[.loop 1,.box 23 [.row 2],.row 2],some λp=>p.2.1=0/\p.2.2.1.length<=17592186044400,none,[one],[.bool,i64,ints],[.d 0],[.loop 1,.box 23 [.row 2],.row 2],λp=>(true,0,p.2.2.1++[p.1],()),[],[(0,0),(1,1)],[(1,1000001)]⟩
def aU4:Con RU:=⟨[one,one],[i64,ints,i64,i64,ints,ints,inss],[.yld 0,.ptr 3 0],[.loop 0,.box 23 [.row 2],.row 1,.box 52 [.d 2,.d 3,.d 4,.d 5,.d 6]],some λp=>p.1=0/\p.2.1.length+p.2.2.2.2.2.1.length<=17592186044400,none,[],[i64,ints],[],[.loop 0,.box 23 [.row 2],.row 1,.box 52 [.un,.un,.un,.un,.un]],
 λp=>(0,p.2.1++B5 p.2.2.2.2.2.1,()),[],[(0,0),(1,1)],[(1,384)]⟩
def itDo:FuncId->List (Con RU×Con RU×List (Nat×Nat)):=λf=>bif Nat.beq f 83 then [(aU4,ap7,[(0,0),(1,1),(2,2)])] else []
def bl1 (fr:List Int) (r0:List Int):Nat->St RU->Ann RU:=λ_ _=>⟨[],[.slot 8,.row 1000000,.row 1000002],[i64,i64,ints],λp=>0<=p.1/\p.1<=fr.length/\p.2.1=0/\p.2.2.1=r0++B5 (fr.take p.1.toNat),λp=>fr.length-p.1.toNat,[]⟩
def cDo:Con RU:=⟨[one,one,(true,5)],i64::aF3++tysA,[.ptr 0 0,.d 0,.d 1,.d 2,.d 3,.d 4,.d 5],objA 0 6,some λp=>match p with
  |(i,x1,x2,x3,x4,x5,a0,a1,a2,a3,sp,rd,ho,ce,op,ks,oc,cd,ou,())=>ae6 x3 x4 x5=true/\x4.length<=17592186044400/\(B5 x4).length<=64/\x3.length<=64/\ae7 rd/\doOk sp rd ks a1.length i ⟨x1,x2,x3,x4,x5⟩ ⟨ho,ce,oc,cd⟩/\ks<=64/\0<=i/\i<=1000000/\0<=oc/\oc<=100000000/\cd.length<=100000000,
 none,[],tysA,[],objA 0 0,λp=>match p with
  |(i,x1,x2,x3,x4,x5,a0,a1,a2,a3,sp,rd,ho,ce,op,ks,oc,cd,ou,())=>(a0,a1,a2,a3,sp,rd,(doOf sp rd ks a1.length i ⟨x1,x2,x3,x4,x5⟩ ⟨ho,ce,oc,cd⟩).holds,(doOf sp rd ks a1.length i ⟨x1,x2,x3,x4,x5⟩ ⟨ho,ce,oc,cd⟩).cells,op,ks,(doOf sp rd ks a1.length i ⟨x1,x2,x3,x4,x5⟩ ⟨ho,ce,oc,cd⟩).ocells,(doOf sp rd ks a1.length i ⟨x1,x2,x3,x4,x5⟩ ⟨ho,ce,oc,cd⟩).code,ou,()),[],[],[]⟩
def lDo (sp:Spans) (rd:Reads) (ks N i:Int) (x3 x4:List Int) (s0:AS):Nat->St RU->Ann RU:=λk s=>match k with
 |0=>⟨[],[],[],λ_=>False,λ_=>0,[(.box 384 0,900001,3,i64)]⟩
 |1=>⟨[],[.slot 27,.row 1000003,.row 1000004,.box 1000000 10,.row 1000005],[i64,mapP,mapI,i64,ak9],λp=>0<=p.1/\p.1<=(B5 x4).length/\F4 sp rd ks N i (B5 x4) s0 ((B5 x4).take p.1.toNat)=⟨p.2.1,p.2.2.1,p.2.2.2.1,p.2.2.2.2.1⟩,λp=>(B5 x4).length-p.1.toNat,[(.cell 384 0,0,3,i64),(.row 25,0,3,i64)]⟩
 |2=>⟨[],[.slot 61,.row 3712],[i64,mapI],λp=>0<=p.1/\p.1<=(B5 x4).length/\p.2.1=ab4 (F4 sp rd ks N i (B5 x4) s0 (B5 x4)).holds ks ((B5 x4).take p.1.toNat),λp=>(B5 x4).length-p.1.toNat,[]⟩
 |_=>⟨[],[.slot 75,.row 1000003,.row 1000004,.box 1000000 10,.row 1000005],[i64,mapP,mapI,i64,ak9],λp=>0<=p.1/\p.1<=x3.length/\P8 sp rd ks N i x3 (F4 sp rd ks N i (B5 x4) s0 (B5 x4)) (x3.take p.1.toNat)=⟨p.2.1,p.2.2.1,p.2.2.2.1,p.2.2.2.2.1⟩,λp=>x3.length-p.1.toNat,[]⟩
theorem ch4 (pl:Int) (st:List Int) (f:Int) (b:List Ins) (d e:List Int) (sp:Spans) (rd:Reads) (a:Holds) (ce:List (Int×Int)) (op ks oc:Int) (cd:List RIns) (ou:List Place):vc (EV [(100,cNext),(61,cContains),(69,cAt),(101,cBest),(85,cPutA)]) (ch3 sp rd ks b.length a pl st) Go.Proofs.Tryd.f84 cRoom (pl,st,f,b,d,e,sp,rd,a,ce,op,ks,oc,cd,ou,())=(
 let h:Int×Int×List Ins×List Int×List Int×List (Int×Span)×List (Int×List Int)×List (Place×Int)×List (Int×Int)×Int×Int×Int×List RIns×List Place×Unit:=
  ((G6 sp rd ks (↑(List.length b):Int) (AS.mk a ce oc cd) pl st).1,f,b,d,e,sp,rd,(G6 sp rd ks (↑(List.length b):Int) (AS.mk a ce oc cd) pl st).2.holds,
  (G6 sp rd ks (↑(List.length b):Int) (AS.mk a ce oc cd) pl st).2.cells,op,ks,(G6 sp rd ks (↑(List.length b):Int) (AS.mk a ce oc cd) pl st).2.ocells,
  (G6 sp rd ks (↑(List.length b):Int) (AS.mk a ce oc cd) pl st).2.code,ou,());
 let i:Int×List Ins×List Int×List Int×List (Int×Span)×List (Int×List Int)×List (Place×Int)×List (Int×Int)×Int×Int×Int×List RIns×List Place×Unit:=
  (f,b,d,e,sp,rd,a,ce,op,ks,oc,cd,ou,());
  Small RU (Sigma.mk (Ty.slice (3:Nat) (Ty.int IntKind.i64)) st)->
  Small RU (Sigma.mk (Ty.slice (52:Nat) (Ty.user (0:Nat))) b)->
  Small RU (Sigma.mk (Ty.slice (3:Nat) (Ty.int IntKind.i64)) d)->
  Small RU (Sigma.mk (Ty.slice (3:Nat) (Ty.int IntKind.i64)) e)->
  Small RU (Sigma.mk (Ty.slice (55:Nat) (Ty.user (1:Nat))) cd)->
  Small RU (Sigma.mk (Ty.slice (59:Nat) (Ty.user (2:Nat))) ou)->
  (∃ (p:Int×List Held×Unit),
  pl=pl/\
  st=st/\
  ks=ks/\
  (0:Int)=p.1/\
  f=f/\
  b=b/\
  d=d/\
  e=e/\
  op=op/\
  ks=ks/\
  oc=oc/\
  sp=sp/\
  rd=rd/\
  a=a/\
  ce=ce/\
  cd=cd/\
  ou=ou/\
  []=p.2.1/\
  (0:Int)<=p.1/\
  (p.1<=ks\/p.1=(0:Int))/\C8 sp rd (↑(List.length b):Int) a pl st (List.range (Int.toNat p.1)) []=(none,p.2.1))/\
  ∀ (p:Int×List Held×Unit),
 let e0_1:Bool:=!Option.isSome (mget (λ(x y:Int)=>x==y) ce (M2 p.2.1).reg);
 let e1_1:Bool:=
  !O4
  (Option.getD (mget (λ(x y:Int)=>x==y) sp (Option.getD (mget (E6 RU (Ty.user (2:Nat))) a (Place.mk false p.1)) (0:Int))) (Span.mk (0:Int) (0:Int))).first
  (Option.getD (mget (λ(x y:Int)=>x==y) sp (Option.getD (mget (E6 RU (Ty.user (2:Nat))) a (Place.mk false p.1)) (0:Int))) (Span.mk (0:Int) (0:Int))).last pl;
 let g:List Held:=p.2.1;
 let j:List Held:=
  [Held.mk p.1 (Option.getD (mget (E6 RU (Ty.user (2:Nat))) a (Place.mk false p.1)) (0:Int))
  (av9 rd (↑(List.length b):Int) (Option.getD (mget (E6 RU (Ty.user (2:Nat))) a (Place.mk false p.1)) (0:Int)) pl)];
 let c:Int:=p.1;
 let k:Bool:=List.contains st (Option.getD (mget (E6 RU (Ty.user (2:Nat))) a (Place.mk false c)) (0:Int));
 let l:Bool:=decide (c<ks);
 let m:Bool:=!Option.isSome (mget (E6 RU (Ty.user (2:Nat))) a (Place.mk false c));
  (0:Int)<=c/\(c<=ks\/c=(0:Int))/\C8 sp rd (↑(List.length b):Int) a pl st (List.range (Int.toNat c)) []=(none,g)->
  (l=true->
  (m=true->(c,i)=h)/\
  (m=false->
  (k=true->
  ∃ (p':Int×List Held×Unit),
  pl=pl/\
  st=st/\
  ks=ks/\
  IntKind.i64.wrap (c+(1:Int))=p'.1/\
  f=f/\
  b=b/\
  d=d/\
  e=e/\
  op=op/\
  ks=ks/\
  oc=oc/\
  sp=sp/\
  rd=rd/\
  a=a/\
  ce=ce/\
  cd=cd/\
  ou=ou/\
  g=p'.2.1/\
  ((0:Int)<=p'.1/\
  (p'.1<=ks\/p'.1=(0:Int))/\
  C8 sp rd (↑(List.length b):Int) a pl st (List.range (Int.toNat p'.1)) []=(none,p'.2.1))/\
  Int.toNat ks-Int.toNat p'.1<Int.toNat ks-Int.toNat c)/\
  (k=false->
  (e1_1=true->(c,i)=h)/\
  (e1_1=false->
  (∀ (n:Int),List.Pairwise (λ(o q:Int)=>o<=q) (getL rd n))/\
  (List.length g+List.length j)*(24:Nat)<=(140737488355328:Nat)/\
  ∃ (p':Int×List Held×Unit),
  pl=pl/\
  st=st/\
  ks=ks/\
  IntKind.i64.wrap (c+(1:Int))=p'.1/\
  f=f/\
  b=b/\
  d=d/\
  e=e/\
  op=op/\
  ks=ks/\
  oc=oc/\
  sp=sp/\
  rd=rd/\
  a=a/\
  ce=ce/\
  cd=cd/\
  ou=ou/\
  g++j=p'.2.1/\
  ((0:Int)<=p'.1/\
  (p'.1<=ks\/p'.1=(0:Int))/\
  C8 sp rd (↑(List.length b):Int) a pl st (List.range (Int.toNat p'.1)) []=(none,p'.2.1))/\
  Int.toNat ks-Int.toNat p'.1<Int.toNat ks-Int.toNat c))))/\
  (l=false->
  g≠[]/\
  (e0_1=true->List.length cd<=(1000000000:Nat))/\
  (bif e0_1 then (M2 g).slot else (M2 g).slot,bif e0_1 then f else f,bif e0_1 then b else b,bif e0_1 then d else d,bif e0_1 then e else e,
  bif e0_1 then sp else sp,bif e0_1 then rd else rd,bif e0_1 then a else a,bif e0_1 then mput (λ(x y:Int)=>x==y) ce (M2 g).reg oc else ce,
  bif e0_1 then op else op,bif e0_1 then ks else ks,bif e0_1 then IntKind.i64.wrap (oc+(1:Int)) else oc,
  bif e0_1 then cd++[RIns.mk (2:Int) (M2 g).slot oc (Ins.mk (0:Int) (0:Int) [] [] [])] else cd,bif e0_1 then ou else ou,())=
  h)):=by kernel_rfl
theorem ch5 (n e:Int) (a:List Ins) (b c:List Int) (sp:Spans) (rd:Reads) (d:Holds) (ce:List (Int×Int)) (op ks oc:Int) (cd:List RIns) (ou:List Place):vc (EV [(54,cSlot)]) noL Go.Proofs.Tryd.f86 cGetA (n,e,a,b,c,sp,rd,d,ce,op,ks,oc,cd,ou,())=(
 let f:Int×Int×List Ins×List Int×List Int×List (Int×Span)×List (Int×List Int)×List (Place×Int)×List (Int×Int)×Int×Int×Int×List RIns×List Place×Unit:=
  ((D9 d ks n).n,e,a,b,c,sp,rd,d,ce,op,ks,oc,cd,ou,());
  Small RU (Sigma.mk (Ty.slice (52:Nat) (Ty.user (0:Nat))) a)->
  Small RU (Sigma.mk (Ty.slice (3:Nat) (Ty.int IntKind.i64)) b)->
  Small RU (Sigma.mk (Ty.slice (3:Nat) (Ty.int IntKind.i64)) c)->
  Small RU (Sigma.mk (Ty.slice (55:Nat) (Ty.user (1:Nat))) cd)->Small RU (Sigma.mk (Ty.slice (59:Nat) (Ty.user (2:Nat))) ou)->ks<=(64:Int)/\f=f):=by kernel_rfl
theorem ch6 (n:Int) (m:List (Int×Int)):vc (EV []) noL Go.Proofs.Tryd.f87 cOld (n,m,())=((Option.getD (mget (λ(x y:Int)=>x==y) m n) (0:Int),m,())=(getI m n,m,())):=by kernel_rfl
theorem bA2 (a b:Int) (c e:List Int) (d:List Ins) (m:Int) (j:List Ins) (k l:List Int) (sp:Spans) (rd:Reads) (f:Holds) (ce:List (Int×Int)) (op ks oc:Int) (cd:List RIns) (ou:List Place) (sl:List (Int×Int)):vc (EV [(96,cBody),(86,cGetA),(87,cOld)]) (aU3 a b c e d f ks sl) Go.Proofs.Tryd.f73 cCalledA (a,b,c,e,d,m,j,k,l,sp,rd,f,ce,op,ks,oc,cd,ou,sl,())=(
 let q:
  List Ins×
  Int×List Ins×List Int×List Int×List (Int×Span)×List (Int×List Int)×List (Place×Int)×List (Int×Int)×Int×Int×Int×List RIns×List Place×List (Int×Int)×Unit:=
  (d,m,j,k,l,sp,rd,f,ce,op,ks,oc,cd,ou,sl,());
 let g:Ins:=Ins.mk (0:Int) (0:Int) [] [] [];
 let h:List Ins:=[Ins.mk a b c e d];
 let i:Int:=(↑(List.length e):Int);
  Small RU (Sigma.mk (Ty.slice (3:Nat) (Ty.int IntKind.i64)) c)->
  Small RU (Sigma.mk (Ty.slice (3:Nat) (Ty.int IntKind.i64)) e)->
  Small RU (Sigma.mk (Ty.slice (52:Nat) (Ty.user (0:Nat))) d)->
  Small RU (Sigma.mk (Ty.slice (52:Nat) (Ty.user (0:Nat))) j)->
  Small RU (Sigma.mk (Ty.slice (3:Nat) (Ty.int IntKind.i64)) k)->
  Small RU (Sigma.mk (Ty.slice (3:Nat) (Ty.int IntKind.i64)) l)->
  Small RU (Sigma.mk (Ty.slice (55:Nat) (Ty.user (1:Nat))) cd)->
  Small RU (Sigma.mk (Ty.slice (59:Nat) (Ty.user (2:Nat))) ou)->
  (List.length h<=(1599289640354:Nat)/\K4 h=true)/\
  ((0:Int)<=(0:Int)/\(0:Int)<(↑(List.length h):Int))/\
  (∃ (p:Int×List Ins×Unit),
  a=a/\
  b=b/\
  c=c/\
  e=e/\
  d=d/\
  (0:Int)=(0:Int)/\
  i=i/\
  (0:Int)=p.1/\
  m=m/\
  j=j/\
  k=k/\
  l=l/\
  op=op/\
  ks=ks/\
  oc=oc/\
  sp=sp/\
  rd=rd/\
  f=f/\
  ce=ce/\
  cd=cd/\
  ou=ou/\
  sl=sl/\
  a=a/\
  b=b/\
  c=c/\
  e=e/\
  d=d/\
  (0:Int)=(0:Int)/\
  (0:Int)=(0:Int)/\
  h=h/\
  h=p.2.1/\
  a=a/\
  b=b/\
  (0:Int)=(0:Int)/\
  (0:Int)=(0:Int)/\
  d=d/\
  (0:Int)<=p.1/\
  p.1<=i/\
  p.2.1=
  [Ins.mk a b c
  (List.map (getI sl) (List.take (Int.toNat p.1) e)++List.drop (Int.toNat p.1) e) d])/\
  ∀ (p:Int×List Ins×Unit),
 let e0_1:Ins:=List.getD p.2.1 (0:Nat) g;
 let e1_1:Bool:=decide (p.1<i);
 let e2_1:Int:=p.1;
 let e3_1:List Ins:=p.2.1;
 let o:Int:=(↑(List.length e0_1.to):Int);
  (0:Int)<=e2_1/\e2_1<=i/\e3_1=[Ins.mk a b c (List.map (getI sl) (List.take (Int.toNat e2_1) e)++List.drop (Int.toNat e2_1) e) d]->
  (e1_1=true->
  ((0:Int)<=e2_1/\e2_1<(↑(List.length e0_1.from_):Int))/\
  (True/\sl=sl/\True)/\
  ((0:Int)<=e2_1/\e2_1<(↑(List.length e0_1.from_):Int))/\
  ∃ (p':Int×List Ins×Unit),
  a=a/\
  b=b/\
  c=c/\
  e=e/\
  d=d/\
  (0:Int)=(0:Int)/\
  i=i/\
  IntKind.i64.wrap (e2_1+(1:Int))=p'.1/\
  m=m/\
  j=j/\
  k=k/\
  l=l/\
  op=op/\
  ks=ks/\
  oc=oc/\
  sp=sp/\
  rd=rd/\
  f=f/\
  ce=ce/\
  cd=cd/\
  ou=ou/\
  sl=sl/\
  a=a/\
  b=b/\
  c=c/\
  e=e/\
  d=d/\
  (0:Int)=(0:Int)/\
  (0:Int)=(0:Int)/\
  h=h/\
  List.set e3_1 (0:Nat)
  (Ins.mk e0_1.op e0_1.n e0_1.to
  (List.set e0_1.from_ (Int.toNat e2_1)
  (getI sl (List.getD e0_1.from_ (Int.toNat e2_1) (0:Int))))
  e0_1.body)=
  p'.2.1/\
  a=a/\
  b=b/\
  (0:Int)=(0:Int)/\
  (0:Int)=(0:Int)/\
  d=d/\
  ((0:Int)<=p'.1/\
  p'.1<=i/\
  p'.2.1=
  [Ins.mk a b c
  (List.map (getI sl) (List.take (Int.toNat p'.1) e)++
  List.drop (Int.toNat p'.1) e)
  d])/\
  List.length e-Int.toNat p'.1<List.length e-Int.toNat e2_1)/\
  (e1_1=false->
  (∃ (p:Int×List Ins×Unit),
  a=a/\
  b=b/\
  c=c/\
  e=e/\
  d=d/\
  (0:Int)=(0:Int)/\
  i=i/\
  e2_1=e2_1/\
  e1_1=e1_1/\
  (0:Int)=(0:Int)/\
  o=o/\
  (0:Int)=p.1/\
  m=m/\
  j=j/\
  k=k/\
  l=l/\
  op=op/\
  ks=ks/\
  oc=oc/\
  sp=sp/\
  rd=rd/\
  f=f/\
  ce=ce/\
  cd=cd/\
  ou=ou/\
  sl=sl/\
  a=a/\
  b=b/\
  c=c/\
  e=e/\
  d=d/\
  (0:Int)=(0:Int)/\
  (0:Int)=(0:Int)/\
  h=h/\
  e3_1=p.2.1/\
  a=a/\
  b=b/\
  (0:Int)=(0:Int)/\
  (0:Int)=(0:Int)/\
  d=d/\
  (0:Int)<=p.1/\
  p.1<=(↑(List.length c):Int)/\
  p.2.1=
  [Ins.mk a b
  (List.map (λ(n:Int)=>(D9 f ks n).n)
  (List.take (Int.toNat p.1) c)++
  List.drop (Int.toNat p.1) c)
  (List.map (getI sl) e) d])/\
  ∀ (p:Int×List Ins×Unit),
 let e0_2:Ins:=List.getD p.2.1 (0:Nat) g;
 let g:Int:=p.1;
 let e2_2:Bool:=decide (g<o);
 let e3_2:List Ins:=p.2.1;
  (0:Int)<=g/\
  g<=(↑(List.length c):Int)/\
  e3_2=[Ins.mk a b (List.map (λ(n:Int)=>(D9 f ks n).n) (List.take (Int.toNat g) c)++List.drop (Int.toNat g) c) (List.map (getI sl) e) d]->
  (e2_2=true->
  ((0:Int)<=g/\g<(↑(List.length e0_2.to):Int))/\
  (ks<=(64:Int)/\True)/\
  ((0:Int)<=g/\g<(↑(List.length e0_2.to):Int))/\
  ∃ (p':Int×List Ins×Unit),
  a=a/\
  b=b/\
  c=c/\
  e=e/\
  d=d/\
  (0:Int)=(0:Int)/\
  i=i/\
  e2_1=e2_1/\
  e1_1=e1_1/\
  (0:Int)=(0:Int)/\
  o=o/\
  IntKind.i64.wrap (g+(1:Int))=p'.1/\
  m=m/\
  j=j/\
  k=k/\
  l=l/\
  op=op/\
  ks=ks/\
  oc=oc/\
  sp=sp/\
  rd=rd/\
  f=f/\
  ce=ce/\
  cd=cd/\
  ou=ou/\
  sl=sl/\
  a=a/\
  b=b/\
  c=c/\
  e=e/\
  d=d/\
  (0:Int)=(0:Int)/\
  (0:Int)=(0:Int)/\
  h=h/\
  List.set e3_2 (0:Nat)
  (Ins.mk e0_2.op e0_2.n
  (List.set e0_2.to (Int.toNat g)
  (D9 f ks (List.getD e0_2.to (Int.toNat g) (0:Int))).n)
  e0_2.from_ e0_2.body)=
  p'.2.1/\
  a=a/\
  b=b/\
  (0:Int)=(0:Int)/\
  (0:Int)=(0:Int)/\
  d=d/\
  ((0:Int)<=p'.1/\
  p'.1<=(↑(List.length c):Int)/\
  p'.2.1=
  [Ins.mk a b
  (List.map (λ(n:Int)=>(D9 f ks n).n)
  (List.take (Int.toNat p'.1) c)++
  List.drop (Int.toNat p'.1) c)
  (List.map (getI sl) e) d])/\
  List.length c-Int.toNat p'.1<List.length c-Int.toNat g)/\
  (e2_2=false->(a,b,e0_2.to,e0_2.from_,q)=(a,b,List.map (λ(n:Int)=>(D9 f ks n).n) c,List.map (getI sl) e,q)))):=by kernel_rfl
theorem bW1 (d e:Int) (a b:List Int) (c:List Ins):vc (EV []) noL Go.Proofs.Tryd.f52 cReads (d,e,a,b,c,())=(
 let f:Int×Int×List Int×List Int×List Ins×Unit:=(d,e,a,b,c,());
  Small RU (Sigma.mk (Ty.slice (3:Nat) (Ty.int IntKind.i64)) a)->
  Small RU (Sigma.mk (Ty.slice (3:Nat) (Ty.int IntKind.i64)) b)->Small RU (Sigma.mk (Ty.slice (52:Nat) (Ty.user (0:Nat))) c)->f=f):=by kernel_rfl
theorem bM2 (st:Int) (d:List Int) (g h:Int) (e a:List Int) (f:List Ins):vc (EVy [(0,0),(1,1)] (some ap7) [(61,cContains)]) (bl1 a d) Go.Proofs.Tryd.f83 aU4 (st,d,g,h,e,a,f,())=(
 let j:Int×List Int×Unit:=((0:Int),d++B5 a,());
 let b:Int:=(↑(List.length a):Int);
  Small RU (Sigma.mk (Ty.slice (3:Nat) (Ty.int IntKind.i64)) d)->
  Small RU (Sigma.mk (Ty.slice (3:Nat) (Ty.int IntKind.i64)) e)->
  Small RU (Sigma.mk (Ty.slice (3:Nat) (Ty.int IntKind.i64)) a)->
  Small RU (Sigma.mk (Ty.slice (52:Nat) (Ty.user (0:Nat))) f)->
  (∃ (p:Int×Int×List Int×Unit),
  a=a/\
  b=b/\
  (0:Int)=p.1/\
  st=p.2.1/\
  d=p.2.2.1/\
  g=g/\h=h/\e=e/\a=a/\f=f/\(0:Int)<=p.1/\p.1<=b/\p.2.1=(0:Int)/\p.2.2.1=d++B5 (List.take (Int.toNat p.1) a))/\
  ∀ (p:Int×Int×List Int×Unit),
 let e0_1:List Int:=p.2.2.1;
 let e1_1:List Int:=e0_1++[List.getD a (Int.toNat p.1) (0:Int)];
 let k:Bool:=List.contains (List.take (Int.toNat p.1) a) (List.getD a (Int.toNat p.1) (0:Int));
 let c:Int:=p.1;
 let i:Int:=p.2.1;
 let l:Bool:=decide (c<b);
  (0:Int)<=c/\c<=b/\i=(0:Int)/\e0_1=d++B5 (List.take (Int.toNat c) a)->
  (l=true->
  ((0:Int)<=c/\c<b)/\
  ((0:Int)<=c/\c<=b)/\
  (k=true->
  ∃ (p':Int×Int×List Int×Unit),
  a=a/\
  b=b/\
  IntKind.i64.wrap (c+(1:Int))=p'.1/\
  i=p'.2.1/\
  e0_1=p'.2.2.1/\
  g=g/\
  h=h/\
  e=e/\
  a=a/\
  f=f/\
  ((0:Int)<=p'.1/\p'.1<=b/\p'.2.1=(0:Int)/\p'.2.2.1=d++B5 (List.take (Int.toNat p'.1) a))/\
  List.length a-Int.toNat p'.1<List.length a-Int.toNat c)/\
  (k=false->
  (i=(0:Int)/\List.length e0_1<=(17592186044400:Nat))/\
  ((!true)=true->((0:Int),e1_1,())=j)/\
  ((!true)=false->
  ∃ (p':Int×Int×List Int×Unit),
  a=a/\
  b=b/\
  IntKind.i64.wrap (c+(1:Int))=p'.1/\
  (0:Int)=p'.2.1/\
  e1_1=p'.2.2.1/\
  g=g/\
  h=h/\
  e=e/\
  a=a/\
  f=f/\
  ((0:Int)<=p'.1/\p'.1<=b/\p'.2.1=(0:Int)/\p'.2.2.1=d++B5 (List.take (Int.toNat p'.1) a))/\
  List.length a-Int.toNat p'.1<List.length a-Int.toNat c)))/\
  (l=false->(i,e0_1,())=j)):=by kernel_rfl
theorem cn2 (i d e:Int) (c b:List Int) (f:List Ins) (l:Int) (h:List Ins) (j k:List Int) (sp:Spans) (rd:Reads) (o:Holds) (ce:List (Int×Int)) (op ks oc:Int) (cd:List RIns) (ou:List Place):vc (EVd [] itDo [(52,cReads),(54,cSlot),(84,cRoom),(85,cPutA),(73,cCalledA)]) (lDo sp rd ks h.length i c b ⟨o,ce,oc,cd⟩) Go.Proofs.Tryd.f53 cDo (i,d,e,c,b,f,l,h,j,k,sp,rd,o,ce,op,ks,oc,cd,ou,())=(
 let g:Int:=(↑(List.length ([]++B5 b)):Int);
 let a:List Int:=[]++B5 b;
 let t:AS:=doOf sp rd ks (↑(List.length h):Int) i (Ins.mk d e c b f) (AS.mk o ce oc cd);
 let m:Int:=(↑(List.length h):Int);
 let u:Int:=IntKind.i64.wrap (i+(1:Int));
 let q:Int:=(↑(List.length c):Int);
 let r:AS:=F4 sp rd ks m i (B5 b) (AS.mk o ce oc cd) (B5 b);
  Small RU (Sigma.mk (Ty.slice (3:Nat) (Ty.int IntKind.i64)) c)->
  Small RU (Sigma.mk (Ty.slice (3:Nat) (Ty.int IntKind.i64)) b)->
  Small RU (Sigma.mk (Ty.slice (52:Nat) (Ty.user (0:Nat))) f)->
  Small RU (Sigma.mk (Ty.slice (52:Nat) (Ty.user (0:Nat))) h)->
  Small RU (Sigma.mk (Ty.slice (3:Nat) (Ty.int IntKind.i64)) j)->
  Small RU (Sigma.mk (Ty.slice (3:Nat) (Ty.int IntKind.i64)) k)->
  Small RU (Sigma.mk (Ty.slice (55:Nat) (Ty.user (1:Nat))) cd)->
  Small RU (Sigma.mk (Ty.slice (59:Nat) (Ty.user (2:Nat))) ou)->
  (∀ (xs:Int×Int×List Int×Unit),
 let g:List Int:=xs.2.2.1;
  xs.2.1=(0:Int)/\List.length g<=(17592186044400:Nat)->
  Small RU (Sigma.mk (Ty.slice (3:Nat) (Ty.int IntKind.i64)) g)->
  xs.2.1=(0:Int)/\(List.length g+List.length [xs.1])*(8:Nat)<=(140737488355328:Nat)/\(true,(0:Int),g++[xs.1],())=ap7.fn xs)/\
  ((0:Int)=(0:Int)/\List.length ([]:List Int)+List.length b<=(17592186044400:Nat))/\
  (0:Int)=(0:Int)/\
  (∃ (p:Int×List (Place×Int)×List (Int×Int)×Int×List RIns×Unit),
  i=i/\
  d=d/\
  e=e/\
  c=c/\
  b=b/\
  f=f/\
  a=a/\
  g=g/\
  (0:Int)=p.1/\
  l=l/\
  h=h/\
  j=j/\
  k=k/\
  op=op/\
  ks=ks/\
  oc=p.2.2.2.1/\
  sp=sp/\
  rd=rd/\
  o=p.2.1/\
  ce=p.2.2.1/\
  cd=p.2.2.2.2.1/\
  ou=ou/\
  d=d/\
  e=e/\
  c=c/\
  b=b/\
  f=f/\
  a=a/\
  a=a/\
  (0:Int)<=p.1/\
  p.1<=(↑(List.length (B5 b)):Int)/\
  F4 sp rd ks m i (B5 b) (AS.mk o ce oc cd) (List.take (Int.toNat p.1) (B5 b))=
  AS.mk p.2.1 p.2.2.1 p.2.2.2.1 p.2.2.2.2.1)/\
  ∀ (p:Int×List (Place×Int)×List (Int×Int)×Int×List RIns×Unit),
 let e0_1:AS:=(G6 sp rd ks m (AS.mk p.2.1 p.2.2.1 p.2.2.2.1 p.2.2.2.2.1) i a).2;
 let e1_1:Int:=p.2.2.2.1;
 let e2_1:List RIns:=p.2.2.2.2.1;
 let e3_1:List (Place×Int):=p.2.1;
 let e4_1:List (Int×Int):=p.2.2.1;
 let e5_1:Bool:=decide (p.1<g);
 let e6_1:Int:=p.1;
 let v:Bool:=
  !((D9 e3_1 ks (List.getD a (Int.toNat e6_1) (0:Int))).cell==true&&((D9 e3_1 ks (List.getD a (Int.toNat e6_1) (0:Int))).n==(-1:Int)&&true));
 let w:Int:=(G6 sp rd ks m (AS.mk e3_1 e4_1 e1_1 e2_1) i a).1;
 let s:Int:=(↑(List.length (B5 b)):Int);
  (0:Int)<=e6_1/\e6_1<=s/\F4 sp rd ks m i (B5 b) (AS.mk o ce oc cd) (List.take (Int.toNat e6_1) (B5 b))=AS.mk e3_1 e4_1 e1_1 e2_1->
  (e5_1=true->
  ((0:Int)<=e6_1/\e6_1<g)/\
  ks<=(64:Int)/\
  (v=true->
  ∃ (p':Int×List (Place×Int)×List (Int×Int)×Int×List RIns×Unit),
  i=i/\
  d=d/\
  e=e/\
  c=c/\
  b=b/\
  f=f/\
  a=a/\
  g=g/\
  IntKind.i64.wrap (e6_1+(1:Int))=p'.1/\
  l=l/\
  h=h/\
  j=j/\
  k=k/\
  op=op/\
  ks=ks/\
  e1_1=p'.2.2.2.1/\
  sp=sp/\
  rd=rd/\
  e3_1=p'.2.1/\
  e4_1=p'.2.2.1/\
  e2_1=p'.2.2.2.2.1/\
  ou=ou/\
  d=d/\
  e=e/\
  c=c/\
  b=b/\
  f=f/\
  a=a/\
  a=a/\
  ((0:Int)<=p'.1/\
  p'.1<=s/\
  F4 sp rd ks m i (B5 b) (AS.mk o ce oc cd)
  (List.take (Int.toNat p'.1) (B5 b))=
  AS.mk p'.2.1 p'.2.2.1 p'.2.2.2.1 p'.2.2.2.2.1)/\
  List.length (B5 b)-Int.toNat p'.1<List.length (B5 b)-Int.toNat e6_1)/\
  (v=false->
  ((∀ (n:Int),List.Pairwise (λ(d e:Int)=>d<=e) (getL rd n))/\
  ((M1 sp rd ks m e3_1 i a).1=none->(M1 sp rd ks m e3_1 i a).2≠[])/\
  ks<=(64:Int)/\(0:Int)<=e1_1/\e1_1<=(1000000000:Int)/\List.length e2_1<=(1000000000:Nat))/\
  List.length e0_1.code<=(1000000000:Nat)/\
  ∃ (p':Int×List (Place×Int)×List (Int×Int)×Int×List RIns×Unit),
  i=i/\
  d=d/\
  e=e/\
  c=c/\
  b=b/\
  f=f/\
  a=a/\
  g=g/\
  IntKind.i64.wrap (e6_1+(1:Int))=p'.1/\
  l=l/\
  h=h/\
  j=j/\
  k=k/\
  op=op/\
  ks=ks/\
  e0_1.ocells=p'.2.2.2.1/\
  sp=sp/\
  rd=rd/\
  mput (E6 RU (Ty.user (2:Nat))) e0_1.holds (Place.mk false w) (List.getD a (Int.toNat e6_1) (0:Int))=
  p'.2.1/\
  e0_1.cells=p'.2.2.1/\
  e0_1.code++
  [RIns.mk (1:Int) w
  (Option.getD (mget (λ(x y:Int)=>x==y) e0_1.cells (List.getD a (Int.toNat e6_1) (0:Int)))
  (0:Int))
  (Ins.mk (0:Int) (0:Int) [] [] [])]=
  p'.2.2.2.2.1/\
  ou=ou/\
  d=d/\
  e=e/\
  c=c/\
  b=b/\
  f=f/\
  a=a/\
  a=a/\
  ((0:Int)<=p'.1/\
  p'.1<=s/\
  F4 sp rd ks m i (B5 b) (AS.mk o ce oc cd)
  (List.take (Int.toNat p'.1) (B5 b))=
  AS.mk p'.2.1 p'.2.2.1 p'.2.2.2.1 p'.2.2.2.2.1)/\
  List.length (B5 b)-Int.toNat p'.1<List.length (B5 b)-Int.toNat e6_1))/\
  (e5_1=false->
  (∃ (p:Int×List (Int×Int)×Unit),
  i=i/\
  d=d/\
  e=e/\
  c=c/\
  b=b/\
  f=f/\
  a=a/\
  g=g/\
  e6_1=e6_1/\
  e5_1=e5_1/\
  a=a/\
  g=g/\
  (0:Int)=p.1/\
  l=l/\
  h=h/\
  j=j/\
  k=k/\
  op=op/\
  ks=ks/\
  e1_1=e1_1/\
  sp=sp/\
  rd=rd/\
  e3_1=e3_1/\
  e4_1=e4_1/\
  e2_1=e2_1/\
  ou=ou/\
  d=d/\
  e=e/\
  c=c/\
  b=b/\
  f=f/\
  a=a/\
  a=a/\
  []=p.2.1/\
  (0:Int)<=p.1/\
  p.1<=s/\p.2.1=ab4 r.holds ks (List.take (Int.toNat p.1) (B5 b)))/\
  ∀ (p:Int×List (Int×Int)×Unit),
 let e0_2:Bool:=decide (p.1<g);
 let e1_2:List (Int×Int):=p.2.1;
 let e2_2:Int:=p.1;
  (0:Int)<=e2_2/\e2_2<=s/\e1_2=ab4 r.holds ks (List.take (Int.toNat e2_2) (B5 b))->
  (e0_2=true->
  ((0:Int)<=e2_2/\e2_2<g)/\
  ks<=(64:Int)/\
  ∃ (p':Int×List (Int×Int)×Unit),
  i=i/\
  d=d/\
  e=e/\
  c=c/\
  b=b/\
  f=f/\
  a=a/\
  g=g/\
  e6_1=e6_1/\
  e5_1=e5_1/\
  a=a/\
  g=g/\
  IntKind.i64.wrap (e2_2+(1:Int))=p'.1/\
  l=l/\
  h=h/\
  j=j/\
  k=k/\
  op=op/\
  ks=ks/\
  e1_1=e1_1/\
  sp=sp/\
  rd=rd/\
  e3_1=e3_1/\
  e4_1=e4_1/\
  e2_1=e2_1/\
  ou=ou/\
  d=d/\
  e=e/\
  c=c/\
  b=b/\
  f=f/\
  a=a/\
  a=a/\
  mput (λ(x y:Int)=>x==y) e1_2 (List.getD a (Int.toNat e2_2) (0:Int))
  (D9 e3_1 ks (List.getD a (Int.toNat e2_2) (0:Int))).n=
  p'.2.1/\
  ((0:Int)<=p'.1/\
  p'.1<=s/\
  p'.2.1=ab4 r.holds ks (List.take (Int.toNat p'.1) (B5 b)))/\
  List.length (B5 b)-Int.toNat p'.1<
  List.length (B5 b)-Int.toNat e2_2)/\
  (e0_2=false->
  (∃ (p:Int×List (Place×Int)×List (Int×Int)×Int×List RIns×Unit),
  i=i/\
  d=d/\
  e=e/\
  c=c/\
  b=b/\
  f=f/\
  a=a/\
  g=g/\
  e6_1=e6_1/\
  e5_1=e5_1/\
  a=a/\
  g=g/\
  e2_2=e2_2/\
  e0_2=e0_2/\
  c=c/\
  q=q/\
  (0:Int)=p.1/\
  l=l/\
  h=h/\
  j=j/\
  k=k/\
  op=op/\
  ks=ks/\
  e1_1=p.2.2.2.1/\
  sp=sp/\
  rd=rd/\
  e3_1=p.2.1/\
  e4_1=p.2.2.1/\
  e2_1=p.2.2.2.2.1/\
  ou=ou/\
  d=d/\
  e=e/\
  c=c/\
  b=b/\
  f=f/\
  a=a/\
  a=a/\
  e1_2=e1_2/\
  (0:Int)<=p.1/\
  p.1<=q/\
  P8 sp rd ks m i c r (List.take (Int.toNat p.1) c)=
  AS.mk p.2.1 p.2.2.1 p.2.2.2.1 p.2.2.2.2.1)/\
  ∀ (p:Int×List (Place×Int)×List (Int×Int)×Int×List RIns×Unit),
 let e0_3:AS:=(G6 sp rd ks m (AS.mk p.2.1 p.2.2.1 p.2.2.2.1 p.2.2.2.2.1) u c).2;
 let e1_3:AS:=AS.mk p.2.1 p.2.2.1 p.2.2.2.1 p.2.2.2.2.1;
 let e2_3:Int:=p.2.2.2.1;
 let e3_2:List RIns:=p.2.2.2.2.1;
 let e4_2:List (Place×Int):=p.2.1;
 let e5_2:Int:=p.1;
 let e6_2:Bool:=decide (e5_2<q);
  (0:Int)<=e5_2/\e5_2<=q/\P8 sp rd ks m i c r (List.take (Int.toNat e5_2) c)=e1_3->
  (e6_2=true->
  ((0:Int)<=e5_2/\e5_2<q)/\
  ((∀ (n:Int),List.Pairwise (λ(d e:Int)=>d<=e) (getL rd n))/\
  ((M1 sp rd ks m e4_2 u c).1=none->(M1 sp rd ks m e4_2 u c).2≠[])/\
  ks<=(64:Int)/\(0:Int)<=e2_3/\e2_3<=(1000000000:Int)/\List.length e3_2<=(1000000000:Nat))/\
  ∃ (p':Int×List (Place×Int)×List (Int×Int)×Int×List RIns×Unit),
  i=i/\
  d=d/\
  e=e/\
  c=c/\
  b=b/\
  f=f/\
  a=a/\
  g=g/\
  e6_1=e6_1/\
  e5_1=e5_1/\
  a=a/\
  g=g/\
  e2_2=e2_2/\
  e0_2=e0_2/\
  c=c/\
  q=q/\
  IntKind.i64.wrap (e5_2+(1:Int))=p'.1/\
  l=l/\
  h=h/\
  j=j/\
  k=k/\
  op=op/\
  ks=ks/\
  e0_3.ocells=p'.2.2.2.1/\
  sp=sp/\
  rd=rd/\
  mput (E6 RU (Ty.user (2:Nat))) e0_3.holds
  (Place.mk false (G6 sp rd ks m e1_3 u c).1)
  (List.getD c (Int.toNat e5_2) (0:Int))=
  p'.2.1/\
  e0_3.cells=p'.2.2.1/\
  e0_3.code=p'.2.2.2.2.1/\
  ou=ou/\
  d=d/\
  e=e/\
  c=c/\
  b=b/\
  f=f/\
  a=a/\
  a=a/\
  e1_2=e1_2/\
  ((0:Int)<=p'.1/\
  p'.1<=q/\
  P8 sp rd ks m i c r
  (List.take (Int.toNat p'.1) c)=
  AS.mk p'.2.1 p'.2.2.1 p'.2.2.2.1
  p'.2.2.2.2.1)/\
  List.length c-Int.toNat p'.1<
  List.length c-Int.toNat e5_2)/\
  (e6_2=false->
  (((ae6 c b f=true/\ks<=(64:Int))/\True)/\True)/\
  List.length e3_2<=(1000000000:Nat)/\
  (l,h,j,k,sp,rd,e4_2,p.2.2.1,op,ks,e2_3,
  e3_2++
  [RIns.mk (0:Int) (0:Int) (0:Int) (Ins.mk d e (List.map (λ(n:Int)=>(D9 e4_2 ks n).n) c) (List.map (getI e1_2) b) f)],
  ou,())=
  (l,h,j,k,sp,rd,t.holds,t.cells,op,ks,t.ocells,t.code,ou,()))))):=by kernel_rfl
theorem X2 (sp:Spans) (rd:Reads) (N:Int) (m:Holds) (pl:Int) (st:List Int) (r:List Nat):∀ (l:List Nat) (acc:List Held),C8 sp rd N m pl st (l++r) acc=match C8 sp rd N m pl st l acc with
  |(none,acc')=>C8 sp rd N m pl st r acc'
  |x=>x
 |[],acc=>rfl
 |s::l,acc=>by
  simp only [List.cons_append,C8];cases mget eqP m ⟨false,(s:Int)⟩ with
  |none=>rfl
  |some n=>
   simp only;cases st.contains n with
   |true=>exact X2 sp rd N m pl st r l acc
   |false=>
    simp only [cond_false];cases O4 (getS sp n).first (getS sp n).last pl with
    |true=>exact X2 sp rd N m pl st r l _
    |false=>rfl
theorem ae8 (sp:Spans) (rd:Reads) (N:Int) (m:Holds) (pl:Int) (st:List Int):∀ (l:List Nat) (acc:List Held),(C8 sp rd N m pl st l acc).2.length<=acc.length+l.length
 |[],acc=>by simp [C8]
 |s::l,acc=>by
  simp only [C8];cases mget eqP m ⟨false,(s:Int)⟩ with
  |none=>simp
  |some n=>
   simp only;cases st.contains n with
   |true=>have:=ae8 sp rd N m pl st l acc;simp only [cond_true,cp0];omega
   |false=>
    simp only [cond_false];cases O4 (getS sp n).first (getS sp n).last pl with
    |true=>have:=ae8 sp rd N m pl st l (acc++[⟨(s:Int),n,av9 rd N n pl⟩]);simp only [cond_true,cp0,cp5,List.length_nil] at this |-;omega
    |false=>simp
theorem ap8 {sp:Spans} {rd:Reads} {N:Int} {m:Holds} {pl:Int} {st:List Int} {k:Nat} {acc:List Held} (h:C8 sp rd N m pl st (List.range k) []=(none,acc)):C8 sp rd N m pl st (List.range (k+1)) []=C8 sp rd N m pl st [k] acc:=by rw [List.range_succ,X2,h]
theorem aU5 {sp:Spans} {rd:Reads} {N:Int} {m:Holds} {pl:Int} {st:List Int} {k n:Nat} {acc:List Held} (a:k<n) (h:C8 sp rd N m pl st (List.range k) []=(none,acc)) {i:Int} (h2:C8 sp rd N m pl st [k] acc=(some i,acc)):C8 sp rd N m pl st (List.range n) []=(some i,acc):=by
 have:List.range n=List.range (k+1)++(List.range (n-(k+1))).map ((k+1)+·):=by rw [<-List.range_add];congr 1;omega
 rw [this,X2,ap8 h,h2]
theorem ch7 (pl:Int) (st:List Int) (m:Int) (b:List Ins) (o p:List Int) (sp:Spans) (rd:Reads) (a:Holds) (ce:List (Int×Int)) (op ks oc:Int) (cd:List RIns) (ou:List Place)
  (x:ae7 rd/\aw0 sp rd ks b.length a pl st/\ks<=64/\0<=oc/\oc<=1000000000/\cd.length<=1000000000):vc (EV [(100,cNext),(61,cContains),(69,cAt),(101,cBest),(85,cPutA)]) (ch3 sp rd ks b.length a pl st) Go.Proofs.Tryd.f84 cRoom (pl,st,m,b,o,p,sp,rd,a,ce,op,ks,oc,cd,ou,()):=by
 rw [ch4 pl st m b o p sp rd a ce op ks oc cd ou];intro q r _ _ _ _ _ _;obtain ⟨s,e,y,z,A,t⟩:=x;have c:q=((G6 sp rd ks b.length ⟨a,ce,oc,cd⟩ pl st).1,m,b,o,p,sp,rd,(G6 sp rd ks b.length ⟨a,ce,oc,cd⟩ pl st).2.holds,(G6 sp rd ks b.length ⟨a,ce,oc,cd⟩ pl st).2.cells,op,ks,(G6 sp rd ks b.length ⟨a,ce,oc,cd⟩ pl st).2.ocells,(G6 sp rd ks b.length ⟨a,ce,oc,cd⟩ pl st).2.code,ou,()):=rfl;have u:r=(m,b,o,p,sp,rd,a,ce,op,ks,oc,cd,ou,()):=rfl
 clear_value q r
 generalize (b.length:Int)=N at e c |-;simp only [true_and,and_true,Bool.cond_self];refine ⟨⟨(0,[],()),rfl,rfl,Int.le_refl _,.inr rfl,rfl⟩,?_⟩;rintro ⟨i,l,⟨⟩⟩ ⟨h0,h1,h2⟩;dsimp only at h0 h1 h2 |-;obtain ⟨k,rfl⟩:=co0 h0;simp only [cn8] at h2 |-;have d:=ae8 sp rd N a pl st (List.range k) [];rw [h2] at d;simp only [List.length_nil,List.length_range,Nat.zero_add] at d;refine ⟨λf=>?_,λg=>?_⟩
 .have f:(k:Int)<ks:=co4 f;have stop:C8 sp rd N a pl st [k] l=(some (k:Int),l)->((k:Int),r)=q:=λh=>by
   have hr:(M1 sp rd ks N a pl st)=(some (k:Int),l):=aU5 (by omega) h2 h;have:G6 sp rd ks N ⟨a,ce,oc,cd⟩ pl st=((k:Int),⟨a,ce,oc,cd⟩):=by simp only [G6,hr]
   rw [c,this,u]
  have next:∀ l',C8 sp rd N a pl st [k] l=(none,l')->∃ p':Int×List Held×Unit,IntKind.i64.wrap ((k:Int)+1)=p'.1/\l'=p'.2.1/\(0<=p'.1/\(p'.1<=ks\/p'.1=0)/\C8 sp rd N a pl st (List.range p'.1.toNat) []=(none,p'.2.1))/\ks.toNat-p'.1.toNat<ks.toNat-k:=λl' h=>
   ⟨((k+1:Nat),l',()),by rw [L5 (by omega) (by omega)];rfl,rfl,⟨by omega,.inl (by dsimp only;omega),by dsimp only;rw [cn8,ap8 h2,h]⟩,by dsimp only;omega⟩
  show ((!(mget eqP a ⟨false,(k:Int)⟩).isSome)=true->_)/\((!(mget eqP a ⟨false,(k:Int)⟩).isSome)=false->_);cases j:mget eqP a ⟨false,(k:Int)⟩ with
  |none=>refine ⟨λ_=>stop ?_,λh=>(by cases h)⟩;simp only [C8,j]
  |some n=>
   refine ⟨λh=>(by cases h),λ_=>?_⟩;have v:mget (E6 RU (Ty.user 2)) a ⟨false,(k:Int)⟩=some n:=j;simp only [v,Option.getD_some];refine ⟨λh=>?_,λh=>⟨λh3=>stop ?_,λh3=>⟨s,?_,?_⟩⟩⟩
   .exact next l (by simp only [C8,j,h,cond_true])
   .have h3:O4 (getS sp n).first (getS sp n).last pl=false:=by simpa [getS] using h3
    simp only [C8,j,h,h3,cond_false]
   .simp only [cp0,List.length_nil];omega
   .have h3:O4 (getS sp n).first (getS sp n).last pl=true:=by simpa [getS] using h3
    exact next _ (by simp only [C8,j,h,h3,cond_false,cond_true])
 .have g:¬ (k:Int)<ks:=co3 g;have hr:M1 sp rd ks N a pl st=(none,l):=by
   rw [<-h2];show C8 sp rd N a pl st (List.range ks.toNat) []=_;congr 2;omega
  have w:l≠[]:=by have:=e;unfold aw0 at this;rw [hr] at this;exact this rfl
  have B:G6 sp rd ks N ⟨a,ce,oc,cd⟩ pl st=((M2 l).slot,aT9 ⟨a,ce,oc,cd⟩ (M2 l)):=by simp only [G6,hr]
  rw [B] at c;refine ⟨w,λ_=>t,?_⟩;rw [c];dsimp only [aT9];show (_,_,_,_,_,_,_,_,(bif !(mget eqI ce (M2 l).reg).isSome then mput eqI ce (M2 l).reg oc else ce),_,_,(bif !(mget eqI ce (M2 l).reg).isSome then IntKind.i64.wrap (oc+1) else oc),(bif !(mget eqI ce (M2 l).reg).isSome then cd++[⟨2,(M2 l).slot,oc,ins0⟩] else cd),_,_)=_;rw [L5 (by omega) (by omega)];cases (mget eqI ce (M2 l).reg).isSome<;>rfl
theorem bA3:C5 prog RG 84 cRoom:=E1 (A6 bA0 (A6 M5 (A6 br9 (A6 bA1 (A6 aO0 B8))))) (λ(pl,st,c,a,d,e,sp,rd,b,ce,op,ks,oc,cd,ou,())=>ch3 sp rd ks a.length b pl st) (by kernel_rfl) (by kernel_rfl) (by kernel_rfl) λ(pl,st,c,a,d,e,sp,rd,b,ce,op,ks,oc,cd,ou,()) f=>ch7 pl st c a d e sp rd b ce op ks oc cd ou f
theorem bA4:C5 prog RG 86 cGetA:=E1 (A6 as9 B8) (λ_=>noL) (by kernel_rfl) (by kernel_rfl) (by kernel_rfl) λ(n,b,c,d,e,sp,rd,f,ce,op,ks,oc,cd,ou,()) a=>(ch5 n b c d e sp rd f ce op ks oc cd ou).mpr (by
 have a:ks<=64:=a;intros;simp only [true_and,and_true];exact a)
theorem bA5:C5 prog RG 87 cOld:=E1 B8 (λ_=>noL) (by kernel_rfl) (by kernel_rfl) (by kernel_rfl) λ(n,m,()) _=>(ch6 n m).mpr rfl
theorem bA6 (g h:Int) (b c:List Int) (f:List Ins) (s:Int) (t:List Ins) (u v:List Int) (sp:Spans) (rd:Reads) (j:Holds) (ce:List (Int×Int)) (op ks oc:Int) (cd:List RIns) (ou:List Place) (sl:List (Int×Int)) (w:ae6 b c f=true/\ks<=64):
  vc (EV [(96,cBody),(86,cGetA),(87,cOld)]) (aU3 g h b c f j ks sl) Go.Proofs.Tryd.f73 cCalledA (g,h,b,c,f,s,t,u,v,sp,rd,j,ce,op,ks,oc,cd,ou,sl,()):=by
 rw [bA2 g h b c f s t u v sp rd j ce op ks oc cd ou sl];intro x y z A m o _ _ _ _ _ _;have p:b.length<=140737488355328:=m.len;have q:c.length<=140737488355328:=o.len
 clear_value x
 dsimp only [y,z,A];simp only [true_and,and_true];refine ⟨⟨by simp,?_⟩,⟨by omega,by simp⟩,⟨(0,_,()),rfl,rfl,Int.le_refl _,by dsimp only;omega,by simp⟩,?_⟩
 .simp only [K4,Bool.and_true];exact (R7 _).2 (ai0.1 w.1)
 rintro ⟨i,l,⟨⟩⟩ ⟨h0,h1,h2⟩;dsimp only at h0 h1 h2 |-;subst h2;obtain ⟨k,rfl⟩:=co0 h0;simp only [cn8,List.getD_cons_zero,List.set_cons_zero];have e:((c.take k).map (getI sl)).length=k:=by simp;omega
 refine ⟨λa=>?_,λd=>?_⟩
 .have a:(k:Int)<c.length:=co4 a;rw [ah9 e (by omega),aT3 e (by omega),aT4 e (by omega)];refine ⟨⟨h0,a⟩,⟨h0,a⟩,((k+1:Nat),[⟨g,h,b,(c.take (k+1)).map (getI sl)++c.drop (k+1),f⟩],()),B4 (by omega) q,?_,⟨by omega,by dsimp only;omega,by dsimp only;rw [cn8]⟩,by dsimp only;omega⟩;dsimp only;rw [A4 (by omega) 0,List.map_append];rfl
 have r:k=c.length:=by have:¬ (k:Int)<c.length:=co3 d;omega
 subst r;simp only [cq2,List.drop_length,List.append_nil];clear h0 h1 d e;refine ⟨⟨(0,_,()),rfl,rfl,Int.le_refl _,by dsimp only;omega,by simp⟩,?_⟩;rintro ⟨i,l,⟨⟩⟩ ⟨h0,h1,h2⟩;dsimp only at h0 h1 h2 |-;subst h2;obtain ⟨k,rfl⟩:=co0 h0;simp only [cn8,List.getD_cons_zero,List.set_cons_zero];have e:((b.take k).map (λn=>(D9 j ks n).n)).length=k:=by simp;omega
 refine ⟨λa=>?_,λd=>?_⟩
 .have a:(k:Int)<b.length:=co4 a;rw [ah9 e (by omega),aT3 e (by omega),aT4 e (by omega)];refine ⟨⟨h0,a⟩,w.2,⟨h0,a⟩,((k+1:Nat),[⟨g,h,(b.take (k+1)).map (λn=>(D9 j ks n).n)++b.drop (k+1),c.map (getI sl),f⟩],()),B4 (by omega) p,?_,⟨by omega,by dsimp only;omega,by dsimp only;rw [cn8]⟩,by dsimp only;omega⟩;dsimp only;rw [A4 (by omega) 0,List.map_append];rfl
 .have r:k=b.length:=by have:¬ (k:Int)<b.length:=co3 d;omega
  subst r;simp only [cq2,List.drop_length,List.append_nil]
theorem aU6:C5 prog RG 73 cCalledA:=E1 (A6 aN1 (A6 bA4 (A6 bA5 B8))) (λ(a,b,c,d,e,g,h,i,j,sp,rd,f,ce,op,ks,oc,cd,ou,sl,())=>aU3 a b c d e f ks sl) (by kernel_rfl) (by kernel_rfl) (by kernel_rfl) λ(a,b,c,d,e,g,h,i,j,sp,rd,f,ce,op,ks,oc,cd,ou,sl,()) k=>bA6 a b c d e g h i j sp rd f ce op ks oc cd ou sl k
theorem aj3 (x:Int):∀ (l seen:List Int),F6 seen (l++[x])=F6 seen l++bif (seen++l).contains x then [] else [x]
 |[],seen=>by simp only [List.nil_append,F6,List.append_nil]
 |y::l,seen=>by have ih:=aj3 x l (seen++[y]);rw [cq0,List.singleton_append] at ih;simp only [List.cons_append,F6,ih];cases seen.contains y<;>rfl
theorem aO1 (l:List Int) (x:Int):B5 (l++[x])=bif l.contains x then B5 l else B5 l++[x]:=by unfold B5;rw [aj3,List.nil_append];cases l.contains x<;>simp
theorem ae9 (l:List Int):(B5 l).length<=l.length:=by
 have key:∀ (l seen:List Int),(F6 seen l).length<=l.length:=by
  intro l
  induction l with
  |nil=>intro seen;simp [F6]
  |cons x r ih=>
   intro seen;have:=ih (seen++[x]);simp only [F6];cases seen.contains x with
   |true=>simp only [cond_true,cp0];omega
   |false=>simp only [cond_false,cp0];omega
 exact key l []
theorem aH6:C5 prog RG 52 cReads:=E1 B8 (λ_=>noL) (by kernel_rfl) (by kernel_rfl) (by kernel_rfl) λ(a,b,c,d,e,()) _=>(bW1 a b c d e).mpr (by intros;rfl)
theorem bM3 (s0:Int) (c:List Int) (j m:Int) (n a:List Int) (o:List Ins) (r:s0=0/\c.length+a.length<=17592186044400):vc (EVy [(0,0),(1,1)] (some ap7) [(61,cContains)]) (bl1 a c) Go.Proofs.Tryd.f83 aU4 (s0,c,j,m,n,a,o,()):=by
 rw [bM2 s0 c j m n a o];intro p s _ _ e _;have d:a.length<=140737488355328:=e.len;have f:p=(0,c++B5 a,()):=rfl
 clear_value p
 dsimp only [s];simp only [true_and,and_true];refine ⟨⟨(0,0,c,()),rfl,r.1,rfl,Int.le_refl _,by dsimp only;omega,rfl,by simp [B5,F6]⟩,?_⟩;rintro ⟨i,st,l,⟨⟩⟩ ⟨h0,h1,h2,h3⟩;dsimp only at h0 h1 h2 h3 |-;subst h2;obtain ⟨k,rfl⟩:=co0 h0;simp only [cn8] at h3 |-;subst h3;refine ⟨λb=>?_,λg=>?_⟩
 .have b:(k:Int)<a.length:=co4 b;have hs:=aO1 (a.take k) (a.getD k 0);rw [<-A4 (by omega)] at hs;have hl:=ae9 (a.take k);rw [cq3] at hl;refine ⟨⟨h0,b⟩,⟨h0,by omega⟩,λq=>?_,λq=>⟨⟨trivial,by rw [cp5];omega⟩,λh=>(by cases h),λ_=>?_⟩⟩
  .rw [q] at hs;exact ⟨((k+1:Nat),0,_,()),B4 (by omega) d,rfl,rfl,⟨by omega,by dsimp only;omega,rfl,by dsimp only;rw [cn8,hs];rfl⟩,by dsimp only;omega⟩
  .rw [q] at hs;exact ⟨((k+1:Nat),0,_,()),B4 (by omega) d,rfl,rfl,⟨by omega,by dsimp only;omega,rfl,by dsimp only;rw [cn8,hs,cq0];rfl⟩,by dsimp only;omega⟩
 .have t:k=a.length:=by have:¬ (k:Int)<a.length:=co3 g;omega
  subst t;rw [f,cq2]
theorem ch8:ItOk itDo:=by
 intro f k kY mp h Y' b;unfold itDo at h;cases hf:Nat.beq f 83 with
 |false=>rw [hf] at h;cases h
 |true=>
  have hf:=cn5 hf;subst hf;simp only [Nat.beq_refl,cond_true,List.mem_cons,List.not_mem_nil,or_false,co6] at h;obtain ⟨rfl,rfl,rfl⟩:=h;exact ah3 (E:=EVy [(0,0),(1,1)] (some ap7) [(61,cContains)]) (bS6 _ _ _) ⟨W4 (λx a=>by rcases List.mem_cons.1 a with rfl|a;exact M5 _;cases a),λ_ _ _ _ _ h=>(by cases h),λ_ _ _ h=>(by cases h),λk c=>by cases c;exact b,λ_ _ _ _ h=>(by cases h)⟩ bi2 Go.Proofs.Tryd.func83 (by kernel_rfl)
    (λp=>bl1 p.2.2.2.2.2.1 p.2.1) (λ(st,d,e,g,i,j,l,()) m=>bM3 st d e g i j l m) (by kernel_rfl) rfl
theorem bM4 (s:AS) (x:Held):(aT9 s x).code.length<=s.code.length+1/\s.ocells<=(aT9 s x).ocells/\(aT9 s x).ocells<=s.ocells+1:=by
 unfold aT9;cases (mget eqI s.cells x.reg).isSome with
 |true=>simp only [cond_true];omega
 |false=>simp only [cond_false,cp5,cp0,List.length_nil];omega
theorem at0 (sp:Spans) (rd:Reads) (ks N:Int) (s:AS) (pl:Int) (st:List Int):(G6 sp rd ks N s pl st).2.code.length<=s.code.length+1/\s.ocells<=(G6 sp rd ks N s pl st).2.ocells/\(G6 sp rd ks N s pl st).2.ocells<=s.ocells+1:=by
 unfold G6;split
 .simp only;omega
 .exact bM4 _ _
theorem bd3 (sp:Spans) (rd:Reads) (ks N i:Int) (fr:List Int) (s:AS) (n:Int):(K1 sp rd ks N i fr s n).code.length<=s.code.length+2/\s.ocells<=(K1 sp rd ks N i fr s n).ocells/\(K1 sp rd ks N i fr s n).ocells<=s.ocells+1:=by
 unfold K1;have:=at0 sp rd ks N s i fr;cases (D9 s.holds ks n).cell with
 |true=>simp only [cond_true,cp5,cp0,List.length_nil];omega
 |false=>simp only [cond_false];omega
theorem ab5 (sp:Spans) (rd:Reads) (ks N i:Int) (fr:List Int):∀ (l:List Int) (s:AS),(F4 sp rd ks N i fr s l).code.length<=s.code.length+2*l.length/\s.ocells<=(F4 sp rd ks N i fr s l).ocells/\(F4 sp rd ks N i fr s l).ocells<=s.ocells+l.length
 |[],s=>by simp [F4]
 |x::r,s=>by have h1:=ab5 sp rd ks N i fr r (K1 sp rd ks N i fr s x);have h2:=bd3 sp rd ks N i fr s x;simp only [F4,List.foldl_cons,cp0] at h1 |-;omega
theorem bA7 (sp:Spans) (rd:Reads) (ks N i:Int) (to:List Int) (s:AS) (n:Int):(aw1 sp rd ks N i to s n).code.length<=s.code.length+1/\s.ocells<=(aw1 sp rd ks N i to s n).ocells/\(aw1 sp rd ks N i to s n).ocells<=s.ocells+1:=by have:=at0 sp rd ks N s (i+1) to;exact this
theorem aH7 (sp:Spans) (rd:Reads) (ks N i:Int) (to:List Int):∀ (l:List Int) (s:AS),(P8 sp rd ks N i to s l).code.length<=s.code.length+l.length/\s.ocells<=(P8 sp rd ks N i to s l).ocells/\(P8 sp rd ks N i to s l).ocells<=s.ocells+l.length
 |[],s=>by simp [P8]
 |x::r,s=>by have h1:=aH7 sp rd ks N i to r (aw1 sp rd ks N i to s x);have h2:=bA7 sp rd ks N i to s x;simp only [P8,List.foldl_cons,cp0] at h1 |-;omega
theorem bd4 (sp:Spans) (rd:Reads) (ks N i:Int) (fr:List Int) (s:AS) (l:List Int) (x:Int):F4 sp rd ks N i fr s (l++[x])=K1 sp rd ks N i fr (F4 sp rd ks N i fr s l) x:=by simp [F4]
theorem aO2 (sp:Spans) (rd:Reads) (ks N i:Int) (to:List Int) (s:AS) (l:List Int) (x:Int):P8 sp rd ks N i to s (l++[x])=aw1 sp rd ks N i to (P8 sp rd ks N i to s l) x:=by simp [P8]
theorem bd5 (m:Holds) (ks n:Int):((D9 m ks n).cell==true&&((D9 m ks n).n==(-1:Int)))=(D9 m ks n).cell:=by
 unfold D9;split
 .rfl
 .rfl
theorem cn3 (i x y:Int) (b a:List Int) (w:List Ins) (K:Int) (C:List Ins) (L M:List Int) (sp:Spans) (rd:Reads) (p:Holds) (ce:List (Int×Int)) (op ks oc:Int) (cd:List RIns) (ou:List Place)
  (S:ae6 b a w=true/\a.length<=17592186044400/\(B5 a).length<=64/\b.length<=64/\ae7 rd/\doOk sp rd ks C.length i ⟨x,y,b,a,w⟩ ⟨p,ce,oc,cd⟩/\ks<=64/\0<=i/\i<=1000000/\0<=oc/\oc<=100000000/\cd.length<=100000000):
  vc (EVd [] itDo [(52,cReads),(54,cSlot),(84,cRoom),(85,cPutA),(73,cCalledA)]) (lDo sp rd ks C.length i b a ⟨p,ce,oc,cd⟩) Go.Proofs.Tryd.f53 cDo (i,x,y,b,a,w,K,C,L,M,sp,rd,p,ce,op,ks,oc,cd,ou,()):=by
 rw [cn2 i x y b a w K C L M sp rd p ce op ks oc cd ou];obtain ⟨D,T,U,V,z,E,r,W,X,N,O,P⟩:=S;intro Y Z F g Q e5 u _ G _ _ _ _ _ _;have hl4:a.length<=140737488355328:=G.len;have hdl:=ae9 a;have he2:F=doOf sp rd ks g i ⟨x,y,b,a,w⟩ ⟨p,ce,oc,cd⟩:=rfl;have H:Q=i+1:=L5 (by omega) (by omega);have v:u=F4 sp rd ks g i (B5 a) ⟨p,ce,oc,cd⟩ (B5 a):=rfl;have A:=ab5 sp rd ks g i (B5 a) (B5 a) ⟨p,ce,oc,cd⟩;rw [<-v] at A;have I:F=⟨(P8 sp rd ks g i b u b).holds,(P8 sp rd ks g i b u b).cells,(P8 sp rd ks g i b u b).ocells,(P8 sp rd ks g i b u b).code++[⟨0,0,0,⟨x,y,b.map (λn=>(D9 (P8 sp rd ks g i b u b).holds ks n).n),a.map (getI (ab4 u.holds ks (B5 a))),w⟩⟩]⟩:=rfl;obtain ⟨s,t⟩:=E;change ∀ k,k<(B5 a).length->(D9 (F4 sp rd ks g i (B5 a) ⟨p,ce,oc,cd⟩ ((B5 a).take k)).holds ks ((B5 a).getD k 0)).cell=true->aw0 sp rd ks g (F4 sp rd ks g i (B5 a) ⟨p,ce,oc,cd⟩ ((B5 a).take k)).holds i (B5 a) at s;change ∀ k,k<b.length->aw0 sp rd ks g (P8 sp rd ks g i b u (b.take k)).holds (i+1) b at t
 clear_value F Q u g
 subst H;dsimp only [Y,Z,e5];simp only [true_and,and_true,List.nil_append,Bool.and_true,bd5];refine ⟨?_,?_,⟨(0,p,ce,oc,cd,()),rfl,rfl,rfl,rfl,rfl,Int.le_refl _,by dsimp only;omega,rfl⟩,?_⟩
 .rintro ⟨n,st,l,⟨⟩⟩ ⟨h1,h2⟩ _;dsimp only at h1 h2 |-;exact ⟨h1,by simp only [cp0,List.length_nil];omega,rfl⟩
 .simp only [List.length_nil];omega
 rintro ⟨j,m,cc,c,q,⟨⟩⟩ ⟨h0,h1,h2⟩;dsimp only at h0 h1 h2 |-;obtain ⟨k,rfl⟩:=co0 h0;simp only [cn8] at h2 |-;have J:=ab5 sp rd ks g i (B5 a) ((B5 a).take k) ⟨p,ce,oc,cd⟩;rw [h2,cq3] at J;dsimp only at J;refine ⟨λd=>?_,λh=>?_⟩
 .have d:(k:Int)<(B5 a).length:=co4 d;have e:k<(B5 a).length:=by omega
  have o:=s k e;rw [h2] at o;have f:F4 sp rd ks g i (B5 a) ⟨p,ce,oc,cd⟩ ((B5 a).take (k+1))=K1 sp rd ks g i (B5 a) ⟨m,cc,c,q⟩ ((B5 a).getD k 0):=by rw [A4 e 0,bd4,h2]
  generalize (B5 a).getD k 0=n at o f |-;dsimp only at o;refine ⟨⟨h0,d⟩,r,λhc=>?_,λhc=>?_⟩
  .have hc:(D9 m ks n).cell=false:=by simpa using hc
   have hS:K1 sp rd ks g i (B5 a) ⟨m,cc,c,q⟩ n=⟨m,cc,c,q⟩:=by simp only [K1,hc,cond_false]
   exact ⟨((k+1:Nat),m,cc,c,q,()),B4 (m:=(B5 a).length) e (by omega),rfl,rfl,rfl,rfl,⟨by omega,by dsimp only;omega,by dsimp only;rw [cn8,f,hS]⟩,by dsimp only;omega⟩
  .have hc:(D9 m ks n).cell=true:=by simpa using hc
   have hR:=at0 sp rd ks g ⟨m,cc,c,q⟩ i (B5 a);dsimp only at hR;refine ⟨⟨z,o hc,r,by omega,by omega,by omega⟩,by omega,((k+1:Nat),_,_,_,_,()),B4 (m:=(B5 a).length) e (by omega),rfl,rfl,rfl,rfl,⟨by omega,by dsimp only;omega,?_⟩,by dsimp only;omega⟩;dsimp only;rw [cn8,f];simp only [K1,hc,cond_true];rfl
 have B:k=(B5 a).length:=by have:¬ (k:Int)<(B5 a).length:=co3 h;omega
 subst B;rw [cq2,<-v] at h2;clear v s h0 h1 h J;subst h2;dsimp only at A I t |-;refine ⟨⟨(0,[],()),rfl,rfl,Int.le_refl _,by dsimp only;omega,rfl⟩,?_⟩;rintro ⟨j,sl,⟨⟩⟩ ⟨h0,h1,h2⟩;dsimp only at h0 h1 h2 |-;obtain ⟨k,rfl⟩:=co0 h0;simp only [cn8] at h2 |-;refine ⟨λd=>?_,λh=>?_⟩
 .have d:(k:Int)<(B5 a).length:=co4 d;have e:k<(B5 a).length:=by omega
  refine ⟨⟨h0,d⟩,r,((k+1:Nat),_,()),B4 (m:=(B5 a).length) e (by omega),rfl,⟨by omega,by dsimp only;omega,?_⟩,by dsimp only;omega⟩;dsimp only;rw [cn8,A4 e 0,h2];simp only [ab4,List.foldl_append,List.foldl_cons,List.foldl_nil]
 have B:k=(B5 a).length:=by have:¬ (k:Int)<(B5 a).length:=co3 h;omega
 subst B;rw [cq2] at h2;subst h2;clear h0 h1 h;refine ⟨⟨(0,m,cc,c,q,()),rfl,rfl,rfl,rfl,rfl,Int.le_refl _,by dsimp only;omega,rfl⟩,?_⟩;rintro ⟨j,m2,cc2,c2,q2,⟨⟩⟩ ⟨h0,h1,h2⟩;dsimp only at h0 h1 h2 |-;obtain ⟨k,rfl⟩:=co0 h0;simp only [cn8] at h2 |-;have R:=aH7 sp rd ks g i b (b.take k) ⟨m,cc,c,q⟩;rw [h2,cq3] at R;dsimp only at R;refine ⟨λd=>?_,λh=>?_⟩
 .have d:(k:Int)<b.length:=co4 d;have e:k<b.length:=by omega
  have o:=t k e;rw [h2] at o;have f:P8 sp rd ks g i b ⟨m,cc,c,q⟩ (b.take (k+1))=aw1 sp rd ks g i b ⟨m2,cc2,c2,q2⟩ (b.getD k 0):=by rw [A4 e 0,aO2,h2]
  refine ⟨⟨h0,d⟩,⟨z,o,r,by omega,by omega,by omega⟩,((k+1:Nat),_,_,_,_,()),B4 (m:=b.length) e (by omega),rfl,rfl,rfl,rfl,⟨by omega,by dsimp only;omega,?_⟩,by dsimp only;omega⟩;dsimp only;rw [cn8,f];rfl
 .have B:k=b.length:=by have:¬ (k:Int)<b.length:=co3 h;omega
  subst B;rw [cq2] at h2;rw [h2] at I;refine ⟨⟨D,r⟩,by omega,?_⟩;rw [I]
theorem bW2:C5 prog RG 53 cDo:=br6 ch8 (A6 aH6 (A6 as9 (A6 bA3 (A6 aO0 (A6 aU6 B8))))) (λ(i,e,f,a,b,g,h,c,j,k,sp,rd,d,ce,op,ks,oc,cd,ou,())=>lDo sp rd ks c.length i a b ⟨d,ce,oc,cd⟩) (by kernel_rfl) (by kernel_rfl) (by kernel_rfl) λ(i,e,f,a,b,g,h,c,j,k,sp,rd,d,ce,op,ks,oc,cd,ou,()) l=>cn3 i e f a b g h c j k sp rd d ce op ks oc cd ou l
def G0 (m:Reads) (l:List Int) (i:Int):Reads:=l.foldl (λm n=>mput eqI m n (getL m n++[i])) m
def M8:List Ins->Int->Reads->Reads
 |[],_,m=>m
 |x::r,i,m=>M8 r (i+1) (G0 m (B5 x.from_) i)
def K9 (code:List Ins):Reads:=M8 code 0 []
def af0 (a:Nat):List (Int×Int):=(List.range a).foldl (λ(m:List (Int×Int)) (k:Nat)=>mput eqI m (k:Int) (k:Int)) []
def J8 (a:Int):AS:=⟨[],af0 a.toNat,a,[]⟩
def runA (sp:Spans) (rd:Reads) (ks N:Int):List Ins->Int->AS->AS
 |[],_,s=>s
 |x::r,i,s=>runA sp rd ks N r (i+1) (doOf sp rd ks N i x s)
def fewX (ks:Int) (x:Ins):Bool:=decide (((B5 x.from_).length:Int)<=ks)&&decide ((x.to.length:Int)<=ks)
def outA (s:AS) (ks n:Int):Place:=bif (D9 s.holds ks n).cell then ⟨true,getI s.cells n⟩ else D9 s.holds ks n
def ch9 (f:VFun) (ks:Int):AS:=runA (A8 f.params f.code f.out) (K9 f.code) ks f.code.length f.code 0 (J8 f.params)
def B9 (f:VFun) (ks:Int):RCode×Int:=
 if E4 f≠0 then (aF0,E4 f) else if ks<1\/64<ks then (aF0,2) else if f.code.all (fewX ks)=false then (aF0,9)
 else (⟨f.params,ks,(ch9 f ks).ocells,(ch9 f ks).code,f.out.map (outA (ch9 f ks) ks)⟩,0)
theorem bs2 (sp:Spans) (rd:Reads) (ks N:Int) (r:List Ins):∀ (l:List Ins) (i:Int) (s:AS),runA sp rd ks N (l++r) i s=runA sp rd ks N r (i+l.length) (runA sp rd ks N l i s)
 |[],i,s=>by simp [runA]
 |x::l,i,s=>by simp only [List.cons_append,runA,bs2 sp rd ks N r l,cp0];congr 1;omega
theorem bd6 (sp:Spans) (rd:Reads) (ks N:Int) (l:List Ins) (x:Ins) (s:AS):runA sp rd ks N (l++[x]) 0 s=doOf sp rd ks N l.length x (runA sp rd ks N l 0 s):=by rw [bs2];simp [runA]
theorem af1 {p q:Place}:eqP p q=true<->p=q:=by obtain ⟨c,n⟩:=p;obtain ⟨c',n'⟩:=q;show ((c==c')&&((n==n')&&true))=true<->_;simp
theorem J4 {β:Type} (m:List (Place×β)) (k:Place) (v:β) (n:Place):mget eqP (mput eqP m k v) n=if k=n then some v else mget eqP m n:=by
 induction m with
 |nil=>
  show (bif eqP k n then some v else none)=_;by_cases h:k=n
  .rw [if_pos h,af1.2 h];rfl
  .have:eqP k n=false:=by rw [Bool.eq_false_iff];exact λh2=>h (af1.1 h2)
   rw [if_neg h,this];rfl
 |cons x r ih=>
  obtain ⟨k',v'⟩:=x;show mget eqP (bif eqP k' k then (k,v)::r else (k',v')::mput eqP r k v) n=if k=n then some v else bif eqP k' n then some v' else mget eqP r n;by_cases h:k'=k
  .subst h;rw [af1.2 rfl];show (bif eqP k' n then some v else mget eqP r n)=_;by_cases h1:k'=n
   .rw [if_pos h1,af1.2 h1];rfl
   .have:eqP k' n=false:=by rw [Bool.eq_false_iff];exact λh2=>h1 (af1.1 h2)
    rw [if_neg h1,this];rfl
  .have h2:eqP k' k=false:=by rw [Bool.eq_false_iff];exact λh2=>h (af1.1 h2)
   rw [h2];show (bif eqP k' n then some v' else mget eqP (mput eqP r k v) n)=_;rw [ih];by_cases h1:k'=n
   .subst h1;rw [show eqP k' k'=true from af1.2 rfl,cond_true,cond_true,if_neg (λe=>h e.symm)]
   .have:eqP k' n=false:=by rw [Bool.eq_false_iff];exact λh2=>h1 (af1.1 h2)
    rw [this];rfl
def bM5 (m:Holds) (ks n:Int):Prop:=∀ a:Nat,a<ks.toNat->mget eqP m ⟨false,(a:Int)⟩≠some n
structure Fine (P:Int->Prop) (ks:Int) (m:Holds):Prop where
 inj:∀ a b:Nat,a<ks.toNat->b<ks.toNat->∀ r,mget eqP m ⟨false,(a:Int)⟩=some r->mget eqP m ⟨false,(b:Int)⟩=some r->a=b
 reg:∀ a:Nat,a<ks.toNat->∀ r,mget eqP m ⟨false,(a:Int)⟩=some r->P r
theorem aH8 {m:Holds} {ks n:Int}:(D9 m ks n).cell=true<->bM5 m ks n:=by
 unfold D9 bM5;constructor
 .intro h a c hm;split at h
  .cases h
  .rename_i b;rw [List.find?_eq_none] at b;exact b a (by simpa using c) (aN9.2 hm)
 .intro h;split
  .rename_i s hs;have h1:=List.find?_some hs;have h2:=List.mem_of_find?_eq_some hs;exact (h s (by simpa using h2) (aN9.1 h1)).elim
  .rfl
theorem ap9:∀ (l m:List Int),l.Nodup->(∀ x∈l,x∈m)->l.length<=m.length
 |[],_,_,_=>Nat.zero_le _
 |x::r,m,h,hs=>by obtain ⟨h1,h2⟩:=List.nodup_cons.1 h;have a:=hs x (by simp);have:=ap9 r (m.erase x) h2 (λy b=>(List.mem_erase_of_ne (λe=>by subst e;exact h1 b)).2 (hs y (by simp [b])));rw [List.length_erase_of_mem a] at this;have:=List.length_pos_of_mem a;simp only [cp0];omega
theorem at1 (sp:Spans) (rd:Reads) (N:Int) (m:Holds) (pl:Int) (st:List Int):∀ (l:List Nat) (acc:List Held),C8 sp rd N m pl st l acc=(none,[])->acc=[]/\∀ s∈l,∃ n∈st,mget eqP m ⟨false,(s:Int)⟩=some n
 |[],acc,h=>by simp only [C8,co6,true_and] at h;exact ⟨h,by simp⟩
 |s::r,acc,h=>by
  simp only [C8] at h;cases hm:mget eqP m ⟨false,(s:Int)⟩ with
  |none=>rw [hm] at h;simp at h
  |some n=>
   rw [hm] at h;simp only at h;cases hc:st.contains n with
   |true=>
    rw [hc] at h;obtain ⟨h1,h2⟩:=at1 sp rd N m pl st r acc h;refine ⟨h1,λx a=>?_⟩;rcases List.mem_cons.1 a with rfl|a
    .exact ⟨n,by simpa [List.contains_iff_mem] using hc,hm⟩
    .exact h2 x a
   |false=>
    rw [hc] at h;simp only [cond_false] at h;cases hs:O4 (getS sp n).first (getS sp n).last pl with
    |true=>rw [hs] at h;have:=(at1 sp rd N m pl st r _ h).1;simp at this
    |false=>rw [hs] at h;simp at h
theorem bd7 {P:Int->Prop} {ks:Int} {m:Holds} (F:Fine P ks m) {n:Int} (p:bM5 m ks n) {st:List Int} (hs:n∈st) (hl:(st.length:Int)<=ks) (sp:Spans) (rd:Reads) (N pl:Int):aw0 sp rd ks N m pl st:=by
 intro h1 h2;have h3:C8 sp rd N m pl st (List.range ks.toNat) []=(none,[]):=Prod.ext h1 h2;obtain ⟨_,h4⟩:=at1 sp rd N m pl st _ _ h3
 let f:Nat->Int:=λs=>(mget eqP m ⟨false,(s:Int)⟩).getD 0
 have hf:∀ s,s<ks.toNat->f s∈st/\mget eqP m ⟨false,(s:Int)⟩=some (f s):=by
  intro s hs;obtain ⟨r,g,d⟩:=h4 s (by simpa using hs);have:f s=r:=by simp only [f,d,Option.getD_some]
  rw [this];exact ⟨g,d⟩
 have h:((List.range ks.toNat).map f).Nodup:=by rw [List.nodup_iff_pairwise_ne,List.pairwise_map];refine List.Pairwise.imp_of_mem ?_ (List.nodup_iff_pairwise_ne.1 List.nodup_range);intro a b l o i j;refine i (F.inj a b (by simpa using l) (by simpa using o) (f a) (hf a (by simpa using l)).2 ?_);rw [j];exact (hf b (by simpa using o)).2
 have k:=ap9 _ (st.erase n) h (λx q=>by
  obtain ⟨s,c,rfl⟩:=List.mem_map.1 q;have c:s<ks.toNat:=by simpa using c
  exact (List.mem_erase_of_ne (λe=>p s c (by rw [(hf s c).2,e]))).2 (hf s c).1)
 rw [List.length_erase_of_mem hs,cq5,List.length_range] at k;have:=List.length_pos_of_mem hs;omega
theorem Fine.put {P P':Int->Prop} {ks:Int} {m:Holds} (F:Fine P ks m) (f:∀ r,P r->P' r) {n:Int} (d:bM5 m ks n) (g:P' n) (q:Int):Fine P' ks (mput eqP m ⟨false,q⟩ n):=by
 have hg:∀ (a:Nat),mget eqP (mput eqP m ⟨false,q⟩ n) ⟨false,(a:Int)⟩=if q=a then some n else mget eqP m ⟨false,(a:Int)⟩:=by intro a;rw [J4];simp
 refine ⟨λa b c e r h1 h2=>?_,λa c r h1=>?_⟩
 .rw [hg] at h1 h2;by_cases h3:q=a<;>by_cases h4:q=b
  .omega
  .rw [if_pos h3] at h1;rw [if_neg h4] at h2;simp only [cn4] at h1;subst h1;exact (d b e h2).elim
  .rw [if_neg h3] at h1;rw [if_pos h4] at h2;simp only [cn4] at h2;subst h2;exact (d a c h1).elim
  .rw [if_neg h3] at h1;rw [if_neg h4] at h2;exact F.inj a b c e r h1 h2
 .rw [hg] at h1;by_cases h3:q=a
  .rw [if_pos h3] at h1;simp only [cn4] at h1;subst h1;exact g
  .rw [if_neg h3] at h1;exact f r (F.reg a c r h1)
theorem Fine.mono {P P':Int->Prop} {ks:Int} {m:Holds} (F:Fine P ks m) (b:∀ r,P r->P' r):Fine P' ks m:=⟨F.inj,λa c r h=>b r (F.reg a c r h)⟩
theorem bl2 (s:AS) (x:Held):(aT9 s x).holds=s.holds:=by unfold aT9;cases (mget eqI s.cells x.reg).isSome<;>rfl
theorem aw2 (sp:Spans) (rd:Reads) (ks N:Int) (s:AS) (pl:Int) (st:List Int):(G6 sp rd ks N s pl st).2.holds=s.holds:=by
 unfold G6;split
 .rfl
 .exact bl2 _ _
theorem aJ4 (sp:Spans) (rd:Reads) (ks N i:Int) (fr:List Int) (s:AS) (n:Int):((D9 s.holds ks n).cell=true/\(K1 sp rd ks N i fr s n).holds=mput eqP s.holds ⟨false,(G6 sp rd ks N s i fr).1⟩ n)\/((D9 s.holds ks n).cell=false/\K1 sp rd ks N i fr s n=s):=by
 unfold K1;have:=aw2 sp rd ks N s i fr;cases h:(D9 s.holds ks n).cell with
 |true=>exact .inl ⟨rfl,by simp only [cond_true];rw [this]⟩
 |false=>exact .inr ⟨rfl,rfl⟩
theorem at2 {P:Int->Prop} {sp:Spans} {rd:Reads} {ks N i:Int} {fr:List Int}:∀ (l:List Int) {s:AS},Fine P ks s.holds->(∀ n∈l,P n)->Fine P ks (F4 sp rd ks N i fr s l).holds
 |[],s,F,_=>F
 |n::r,s,F,h=>by
  refine at2 r (s:=K1 sp rd ks N i fr s n) ?_ (λx a=>h x (by simp [a]));rcases aJ4 sp rd ks N i fr s n with ⟨h1,h2⟩|⟨h1,h2⟩
  .rw [h2];exact F.put (λ_ h=>h) (aH8.1 h1) (h n (by simp)) _
  .rw [h2];exact F
theorem bd8 (sp:Spans) (rd:Reads) (ks N i:Int) (to:List Int) (s:AS) (n:Int):(aw1 sp rd ks N i to s n).holds=mput eqP s.holds ⟨false,(G6 sp rd ks N s (i+1) to).1⟩ n:=by have:=aw2 sp rd ks N s (i+1) to;show mput eqP (G6 sp rd ks N s (i+1) to).2.holds ⟨false,(G6 sp rd ks N s (i+1) to).1⟩ n=_;rw [this]
theorem bs3 {P:Int->Prop} {sp:Spans} {rd:Reads} {ks N i:Int} {to:List Int} {s:AS} (F:Fine P ks s.holds) (l:to.Nodup) (f:∀ n∈to,¬ P n):∀ (k:Nat),k<=to.length->Fine (λr=>P r\/r∈to.take k) ks (P8 sp rd ks N i to s (to.take k)).holds/\(∀ n,k<to.length->n=to.getD k 0->bM5 (P8 sp rd ks N i to s (to.take k)).holds ks n):=by
 intro k
 induction k with
 |zero=>intro _;refine ⟨F.mono λr h=>.inl h,λn g b a e hm=>?_⟩;have:=F.reg a e n hm;exact f n (by rw [b];exact G8 g 0) this
 |succ k ih=>
  intro g;obtain ⟨h1,h2⟩:=ih (by omega);have j:Fine (λr=>P r\/r∈to.take (k+1)) ks (P8 sp rd ks N i to s (to.take (k+1))).holds:=by
   rw [A4 (by omega) 0,aO2,bd8];refine h1.put (λr h=>?_) (h2 _ (by omega) rfl) (.inr (by simp)) _;rcases h with h|h
   .exact .inl h
   .exact .inr (by simp [h])
  refine ⟨j,λn c b a e hm=>?_⟩;rcases j.reg a e n hm with h3|h3
  .exact f n (by rw [b];exact G8 c 0) h3
  .have d:=l;rw [<-List.take_append_drop (k+1) to,List.nodup_append] at d;refine d.2.2 n h3 n ?_ rfl;rw [b,co8,cn6 c];exact List.mem_iff_getElem.2 ⟨0,by rw [List.length_drop];omega,by simp⟩
theorem bM6 {l:List Int} {n:Int}:n∈B5 l<->n∈l:=by
 have key:∀ (l seen:List Int),(n∈F6 seen l->n∈l)/\(n∈l->n∈F6 seen l\/n∈seen):=by
  intro l
  induction l with
  |nil=>intro seen;simp [F6]
  |cons x r ih=>
   intro seen;obtain ⟨h1,h2⟩:=ih (seen++[x]);simp only [F6];cases hc:seen.contains x with
   |true=>
    have hc:x∈seen:=by simpa [List.contains_iff_mem] using hc
    refine ⟨λh=>by simp [h1 h],λh=>?_⟩;simp only [List.mem_cons] at h;rcases h with rfl|h
    .exact .inr hc
    .rcases h2 h with h3|h3
     .exact .inl h3
     .simp only [cq1,co5] at h3;rcases h3 with h3|rfl
      .exact .inr h3
      .exact .inr hc
   |false=>
    simp only [cond_false,List.mem_cons];refine ⟨λh=>?_,λh=>?_⟩
    .rcases h with h|h
     .exact .inl h
     .exact .inr (h1 h)
    .rcases h with rfl|h
     .exact .inl (.inl rfl)
     .rcases h2 h with h3|h3
      .exact .inl (.inr h3)
      .simp only [cq1,co5] at h3;rcases h3 with h3|rfl
       .exact .inr h3
       .exact .inl (.inl rfl)
 obtain ⟨h1,h2⟩:=key l [];exact ⟨h1,λh=>(h2 h).resolve_right (by simp)⟩
theorem ci0 {P:Int->Prop} {sp:Spans} {rd:Reads} {ks N i:Int} {x:Ins} {s:AS} (F:Fine P ks s.holds) (a:fewX ks x=true) (hf:∀ n∈x.from_,P n) (b:x.to.Nodup) (d:∀ n∈x.to,¬ P n):
  doOk sp rd ks N i x s/\Fine (λr=>P r\/r∈x.to) ks (doOf sp rd ks N i x s).holds:=by
 simp only [fewX,cn7,cp6] at a;have e:∀ n∈B5 x.from_,P n:=λn b=>hf n (bM6.1 b);have F1:=at2 (sp:=sp) (rd:=rd) (N:=N) (i:=i) (fr:=B5 x.from_) (B5 x.from_) F e;refine ⟨⟨λk c hc=>?_,λk c=>?_⟩,?_⟩
 .have Fk:=at2 (sp:=sp) (rd:=rd) (N:=N) (i:=i) (fr:=B5 x.from_) ((B5 x.from_).take k) F (λn b=>e n (List.mem_of_mem_take b));exact bd7 Fk (aH8.1 hc) (G8 c 0) a.1 sp rd N i
 .obtain ⟨h1,h2⟩:=bs3 (sp:=sp) (rd:=rd) (N:=N) (i:=i) F1 b d k (by omega);exact bd7 h1 (h2 _ c rfl) (G8 c 0) a.2 sp rd N (i+1)
 .have:=(bs3 (sp:=sp) (rd:=rd) (N:=N) (i:=i) F1 b d x.to.length (Nat.le_refl _)).1;rw [cq2] at this;exact this
theorem bM7 {a:Int} {b:List Ins} {c:List Int} (C:Checked a b c) {ks:Int} (g:b.all (fewX ks)=true) (sp:Spans) (rd:Reads) (N:Int):∀ k,k<=b.length->Fine (λr=>r<a\/r∈wr (b.take k)) ks (runA sp rd ks N (b.take k) 0 (J8 a)).holds/\(k<b.length->doOk sp rd ks N k (b.getD k ins0) (runA sp rd ks N (b.take k) 0 (J8 a))):=by
 have step:∀ k,k<b.length->Fine (λr=>r<a\/r∈wr (b.take k)) ks (runA sp rd ks N (b.take k) 0 (J8 a)).holds->doOk sp rd ks N k (b.getD k ins0) (runA sp rd ks N (b.take k) 0 (J8 a))/\Fine (λr=>(r<a\/r∈wr (b.take k))\/r∈(b.getD k ins0).to) ks (doOf sp rd ks N k (b.getD k ins0) (runA sp rd ks N (b.take k) 0 (J8 a))).holds:=by
  intro k f F;have j:b=b.take k++b.getD k ins0::b.drop (k+1):=by
   conv=>lhs;rw [<-List.take_append_drop (k+1) b,A4 f ins0]
   simp
  have e:=G8 f ins0;refine ci0 F (cq4.1 g _ e) (λn i=>?_) ?_ (λn i=>?_)
  .have:=C.there;rw [j] at this;simpa using X1 this n i
  .have d:=G5.1 C.once;rw [j,U8,as3] at d;exact (List.nodup_append.1 (List.nodup_append.1 d).2.1).1
  .rintro (h|h)
   .have:=C.new n (cl6.2 ⟨_,e,i⟩);omega
   .have d:=G5.1 C.once;rw [j,U8,as3] at d;exact (List.nodup_append.1 d).2.2 n h n (List.mem_append_left _ i) rfl
 intro k
 induction k with
 |zero=>intro _;have F0:Fine (λr=>r<a\/r∈wr (b.take 0)) ks (runA sp rd ks N (b.take 0) 0 (J8 a)).holds:=⟨λx y _ _ r h=>by simp [runA,J8,mget] at h,λx _ r h=>by simp [runA,J8,mget] at h⟩;exact ⟨F0,λf=>(step 0 f F0).1⟩
 |succ k ih=>
  intro f;obtain ⟨F,_⟩:=ih (by omega);have F1:=(step k (by omega) F).2;have F2:Fine (λr=>r<a\/r∈wr (b.take (k+1))) ks (runA sp rd ks N (b.take (k+1)) 0 (J8 a)).holds:=by
   rw [A4 (by omega) ins0,bd6,cq3,Nat.min_eq_left (by omega)];refine F1.mono λr h=>?_;rw [U8,cq1];rcases h with (h|h)|h
   .exact .inl h
   .exact .inr (.inl h)
   .exact .inr (.inr (by simpa [wr] using h))
  exact ⟨F2,λf=>(step (k+1) f F2).1⟩
theorem bW3 (sp:Spans) (rd:Reads) (ks N i:Int) (x:Ins) (s:AS):(doOf sp rd ks N i x s).code.length<=s.code.length+2*(B5 x.from_).length+x.to.length+1/\s.ocells<=(doOf sp rd ks N i x s).ocells/\(doOf sp rd ks N i x s).ocells<=s.ocells+(B5 x.from_).length+x.to.length:=by
 have h1:=ab5 sp rd ks N i (B5 x.from_) (B5 x.from_) s;have h2:=aH7 sp rd ks N i x.to x.to (F4 sp rd ks N i (B5 x.from_) s (B5 x.from_));have hc:(doOf sp rd ks N i x s).code.length=(P8 sp rd ks N i x.to (F4 sp rd ks N i (B5 x.from_) s (B5 x.from_)) x.to).code.length+1:=by simp only [doOf,cp5,cp0,List.length_nil]
 have a:(doOf sp rd ks N i x s).ocells=(P8 sp rd ks N i x.to (F4 sp rd ks N i (B5 x.from_) s (B5 x.from_)) x.to).ocells:=rfl;rw [hc,a];omega
theorem bs4 {ks:Int} (a:ks<=64) (sp:Spans) (rd:Reads) (N:Int):∀ (l:List Ins) (i:Int) (s:AS),l.all (fewX ks)=true->(runA sp rd ks N l i s).code.length<=s.code.length+193*l.length/\s.ocells<=(runA sp rd ks N l i s).ocells/\(runA sp rd ks N l i s).ocells<=s.ocells+128*l.length
 |[],i,s,_=>by simp [runA]
 |x::r,i,s,h=>by simp only [List.all_cons,cn7] at h;have h1:=h.1;simp only [fewX,cn7,cp6] at h1;have h2:=bW3 sp rd ks N i x s;have h3:=bs4 a sp rd N r (i+1) (doOf sp rd ks N i x s) h.2;simp only [runA,cp0];omega
theorem bd9 (m:Reads) (k:Int) (l:List Int) (n:Int):getL (mput eqI m k l) n=if k=n then l else getL m n:=by unfold getL;rw [ap1];split<;>rfl
theorem af2 (i:Int):∀ (l:List Int) (m:Reads),(∀ n,(getL m n).Pairwise (·<=·)/\∀ x∈getL m n,x<=i)->∀ n,(getL (G0 m l i) n).Pairwise (·<=·)/\∀ x∈getL (G0 m l i) n,x<=i
 |[],m,h,n=>h n
 |y::r,m,h,n=>by
  refine af2 i r (mput eqI m y (getL m y++[i])) (λk=>?_) n;rw [bd9];split
  .rename_i e;subst e;refine ⟨List.pairwise_append.2 ⟨(h y).1,by simp,λa f b d=>?_⟩,λx c=>?_⟩
   .simp only [co5] at d;subst d;exact (h y).2 a f
   .simp only [cq1,co5] at c;rcases c with c|rfl
    .exact (h y).2 x c
    .exact Int.le_refl _
  .exact h k
theorem aj4:∀ (l:List Ins) (i:Int) (m:Reads),(∀ n,(getL m n).Pairwise (·<=·)/\∀ x∈getL m n,x<=i)->ae7 (M8 l i m)
 |[],i,m,h=>λn=>(h n).1
 |x::r,i,m,h=>by refine aj4 r (i+1) _ (λn=>?_);obtain ⟨h1,h2⟩:=af2 i (B5 x.from_) m h n;exact ⟨h1,λy a=>by have:=h2 y a;omega⟩
theorem aJ5 (code:List Ins):ae7 (K9 code):=aj4 code 0 [] (λn=>by simp [getL,mget])
theorem aw3 (x:Ins):∀ (l:List Ins) (i:Int) (m:Reads),M8 (l++[x]) i m=G0 (M8 l i m) (B5 x.from_) (i+l.length)
 |[],i,m=>by simp [M8]
 |y::l,i,m=>by simp only [List.cons_append,M8,aw3 x l,cp0];congr 1;omega
theorem bl3 (k:Nat):af0 (k+1)=mput eqI (af0 k) k k:=by simp [af0,List.range_succ]
abbrev tysR:List Ty:=[i64,inss,ints,ints,mapS,mapR,mapP,mapI,i64,i64,i64,i64,i64]
abbrev objR (b:Nat):List OPat:=[.box 79 [.ptr 2 0],.box 86 [.d b,.d (b+1),.d (b+2),.d (b+3),.map 4,.ms 3,.map 5,.map 6,.d (b+8),.d (b+9),.d (b+10),.nil,.nil],.ms (b+5),.map (b+4),.map (b+6),.map (b+7),.box 3 [.d (b+11)],.box 3 [.d (b+12)]]
abbrev ylR:List (Nat×Nat):=[(0,0),(1,1),(2,2),(4,4),(5,5),(6,6),(7,7),(8,8)]
def aq0:Con RU:=⟨[one,one],i64::i64::tysR,[.d 0,.yld 0],.loop 1::objR 2,some λp=>match p with
  |(n,st,a0,a1,a2,a3,sp,rd,ho,ce,op,ks,oc,i,many,())=>st=0/\(∀ n,(getL rd n).length<=1000001)/\0<=many/\many<=140737488356000,
 none,[one],.bool::i64::tysR,[.d 0],.loop 1::objR 2,λp=>match p with
  |(n,st,a0,a1,a2,a3,sp,rd,ho,ce,op,ks,oc,i,many,())=>(true,0,a0,a1,a2,a3,sp,mput eqI rd n (getL rd n++[i]),ho,ce,op,ks,oc,i,many+1,()),[],ylR,[(1,1000001),(7,1000007),(8,1000008)]⟩
def aU7:Con RU:=⟨[one,one],i64::tysR++aF3,[.yld 0,.ptr 9 0],.loop 0::objR 1++[.box 52 [.d 14,.d 15,.d 16,.d 17,.d 18]],some λp=>match p with
  |(st,a0,a1,a2,a3,sp,rd,ho,ce,op,ks,oc,i,many,x1,x2,x3,x4,x5,())=>st=0/\(∀ n,(getL rd n).length<=1000000)/\many=0,
 none,[],i64::tysR,[],.loop 0::objR 1++[.box 52 [.un,.un,.un,.un,.un]],λp=>match p with
  |(st,a0,a1,a2,a3,sp,rd,ho,ce,op,ks,oc,i,many,x1,x2,x3,x4,x5,())=>(0,a0,a1,a2,a3,sp,G0 rd (B5 x4) i,ho,ce,op,ks,oc,i,many+(B5 x4).length,()),[],ylR,[(1,448),(7,512),(8,640)]⟩
def itAlloc:FuncId->List (Con RU×Con RU×List (Nat×Nat)):=λf=>bif Nat.beq f 83 then [(aU7,aq0,[(0,0),(1,1),(2,2),(3,3),(4,4),(5,5),(6,6),(7,7),(8,8)])] else []
def bl4 (fr:List Int) (rd:Reads) (i many:Int):Nat->St RU->Ann RU:=λ_ _=>⟨[],[.slot 8,.row 1000000,.row 1000003,.box 1000008 0],[i64,i64,mapR,i64],λp=>0<=p.1/\p.1<=fr.length/\p.2.1=0/\p.2.2.1=G0 rd (B5 (fr.take p.1.toNat)) i/\p.2.2.2.1=many+(B5 (fr.take p.1.toNat)).length,λp=>fr.length-p.1.toNat,[]⟩
def cAlloc:Con RU:=con [(true,4),one] [i64,inss,ints,ints,i64] [(true,5),one] [i64,i64,i64,ak9,W5,i64] [false,false,false,false,false,false] (some λp=>as4 p.2.1=true/\K4 p.2.1=true/\p.2.2.1.length<=8796093022200) λp=>
 ((B9 ⟨p.1,p.2.1,p.2.2.1,p.2.2.2.1⟩ p.2.2.2.2.1).1.params,(B9 ⟨p.1,p.2.1,p.2.2.1,p.2.2.2.1⟩ p.2.2.2.2.1).1.slots,(B9 ⟨p.1,p.2.1,p.2.2.1,p.2.2.2.1⟩ p.2.2.2.2.1).1.cells,(B9 ⟨p.1,p.2.1,p.2.2.1,p.2.2.2.1⟩ p.2.2.2.2.1).1.code,(B9 ⟨p.1,p.2.1,p.2.2.1,p.2.2.2.1⟩ p.2.2.2.2.1).1.out,(B9 ⟨p.1,p.2.1,p.2.2.1,p.2.2.2.1⟩ p.2.2.2.2.1).2,())
def bM8 (a:Int) (b:List Ins) (c:List Int) (ks:Int):Nat->St RU->Ann RU:=λk s=>match k with
 |0=>⟨[],[.slot 48,.row 2176],[i64,mapR],λp=>0<=p.1/\p.1<=b.length/\p.2.1=M8 (b.take p.1.toNat) 0 []/\(b.take p.1.toNat).all (fewX ks)=true,λp=>b.length-p.1.toNat,[(.seen 2176,0,0,.bool)]⟩
 |1=>⟨[],[],[],λ_=>False,λ_=>0,[]⟩
 |2=>⟨[],[.slot 86,.row 2304],[i64,mapI],λp=>0<=p.1/\p.1<=a/\p.2.1=af0 p.1.toNat,λp=>a.toNat-p.1.toNat,[(.seen 2176,0,0,.bool)]⟩
 |3=>⟨[],[.slot 99,.row 2240,.row 2304,.box 2816 10,.row 900001],[i64,mapP,mapI,i64,ak9],λp=>0<=p.1/\p.1<=b.length/\runA (A8 a b c) (K9 b) ks b.length (b.take p.1.toNat) 0 (J8 a)=⟨p.2.1,p.2.2.1,p.2.2.2.1,p.2.2.2.2.1⟩,λp=>b.length-p.1.toNat,[(.box 2816 11,900001,55,.user 1),(.box 2816 12,900002,59,.user 2)]⟩
 |_=>⟨[],[.slot 112,.row 900002],[i64,W5],λp=>0<=p.1/\p.1<=c.length/\p.2.1=(c.take p.1.toNat).map (outA (runA (A8 a b c) (K9 b) ks b.length b 0 (J8 a)) ks),λp=>c.length-p.1.toNat,[]⟩
theorem bM9 (st g:Int) (d:List Ins) (e f:List Int) (sp:Spans) (rd:Reads) (h:Holds) (ce:List (Int×Int)) (op ks oc i many l m:Int) (j a:List Int) (k:List Ins):vc (EVy ylR (some aq0) [(61,cContains)]) (bl4 a rd i many) Go.Proofs.Tryd.f83 aU7 (st,g,d,e,f,sp,rd,h,ce,op,ks,oc,i,many,l,m,j,a,k,())=(
 let q:Int×Int×List Ins×List Int×List Int×List (Int×Span)×List (Int×List Int)×List (Place×Int)×List (Int×Int)×Int×Int×Int×Int×Int×Unit:=
  ((0:Int),g,d,e,f,sp,G0 rd (B5 a) i,h,ce,op,ks,oc,i,many+(↑(List.length (B5 a)):Int),());
 let c:Int:=(↑(List.length a):Int);
  Small RU (Sigma.mk (Ty.slice (52:Nat) (Ty.user (0:Nat))) d)->
  Small RU (Sigma.mk (Ty.slice (3:Nat) (Ty.int IntKind.i64)) e)->
  Small RU (Sigma.mk (Ty.slice (3:Nat) (Ty.int IntKind.i64)) f)->
  Small RU (Sigma.mk (Ty.slice (3:Nat) (Ty.int IntKind.i64)) j)->
  Small RU (Sigma.mk (Ty.slice (3:Nat) (Ty.int IntKind.i64)) a)->
  Small RU (Sigma.mk (Ty.slice (52:Nat) (Ty.user (0:Nat))) k)->
  (∃ (p:Int×Int×List (Int×List Int)×Int×Unit),
  a=a/\
  c=c/\
  (0:Int)=p.1/\
  st=p.2.1/\
  g=g/\
  d=d/\
  e=e/\
  f=f/\
  op=op/\
  ks=ks/\
  oc=oc/\
  rd=p.2.2.1/\
  sp=sp/\
  h=h/\
  ce=ce/\
  i=i/\
  many=p.2.2.2.1/\
  l=l/\
  m=m/\
  j=j/\
  a=a/\
  k=k/\
  (0:Int)<=p.1/\
  p.1<=c/\
  p.2.1=(0:Int)/\
  p.2.2.1=G0 rd (B5 (List.take (Int.toNat p.1) a)) i/\
  p.2.2.2.1=many+(↑(List.length (B5 (List.take (Int.toNat p.1) a))):Int))/\
  ∀ (p:Int×Int×List (Int×List Int)×Int×Unit),
 let e0_1:Int:=p.2.2.2.1;
 let e1_1:List (Int×List Int):=p.2.2.1;
 let r:List (Int×List Int):=mput eqI e1_1 (List.getD a (Int.toNat p.1) (0:Int)) (getL e1_1 (List.getD a (Int.toNat p.1) (0:Int))++[i]);
 let b:Int:=p.1;
 let o:Int:=p.2.1;
 let s:Bool:=decide (b<c);
 let t:Bool:=List.contains (List.take (Int.toNat b) a) (List.getD a (Int.toNat b) (0:Int));
 let u:Int:=e0_1+(1:Int);
  (0:Int)<=b/\b<=c/\o=(0:Int)/\e1_1=G0 rd (B5 (List.take (Int.toNat b) a)) i/\e0_1=many+(↑(List.length (B5 (List.take (Int.toNat b) a))):Int)->
  (s=true->
  ((0:Int)<=b/\b<c)/\
  ((0:Int)<=b/\b<=c)/\
  (t=true->
  ∃ (p':Int×Int×List (Int×List Int)×Int×Unit),
  a=a/\
  c=c/\
  IntKind.i64.wrap (b+(1:Int))=p'.1/\
  o=p'.2.1/\
  g=g/\
  d=d/\
  e=e/\
  f=f/\
  op=op/\
  ks=ks/\
  oc=oc/\
  e1_1=p'.2.2.1/\
  sp=sp/\
  h=h/\
  ce=ce/\
  i=i/\
  e0_1=p'.2.2.2.1/\
  l=l/\
  m=m/\
  j=j/\
  a=a/\
  k=k/\
  ((0:Int)<=p'.1/\
  p'.1<=c/\
  p'.2.1=(0:Int)/\
  p'.2.2.1=G0 rd (B5 (List.take (Int.toNat p'.1) a)) i/\
  p'.2.2.2.1=many+(↑(List.length (B5 (List.take (Int.toNat p'.1) a))):Int))/\
  List.length a-Int.toNat p'.1<List.length a-Int.toNat b)/\
  (t=false->
  (o=(0:Int)/\(∀ (n:Int),List.length (getL e1_1 n)<=(1000001:Nat))/\(0:Int)<=e0_1/\e0_1<=(140737488356000:Int))/\
  ((!true)=true->((0:Int),g,d,e,f,sp,r,h,ce,op,ks,oc,i,u,())=q)/\
  ((!true)=false->
  ∃ (p':Int×Int×List (Int×List Int)×Int×Unit),
  a=a/\
  c=c/\
  IntKind.i64.wrap (b+(1:Int))=p'.1/\
  (0:Int)=p'.2.1/\
  g=g/\
  d=d/\
  e=e/\
  f=f/\
  op=op/\
  ks=ks/\
  oc=oc/\
  r=p'.2.2.1/\
  sp=sp/\
  h=h/\
  ce=ce/\
  i=i/\
  u=p'.2.2.2.1/\
  l=l/\
  m=m/\
  j=j/\
  a=a/\
  k=k/\
  ((0:Int)<=p'.1/\
  p'.1<=c/\
  p'.2.1=(0:Int)/\
  p'.2.2.1=G0 rd (B5 (List.take (Int.toNat p'.1) a)) i/\
  p'.2.2.2.1=many+(↑(List.length (B5 (List.take (Int.toNat p'.1) a))):Int))/\
  List.length a-Int.toNat p'.1<List.length a-Int.toNat b)))/\
  (s=false->(o,g,d,e,f,sp,e1_1,h,ce,op,ks,oc,i,e0_1,())=q)):=by kernel_rfl
theorem bW4 (a:Int) (b:List Ins) (c d:List Int) (ks:Int):vc (EVd [] itAlloc [(41,cCheck),(51,cSpans),(52,cReads),(53,cDo),(54,cSlot)]) (bM8 a b c ks) Go.Proofs.Tryd.f15 cAlloc (a,b,c,d,ks,())=(
 let j:Int×Int×Int×List RIns×List Place×Int×Unit:=
  ((B9 (VFun.mk a b c d) ks).1.params,(B9 (VFun.mk a b c d) ks).1.slots,(B9 (VFun.mk a b c d) ks).1.cells,(B9 (VFun.mk a b c d) ks).1.code,
  (B9 (VFun.mk a b c d) ks).1.out,(B9 (VFun.mk a b c d) ks).2,());
 let g:Bool:=decide (ks<(1:Int))||decide (ks >(64:Int));
 let e:Int:=(↑(List.length b):Int);
 let f:Ins:=Ins.mk (0:Int) (0:Int) [] [] [];
 let h:Bool:=E4 (VFun.mk a b c d) !=(0:Int);
 let l:Int:=(↑(List.length c):Int);
 let i:Int:=E4 (VFun.mk a b c d);
  Small RU (Sigma.mk (Ty.slice (52:Nat) (Ty.user (0:Nat))) b)->
  Small RU (Sigma.mk (Ty.slice (3:Nat) (Ty.int IntKind.i64)) c)->
  Small RU (Sigma.mk (Ty.slice (3:Nat) (Ty.int IntKind.i64)) d)->
  (h=true->((0:Int),(0:Int),(0:Int),[],[],i,())=j)/\
  (h=false->
  (g=true->((0:Int),(0:Int),(0:Int),[],[],(2:Int),())=j)/\
  (g=false->
  a<=(4000:Int)/\
  (∃ (p:Int×List (Int×List Int)×Unit),
  a=a/\
  b=b/\
  c=c/\
  d=d/\
  ks=ks/\
  i=i/\
  h=h/\
  g=g/\
  a=a/\
  b=b/\
  c=c/\
  d=d/\
  b=b/\
  e=e/\
  (0:Int)=p.1/\
  a=a/\
  b=b/\
  c=c/\
  d=d/\
  (0:Int)=(0:Int)/\
  (0:Int)=(0:Int)/\
  (0:Int)=(0:Int)/\
  A8 a b c=A8 a b c/\
  []=p.2.1/\
  ([]:List (Place×Int))=[]/\
  ([]:List (Int×Int))=[]/\
  a=a/\
  b=b/\
  c=c/\
  d=d/\
  a=a/\
  ks=ks/\
  a=a/\
  (0:Int)<=p.1/\
  p.1<=e/\
  p.2.1=M8 (List.take (Int.toNat p.1) b) (0:Int) []/\
  List.all (List.take (Int.toNat p.1) b) (fewX ks)=true)/\
  ∀ (p:Int×List (Int×List Int)×Unit),
 let e0_1:Bool:=
  decide ((0:Int)+(↑(List.length (B5 (List.getD b (Int.toNat p.1) f).from_)):Int) >ks)||decide ((↑(List.length (List.getD b (Int.toNat p.1) f).to):Int) >ks);
 let e1_1:List (Int×List Int):=p.2.1;
 let e2_1:Bool:=decide (p.1<e);
 let e3_1:Int:=p.1;
  (0:Int)<=e3_1/\e3_1<=e/\e1_1=M8 (List.take (Int.toNat e3_1) b) (0:Int) []/\List.all (List.take (Int.toNat e3_1) b) (fewX ks)=true->
  (e2_1=true->
  ((0:Int)<=e3_1/\e3_1<e)/\
  (∀
  (xs:
  Int×
  Int×
  Int×List Ins×List Int×List Int×List (Int×Span)×List (Int×List Int)×List (Place×Int)×List (Int×Int)×Int×Int×Int×Int×Int×Unit),
 let j:Int:=xs.2.2.2.2.2.2.2.2.2.2.2.2.2.1;
 let g:Int×Int×Int×Unit:=xs.2.2.2.2.2.2.2.2.2.2.2.2;
 let e:List Int:=Option.getD (mget (λ(x y:Int)=>x==y) xs.2.2.2.2.2.2.2.1 xs.1) [];
 let f:Int×Int×Int×Int×Int×Unit:=xs.2.2.2.2.2.2.2.2.2.2;
 let h:List (Place×Int)×List (Int×Int)×Int×Int×Int×Int×Int×Unit:=xs.2.2.2.2.2.2.2.2;
 let l:List (Int×Span)×List (Int×List Int)×List (Place×Int)×List (Int×Int)×Int×Int×Int×Int×Int×Unit:=xs.2.2.2.2.2.2;
 let i:List Int:=xs.2.2.2.2.2.1;
 let q:List Int:=xs.2.2.2.2.1;
 let m:List Ins:=xs.2.2.2.1;
 let r:Int:=xs.1;
 let o:
  Int×
  Int×List Ins×List Int×List Int×List (Int×Span)×List (Int×List Int)×List (Place×Int)×List (Int×Int)×Int×Int×Int×Int×Int×Unit:=
  xs.2;
  xs.2.1=(0:Int)/\
  (∀ (n:Int),List.length (getL xs.2.2.2.2.2.2.2.1 n)<=(1000001:Nat))/\
  (0:Int)<=xs.2.2.2.2.2.2.2.2.2.2.2.2.2.2.1/\xs.2.2.2.2.2.2.2.2.2.2.2.2.2.2.1<=(140737488356000:Int)->
  Small RU (Sigma.mk (Ty.slice (52:Nat) (Ty.user (0:Nat))) m)->
  Small RU (Sigma.mk (Ty.slice (3:Nat) (Ty.int IntKind.i64)) q)->
  Small RU (Sigma.mk (Ty.slice (3:Nat) (Ty.int IntKind.i64)) i)->
  o.1=(0:Int)/\
  (List.length e+List.length [j])*(8:Nat)<=(140737488355328:Nat)/\
  r=r/\
  (true,(0:Int),o.2.1,m,q,i,l.1,mput (λ(x y:Int)=>x==y) l.2.1 r (e++[j]),h.1,h.2.1,f.1,f.2.1,
  g.1,j,IntKind.i64.wrap (g.2.2.1+(1:Int)),())=
  aq0.fn xs)/\
  ((0:Int)=(0:Int)/\(∀ (n:Int),List.length (getL e1_1 n)<=(1000000:Nat))/\(0:Int)=(0:Int))/\
  (0:Int)=(0:Int)/\
  (e0_1=true->((0:Int),(0:Int),(0:Int),[],[],(9:Int),())=j)/\
  (e0_1=false->
  ∃ (p':Int×List (Int×List Int)×Unit),
  a=a/\
  b=b/\
  c=c/\
  d=d/\
  ks=ks/\
  i=i/\
  h=h/\
  g=g/\
  a=a/\
  b=b/\
  c=c/\
  d=d/\
  b=b/\
  e=e/\
  IntKind.i64.wrap (e3_1+(1:Int))=p'.1/\
  a=a/\
  b=b/\
  c=c/\
  d=d/\
  (0:Int)=(0:Int)/\
  (0:Int)=(0:Int)/\
  (0:Int)=(0:Int)/\
  A8 a b c=A8 a b c/\
  G0 e1_1 (B5 (List.getD b (Int.toNat e3_1) f).from_) e3_1=p'.2.1/\
  ([]:List (Place×Int))=[]/\
  ([]:List (Int×Int))=[]/\
  a=a/\
  b=b/\
  c=c/\
  d=d/\
  a=a/\
  ks=ks/\
  a=a/\
  ((0:Int)<=p'.1/\
  p'.1<=e/\
  p'.2.1=M8 (List.take (Int.toNat p'.1) b) (0:Int) []/\
  List.all (List.take (Int.toNat p'.1) b) (fewX ks)=true)/\
  List.length b-Int.toNat p'.1<List.length b-Int.toNat e3_1))/\
  (e2_1=false->
  (∃ (p:Int×List (Int×Int)×Unit),
  a=a/\
  b=b/\
  c=c/\
  d=d/\
  ks=ks/\
  i=i/\
  h=h/\
  g=g/\
  a=a/\
  b=b/\
  c=c/\
  d=d/\
  b=b/\
  e=e/\
  e3_1=e3_1/\
  e2_1=e2_1/\
  a=a/\
  (0:Int)=p.1/\
  a=a/\
  b=b/\
  c=c/\
  d=d/\
  (0:Int)=(0:Int)/\
  (0:Int)=(0:Int)/\
  (0:Int)=(0:Int)/\
  A8 a b c=A8 a b c/\
  e1_1=e1_1/\
  ([]:List (Place×Int))=[]/\
  []=p.2.1/\
  a=a/\
  b=b/\
  c=c/\
  d=d/\a=a/\ks=ks/\a=a/\(0:Int)<=p.1/\p.1<=a/\p.2.1=af0 (Int.toNat p.1))/\
  ∀ (p:Int×List (Int×Int)×Unit),
 let e0_2:Bool:=decide (p.1<a);
 let e1_2:Int:=p.1;
 let e2_2:List (Int×Int):=p.2.1;
  (0:Int)<=e1_2/\e1_2<=a/\e2_2=af0 (Int.toNat e1_2)->
  (e0_2=true->
  ∃ (p':Int×List (Int×Int)×Unit),
  a=a/\
  b=b/\
  c=c/\
  d=d/\
  ks=ks/\
  i=i/\
  h=h/\
  g=g/\
  a=a/\
  b=b/\
  c=c/\
  d=d/\
  b=b/\
  e=e/\
  e3_1=e3_1/\
  e2_1=e2_1/\
  a=a/\
  IntKind.i64.wrap (e1_2+(1:Int))=p'.1/\
  a=a/\
  b=b/\
  c=c/\
  d=d/\
  (0:Int)=(0:Int)/\
  (0:Int)=(0:Int)/\
  (0:Int)=(0:Int)/\
  A8 a b c=A8 a b c/\
  e1_1=e1_1/\
  ([]:List (Place×Int))=[]/\
  mput (λ(x y:Int)=>x==y) e2_2 e1_2 e1_2=p'.2.1/\
  a=a/\
  b=b/\
  c=c/\
  d=d/\
  a=a/\
  ks=ks/\
  a=a/\
  ((0:Int)<=p'.1/\p'.1<=a/\p'.2.1=af0 (Int.toNat p'.1))/\
  Int.toNat a-Int.toNat p'.1<Int.toNat a-Int.toNat e1_2)/\
  (e0_2=false->
  (∃ (p:Int×List (Place×Int)×List (Int×Int)×Int×List RIns×Unit),
  a=a/\
  b=b/\
  c=c/\
  d=d/\
  ks=ks/\
  i=i/\
  h=h/\
  g=g/\
  a=a/\
  b=b/\
  c=c/\
  d=d/\
  b=b/\
  e=e/\
  e3_1=e3_1/\
  e2_1=e2_1/\
  a=a/\
  e1_2=e1_2/\
  e0_2=e0_2/\
  b=b/\
  e=e/\
  (0:Int)=p.1/\
  a=a/\
  b=b/\
  c=c/\
  d=d/\
  (0:Int)=(0:Int)/\
  (0:Int)=(0:Int)/\
  (0:Int)=(0:Int)/\
  A8 a b c=A8 a b c/\
  e1_1=e1_1/\
  []=p.2.1/\
  e2_2=p.2.2.1/\
  a=a/\
  b=b/\
  c=c/\
  d=d/\
  a=a/\
  ks=ks/\
  a=p.2.2.2.1/\
  []=p.2.2.2.2.1/\
  ([]:List Place)=[]/\
  (0:Int)<=p.1/\
  p.1<=e/\
  runA (A8 a b c) (K9 b) ks e (List.take (Int.toNat p.1) b)
  (0:Int) (J8 a)=
  AS.mk p.2.1 p.2.2.1 p.2.2.2.1
  p.2.2.2.2.1)/\
  ∀ (p:Int×List (Place×Int)×List (Int×Int)×Int×List RIns×Unit),
 let e0_3:AS:=AS.mk p.2.1 p.2.2.1 p.2.2.2.1 p.2.2.2.2.1;
 let e1_3:Int:=p.2.2.2.1;
 let e2_3:AS:=
  doOf (A8 a b c) e1_1 ks e p.1
  (Ins.mk (List.getD b (Int.toNat p.1) f).op (List.getD b (Int.toNat p.1) f).n (List.getD b (Int.toNat p.1) f).to
  (List.getD b (Int.toNat p.1) f).from_ (List.getD b (Int.toNat p.1) f).body)
  e0_3;
 let e3_2:List RIns:=p.2.2.2.2.1;
 let e4_1:Int:=p.1;
 let e5_1:List (Int×Int):=p.2.2.1;
 let e6_1:List (Place×Int):=p.2.1;
 let q:Bool:=decide (e4_1<e);
 let m:List Int:=B5 (List.getD b (Int.toNat e4_1) f).from_;
 let r:List Int:=(List.getD b (Int.toNat e4_1) f).to;
 let o:Int:=e4_1+(1:Int);
  (0:Int)<=e4_1/\e4_1<=e/\runA (A8 a b c) (K9 b) ks e (List.take (Int.toNat e4_1) b) (0:Int) (J8 a)=e0_3->
  (q=true->
  ((0:Int)<=e4_1/\e4_1<e)/\
  (ae6 r (List.getD b (Int.toNat e4_1) f).from_ (List.getD b (Int.toNat e4_1) f).body=true/\
  List.length (List.getD b (Int.toNat e4_1) f).from_<=(17592186044400:Nat)/\
  List.length m<=(64:Nat)/\
  List.length r<=(64:Nat)/\
  (∀ (n:Int),List.Pairwise (λ(s t:Int)=>s<=t) (getL e1_1 n))/\
  ((∀ (k:Nat),
 let j:Option Int×List Held:=
  M1 (A8 a b c) e1_1 ks e (F4 (A8 a b c) e1_1 ks e e4_1 m e0_3 (List.take k m)).holds e4_1 m;
  k<List.length m->
  (D9 (F4 (A8 a b c) e1_1 ks e e4_1 m e0_3 (List.take k m)).holds ks (List.getD m k (0:Int))).cell=true->
  j.1=none->j.2≠[])/\
  ∀ (k:Nat),
 let j:Option Int×List Held:=
  M1 (A8 a b c) e1_1 ks e
  (P8 (A8 a b c) e1_1 ks e e4_1 r (F4 (A8 a b c) e1_1 ks e e4_1 m e0_3 m) (List.take k r)).holds o r;
  k<List.length r->j.1=none->j.2≠[])/\
  ks<=(64:Int)/\
  (0:Int)<=e4_1/\e4_1<=(1000000:Int)/\(0:Int)<=e1_3/\e1_3<=(100000000:Int)/\List.length e3_2<=(100000000:Nat))/\
  ∃ (p':Int×List (Place×Int)×List (Int×Int)×Int×List RIns×Unit),
  a=a/\
  b=b/\
  c=c/\
  d=d/\
  ks=ks/\
  i=i/\
  h=h/\
  g=g/\
  a=a/\
  b=b/\
  c=c/\
  d=d/\
  b=b/\
  e=e/\
  e3_1=e3_1/\
  e2_1=e2_1/\
  a=a/\
  e1_2=e1_2/\
  e0_2=e0_2/\
  b=b/\
  e=e/\
  IntKind.i64.wrap o=p'.1/\
  a=a/\
  b=b/\
  c=c/\
  d=d/\
  (0:Int)=(0:Int)/\
  (0:Int)=(0:Int)/\
  (0:Int)=(0:Int)/\
  A8 a b c=A8 a b c/\
  e1_1=e1_1/\
  e2_3.holds=p'.2.1/\
  e2_3.cells=p'.2.2.1/\
  a=a/\
  b=b/\
  c=c/\
  d=d/\
  a=a/\
  ks=ks/\
  e2_3.ocells=p'.2.2.2.1/\
  e2_3.code=p'.2.2.2.2.1/\
  ([]:List Place)=[]/\
  ((0:Int)<=p'.1/\
  p'.1<=e/\
  runA (A8 a b c) (K9 b) ks e
  (List.take (Int.toNat p'.1) b) (0:Int)
  (J8 a)=
  AS.mk p'.2.1 p'.2.2.1 p'.2.2.2.1
  p'.2.2.2.2.1)/\
  List.length b-Int.toNat p'.1<
  List.length b-Int.toNat e4_1)/\
  (q=false->
  (∃ (p:Int×List Place×Unit),
  a=a/\
  b=b/\
  c=c/\
  d=d/\
  ks=ks/\
  i=i/\
  h=h/\
  g=g/\
  a=a/\
  b=b/\
  c=c/\
  d=d/\
  b=b/\
  e=e/\
  e3_1=e3_1/\
  e2_1=e2_1/\
  a=a/\
  e1_2=e1_2/\
  e0_2=e0_2/\
  b=b/\
  e=e/\
  e4_1=e4_1/\
  q=q/\
  c=c/\
  l=l/\
  (0:Int)=p.1/\
  a=a/\
  b=b/\
  c=c/\
  d=d/\
  (0:Int)=(0:Int)/\
  (0:Int)=(0:Int)/\
  (0:Int)=(0:Int)/\
  A8 a b c=A8 a b c/\
  e1_1=e1_1/\
  e6_1=e6_1/\
  e5_1=e5_1/\
  a=a/\
  b=b/\
  c=c/\
  d=d/\
  a=a/\
  ks=ks/\
  e1_3=e1_3/\
  e3_2=e3_2/\
  []=p.2.1/\
  (0:Int)<=p.1/\
  p.1<=l/\
  p.2.1=
  List.map
  (outA
  (runA (A8 a b c) (K9 b) ks e b
  (0:Int) (J8 a))
  ks)
  (List.take (Int.toNat p.1) c))/\
  ∀ (p:Int×List Place×Unit),
 let e0_4:Bool:=
  (D9 e6_1 ks (List.getD c (Int.toNat p.1) (0:Int))).cell==true&&
  ((D9 e6_1 ks (List.getD c (Int.toNat p.1) (0:Int))).n==(-1:Int)&&true);
 let e1_4:List Place:=
  [Place.mk (bif e0_4 then true else (D9 e6_1 ks (List.getD c (Int.toNat p.1) (0:Int))).cell)
  (bif e0_4 then Option.getD (mget (λ(x y:Int)=>x==y) e5_1 (List.getD c (Int.toNat p.1) (0:Int))) (0:Int)
  else (D9 e6_1 ks (List.getD c (Int.toNat p.1) (0:Int))).n)];
 let e2_4:List Place:=p.2.1;
 let f:Int:=p.1;
 let e4_2:Bool:=decide (f<l);
  (0:Int)<=f/\f<=l/\e2_4=List.map (outA (runA (A8 a b c) (K9 b) ks e b (0:Int) (J8 a)) ks) (List.take (Int.toNat f) c)->
  (e4_2=true->
  ((0:Int)<=f/\f<l)/\
  ks<=(64:Int)/\
  (List.length (bif e0_4 then e2_4 else e2_4)+List.length e1_4)*(16:Nat)<=(140737488355328:Nat)/\
  ∃ (p':Int×List Place×Unit),
  (bif e0_4 then a else a)=a/\
  (bif e0_4 then b else b)=b/\
  (bif e0_4 then c else c)=c/\
  (bif e0_4 then d else d)=d/\
  (bif e0_4 then ks else ks)=ks/\
  (bif e0_4 then i else i)=i/\
  (bif e0_4 then h else h)=h/\
  (bif e0_4 then g else g)=g/\
  (bif e0_4 then a else a)=a/\
  (bif e0_4 then b else b)=b/\
  (bif e0_4 then c else c)=c/\
  (bif e0_4 then d else d)=d/\
  (bif e0_4 then b else b)=b/\
  (bif e0_4 then e else e)=e/\
  (bif e0_4 then e3_1 else e3_1)=e3_1/\
  (bif e0_4 then e2_1 else e2_1)=e2_1/\
  (bif e0_4 then a else a)=a/\
  (bif e0_4 then e1_2 else e1_2)=e1_2/\
  (bif e0_4 then e0_2 else e0_2)=e0_2/\
  (bif e0_4 then b else b)=b/\
  (bif e0_4 then e else e)=e/\
  (bif e0_4 then e4_1 else e4_1)=e4_1/\
  (bif e0_4 then q else q)=q/\
  (bif e0_4 then c else c)=c/\
  (bif e0_4 then l else l)=l/\
  IntKind.i64.wrap ((bif e0_4 then f else f)+(1:Int))=p'.1/\
  (bif e0_4 then a else a)=a/\
  (bif e0_4 then b else b)=b/\
  (bif e0_4 then c else c)=c/\
  (bif e0_4 then d else d)=d/\
  (bif e0_4 then (0:Int) else (0:Int))=(0:Int)/\
  (bif e0_4 then (0:Int) else (0:Int))=(0:Int)/\
  (bif e0_4 then (0:Int) else (0:Int))=(0:Int)/\
  (bif e0_4 then A8 a b c else A8 a b c)=A8 a b c/\
  (bif e0_4 then e1_1 else e1_1)=e1_1/\
  (bif e0_4 then e6_1 else e6_1)=e6_1/\
  (bif e0_4 then e5_1 else e5_1)=e5_1/\
  (bif e0_4 then a else a)=a/\
  (bif e0_4 then b else b)=b/\
  (bif e0_4 then c else c)=c/\
  (bif e0_4 then d else d)=d/\
  (bif e0_4 then a else a)=a/\
  (bif e0_4 then ks else ks)=ks/\
  (bif e0_4 then e1_3 else e1_3)=e1_3/\
  (bif e0_4 then e3_2 else e3_2)=e3_2/\
  (bif e0_4 then e2_4 else e2_4)++e1_4=
  p'.2.1/\
  ((0:Int)<=p'.1/\
  p'.1<=l/\
  p'.2.1=
  List.map
  (outA
  (runA (A8 a b c)
  (K9 b) ks e b (0:Int)
  (J8 a))
  ks)
  (List.take (Int.toNat p'.1)
  c))/\
  List.length c-Int.toNat p'.1<
  List.length c-Int.toNat f)/\
  (e4_2=false->(a,ks,e1_3,e3_2,e2_4,(0:Int),())=j))))))):=by kernel_rfl
theorem aH9 (l:List Int):(B5 l).Nodup:=by
 have key:∀ (l seen:List Int),(F6 seen l).Nodup/\∀ x∈F6 seen l,x∉seen:=by
  intro l
  induction l with
  |nil=>intro seen;simp [F6]
  |cons y r ih=>
   intro seen;obtain ⟨h1,h2⟩:=ih (seen++[y]);simp only [F6];cases hc:seen.contains y with
   |true=>exact ⟨h1,λx a h=>h2 x a (by simp [h])⟩
   |false=>
    have hc:y∉seen:=by rw [Bool.eq_false_iff,ne_eq,List.contains_iff_mem] at hc;exact hc
    simp only [cond_false];refine ⟨List.nodup_cons.2 ⟨λh=>h2 y h (by simp),h1⟩,λx a h=>?_⟩;rcases List.mem_cons.1 a with rfl|a
    .exact hc h
    .exact h2 x a (by simp [h])
 exact (key l []).1
theorem aU8 (m:Reads) (l:List Int) (x i:Int):G0 m (l++[x]) i=mput eqI (G0 m l i) x (getL (G0 m l i) x++[i]):=by simp [G0]
theorem af3 (i n:Int):∀ (l:List Int) (m:Reads),l.Nodup->(getL (G0 m l i) n).length<=(getL m n).length+(if n∈l then 1 else 0)
 |[],m,_=>by simp [G0]
 |y::r,m,h=>by
  obtain ⟨h1,h2⟩:=List.nodup_cons.1 h;have:=af3 i n r (mput eqI m y (getL m y++[i])) h2;rw [bd9] at this;show (getL (G0 (mput eqI m y (getL m y++[i])) r i) n).length<=_;by_cases a:y=n
  .subst a;rw [if_pos rfl,if_neg h1] at this;simp only [cp5,cp0,List.length_nil] at this;rw [if_pos (by simp)];omega
  .rw [if_neg a] at this;have b:(n∈y::r)<->n∈r:=by simp [Ne.symm a]
   simp only [b];exact this
theorem aI0 (n:Int):∀ (l:List Ins) (i:Int) (m:Reads),(getL (M8 l i m) n).length<=(getL m n).length+l.length
 |[],i,m=>by simp [M8]
 |x::r,i,m=>by have h1:=aI0 n r (i+1) (G0 m (B5 x.from_) i);have h2:=af3 i n (B5 x.from_) m (aH9 _);simp only [M8,cp0];split at h2<;>omega
theorem bN0 (st d:Int) (e:List Ins) (f g:List Int) (sp:Spans) (rd:Reads) (l:Holds) (ce:List (Int×Int)) (op ks oc i many s t:Int) (u a:List Int) (v:List Ins) (w:st=0/\(∀ n,(getL rd n).length<=1000000)/\many=0):
  vc (EVy ylR (some aq0) [(61,cContains)]) (bl4 a rd i many) Go.Proofs.Tryd.f83 aU7 (st,d,e,f,g,sp,rd,l,ce,op,ks,oc,i,many,s,t,u,a,v,()):=by
 rw [bM9 st d e f g sp rd l ce op ks oc i many s t u a v];intro x y _ _ _ _ o _;have c:a.length<=140737488355328:=o.len;have p:x=(0,d,e,f,g,sp,G0 rd (B5 a) i,l,ce,op,ks,oc,i,many+(B5 a).length,()):=rfl
 clear_value x
 dsimp only [y];simp only [true_and,and_true];refine ⟨⟨(0,0,rd,many,()),rfl,w.1,rfl,rfl,Int.le_refl _,by dsimp only;omega,rfl,rfl,by simp [B5,F6]⟩,?_⟩;rintro ⟨j,s0,m,mm,⟨⟩⟩ ⟨h0,h1,h2,h3,h4⟩;dsimp only at h0 h1 h2 h3 h4 |-;obtain ⟨k,rfl⟩:=co0 h0;simp only [cn8] at h3 h4 |-;subst h2;refine ⟨λb=>?_,λr=>?_⟩
 .have b:(k:Int)<a.length:=co4 b;have hs:=aO1 (a.take k) (a.getD k 0);rw [<-A4 (by omega)] at hs;have hl:=ae9 (a.take k);rw [cq3] at hl;refine ⟨⟨h0,b⟩,⟨h0,by omega⟩,λq=>?_,λq=>⟨⟨rfl,λn=>?_,by omega,by omega⟩,λh=>(by cases h),λ_=>?_⟩⟩
  .rw [q] at hs;exact ⟨((k+1:Nat),0,m,mm,()),B4 (by omega) c,rfl,rfl,rfl,⟨by omega,by dsimp only;omega,rfl,by dsimp only;rw [cn8,hs];exact h3,by dsimp only;rw [cn8,hs];exact h4⟩,by dsimp only;omega⟩
  .have z:=af3 i n (B5 (a.take k)) rd (aH9 _);have B:=w.2.1 n;rw [h3];split at z<;>omega
  .rw [q,cond_false] at hs;refine ⟨((k+1:Nat),0,_,_,()),B4 (by omega) c,rfl,rfl,rfl,⟨by omega,by dsimp only;omega,rfl,?_,?_⟩,by dsimp only;omega⟩
   .dsimp only;rw [cn8,hs,aU8,<-h3]
   .dsimp only;rw [cn8,hs,cp5,h4];simp only [cp0,List.length_nil];omega
 .have A:k=a.length:=by have:¬ (k:Int)<a.length:=co3 r;omega
  subst A;rw [cq2] at h3 h4;rw [p,h3,h4]
theorem bA8:ItOk itAlloc:=by
 intro f k kY mp h Y' p;unfold itAlloc at h;cases hf:Nat.beq f 83 with
 |false=>rw [hf] at h;cases h
 |true=>
  have hf:=cn5 hf;subst hf;simp only [Nat.beq_refl,cond_true,List.mem_cons,List.not_mem_nil,or_false,co6] at h;obtain ⟨rfl,rfl,rfl⟩:=h;exact ah3 (E:=EVy ylR (some aq0) [(61,cContains)]) (bS6 _ _ _) ⟨W4 (λx a=>by rcases List.mem_cons.1 a with rfl|a;exact M5 _;cases a),λ_ _ _ _ _ h=>(by cases h),λ_ _ _ h=>(by cases h),λk q=>by cases q;exact p,λ_ _ _ _ h=>(by cases h)⟩ bi2 Go.Proofs.Tryd.func83 (by kernel_rfl)
    (λ(st,c,d,e,g,sp,rd,j,ce,op,ks,oc,i,many,l,m,n,b,o,())=>bl4 b rd i many) (λ(st,c,d,e,g,sp,rd,j,ce,op,ks,oc,i,many,l,m,n,b,o,()) r=>bN0 st c d e g sp rd j ce op ks oc i many l m n b o r) (by kernel_rfl) rfl
theorem aO3:∀ {l:List Ins},K4 l=true->∀ x∈l,ax1 x=true
 |[],_,x,a=>by simp at a
 |y::r,h,x,a=>by
  simp only [K4,cn7] at h;rcases List.mem_cons.1 a with rfl|a
  .exact h.1
  .exact aO3 h.2 x a
theorem bW5 (a:Int) (b:List Ins) (c d:List Int) (ks:Int) (hp:as4 b=true/\K4 b=true/\c.length<=8796093022200):vc (EVd [] itAlloc [(41,cCheck),(51,cSpans),(52,cReads),(53,cDo),(54,cSlot)]) (bM8 a b c ks) Go.Proofs.Tryd.f15 cAlloc (a,b,c,d,ks,()):=by
 rw [bW4 a b c d ks];intro O Y e2 Z P e5 N _ _ _;obtain ⟨Q,R,hp3⟩:=hp;have o:O=((B9 ⟨a,b,c,d⟩ ks).1.params,(B9 ⟨a,b,c,d⟩ ks).1.slots,(B9 ⟨a,b,c,d⟩ ks).1.cells,(B9 ⟨a,b,c,d⟩ ks).1.code,(B9 ⟨a,b,c,d⟩ ks).1.out,(B9 ⟨a,b,c,d⟩ ks).2,()):=rfl;have s:N=E4 ⟨a,b,c,d⟩:=rfl;have y:P=(N !=0):=rfl;have z:Y=(decide (ks<1)||decide (ks >64)):=rfl;have S:Z=ins0:=rfl;have hA:B9 ⟨a,b,c,d⟩ ks=if E4 ⟨a,b,c,d⟩≠0 then (aF0,E4 ⟨a,b,c,d⟩) else if ks<1\/64<ks then (aF0,2) else if b.all (fewX ks)=false then (aF0,9)
   else (⟨a,ks,(runA (A8 a b c) (K9 b) ks b.length b 0 (J8 a)).ocells,(runA (A8 a b c) (K9 b) ks b.length b 0 (J8 a)).code,c.map (outA (runA (A8 a b c) (K9 b) ks b.length b 0 (J8 a)) ks)⟩,0):=rfl
 rw [hA] at o;clear hA
 clear_value O Y Z P
 subst S;have D:P=true->((0:Int),(0:Int),(0:Int),([]:List RIns),([]:List Place),N,())=O:=λh=>by
  have:E4 ⟨a,b,c,d⟩≠0:=by rw [y] at h;simpa [s] using h
  rw [o,if_pos this,<-s];rfl
 refine ⟨D,λh4=>⟨λh=>?_,λh=>?_⟩⟩
 .have E:¬ E4 ⟨a,b,c,d⟩≠0:=by rw [y] at h4;simpa [s] using h4
  have F:ks<1\/64<ks:=by rw [z] at h;simp only [Bool.or_eq_true,cp6] at h;omega
  rw [o,if_neg E,if_pos F];rfl
 have E:E4 ⟨a,b,c,d⟩=0:=by rw [y] at h4;simpa [s] using h4
 have F:1<=ks/\ks<=64:=by rw [z] at h;simp only [Bool.or_eq_false_iff,decide_eq_false_iff_not] at h;omega
 have C:=bk0 E;rw [if_neg (by rw [E];simp),if_neg (by omega)] at o;clear D E s
 clear_value N
 clear y z h4 h;have hlen:=C.len;have G:=C.pos;have hfew:=C.few;dsimp only [e2,e5];simp only [true_and,and_true,Bool.cond_self,Bool.and_true,bd5];refine ⟨C.few,⟨(0,[],()),rfl,rfl,Int.le_refl _,by dsimp only;omega,rfl,rfl⟩,?_⟩;rintro ⟨j,rd,⟨⟩⟩ ⟨h0,h1,h2,h3⟩;dsimp only at h0 h1 h2 h3 |-;obtain ⟨k,rfl⟩:=co0 h0;simp only [cn8] at h2 h3 |-;refine ⟨λe=>?_,λg=>?_⟩
 .have e:(k:Int)<b.length:=co4 e;have f:k<b.length:=by omega
  have hb:∀ x:Bool,fewX ks (b.getD k ins0)=x->b.all (fewX ks)=true->x=true:=λx h1 h2=>by rw [<-h1];exact cq4.1 h2 _ (G8 f _)
  have p:M8 (b.take (k+1)) 0 []=G0 rd (B5 (b.getD k ins0).from_) k:=by rw [A4 f ins0,aw3,cq3,Nat.min_eq_left (by omega),<-h2];simp
  have r:fewX ks (b.getD k ins0)=true->(b.take (k+1)).all (fewX ks)=true:=λh=>Y9 ins0 f h3 h;have t:fewX ks (b.getD k ins0)=false->b.all (fewX ks)=false:=λh=>as5 ins0 f h;obtain ⟨x,T⟩:∃ x,b.getD k ins0=x:=⟨_,rfl⟩;simp only [T] at hb p r t |-;have H:(decide ((0:Int)+((B5 x.from_).length:Int) >ks)||decide ((x.to.length:Int) >ks))=!fewX ks x:=by unfold fewX;rw [Bool.eq_iff_iff];simp only [Bool.or_eq_true,cp6,Bool.not_eq_true',Bool.and_eq_false_iff,decide_eq_false_iff_not];omega
  rw [H];refine ⟨⟨h0,e⟩,?_,?_,λq=>?_,λq=>?_⟩
  .rintro ⟨n,st,a0,a1,a2,a3,sp,rd2,ho,ce,op,ks2,oc,i,many,⟨⟩⟩ ⟨q1,q2,q3,q4⟩ _ _ _;dsimp only at q1 q2 q3 q4 |-;have q5:=q2 n;refine ⟨q1,?_,?_⟩
   .show ((getL rd2 n).length+1)*8<=_;omega
   .rw [L5 (by omega) (by omega)];rfl
  .intro n;have:=aI0 n (b.take k) 0 [];rw [<-h2,cq3] at this;have hg:(getL ([]:Reads) n).length=0:=rfl;omega
  .have q:fewX ks x=false:=by simpa using q
   rw [o,if_pos (t q)];rfl
  .have q:fewX ks x=true:=by simpa using q
   exact ⟨((k+1:Nat),_,()),B4 f (by omega),rfl,⟨by omega,by dsimp only;omega,by dsimp only;rw [cn8,p];rfl,by dsimp only;rw [cn8];exact r q⟩,by dsimp only;omega⟩
 have I:k=b.length:=by have:¬ (k:Int)<b.length:=co3 g;omega
 subst I;rw [cq2] at h2 h3;have U:rd=K9 b:=h2;subst U;clear h2 h0 h1 g;rw [if_neg (by rw [h3];simp)] at o;refine ⟨⟨(0,[],()),rfl,rfl,Int.le_refl _,G,rfl⟩,?_⟩;rintro ⟨j,ce,⟨⟩⟩ ⟨h0,h1,h2⟩;dsimp only at h0 h1 h2 |-;obtain ⟨k,rfl⟩:=co0 h0;simp only [cn8] at h2 |-;subst h2;refine ⟨λe=>?_,λg=>?_⟩
 .have e:(k:Int)<a:=co4 e;refine ⟨((k+1:Nat),af0 (k+1),()),?_,(bl3 k).symm,⟨by omega,by dsimp only;omega,by dsimp only;rw [cn8]⟩,by dsimp only;omega⟩;rw [L5 (by omega) (by omega)];rfl
 have I:(k:Int)=a:=by have:¬ (k:Int)<a:=co3 g;omega
 have V:J8 a=⟨[],af0 k,a,[]⟩:=by
  have:a.toNat=k:=by omega
  simp only [J8,this]
 clear h0 h1 g;refine ⟨⟨(0,[],af0 k,a,[],()),rfl,rfl,rfl,rfl,rfl,Int.le_refl _,by dsimp only;omega,by simp only [Int.toNat_zero,List.take_zero,runA];exact V⟩,?_⟩;rintro ⟨j,m,cc,oc,q,⟨⟩⟩ ⟨h0,h1,h2⟩;dsimp only at h0 h1 h2 |-;obtain ⟨u,rfl⟩:=co0 h0;simp only [cn8] at h2 |-;have W:=bs4 F.2 (A8 a b c) (K9 b) b.length (b.take u) 0 (J8 a) (cq4.2 λx hx=>cq4.1 h3 x (List.mem_of_mem_take hx));rw [h2,cq3] at W;simp only [J8,List.length_nil] at W;refine ⟨λe=>?_,λg=>?_⟩
 .have e:(u:Int)<b.length:=co4 e;have f:u<b.length:=by omega
  have X:=(bM7 C h3 (A8 a b c) (K9 b) b.length u (by omega)).2 f;rw [h2] at X;have v:runA (A8 a b c) (K9 b) ks b.length (b.take (u+1)) 0 (J8 a)=doOf (A8 a b c) (K9 b) ks b.length u (b.getD u ins0) ⟨m,cc,oc,q⟩:=by rw [A4 f ins0,bd6,cq3,Nat.min_eq_left (by omega),h2]
  have w:=G8 f ins0;have J:=aO3 R _ w;have A:=cq4.1 Q _ w;have K:=cq4.1 h3 _ w;generalize b.getD u ins0=x at X v J A K |-;simp only [cn7,cp6] at A;simp only [fewX,cn7,cp6] at K;refine ⟨⟨h0,e⟩,⟨ai0.2 ((R7 x).1 J),A.1,by omega,by omega,aJ5 b,X,F.2,by omega,by omega,by omega,by omega,by omega⟩,((u+1:Nat),_,_,_,_,()),B4 f (by omega),rfl,rfl,rfl,rfl,⟨by omega,by dsimp only;omega,?_⟩,by dsimp only;omega⟩;dsimp only;rw [cn8,v];rfl
 have L:u=b.length:=by have:¬ (u:Int)<b.length:=co3 g;omega
 subst L;rw [cq2] at h2;rw [h2] at o |-;clear h0 h1 g W;dsimp only at o;refine ⟨⟨(0,[],()),rfl,rfl,Int.le_refl _,by dsimp only;omega,rfl⟩,?_⟩;rintro ⟨j,l,⟨⟩⟩ ⟨h0,h1,h4⟩;dsimp only at h0 h1 h4 |-;obtain ⟨B,rfl⟩:=co0 h0;simp only [cn8] at h4 |-;subst h4;refine ⟨λe=>?_,λg=>?_⟩
 .have e:(B:Int)<c.length:=co4 e;have f:B<c.length:=by omega
  refine ⟨⟨h0,e⟩,F.2,?_,((B+1:Nat),_,()),B4 f (by omega),rfl,⟨by omega,by dsimp only;omega,?_⟩,by dsimp only;omega⟩
  .rw [cq5,cq3];simp only [cp0,List.length_nil];omega
  .dsimp only;rw [cn8,A4 f 0,List.map_append];congr 1;show _=[outA _ ks (c.getD B 0)];generalize c.getD B 0=n;unfold outA;dsimp only;cases hc:(D9 m ks n).cell with
   |true=>rfl
   |false=>simp only [cond_false];rw [<-hc]
 .have M:B=c.length:=by have:¬ (B:Int)<c.length:=co3 g;omega
  subst M;rw [cq2,o]
theorem bl5:C5 prog RG 15 cAlloc:=br6 bA8 (A6 al7 (A6 aG7 (A6 aH6 (A6 bW2 (A6 as9 B8))))) (λp=>bM8 p.1 p.2.1 p.2.2.1 p.2.2.2.2.1) (by kernel_rfl) (by kernel_rfl) (by kernel_rfl) λ(a,b,c,d,ks,()) e=>bW5 a b c d ks e
def insI (to:Int) (fr:List Int):Ins:=⟨1,0,[to],fr,[]⟩
def I2:VFun:=⟨2,[insI 2 [0,1],insI 3 [2,0],insI 4 [3,1],insI 5 [4,2]],[5],[]⟩
def cIns:Con RU:=con [one,one] [i64,ints] [(true,5)] aF3 [false,false,false,false,false] none λp=>(1,0,[p.1],p.2.1,[],())
def cFour:Con RU:=con [] [] [(true,4)] aF4 [false,false,false,false] none λ_=>(2,I2.code,[5],[],())
abbrev bN1:List Ty:=[i64,i64,i64,i64,i64,ints,ints,inss]
abbrev own8:List Bool:=[false,false,false,false,false,false,false,false]
def cLoadI:Con RU:=con [one,one] [i64,i64] [(true,8)] bN1 own8 none λp=>(1,p.1,p.2.1,0,0,[],[],[],())
def cStoreI:Con RU:=con [one,one] [i64,i64] [(true,8)] bN1 own8 none λp=>(2,p.1,p.2.1,0,0,[],[],[],())
def cDoI:Con RU:=con [one,one] [i64,ints] [(true,8)] bN1 own8 none λp=>(0,0,0,1,0,[p.1],p.2.1,[],())
def bW6 (x y:RIns):Bool:=(x.kind==y.kind)&&((x.kind==0)&&insB x.ins y.ins||((x.kind !=0)&&(x.slot==y.slot)&&(x.cell==y.cell)))
def V0 (l m:List RIns) (k:Nat):Bool:=(decide (l.length=m.length))&&((l.zip m).take k).all λp=>bW6 p.1 p.2
def bl6 (l m:List RIns):Bool:=V0 l m l.length
def cSame:Con RU:=con [one,one] [ak9,ak9] [one] [.bool] [false] none λp=>(bl6 p.1 p.2.1,())
def ci1 (l m:List RIns):Nat->St RU->Ann RU:=λ_ _=>⟨[],[.slot 5,.slot 6],[.bool,i64],λp=>0<=p.2.1/\p.2.1<=l.length/\p.1=V0 l m p.2.1.toNat,λp=>l.length-p.2.1.toNat,[]⟩
def cSlotted:Con RU:=con [] [] [one] [.bool] [false] none λ_=>(true,())
end Go.Rg
end
section
namespace Go.Proofs.YtknhkhdbonjhgaaDoor
open Go.ChangeShapes Go.WideShapes Go.ChangeAt Go.RowKit Go.VT
theorem own:ownKnob Tryd.prog.godebug=none:=by kernel_rfl
theorem ci2:laidOutB Tryd.prog=true:=by kernel_rfl
theorem cl9:Tryd.prog.globalNamed "sheafworks/regs.never"=some 1:=by kernel_rfl
theorem bW7:Tryd.prog.globalNamed "sheafworks/regs.nowhere"=some 0:=by kernel_rfl
theorem cm0:(Tryd.prog.globals[1]?).map (·.type)=some 107:=by kernel_rfl
theorem bW8:(Tryd.prog.globals[0]?).map (·.type)=some 59:=by kernel_rfl
abbrev bA9:List (String×DataW Unit):=[("sheafworks/regs.never",Rows.laid_sheafworks_regs_never),("sheafworks/regs.nowhere",Rows.laid_sheafworks_regs_nowhere)]
theorem bW9 (os:Os) (args:Array Value):laidMetH Tryd.prog bA9 ((World.doorLaid Tryd.prog 600 os).forCall (λ_ _=>0) ⟨#[],args,[]⟩).memory:=
 laidMetH_of_parts3 (fuel:=8) (laidMet_of_run' 8 (by kernel_rfl) (by kernel_rfl)) (by kernel_rfl) (by kernel_rfl)
theorem X3:Tryd.prog.cellsOf 3=1:=by kernel_rfl
theorem bZ5:Tryd.prog.cellsOf 4=1:=by kernel_rfl
theorem ci3:Tryd.prog.cellsOf 22=1:=by kernel_rfl
theorem bN2:Tryd.prog.cellsOf 23=1:=by kernel_rfl
theorem af4:Tryd.prog.cellsOf 52=5:=by kernel_rfl
theorem aU9:Tryd.prog.cellsOf 59=2:=by kernel_rfl
theorem bX0:Tryd.prog.cellsOf 107=2:=by kernel_rfl
theorem bZ6:Tryd.prog.bytesOf 3=8:=by kernel_rfl
theorem bN3:Tryd.prog.bytesOf 52=88:=by kernel_rfl
theorem aO4 {W:World} {g i:Nat} {v:Value} (h:W.cell? ⟨g,i,none⟩=some v):g<W.heap.size:=by
 unfold World.cell? at h;cases a:W.heap[g]? with
 |none=>simp [a] at h
 |some ob=>exact (cp2.1 a).1
theorem ci4 {W:World} (h:laidMetH Tryd.prog bA9 W):∀ g fs,(g,fs)∈Go.Rg.RG->g<W.heap.size/\∀ i f,fs.cell i=some f->W.cell? ⟨g,i,none⟩=some f:=by
 obtain ⟨ps,⟨H,I,cs1,fuel1,J,K,a,q,e,r,⟨L,t0,cs0,fuel0,p0,M,b,s,k,t,_⟩,_⟩,_⟩:laidMet Tryd.prog bA9 W:=h;obtain rfl:=Option.some.inj (cl9.symm.trans a);obtain rfl:=Option.some.inj (bW7.symm.trans b);obtain rfl:=Option.some.inj (cm0.symm.trans q);obtain rfl:=Option.some.inj (bW8.symm.trans s);obtain ⟨N,O,n,p,hl,c,d⟩:=trod_struct2 Tryd.underlying107 r;obtain ⟨P,Q,m,kx,kl,ky1,ky2⟩:=trod_struct2 Tryd.underlying59 t;rw [bX0] at hl;rw [aU9] at kl;obtain ⟨R,eu1,u⟩:=aM5 (cs:=cs1.toList) (j:=0) (by omega);obtain ⟨S,eu2,v⟩:=aM5 (cs:=cs1.toList) (j:=1) (by omega);obtain ⟨w1,ew1,w⟩:=aM5 (cs:=cs0.toList) (j:=0) (by omega);obtain ⟨T,ew2,x⟩:=aM5 (cs:=cs0.toList) (j:=1) (by omega);dsimp only at c d ky1 ky2;rw [X3,u] at c;rw [X3,v] at d;rw [bZ5,w] at ky1;rw [X3,x] at ky2;obtain ⟨U,A,E,_⟩:=DataW.trod_int Tryd.underlying3 c;obtain ⟨V,B,F,_⟩:=DataW.trod_int Tryd.underlying3 d;obtain ⟨X,C,G⟩:=DataW.trod_bool Tryd.underlying4 ky1;obtain ⟨Y,D,f4,_⟩:=DataW.trod_int Tryd.underlying3 ky2;rw [E,F] at p;rw [G,f4] at kx;simp only [Rows.laid_sheafworks_regs_never,co6,DataW.agg.injEq,List.cons.injEq,DataW.lit.injEq,Lit.int.injEq,true_and,and_true] at p;simp only [Rows.laid_sheafworks_regs_nowhere,co6,DataW.agg.injEq,List.cons.injEq,DataW.lit.injEq,Lit.int.injEq,Lit.bool.injEq,true_and,and_true] at kx;simp only [List.cons.injEq,and_true] at A B C D;rw [A,<-p.1.1] at eu1;rw [B,<-p.1.2] at eu2;rw [C,<-kx.1.1] at ew1;rw [D,<-kx.1.2] at ew2;have l:W.cell? ⟨1,0,none⟩=some (.int .i64 0):=by rw [World.var?_cell a e 0];simpa using eu1
 have y:W.cell? ⟨1,1,none⟩=some (.int .i64 (-1)):=by rw [World.var?_cell a e 1];simpa using eu2
 have o:W.cell? ⟨0,0,none⟩=some (.bool true):=by rw [World.var?_cell b k 0];simpa using ew1
 have z:W.cell? ⟨0,1,none⟩=some (.int .i64 (-1)):=by rw [World.var?_cell b k 1];simpa using ew2
 intro g fs hm;simp only [Go.Rg.RG,List.mem_cons,List.not_mem_nil,or_false,co6] at hm;rcases hm with ⟨rfl,rfl⟩|⟨rfl,rfl⟩
 .refine ⟨aO4 o,λi f hf=>?_⟩
  match i,hf with
  |0,hf=>cases hf;exact o
  |1,hf=>cases hf;exact z
  |_+2,hf=>simp [Glob.cell] at hf
 .refine ⟨aO4 l,λi f hf=>?_⟩
  match i,hf with
  |0,hf=>cases hf;exact l
  |1,hf=>cases hf;exact y
  |_+2,hf=>simp [Glob.cell] at hf
theorem at3 {l:List Int} (h:Light Tryd.prog (U:=Go.Rg.RU) ⟨Go.Rg.ints,l⟩):l.length<=17592186043904:=by
 cases h with
 |slice e t l h hr=>rw [bZ6] at h;simp only [reachBytes] at h;omega
theorem bB0 {l:List Go.Rg.Ins} (h:Light Tryd.prog (U:=Go.Rg.RU) ⟨Go.Rg.inss,l⟩):l.length<=1599289640354/\∀ x∈l,Light Tryd.prog (U:=Go.Rg.RU) ⟨Go.Rg.ints,x.to⟩/\Light Tryd.prog (U:=Go.Rg.RU) ⟨Go.Rg.ints,x.from_⟩/\Light Tryd.prog (U:=Go.Rg.RU) ⟨Go.Rg.inss,x.body⟩:=by
 cases h with
 |slice e t l h hr=>
  rw [bN3] at h;simp only [reachBytes] at h;have hl:(l:List Go.Rg.Ins).length<=1599289640354:=by have h':(l:List Go.Rg.Ins).length*88<=140737488351232:=h;omega
  refine ⟨hl,λx a=>⟨?_,?_,?_⟩⟩
  .exact hr x a _ (.tail _ (.tail _ (.head _)))
  .exact hr x a _ (.tail _ (.tail _ (.tail _ (.head _))))
  .exact hr x a _ (.tail _ (.tail _ (.tail _ (.tail _ (.head _)))))
mutual
theorem aI1:∀ (x:Go.Rg.Ins),Light Tryd.prog (U:=Go.Rg.RU) ⟨Go.Rg.ints,x.to⟩->Light Tryd.prog (U:=Go.Rg.RU) ⟨Go.Rg.ints,x.from_⟩->Light Tryd.prog (U:=Go.Rg.RU) ⟨Go.Rg.inss,x.body⟩->Go.Rg.ax1 x=true
 |⟨o,n,t,f,b⟩,h1,h2,h3=>by have h5:t.length<=_:=at3 h1;have h6:f.length<=_:=at3 h2;have h4:=bB0 h3;simp only [Go.Rg.ax1,cn7,cp6];exact ⟨⟨⟨by omega,by omega⟩,h4.1⟩,aw4 b h4.2⟩
theorem aw4:∀ (l:List Go.Rg.Ins),(∀ x∈l,Light Tryd.prog (U:=Go.Rg.RU) ⟨Go.Rg.ints,x.to⟩/\Light Tryd.prog (U:=Go.Rg.RU) ⟨Go.Rg.ints,x.from_⟩/\Light Tryd.prog (U:=Go.Rg.RU) ⟨Go.Rg.inss,x.body⟩)->Go.Rg.K4 l=true
 |[],_=>by simp [Go.Rg.K4]
 |x::r,h=>by simp only [Go.Rg.K4,cn7];have hx:=h x (by simp);exact ⟨aI1 x hx.1 hx.2.1 hx.2.2,aw4 r (λy hy=>h y (by simp [hy]))⟩
end
theorem aq1 {H:Type} {enc:TypeId×Value->H} {W W':World} (f:Below W.heap.size W W'):∀ {ts:List TypeId} {vs:List Value} {ds:List (DataW H)} {ps:List MemPlace},(∀ t∈ts,Tryd.prog.readableRec t=true/\t<Tryd.prog.types.size)->
  DataW.TrodAll enc Tryd.prog W 0 (λ_=>true) true ts vs ds ps->(∀ x∈ps,x.block<W.heap.size)->DataW.TrodAll enc Tryd.prog W' 0 (λb=>decide (b<W.heap.size)) true ts vs ds ps
 |[],[],[],ps,_,h,_=>h
 |[],_::_,_,_,_,h,_=>h.elim
 |[],[],_::_,_,_,h,_=>h.elim
 |_::_,[],_,_,_,h,_=>h.elim
 |_::_,_::_,[],_,_,h,_=>h.elim
 |t::ts,v::vs,d::ds,ps,c,h,a=>by obtain ⟨p,q,h1,h2,rfl⟩:=h;exact ⟨p,q,Below.trod ci2 (c t (by simp)).1 (c t (by simp)).2 h1 f (λx e=>a x (by simp [e])),aq1 f (λt' h'=>c t' (by simp [h'])) h2 (λx e=>a x (by simp [e])),rfl⟩
theorem bX1 {H:Type} {enc:TypeId×Value->H} {fn:Func} {s:ChangeSpec} (hs:s.vars=[]) {W W':World} {args:Array Value} {ds gs:List (DataW H)} {aF2:List MemPlace}
  (e:DataW.Whole enc Tryd.prog fn.params.toList s.vars false W args.toList ds gs aF2) (f:Below W.heap.size W W') (b:fn.resultTypes=#[4])
  (a:s.fn H ds={ results:=[.lit (.bool true)],args:=ds }) (i:∀ t∈fn.params.toList,Tryd.prog.readableRec t=true/\t<Tryd.prog.types.size):
  s.post enc Tryd.prog fn false true false false W args (.bool true) W':=by
 have c:=e;obtain ⟨p,q,j,d,rfl,k,l⟩:=e;rw [hs] at d;obtain ⟨rfl,rfl⟩:gs=[]/\q=[]:=by
  cases gs with
  |nil=>exact ⟨rfl,d⟩
  |cons g r=>exact absurd d (by intro h;cases h)
 refine ⟨ds,[],p++[],[],p,[],c,?_,?_,?_,f.frame _,λh=>by cases h⟩
 .rw [List.append_nil,a,b];exact trodAll_mk1 (shut_bool Tryd.underlying4 true)
 .rw [List.append_nil,a];exact aq1 f i j (λx m=>c.lt x (by simp [m]))
 .rw [List.append_nil,a,hs];rfl
theorem aI2 {H:Type} {enc:TypeId×Value->H} {P:Program} {w:World} {base:Nat} {sp:Nat->Bool} {held:Bool}:∀ {ts:List TypeId} {vs:List Value} {ds:List (DataW H)} {ps:List MemPlace},DataW.TrodAll enc P w base sp held ts vs ds ps->ds.length=ts.length
 |[],[],[],_,_=>rfl
 |[],_::_,_,_,h=>h.elim
 |[],[],_::_,_,h=>h.elim
 |_::_,[],_,_,h=>h.elim
 |_::_,_::_,[],_,h=>h.elim
 |t::ts,v::vs,d::ds,ps,h=>by obtain ⟨p,q,_,h2,_⟩:=h;simp [aI2 h2]
end Go.Proofs.YtknhkhdbonjhgaaDoor
end
section
namespace Go.Rg
open Go Go.VT
theorem cm1 (a:Int) (b:List Int):vc (EV []) noL Go.Proofs.Tryd.f46 cIns (a,b,())=(
 let c:Int×Int×List Int×List Int×List Ins×Unit:=((1:Int),(0:Int),[a],b,[],());
  Small RU (Sigma.mk (Ty.slice (3:Nat) (Ty.int IntKind.i64)) b)->c=c):=by kernel_rfl
theorem bX2 (a b:Int):vc (EV []) noL Go.Proofs.Tryd.f47 cLoadI (a,b,())=(
 let c:Int×Int×Int×Int×Int×List Int×List Int×List Ins×Unit:=((1:Int),a,b,(0:Int),(0:Int),[],[],[],());
  c=c):=by kernel_rfl
theorem bN4 (a b:Int):vc (EV []) noL Go.Proofs.Tryd.f48 cStoreI (a,b,())=(
 let c:Int×Int×Int×Int×Int×List Int×List Int×List Ins×Unit:=((2:Int),a,b,(0:Int),(0:Int),[],[],[],());
  c=c):=by kernel_rfl
theorem cm2 (a:Int) (b:List Int):vc (EV [(46,cIns)]) noL Go.Proofs.Tryd.f49 cDoI (a,b,())=(
 let c:Int×Int×Int×Int×Int×List Int×List Int×List Ins×Unit:=((0:Int),(0:Int),(0:Int),(1:Int),(0:Int),[a],b,[],());
  Small RU (Sigma.mk (Ty.slice (3:Nat) (Ty.int IntKind.i64)) b)->c=c):=by kernel_rfl
theorem ci5 (l m:List RIns):vc (EV [(57,cSameIns)]) (ci1 l m) Go.Proofs.Tryd.f45 cSame (l,m,())=(
 let b:RIns:=RIns.mk (0:Int) (0:Int) (0:Int) ins0;
 let c:Int:=(↑(List.length l):Int);
 let e:Int:=(↑(List.length m):Int);
  Small RU (Sigma.mk (Ty.slice (55:Nat) (Ty.user (1:Nat))) l)->
  Small RU (Sigma.mk (Ty.slice (55:Nat) (Ty.user (1:Nat))) m)->
  (∃ (p:Bool×Int×Unit),l=l/\m=m/\false=false/\(c==e)=p.1/\(0:Int)=p.2.1/\(0:Int)<=p.2.1/\p.2.1<=c/\p.1=V0 l m (Int.toNat p.2.1))/\
  ∀ (p:Bool×Int×Unit),
 let e0_1:Bool:=
  (List.getD l (Int.toNat p.2.1) b).kind==(0:Int)&&
  insB
  (Ins.mk (List.getD l (Int.toNat p.2.1) b).ins.op (List.getD l (Int.toNat p.2.1) b).ins.n (List.getD l (Int.toNat p.2.1) b).ins.to
  (List.getD l (Int.toNat p.2.1) b).ins.from_ (List.getD l (Int.toNat p.2.1) b).ins.body)
  (Ins.mk (List.getD m (Int.toNat p.2.1) b).ins.op (List.getD m (Int.toNat p.2.1) b).ins.n (List.getD m (Int.toNat p.2.1) b).ins.to
  (List.getD m (Int.toNat p.2.1) b).ins.from_ (List.getD m (Int.toNat p.2.1) b).ins.body);
 let e1_1:Bool:=(List.getD l (Int.toNat p.2.1) b).kind !=(0:Int)&&(List.getD l (Int.toNat p.2.1) b).slot==(List.getD m (Int.toNat p.2.1) b).slot;
 let e2_1:Bool:=p.1&&decide (p.2.1<c);
 let a:Int:=p.2.1;
 let d:Bool:=(List.getD l (Int.toNat a) b).kind==(List.getD m (Int.toNat a) b).kind;
  (0:Int)<=a/\a<=c/\p.1=V0 l m (Int.toNat a)->
  (e2_1=true->
  ((0:Int)<=a/\a<c)/\
  ((0:Int)<=a/\a<e)/\
  (d=true->(0:Int)<=a/\a<c)/\
  (d=true->((List.getD l (Int.toNat a) b).kind==(0:Int))=true->(0:Int)<=a/\a<c)/\
  (d=true->((List.getD l (Int.toNat a) b).kind==(0:Int))=true->(0:Int)<=a/\a<e)/\
  (d=true->e0_1=false->(0:Int)<=a/\a<c)/\
  (d=true->e0_1=false->((List.getD l (Int.toNat a) b).kind !=(0:Int))=true->(0:Int)<=a/\a<c)/\
  (d=true->e0_1=false->((List.getD l (Int.toNat a) b).kind !=(0:Int))=true->(0:Int)<=a/\a<e)/\
  (d=true->e0_1=false->e1_1=true->(0:Int)<=a/\a<c)/\
  (d=true->e0_1=false->e1_1=true->(0:Int)<=a/\a<e)/\
  ∃ (p':Bool×Int×Unit),
  l=l/\
  m=m/\
  false=false/\
  (d&&(e0_1||e1_1&&(List.getD l (Int.toNat a) b).cell==(List.getD m (Int.toNat a) b).cell))=p'.1/\
  IntKind.i64.wrap (a+(1:Int))=p'.2.1/\
  ((0:Int)<=p'.2.1/\p'.2.1<=c/\p'.1=V0 l m (Int.toNat p'.2.1))/\
  List.length l-Int.toNat p'.2.1<List.length l-Int.toNat a)/\
  (e2_1=false->(p.1,())=(bl6 l m,()))):=by kernel_rfl
theorem ci6:vc (EV [(46,cIns)]) noL Go.Proofs.Tryd.f50 cFour ()=(
 let a:List Int×List Int×Unit:=([(5:Int)],[],());
  ((2:Int),
  [Ins.mk (1:Int) (0:Int) [(2:Int)] [(0:Int),(1:Int)] [],Ins.mk (1:Int) (0:Int) [(3:Int)] [(2:Int),(0:Int)] [],
  Ins.mk (1:Int) (0:Int) [(4:Int)] [(3:Int),(1:Int)] [],Ins.mk (1:Int) (0:Int) [(5:Int)] [(4:Int),(2:Int)] []],
  a)=
  ((2:Int),I2.code,a)):=by kernel_rfl
theorem bB1:vc (EV [(50,cFour),(33,cLive),(29,cPress),(15,cAlloc),(20,cBack),(17,cCount),(41,cCheck),(22,cValid),(47,cLoadI),(48,cStoreI),(49,cDoI),(45,cSame),(43,cEqualLists),(24,cSameVec)]) noL Go.Proofs.Tryd.f14 cSlotted ()=(
 let c:VFun:=
  (G4
  (RCode.mk (B9 (VFun.mk (2:Int) I2.code [(5:Int)] []) (2:Int)).1.params (B9 (VFun.mk (2:Int) I2.code [(5:Int)] []) (2:Int)).1.slots
  (B9 (VFun.mk (2:Int) I2.code [(5:Int)] []) (2:Int)).1.cells (B9 (VFun.mk (2:Int) I2.code [(5:Int)] []) (2:Int)).1.code
  (B9 (VFun.mk (2:Int) I2.code [(5:Int)] []) (2:Int)).1.out)).1;
 let e:Bool:=
  (O8 (VFun.mk (2:Int) I2.code [(5:Int)] [])).2 !=(0:Int)||(U4 (VFun.mk (2:Int) I2.code [(5:Int)] [])).2 !=(0:Int)||
  (B9 (VFun.mk (2:Int) I2.code [(5:Int)] []) (3:Int)).2 !=(0:Int)||
  (B9 (VFun.mk (2:Int) I2.code [(5:Int)] []) (2:Int)).2 !=(0:Int)||
  (B9 (VFun.mk (2:Int) I2.code [(5:Int)] []) (1:Int)).2 !=(9:Int)||
  (G4
  (RCode.mk (B9 (VFun.mk (2:Int) I2.code [(5:Int)] []) (2:Int)).1.params (B9 (VFun.mk (2:Int) I2.code [(5:Int)] []) (2:Int)).1.slots
  (B9 (VFun.mk (2:Int) I2.code [(5:Int)] []) (2:Int)).1.cells (B9 (VFun.mk (2:Int) I2.code [(5:Int)] []) (2:Int)).1.code
  (B9 (VFun.mk (2:Int) I2.code [(5:Int)] []) (2:Int)).1.out)).2 !=
  (0:Int)||
  E4 (VFun.mk (2:Int) I2.code [(5:Int)] []) !=(0:Int)||
  F9
  (RCode.mk (B9 (VFun.mk (2:Int) I2.code [(5:Int)] []) (3:Int)).1.params (B9 (VFun.mk (2:Int) I2.code [(5:Int)] []) (3:Int)).1.slots
  (B9 (VFun.mk (2:Int) I2.code [(5:Int)] []) (3:Int)).1.cells (B9 (VFun.mk (2:Int) I2.code [(5:Int)] []) (3:Int)).1.code
  (B9 (VFun.mk (2:Int) I2.code [(5:Int)] []) (3:Int)).1.out) !=
  (0:Int);
 let f:Bool:=
  decide
  ((O8 (VFun.mk (2:Int) I2.code [(5:Int)] [])).1=
  [[(0:Int),(1:Int)],[(0:Int),(1:Int),(2:Int)],[(1:Int),(2:Int),(3:Int)],[(2:Int),(4:Int)],[(5:Int)]])&&
  (U4 (VFun.mk (2:Int) I2.code [(5:Int)] [])).1==(3:Int)&&
  bl6 (B9 (VFun.mk (2:Int) I2.code [(5:Int)] []) (3:Int)).1.code
  [RIns.mk (1:Int) (0:Int) (0:Int) (Ins.mk (0:Int) (0:Int) [] [] []),RIns.mk (1:Int) (1:Int) (1:Int) (Ins.mk (0:Int) (0:Int) [] [] []),
  RIns.mk (0:Int) (0:Int) (0:Int) (Ins.mk (1:Int) (0:Int) [(2:Int)] [(0:Int),(1:Int)] []),
  RIns.mk (0:Int) (0:Int) (0:Int) (Ins.mk (1:Int) (0:Int) [(0:Int)] [(2:Int),(0:Int)] []),
  RIns.mk (0:Int) (0:Int) (0:Int) (Ins.mk (1:Int) (0:Int) [(0:Int)] [(0:Int),(1:Int)] []),
  RIns.mk (0:Int) (0:Int) (0:Int) (Ins.mk (1:Int) (0:Int) [(0:Int)] [(0:Int),(2:Int)] [])]&&
  bl6 (B9 (VFun.mk (2:Int) I2.code [(5:Int)] []) (2:Int)).1.code
  [RIns.mk (1:Int) (0:Int) (0:Int) (Ins.mk (0:Int) (0:Int) [] [] []),RIns.mk (1:Int) (1:Int) (1:Int) (Ins.mk (0:Int) (0:Int) [] [] []),
  RIns.mk (0:Int) (0:Int) (0:Int) (Ins.mk (1:Int) (0:Int) [(1:Int)] [(0:Int),(1:Int)] []),
  RIns.mk (0:Int) (0:Int) (0:Int) (Ins.mk (1:Int) (0:Int) [(0:Int)] [(1:Int),(0:Int)] []),RIns.mk (2:Int) (1:Int) (2:Int) (Ins.mk (0:Int) (0:Int) [] [] []),
  RIns.mk (1:Int) (1:Int) (1:Int) (Ins.mk (0:Int) (0:Int) [] [] []),RIns.mk (0:Int) (0:Int) (0:Int) (Ins.mk (1:Int) (0:Int) [(0:Int)] [(0:Int),(1:Int)] []),
  RIns.mk (1:Int) (1:Int) (2:Int) (Ins.mk (0:Int) (0:Int) [] [] []),RIns.mk (0:Int) (0:Int) (0:Int) (Ins.mk (1:Int) (0:Int) [(0:Int)] [(0:Int),(1:Int)] [])]&&
  (B9 (VFun.mk (2:Int) I2.code [(5:Int)] []) (2:Int)).1.slots==(2:Int)&&
  (B9 (VFun.mk (2:Int) I2.code [(5:Int)] []) (2:Int)).1.cells==(3:Int)&&
  (↑(List.length (B9 (VFun.mk (2:Int) I2.code [(5:Int)] []) (2:Int)).1.out):Int)==(1:Int);
 let g:Int×Int:=
  U5
  (RCode.mk (B9 (VFun.mk (2:Int) I2.code [(5:Int)] []) (2:Int)).1.params (B9 (VFun.mk (2:Int) I2.code [(5:Int)] []) (2:Int)).1.slots
  (B9 (VFun.mk (2:Int) I2.code [(5:Int)] []) (2:Int)).1.cells (B9 (VFun.mk (2:Int) I2.code [(5:Int)] []) (2:Int)).1.code
  (B9 (VFun.mk (2:Int) I2.code [(5:Int)] []) (2:Int)).1.out);
 let a:RCode:=(B9 (VFun.mk (2:Int) I2.code [(5:Int)] []) (2:Int)).1;
 let b:VFun:=VFun.mk (2:Int) I2.code [(5:Int)] [];
 let d:RCode:=(B9 b (3:Int)).1;
  (as4 I2.code=true/\K4 I2.code=true/\List.length [(5:Int)]<=(8796093022200:Nat))/\
  (as4 I2.code=true/\K4 I2.code=true/\List.length [(5:Int)]<=(8796093022200:Nat))/\
  (as4 I2.code=true/\K4 I2.code=true/\List.length [(5:Int)]<=(8796093022200:Nat))/\
  ((-9223372036854775808:Int)<=a.slots/\a.slots<(9223372036854775808:Int)/\J3 a.code=true/\List.length a.out<=(17592186044400:Nat))/\
  (((O8 b).2 !=(0:Int)||(U4 b).2 !=(0:Int)||(B9 b (3:Int)).2 !=(0:Int)||(B9 b (2:Int)).2 !=(0:Int)||
  (B9 b (1:Int)).2 !=(9:Int)||
  (G4 (RCode.mk a.params a.slots a.cells a.code a.out)).2 !=(0:Int)||
  E4 b !=(0:Int))=
  false->
  (-9223372036854775808:Int)<=d.slots/\d.slots<(9223372036854775808:Int)/\J3 d.code=true/\List.length d.out<=(17592186044400:Nat))/\
  (e=true->(false,())=(true,()))/\
  (e=false->
  (f=true->(0:Int)<=(0:Int)/\(0:Int)<(↑(List.length a.out):Int))/\
  (f&&(false==false&&((↑(0:Nat):Int)==(0:Int)&&true))&&g.1==(4:Int)&&g.2==(1:Int)&&
  (decide (c.params=(2:Int))&&U2 c.code I2.code&&decide (c.out=[(5:Int)])&&decide (c.at_=[])),
  ())=
  (true,()))):=by kernel_rfl
theorem be0:C5 prog RG 46 cIns:=E1 B8 (λ_=>noL) (by kernel_rfl) (by kernel_rfl) (by kernel_rfl) λ(a,b,()) _=>(cm1 a b).mpr (by intros;rfl)
theorem bl7:C5 prog RG 47 cLoadI:=E1 B8 (λ_=>noL) (by kernel_rfl) (by kernel_rfl) (by kernel_rfl) λ(a,b,()) _=>(bX2 a b).mpr rfl
theorem be1:C5 prog RG 48 cStoreI:=E1 B8 (λ_=>noL) (by kernel_rfl) (by kernel_rfl) (by kernel_rfl) λ(a,b,()) _=>(bN4 a b).mpr rfl
theorem bN5:C5 prog RG 49 cDoI:=E1 (A6 be0 B8) (λ_=>noL) (by kernel_rfl) (by kernel_rfl) (by kernel_rfl) λ(a,b,()) _=>(cm2 a b).mpr (by intros;rfl)
theorem bB2:C5 prog RG 50 cFour:=E1 (A6 be0 B8) (λ_=>noL) (by kernel_rfl) (by kernel_rfl) (by kernel_rfl) λ() _=>ci6.mpr (by intros;rfl)
theorem bl8 {l m:List RIns} {k:Nat} (hl:k<l.length) (h:V0 l m k=true):V0 l m (k+1)=bW6 (l.getD k rins0) (m.getD k rins0):=by
 unfold V0 at h |-;simp only [cn7,cp6] at h;obtain ⟨h1,h2⟩:=h;have a:k<(l.zip m).length:=by rw [List.length_zip];omega
 rw [A4 a (rins0,rins0),List.all_append,h2,decide_eq_true h1];simp only [Bool.true_and,List.all_cons,List.all_nil,Bool.and_true];have hg:(l.zip m).getD k (rins0,rins0)=(l.getD k rins0,m.getD k rins0):=by rw [co8,cn6 a,co8,co8,cn6 hl,cn6 (by omega)];simp [List.getElem_zip]
 rw [hg]
theorem bN6 {l m:List RIns} {k:Nat} (h:V0 l m k=false):bl6 l m=false:=by unfold bl6;rw [Bool.eq_false_iff] at h |-;intro h2;refine h ?_;unfold V0 at h2 |-;simp only [cn7,cp6,cq4] at h2 |-;refine ⟨h2.1,λx a=>h2.2 x ?_⟩;rw [List.take_of_length_le (by rw [List.length_zip];omega)];exact List.mem_of_mem_take a
theorem be2 (x:Ins):(⟨x.op,x.n,x.to,x.from_,x.body⟩:Ins)=x:=by cases x;rfl
theorem ci7 (l m:List RIns):vc (EV [(57,cSameIns)]) (ci1 l m) Go.Proofs.Tryd.f45 cSame (l,m,()):=by
 rw [ci5 l m];intro c d e hs _;have hl:l.length<=140737488355328:=hs.len;have f:c=rins0:=rfl
 clear_value c
 subst f;dsimp only [d,e];simp only [true_and,and_true];refine ⟨⟨(V0 l m 0,0,()),?_,rfl,Int.le_refl _,by dsimp only;omega,rfl⟩,?_⟩
 .dsimp only [V0];rw [List.take_zero,List.all_nil,Bool.and_true,Bool.eq_iff_iff];simp only [beq_iff_eq,cp6];omega
 rintro ⟨g,i,⟨⟩⟩ ⟨h0,h1,h2⟩;dsimp only at h0 h1 h2 |-;obtain ⟨k,rfl⟩:=co0 h0;simp only [cn8] at h2 |-;subst h2;refine ⟨λh=>?_,λh=>?_⟩
 .simp only [cn7,cp6] at h;obtain ⟨hg,a⟩:=h;have b:=bl8 (by omega) hg;have j:l.length=m.length:=by
   unfold V0 at hg;simp only [cn7,cp6] at hg;exact hg.1
  have hm:(k:Int)<m.length:=by omega
  refine ⟨⟨h0,a⟩,⟨h0,hm⟩,λ_=>⟨h0,a⟩,λ_ _=>⟨h0,a⟩,λ_ _=>⟨h0,hm⟩,λ_ _=>⟨h0,a⟩,λ_ _ _=>⟨h0,a⟩,λ_ _ _=>⟨h0,hm⟩,λ_ _ _=>⟨h0,a⟩,λ_ _ _=>⟨h0,hm⟩,(bW6 (l.getD k rins0) (m.getD k rins0),((k+1:Nat):Int),()),by dsimp only [bW6];rw [be2,be2],B4 (by omega) hl,⟨by dsimp only;omega,by dsimp only;omega,?_⟩,by dsimp only;omega⟩;dsimp only;rw [cn8,b]
 .have key:V0 l m k=bl6 l m:=by
   cases hg:V0 l m k with
   |false=>exact (bN6 hg).symm
   |true=>
    rw [hg] at h;simp only [Bool.true_and,decide_eq_false_iff_not] at h;have n:k=l.length:=by omega
    subst n;exact hg.symm
  rw [key]
theorem bB3:C5 prog RG 45 cSame:=E1 (A6 aS6 B8) (λp=>ci1 p.1 p.2.1) (by kernel_rfl) (by kernel_rfl) (by kernel_rfl) λ(l,m,()) _=>ci7 l m
theorem aV0:C5 prog RG 14 cSlotted:=E1 (A6 bB2 (A6 aN5 (A6 bk4 (A6 bl5 (A6 aN8 (A6 aF9 (A6 al7 (A6 al8 (A6 bl7 (A6 be1 (A6 bN5 (A6 bB3 (A6 ax3 (A6 ap0 B8)))))))))))))) (λ_=>noL) (by kernel_rfl) (by kernel_rfl) (by kernel_rfl) λ() _=>bB1.mpr (by
 refine ⟨by decide+kernel,by decide+kernel,by decide+kernel,by decide+kernel,λ_=>by decide+kernel,by decide+kernel,λ_=>⟨by decide+kernel,by decide+kernel⟩⟩)
def aw5 (n b:Int):Int:=if b<1 then 0 else n % b
def bB4 (l:List Int) (n:Int):Int:=if l=[] then 0 else l.getD (n % l.length).toNat 0
def iota (n:Nat):List Int:=(List.range n).map Int.ofNat
def cm3 (there:List Int) (c:Int) (k:Nat):Int:=bB4 there (IntKind.i64.wrap (IntKind.i64.wrap (Int.tdiv c (1+5*(k:Int)))+k))
def aV1 (there:List Int) (c:Int) (n:Nat):List Int:=(List.range n).map (cm3 there c)
def at4 (there:List Int) (b c:Int):List Int:=if there=[] then [] else aV1 there c (aw5 b 4).toNat
def toK (p count:Int) (k:Nat):Int:=p+((count+k)*7+5) % 97
def ai4 (p count:Int) (n:Nat):List Int:=(List.range n).map (toK p count)
def toN (d:Int):Nat:=1+(aw5 d 5).toNat / 4
abbrev BS:=List Ins×List Int×Int
def bX3 (p:Int) (l:List Int) (i:Nat) (s:BS):BS:=
 (s.1++[⟨aw5 (l.getD i 0) 15,aw5 (l.getD i 0) 12,ai4 p s.2.2 (toN (l.getD (i+3) 0)),at4 s.2.1 (l.getD (i+1) 0) (l.getD (i+2) 0),[]⟩],
  s.2.1++ai4 p s.2.2 (toN (l.getD (i+3) 0)),s.2.2+toN (l.getD (i+3) 0))
def parB (l:List Int):Int:=aw5 (bB4 l 0) 4
def runB (l:List Int):Nat->BS
 |0=>([],iota (parB l).toNat,0)
 |j+1=>bX3 (parB l) l (4*j+1) (runB l j)
def goB (l:List Int) (m:Int) (j:Nat):Bool:=decide (4*j+4<l.length)&&decide ((j:Int)<m)&&decide ((runB l j).2.2<90)
def endB (l:List Int) (m:Int):Nat:=((List.range 91).find? λj=>!goB l m j).getD 0
def outB (there:List Int):List Int:=if there=[] then [] else [bB4 there (there.length-1),bB4 there (there.length-3)]
def bl9 (l:List Int) (m:Int):VFun:=⟨parB l,(runB l (endB l m)).1,outB (runB l (endB l m)).2.1,[]⟩
theorem aI3 {n b:Int} (a:1<=b):0<=aw5 n b/\aw5 n b<b:=by unfold aw5;rw [if_neg (by omega)];exact ⟨Int.emod_nonneg n (by omega),Int.emod_lt_of_pos n (by omega)⟩
theorem bm0 (l:List Int):0<=parB l/\parB l<4:=aI3 (by omega)
theorem bN7 (d:Int):1<=toN d/\toN d<=2:=by have:=aI3 (n:=d) (b:=5) (by omega);unfold toN;omega
theorem bm1 (k:Nat):(iota k).length=k:=by simp [iota]
theorem aw6 (p c:Int) (k:Nat):(ai4 p c k).length=k:=by simp [ai4]
theorem aJ6 (t:List Int) (c:Int) (k:Nat):(aV1 t c k).length=k:=by simp [aV1]
theorem bs5 (l:List Int):∀ j,(runB l j).1.length=j/\(runB l j).2.1.length<=3+2*j/\(j:Int)<=(runB l j).2.2/\(runB l j).2.2<=2*j
 |0=>by have:=bm0 l;refine ⟨rfl,?_,Int.le_refl _,Int.le_refl _⟩;show (iota _).length<=_;rw [bm1];omega
 |j+1=>by
  obtain ⟨h1,h2,h3,h4⟩:=bs5 l j;have a:=bN7 (l.getD (4*j+1+3) 0);refine ⟨?_,?_,?_,?_⟩
  .show (_++[_]).length=_;rw [cp5,h1];rfl
  .show (_++ai4 _ _ _).length<=_;rw [cp5,aw6];omega
  .show _<=(runB l j).2.2+_;omega
  .show (runB l j).2.2+_<=_;omega
theorem aI4 {l:List Int} (n:Int) (h:l≠[]):bB4 l n∈l:=by have a:0<l.length:=List.length_pos_iff.2 h;unfold bB4;rw [if_neg h];have h1:=Int.emod_nonneg n (b:=(l.length:Int)) (by omega);have h2:=Int.emod_lt_of_pos n (b:=(l.length:Int)) (by omega);exact G8 (by omega) _
theorem bs6 {k:Nat} {x:Int}:x∈iota k<->0<=x/\x<k:=by
 simp only [iota,List.mem_map,List.mem_range];constructor
 .rintro ⟨i,a,rfl⟩;simp only [Int.ofNat_eq_natCast];omega
 .rintro ⟨h0,h1⟩;exact ⟨x.toNat,by omega,by simp only [Int.ofNat_eq_natCast];omega⟩
theorem bN8 {p:Int} {c:Int} {k:Nat} {x:Int} (hc:0<=c) (h:x∈ai4 p c k):p<=x/\x<p+97:=by simp only [ai4,List.mem_map,List.mem_range,toK] at h;obtain ⟨i,a,rfl⟩:=h;omega
theorem bN9 (p:Int) (c n:Nat):ai4 p 0 (c+n)=ai4 p 0 c++ai4 p (c:Int) n:=by simp only [ai4,List.range_add,List.map_append,List.map_map];congr 1;apply List.map_congr_left;intro k _;simp only [Function.comp,toK];congr 3;omega
theorem bm2 {p:Int} {n:Nat} (h:n<=97):(ai4 p 0 n).Nodup:=by unfold ai4;unfold List.Nodup;rw [List.pairwise_map];refine List.Pairwise.imp_of_mem (R:=λa b=>a<b) ?_ List.pairwise_lt_range;intro a b c d e;simp only [List.mem_range] at c d;simp only [toK];omega
theorem bO0 (l:List Ins) (x:Ins):wr (l++[x])=wr l++x.to:=by simp [wr]
theorem bm3 {there:List Int} {b c x:Int} (h:x∈at4 there b c):x∈there:=by
 unfold at4 at h;split at h
 .simp at h
 .rename_i a;simp only [aV1,List.mem_map,cm3] at h;obtain ⟨k,_,rfl⟩:=h;exact aI4 _ a
theorem aJ7 (there:List Int) (b c:Int):(at4 there b c).length<=3:=by
 have:=aI3 (n:=b) (b:=4) (by omega);unfold at4;split
 .exact Nat.zero_le _
 .rw [aJ6];omega
theorem bs7 {there:List Int} {x:Int} (h:x∈outB there):x∈there:=by
 unfold outB at h;split at h
 .simp at h
 .rename_i a;simp only [List.mem_cons,List.not_mem_nil,or_false] at h;rcases h with rfl|rfl
  .exact aI4 _ a
  .exact aI4 _ a
structure BuiltOk (p:Int) (s:BS) (n:Nat):Prop where
 cnt:s.2.2=n
 wrs:wr s.1=ai4 p 0 n
 ther:s.2.1=iota p.toNat++wr s.1
 thr:F7 p [] s.1=true
 froms:∀ x∈s.1,x.from_.length<=3/\∀ y∈x.from_,y∈s.2.1
 tos:∀ x∈s.1,1<=x.to.length/\x.to.length<=2
 bod:∀ x∈s.1,x.body=[]
theorem bs8 (l:List Int):∀ j,∃ n,BuiltOk (parB l) (runB l j) n
 |0=>⟨0,rfl,rfl,by show _=_++[];rw [List.append_nil];rfl,rfl,λx a=>by simp [runB] at a,λx a=>by simp [runB] at a,λx a=>by simp [runB] at a⟩
 |j+1=>by
  obtain ⟨n,h⟩:=bs8 l j;have p:=bm0 l;obtain ⟨s,hs⟩:∃ s,runB l j=s:=⟨_,rfl⟩;rw [hs] at h;obtain ⟨d,i⟩:∃ d,toN (l.getD (4*j+1+3) 0)=d:=⟨_,rfl⟩;have k:=bN7 (l.getD (4*j+1+3) 0);have e:runB l (j+1)=bX3 (parB l) l (4*j+1) s:=by show bX3 _ _ _ (runB l j)=_;rw [hs]
  rw [e];unfold bX3;rw [i] at*
  obtain ⟨fr,c⟩:∃ fr,at4 s.2.1 (l.getD (4*j+1+1) 0) (l.getD (4*j+1+2) 0)=fr:=⟨_,rfl⟩;have f:∀ y∈fr,y∈s.2.1:=λy b=>by rw [<-c] at b;exact bm3 b
  have g:fr.length<=3:=by rw [<-c];exact aJ7 _ _ _
  rw [c];refine ⟨n+d,?_,?_,?_,?_,?_,?_,?_⟩
  .show s.2.2+(d:Int)=_;rw [h.cnt];omega
  .show wr (s.1++[_])=_;rw [bO0,h.wrs,bN9,h.cnt]
  .show s.2.1++_=_++wr (s.1++[_]);rw [bO0,h.ther,cq0]
  .show F7 _ _ (s.1++[_])=true;rw [L6,h.thr];simp only [Bool.true_and,F7,Bool.and_true,List.nil_append,cq4,Bool.or_eq_true,cp6,List.contains_iff_mem];intro y b;have:=f y b;rw [h.ther,cq1] at this;rcases this with m|o
   .have:=bs6.1 m;left;omega
   .exact .inr o
  .intro x a;rcases cq1.1 a with a|a
   .exact ⟨(h.froms x a).1,λy b=>cq1.2 (.inl ((h.froms x a).2 y b))⟩
   .rw [co5] at a;subst a;exact ⟨g,λy b=>cq1.2 (.inl (f y b))⟩
  .intro x a;rcases cq1.1 a with a|a
   .exact h.tos x a
   .rw [co5] at a;subst a;show 1<=(ai4 _ _ d).length/\(ai4 _ _ d).length<=2;rw [aw6];exact k
  .intro x a;rcases cq1.1 a with a|a
   .exact h.bod x a
   .rw [co5] at a;subst a;rfl
theorem bO1 (l:List Int) (m:Int):endB l m<=90/\∀ i,i<endB l m->goB l m i=true:=by
 unfold endB;cases h:(List.range 91).find? λj=>!goB l m j with
 |none=>exact ⟨by simp,λi a=>by simp at a⟩
 |some j=>rw [List.find?_eq_some_iff_getElem] at h;obtain ⟨_,k,b,h1,h2⟩:=h;simp only [List.length_range,List.getElem_range] at b h1 h2;subst h1;refine ⟨by show k<=90;omega,λi a=>?_⟩;have:=h2 i a;simpa using this
theorem ci8 {l:List Int} {m:Int} (hm:0<=m):(endB l m:Int)<=m:=by
 have h:=(bO1 l m).2;by_cases h0:endB l m=0
 .omega
 .have h1:=h (endB l m-1) (by omega);unfold goB at h1;simp only [cn7,cp6] at h1;omega
structure Made (a:Int) (b:List Ins) (c:List Int):Prop where
 chk:Checked a b c
 par:0<=a/\a<=3
 froms:∀ x∈b,x.from_.length<=3
 tos:∀ x∈b,1<=x.to.length/\x.to.length<=2
 bod:∀ x∈b,x.body=[]
 out:c.length<=2
 regs:∀ n∈wr b,n<100
theorem made (l:List Int) {m:Int} (hm:0<=m):Made (parB l) (bl9 l m).code (bl9 l m).out/\((bl9 l m).code.length:Int)<=m:=by
 obtain ⟨n,h⟩:=bs8 l (endB l m);have hl:=bs5 l (endB l m);obtain ⟨g,d⟩:=bO1 l m;have i:=bm0 l;have p:n<=91:=by
  have h1:=h.cnt;by_cases h0:endB l m=0
  .rw [h0] at h1;have:(0:Int)=n:=h1;omega
  .obtain ⟨k,j⟩:∃ k,endB l m=k+1:=⟨endB l m-1,by omega⟩;have h2:=d k (by omega);unfold goB at h2;simp only [cn7,cp6] at h2;rw [j] at h1;have h3:(runB l k).2.2+(toN (l.getD (4*k+1+3) 0):Int)=n:=h1;have:=bN7 (l.getD (4*k+1+3) 0);omega
 show Made (parB l) (runB l (endB l m)).1 (outB (runB l (endB l m)).2.1)/\((runB l (endB l m)).1.length:Int)<=m;obtain ⟨s,hs⟩:∃ s,runB l (endB l m)=s:=⟨_,rfl⟩;have o:=ci8 (l:=l) hm;rw [hs] at h hl |-;have b:∀ x∈wr s.1,parB l<=x/\x<parB l+97:=λx a=>by rw [h.wrs] at a;exact bN8 (Int.le_refl _) a
 have e:∀ x∈s.2.1,(0<=x/\x<parB l)\/x∈wr s.1:=by
  intro x a;rw [h.ther,cq1] at a;rcases a with a|a
  .have:=bs6.1 a;left;omega
  .exact .inr a
 have c:∀ x∈s.2.1,0<=x/\x<=3999:=by
  intro x a;rcases e x a with a|a
  .omega
  .have:=b x a;omega
 refine ⟨⟨⟨by omega,i.1,by omega,λx a=>c x (bs7 a),?_,λx a y f=>c y ((h.froms x a).2 y f),?_,λx a=>(b x a).1,h.thr,?_⟩,by omega,λx a=>(h.froms x a).1,h.tos,h.bod,?_,λx a=>by have:=b x a;omega⟩,by omega⟩
 .intro x a y f;have:=b y (List.mem_flatMap.2 ⟨x,a,f⟩);omega
 .rw [G5,h.wrs];exact bm2 (by omega)
 .intro x a;rcases e x (bs7 a) with a|a
  .left;omega
  .exact .inr a
 .unfold outB;split<;>simp
def goodI (ks cells:Int) (x:RIns):Prop:=K8 ks cells x=true/\(x.kind≠0\/C0 x.ins.to=true)/\ax1 x.ins=true
theorem P9 {n:Int} {l:List Int}:C7 n l=true<->∀ x∈l,0<=x/\x<n:=by simp [C7]
theorem goodI.mono {ks c c':Int} {x:RIns} (h:goodI ks c x) (hc:c<=c'):goodI ks c' x:=by
 obtain ⟨h1,h2⟩:=h;refine ⟨?_,h2⟩;unfold K8 at h1 |-;split at h1
 .rename_i h0;rw [if_pos h0];exact h1
 .rename_i h0;rw [if_neg h0];split at h1
  .rename_i h3;rw [if_pos h3];simp only [cn7,P9,co5,forall_eq] at h1 |-;omega
  .cases h1
structure Inv (aW7:SF) (T:List Int) (nm:Int->Int) (ks:Int) (S:AS) (m:Holds) (C:List Ins) (nx:Int):Prop where
 run:H0 S.code aW7=((m,C,nx),true)
 slot:∀ (q:Nat) (n:Int),q<ks.toNat->mget eqP S.holds ⟨false,(q:Int)⟩=some n->n∉T->mget eqP m ⟨false,(q:Int)⟩=some (nm n)
 cell:∀ n cl,mget eqI S.cells n=some cl->0<=cl/\cl<S.ocells/\mget eqP m ⟨true,cl⟩=some (nm n)
 good:∀ x∈S.code,goodI ks S.ocells x
 low:0<=S.ocells
def InS (m:Holds) (ks n:Int):Prop:=∃ q:Nat,q<ks.toNat/\mget eqP m ⟨false,(q:Int)⟩=some n
theorem aw7 (n:Nat) (r:Int):mget eqP (K0 n) ⟨true,r⟩=if 0<=r/\r<n then some r else none:=by
 induction n with
 |zero=>rw [if_neg (by omega)];rfl
 |succ n ih=>
  rw [ab3,J4,ih];by_cases h:(n:Int)=r
  .rw [if_pos (by rw [h]),if_pos (by omega),h]
  .rw [if_neg (by simp only [Place.mk.injEq,true_and];exact h)];by_cases h2:0<=r/\r<n
   .rw [if_pos h2,if_pos (by omega)]
   .rw [if_neg h2,if_neg (by omega)]
structure Fit (a:Int) (b:List Ins) (c:List Int) (ks:Int):Prop where
 made:Made a b c
 len:b.length<=30
 ks1:1<=ks
 ks2:ks<=64
 few:b.all (fewX ks)=true
 ok:K4 b=true
 frm:as4 b=true
structure RS where
 slots:List Int
 cells:List (Int×Int)
 next:Int
 code:List RIns
def cm4 (b:List Ins) (reg from_:Int) (j:Nat):Bool:=decide (from_<=j)&&decide (G9 (b.getD j ins0).from_ reg>=0)
def bO2 (b:List Ins) (reg from_:Int):Int:=match (List.range b.length).find? (cm4 b reg from_) with
 |some j=>j
 |none=>b.length
structure HU where
 slots:List Int
 cells:List Int
 code:List Ins
 next:Int
def af5 (h:HU) (l:List Int):List Int:=l.map λn=>h.slots.getD n.toNat 0
def toU (s:List Int×Int×List Int) (n:Int):List Int×Int×List Int:=(s.1++[s.2.1],s.2.1+1,s.2.2.set n.toNat s.2.1)
def tosU (nx:Int) (sl l:List Int):List Int×Int×List Int:=l.foldl toU ([],nx,sl)
def af6 (h:HU) (x:RIns):HU×Bool:=
 bif x.kind==1 then (⟨h.slots.set x.slot.toNat (h.cells.getD x.cell.toNat 0),h.cells,h.code,h.next⟩,decide (0<=h.cells.getD x.cell.toNat 0))
 else bif x.kind==2 then (⟨h.slots,h.cells.set x.cell.toNat (h.slots.getD x.slot.toNat 0),h.code,h.next⟩,decide (0<=h.slots.getD x.slot.toNat 0))
 else bif decide (G9 (af5 h x.ins.from_) (-1)>=0) then (h,false)
 else (⟨(tosU h.next h.slots x.ins.to).2.2,h.cells,h.code++[⟨x.ins.op,x.ins.n,(tosU h.next h.slots x.ins.to).1,af5 h x.ins.from_,x.ins.body⟩],(tosU h.next h.slots x.ins.to).2.1⟩,true)
def runU:List RIns->HU->HU×Bool
 |[],h=>(h,true)
 |x::r,h=>bif (af6 h x).2 then runU r (af6 h x).1 else ((af6 h x).1,false)
def outU (h:HU) (p:Place):Int:=bif p.cell then h.cells.getD p.n.toNat 0 else h.slots.getD p.n.toNat 0
def T3 (h:HU):List Place->List Int×Bool
 |[]=>([],true)
 |p::r=>bif decide (outU h p<0) then ([],false) else (outU h p::(T3 h r).1,(T3 h r).2)
def ax4 (a:Int) (i:Nat):Int:=bif decide ((i:Int)<a) then (i:Int) else -1
def J5 (a ns nc:Int):HU:=⟨List.replicate ns.toNat (-1),(List.range nc.toNat).map (ax4 a),[],a⟩
def C9 (c:RCode):HU×List Int×Bool:=
 bif (runU c.code (J5 c.params c.slots c.cells)).2 then ((runU c.code (J5 c.params c.slots c.cells)).1,T3 (runU c.code (J5 c.params c.slots c.cells)).1 c.out)
 else ((runU c.code (J5 c.params c.slots c.cells)).1,[],false)
def cWithin:Con RU:=con [one,one] [ints,i64] [one] [.bool] [false] (some λp=>-1000000<=p.2.1/\p.2.1<=1000000) λp=>(C7 p.2.1 p.1,())
def bm4 (l:List Int) (n:Int):Nat->St RU->Ann RU:=λ_ _=>⟨[],[.slot 5],[i64],λp=>0<=p.1/\p.1<=l.length/\C7 n (l.take p.1.toNat)=true,λp=>l.length-p.1.toNat,[]⟩
def cRanged:Con RU:=con [(true,5)] ax2 [one] [.bool] [false] none λp=>(D7 ⟨p.1,p.2.1,p.2.2.1,p.2.2.2.1,p.2.2.2.2.1⟩,())
def V1 (a ns nc:Int):Bool:=lies a 0 4000&&lies ns 1 64&&lies nc a 8000
def bm5 (a ns nc:Int) (l:List RIns) (o:List Place):Nat->St RU->Ann RU:=λk s=>match k with
 |0=>⟨[],[.slot 3,.slot 4],[.bool,i64],λp=>0<=p.2.1/\p.2.1<=l.length/\p.1=(V1 a ns nc&&(l.take p.2.1.toNat).all (K8 ns nc)),λp=>l.length-p.2.1.toNat,[]⟩
 |_=>⟨[],[.slot 3,.slot 6],[.bool,i64],λp=>0<=p.2.1/\p.2.1<=o.length/\p.1=(V1 a ns nc&&l.all (K8 ns nc)&&(o.take p.2.1.toNat).all (I5 ns nc)),λp=>o.length-p.2.1.toNat,[]⟩
def aq2 (x:RIns):Bool:=x.kind !=0||C0 x.ins.to
def ci9 (l:List RIns):Prop:=∀ x∈l,x.ins.to.length<=17592186044400
def cTwice:Con RU:=con [(true,5)] ax2 [one] [.bool] [false] (some λp=>ci9 p.2.2.2.1) λp=>(!p.2.2.2.1.all aq2,())
def bO3 (l:List RIns):Nat->St RU->Ann RU:=λ_ _=>⟨[],[.slot 3],[i64],λp=>0<=p.1/\p.1<=l.length/\(l.take p.1.toNat).all aq2=true,λp=>l.length-p.1.toNat,[]⟩
def cUndone:Con RU:=con [(true,5)] ax2 [(true,7),one] [ints,ints,i64,inss,ints,ints,i64,.bool] [false,false,false,false,false,false,false,false]
 (some λp=>D7 ⟨p.1,p.2.1,p.2.2.1,p.2.2.2.1,p.2.2.2.2.1⟩=true/\p.2.2.2.1.length<=16000/\J3 p.2.2.2.1=true/\p.2.2.2.2.1.length<=17592186044400) λp=>
 ((C9 ⟨p.1,p.2.1,p.2.2.1,p.2.2.2.1,p.2.2.2.2.1⟩).1.slots,(C9 ⟨p.1,p.2.1,p.2.2.1,p.2.2.2.1,p.2.2.2.2.1⟩).1.cells,p.1,(C9 ⟨p.1,p.2.1,p.2.2.1,p.2.2.2.1,p.2.2.2.2.1⟩).1.code,(C9 ⟨p.1,p.2.1,p.2.2.1,p.2.2.2.1,p.2.2.2.2.1⟩).2.1,[],(C9 ⟨p.1,p.2.1,p.2.2.1,p.2.2.2.1,p.2.2.2.2.1⟩).1.next,(C9 ⟨p.1,p.2.1,p.2.2.1,p.2.2.2.1,p.2.2.2.2.1⟩).2.2,())
def bm6 (a ns nc:Int) (l:List RIns) (o:List Place):Nat->St RU->Ann RU:=λk s=>match k with
 |0=>⟨[],[.slot 5,.row 900001],[i64,ints],λp=>0<=p.1/\p.1<=ns/\p.2.1=List.replicate p.1.toNat (-1),λp=>ns.toNat-p.1.toNat,[(.box 256 0,900001,3,i64)]⟩
 |1=>⟨[],[.slot 6,.row 900002],[i64,ints],λp=>0<=p.1/\p.1<=nc/\p.2.1=(List.range p.1.toNat).map (ax4 a),λp=>nc.toNat-p.1.toNat,[(.box 256 1,900002,3,i64)]⟩
 |2=>⟨[],[.slot 7,.row 900001,.row 900002,.box 256 6,.row 900003],[i64,ints,ints,i64,inss],λp=>0<=p.1/\p.1<=l.length/\runU (l.take p.1.toNat) (J5 a ns nc)=(⟨p.2.1,p.2.2.1,p.2.2.2.2.1,p.2.2.2.1⟩,true),λp=>l.length-p.1.toNat,[(.box 256 3,900003,52,.user 0)]⟩
 |3=>⟨[9],[.slot 11,.row 4224],[i64,ints],λp=>0<=p.1/\p.1<=(l.getD (s.intAt 7).toNat rins0).ins.from_.length/\p.2.1=af5 (runU (l.take (s.intAt 7).toNat) (J5 a ns nc)).1 ((l.getD (s.intAt 7).toNat rins0).ins.from_.take p.1.toNat),λp=>(l.getD (s.intAt 7).toNat rins0).ins.from_.length-p.1.toNat,[]⟩
 |4=>⟨[10],[.slot 12,.row 4288,.box 256 6,.row 900001],[i64,ints,i64,ints],λp=>0<=p.1/\p.1<=(l.getD (s.intAt 7).toNat rins0).ins.to.length/\(p.2.1,p.2.2.1,p.2.2.2.1)=tosU (runU (l.take (s.intAt 7).toNat) (J5 a ns nc)).1.next (runU (l.take (s.intAt 7).toNat) (J5 a ns nc)).1.slots ((l.getD (s.intAt 7).toNat rins0).ins.to.take p.1.toNat),λp=>(l.getD (s.intAt 7).toNat rins0).ins.to.length-p.1.toNat,[]⟩
 |_=>⟨[],[.slot 13,.row 900004],[i64,ints],λp=>0<=p.1/\p.1<=o.length/\T3 (runU l (J5 a ns nc)).1 (o.take p.1.toNat)=(p.2.1,true),λp=>o.length-p.1.toNat,[(.box 256 4,900004,3,i64)]⟩
def bm7 (p:Dens RU.T ax2):Prop:=(-9223372036854775808<=p.2.1/\p.2.1<9223372036854775808/\J3 p.2.2.2.1=true/\p.2.2.2.2.1.length<=17592186044400)/\ci9 p.2.2.2.1
def cValidR:Con RU:=con [(true,5)] ax2 [one] [i64] [false] (some bm7) λp=>(F9 ⟨p.1,p.2.1,p.2.2.1,p.2.2.2.1,p.2.2.2.2.1⟩,())
def cBackR:Con RU:=con [(true,5)] ax2 [(true,4),one] [i64,inss,ints,ints,i64] [false,false,false,false,false] (some bm7) λp=>
 ((G4 ⟨p.1,p.2.1,p.2.2.1,p.2.2.2.1,p.2.2.2.2.1⟩).1.params,(G4 ⟨p.1,p.2.1,p.2.2.1,p.2.2.2.1,p.2.2.2.2.1⟩).1.code,(G4 ⟨p.1,p.2.1,p.2.2.1,p.2.2.2.1,p.2.2.2.2.1⟩).1.out,(G4 ⟨p.1,p.2.1,p.2.2.1,p.2.2.2.1,p.2.2.2.2.1⟩).1.at_,(G4 ⟨p.1,p.2.1,p.2.2.1,p.2.2.2.1,p.2.2.2.2.1⟩).2,())
def cLawB:Con RU:=con [(true,5)] ax2 [one] [.bool] [false] (some bm7) λ_=>(true,())
end Go.Rg
end
section
namespace Go.Proofs.YtknhkhdbonjhgaaDoor
open Go.ChangeShapes Go.WideShapes Go.ChangeAt Go.RowKit Go.VT
theorem cj0:Tryd.prog.cellsOf 28=1:=by kernel_rfl
theorem cj1:Tryd.prog.cellsOf 29=1:=by kernel_rfl
theorem cj2:Tryd.prog.cellsOf 31=5:=by kernel_rfl
theorem bm8:Tryd.prog.cellsOf 55=8:=by kernel_rfl
theorem cj3:Tryd.prog.bytesOf 55=112:=by kernel_rfl
theorem bO4:Tryd.prog.bytesOf 59=16:=by kernel_rfl
def readC:List (TypeId×Ty):=[(3,Go.Rg.i64),(4,.bool),(52,.user 0),(23,Go.Rg.ints),(22,Go.Rg.inss),(55,.user 1),(59,.user 2),(28,Go.Rg.ak9),(29,Go.Rg.W5)]
theorem bX4:br3 Tryd.prog Go.Rg.RU readC:=by
 intro t ty hm;simp only [readC,List.mem_cons,co6,List.not_mem_nil,or_false] at hm;rcases hm with ⟨rfl,rfl⟩|⟨rfl,rfl⟩|⟨rfl,rfl⟩|⟨rfl,rfl⟩|⟨rfl,rfl⟩|⟨rfl,rfl⟩|⟨rfl,rfl⟩|⟨rfl,rfl⟩|⟨rfl,rfl⟩
 .exact Tryd.underlying3
 .exact Tryd.underlying4
 .refine ⟨_,Tryd.underlying52,af4,λj ty' a=>?_⟩
  match j,a with
  |0,a=>cases a;exact ⟨0,_,Go.Rg.i64,rfl,by simp [readC],Nat.le_refl _,X3,by decide,rfl⟩
  |1,a=>cases a;exact ⟨1,_,Go.Rg.i64,rfl,by simp [readC],Nat.le_refl _,X3,by decide,rfl⟩
  |2,a=>cases a;exact ⟨2,_,Go.Rg.ints,rfl,by simp [readC],Nat.le_refl _,bN2,by decide,rfl⟩
  |3,a=>cases a;exact ⟨3,_,Go.Rg.ints,rfl,by simp [readC],Nat.le_refl _,bN2,by decide,rfl⟩
  |4,a=>cases a;exact ⟨4,_,Go.Rg.inss,rfl,by simp [readC],Nat.le_refl _,ci3,by decide,rfl⟩
  |j+5,a=>simp [Go.Rg.RU] at a
 .exact ⟨Tryd.underlying23,X3,by rw [X3];decide,by rw [bZ6];decide,by simp [readC]⟩
 .exact ⟨Tryd.underlying22,af4,by rw [af4];decide,by rw [bN3];decide,by simp [readC]⟩
 .refine ⟨_,Tryd.underlying55,bm8,λj ty' a=>?_⟩
  match j,a with
  |0,a=>cases a;exact ⟨0,_,Go.Rg.i64,rfl,by simp [readC],Nat.le_refl _,X3,by decide,rfl⟩
  |1,a=>cases a;exact ⟨1,_,Go.Rg.i64,rfl,by simp [readC],Nat.le_refl _,X3,by decide,rfl⟩
  |2,a=>cases a;exact ⟨2,_,Go.Rg.i64,rfl,by simp [readC],Nat.le_refl _,X3,by decide,rfl⟩
  |3,a=>cases a;exact ⟨3,_,.user 0,rfl,by simp [readC],by decide,af4,by decide,rfl⟩
  |4,a=>cases a;exact ⟨3,_,.user 0,rfl,by simp [readC],by decide,af4,by decide,rfl⟩
  |5,a=>cases a;exact ⟨3,_,.user 0,rfl,by simp [readC],by decide,af4,by decide,rfl⟩
  |6,a=>cases a;exact ⟨3,_,.user 0,rfl,by simp [readC],by decide,af4,by decide,rfl⟩
  |7,a=>cases a;exact ⟨3,_,.user 0,rfl,by simp [readC],by decide,af4,by decide,rfl⟩
  |j+8,a=>simp [Go.Rg.RU] at a
 .refine ⟨_,Tryd.underlying59,aU9,λj ty' a=>?_⟩
  match j,a with
  |0,a=>cases a;exact ⟨0,_,.bool,rfl,by simp [readC],Nat.le_refl _,bZ5,by decide,rfl⟩
  |1,a=>cases a;exact ⟨1,_,Go.Rg.i64,rfl,by simp [readC],Nat.le_refl _,X3,by decide,rfl⟩
  |j+2,a=>simp [Go.Rg.RU] at a
 .exact ⟨Tryd.underlying28,bm8,by rw [bm8];decide,by rw [cj3];decide,by simp [readC]⟩
 .exact ⟨Tryd.underlying29,aU9,by rw [aU9];decide,by rw [bO4];decide,by simp [readC]⟩
theorem bX5:cc1 Tryd.prog Go.Rg.RU readC 31 true [Go.Rg.i64,Go.Rg.i64,Go.Rg.i64,Go.Rg.ak9,Go.Rg.W5]:=by
 refine .inr (.inl ⟨rfl,_,Tryd.underlying31,cj2,rfl,λj f ty' hf a=>?_⟩)
 match j,hf,a with
 |0,hf,a=>cases hf;cases a;exact ⟨rfl,X3,rfl,by simp [readC]⟩
 |1,hf,a=>cases hf;cases a;exact ⟨rfl,X3,rfl,by simp [readC]⟩
 |2,hf,a=>cases hf;cases a;exact ⟨rfl,X3,rfl,by simp [readC]⟩
 |3,hf,a=>cases hf;cases a;exact ⟨rfl,cj0,rfl,by simp [readC]⟩
 |4,hf,a=>cases hf;cases a;exact ⟨rfl,cj1,rfl,by simp [readC]⟩
 |j+5,hf,a=>simp at a
theorem bm9:Tryd.prog.cellTypes Tryd.prog.depth 31=some [3,3,3,28,29]:=by kernel_rfl
set_option maxRecDepth 100000 in
theorem bB5 {W:World} {base:Nat} {a ns nc:Int} {l:List Go.Rg.RIns} {o:List Go.Rg.Place} {us vs:List Value} (hr:Reps Tryd.prog Go.Rg.RU W (A7 Go.Rg.RU [Go.Rg.i64,Go.Rg.i64,Go.Rg.i64,Go.Rg.ak9,Go.Rg.W5] (a,ns,nc,l,o,())) us) (e:I8 [(true,5)] us vs) (f:∀ v,vs[0]? =some v->Value.okWide Tryd.prog W .any base 31 v):-9223372036854775808<=ns/\ns<9223372036854775808:=by
 obtain ⟨a',r,v',vs',rfl,g,rfl,rfl,b⟩:=e;obtain ⟨rfl,rfl⟩:=b;have h:=f _ rfl;unfold Value.okWide at h;rw [Tryd.underlying31] at h;obtain ⟨cs,h1,h2,ts,h3,h4,i⟩:=h;rw [bm9] at h3;cases h3;obtain ⟨n,p,c⟩:=hr
 match a',g,h1,c with
 |[q,j,s,t,w],_,h1,c=>
  obtain ⟨k,_⟩:=c 1 ⟨Go.Rg.i64,ns⟩ j rfl rfl;cases k;cases h1;obtain ⟨u,m,d⟩:=i 1 (.int .i64 ns) rfl;cases m;have h3:=Tryd.underlying3;simp [Cell.okWide,h3,Cell.ok,IntKind.has] at d;have x:IntKind.i64.min=-9223372036854775808:=by decide
  have y:IntKind.i64.max=9223372036854775807:=by decide
  omega
theorem bB6 {W:World} {a ns nc:Int} {l:List Go.Rg.RIns} {o:List Go.Rg.Place} {us:List Value} (h:Reps Tryd.prog Go.Rg.RU W (A7 Go.Rg.RU [Go.Rg.i64,Go.Rg.i64,Go.Rg.i64,Go.Rg.ak9,Go.Rg.W5] (a,ns,nc,l,o,())) us) (d:-9223372036854775808<=ns/\ns<9223372036854775808):Go.Rg.bm7 (a,ns,nc,l,o,()):=by
 have hl:=h.light ⟨Go.Rg.ak9,l⟩ (by simp [A7]);have f:=h.light ⟨Go.Rg.W5,o⟩ (by simp [A7]);have c:o.length<=17592186044400:=by
  cases f with
  |slice e t l h hr=>rw [bO4] at h;simp only [reachBytes] at h;have h':(o:List Go.Rg.Place).length*16<=140737488351232:=h;omega
 have b:∀ x∈l,Go.Rg.ax1 x.ins=true/\x.ins.to.length<=17592186044400:=by
  cases hl with
  |slice e t l h hr=>intro x b;have h1:Light Tryd.prog (U:=Go.Rg.RU) ⟨Go.Rg.ints,x.ins.to⟩:=hr x b _ (.tail _ (.tail _ (.tail _ (.tail _ (.tail _ (.head _))))));have h2:Light Tryd.prog (U:=Go.Rg.RU) ⟨Go.Rg.ints,x.ins.from_⟩:=hr x b _ (.tail _ (.tail _ (.tail _ (.tail _ (.tail _ (.tail _ (.head _)))))));have h3:Light Tryd.prog (U:=Go.Rg.RU) ⟨Go.Rg.inss,x.ins.body⟩:=hr x b _ (.tail _ (.tail _ (.tail _ (.tail _ (.tail _ (.tail _ (.tail _ (.head _))))))));exact ⟨aI1 x.ins h1 h2 h3,by have:=at3 h1;omega⟩
 exact ⟨⟨d.1,d.2,cq4.2 λx h=>(b x h).1,c⟩,λx h=>(b x h).2⟩
end Go.Proofs.YtknhkhdbonjhgaaDoor
end
section
namespace Go.Rg
open Go Go.VT
theorem bO5 (l:List Int) (n:Int):vc (EV [(31,cLies)]) (bm4 l n) Go.Proofs.Tryd.f94 cWithin (l,n,())=(Small RU (Sigma.mk (Ty.slice (3:Nat) (Ty.int IntKind.i64)) l)->
  (∃ (p:Int×Unit),l=l/\n=n/\(0:Int)=p.1/\(0:Int)<=p.1/\p.1<=(↑(List.length l):Int)/\C7 n (List.take (Int.toNat p.1) l)=true)/\
  ∀ (p:Int×Unit),
 let a:Bool:=decide (p.1<(↑(List.length l):Int));
 let b:Bool:=!lies (List.getD l (Int.toNat p.1) (0:Int)) (0:Int) (IntKind.i64.wrap (n-(1:Int)));
  (0:Int)<=p.1/\p.1<=(↑(List.length l):Int)/\C7 n (List.take (Int.toNat p.1) l)=true->
  (a=true->
  ((0:Int)<=p.1/\p.1<(↑(List.length l):Int))/\
  (b=true->(false,())=(C7 n l,()))/\
  (b=false->
  ∃ (p':Int×Unit),
  l=l/\
  n=n/\
  IntKind.i64.wrap (p.1+(1:Int))=p'.1/\
  ((0:Int)<=p'.1/\p'.1<=(↑(List.length l):Int)/\C7 n (List.take (Int.toNat p'.1) l)=true)/\
  List.length l-Int.toNat p'.1<List.length l-Int.toNat p.1))/\
  (a=false->(true,())=(C7 n l,()))):=by kernel_rfl
theorem bO6 (a ns nc:Int) (l:List RIns) (o:List Place):vc (EV [(31,cLies),(94,cWithin)]) (bm5 a ns nc l o) Go.Proofs.Tryd.f62 cRanged (a,ns,nc,l,o,())=(
 let b:Int:=(↑(List.length l):Int);
 let d:Int:=(↑(List.length o):Int);
 let c:RIns:=RIns.mk (0:Int) (0:Int) (0:Int) ins0;
 let e:Int:=IntKind.i64.wrap (nc-(1:Int));
 let f:Int:=IntKind.i64.wrap (ns-(1:Int));
  Small RU (Sigma.mk (Ty.slice (55:Nat) (Ty.user (1:Nat))) l)->
  Small RU (Sigma.mk (Ty.slice (59:Nat) (Ty.user (2:Nat))) o)->
  (∃ (p:Bool×Int×Unit),
  a=a/\
  ns=ns/\
  nc=nc/\
  l=l/\
  o=o/\
  false=false/\
  (lies a (0:Int) (4000:Int)&&lies ns (1:Int) (64:Int)&&lies nc a (8000:Int))=p.1/\
  (0:Int)=p.2.1/\
  a=a/\ns=ns/\nc=nc/\l=l/\o=o/\(0:Int)<=p.2.1/\p.2.1<=b/\p.1=(V1 a ns nc&&List.all (List.take (Int.toNat p.2.1) l) (K8 ns nc)))/\
  ∀ (p:Bool×Int×Unit),
 let e0_1:Bool:=p.1&&decide (p.2.1<b);
 let e1_1:Bool:=(List.getD l (Int.toNat p.2.1) c).kind==(0:Int);
 let e2_1:Int:=p.2.1;
 let e3_1:RIns:=List.getD l (Int.toNat e2_1) c;
  (0:Int)<=e2_1/\e2_1<=b/\p.1=(V1 a ns nc&&List.all (List.take (Int.toNat e2_1) l) (K8 ns nc))->
  (e0_1=true->
  ((0:Int)<=e2_1/\e2_1<b)/\
  (e1_1=true->((-1000000:Int)<=ns/\ns<=(1000000:Int))/\(C7 ns e3_1.ins.to=true->(-1000000:Int)<=ns/\ns<=(1000000:Int)))/\
  ∃ (p':Bool×Int×Unit),
  (bif e1_1 then a else a)=a/\
  (bif e1_1 then ns else ns)=ns/\
  (bif e1_1 then nc else nc)=nc/\
  (bif e1_1 then l else l)=l/\
  (bif e1_1 then o else o)=o/\
  (bif e1_1 then false else false)=false/\
  (bif e1_1 then C7 ns e3_1.ins.to&&C7 ns e3_1.ins.from_
  else lies e3_1.kind (1:Int) (2:Int)&&lies e3_1.slot (0:Int) f&&lies e3_1.cell (0:Int) e)=
  p'.1/\
  IntKind.i64.wrap ((bif e1_1 then e2_1 else e2_1)+(1:Int))=p'.2.1/\
  (bif e1_1 then a else a)=a/\
  (bif e1_1 then ns else ns)=ns/\
  (bif e1_1 then nc else nc)=nc/\
  (bif e1_1 then l else l)=l/\
  (bif e1_1 then o else o)=o/\
  ((0:Int)<=p'.2.1/\p'.2.1<=b/\p'.1=(V1 a ns nc&&List.all (List.take (Int.toNat p'.2.1) l) (K8 ns nc)))/\
  List.length l-Int.toNat p'.2.1<List.length l-Int.toNat e2_1)/\
  (e0_1=false->
  (∃ (p_1:Bool×Int×Unit),
  a=a/\
  ns=ns/\
  nc=nc/\
  l=l/\
  o=o/\
  false=false/\
  e2_1=e2_1/\
  e0_1=e0_1/\
  p.1=p_1.1/\
  (0:Int)=p_1.2.1/\
  a=a/\
  ns=ns/\
  nc=nc/\
  l=l/\
  o=o/\
  (0:Int)<=p_1.2.1/\
  p_1.2.1<=d/\p_1.1=(V1 a ns nc&&List.all l (K8 ns nc)&&List.all (List.take (Int.toNat p_1.2.1) o) (I5 ns nc)))/\
  ∀ (p:Bool×Int×Unit),
 let b:Bool:=(List.getD o (Int.toNat p.2.1) (Place.mk false (0:Int))).cell;
 let e1_2:Bool:=p.1&&decide (p.2.1<d);
 let c:Int:=p.2.1;
  (0:Int)<=c/\c<=d/\p.1=(V1 a ns nc&&List.all l (K8 ns nc)&&List.all (List.take (Int.toNat c) o) (I5 ns nc))->
  (e1_2=true->
  ((0:Int)<=c/\c<d)/\
  ((0:Int)<=c/\c<d)/\
  (b=true->(0:Int)<=c/\c<d)/\
  ∃ (p':Bool×Int×Unit),
  (bif b then a else a)=a/\
  (bif b then ns else ns)=ns/\
  (bif b then nc else nc)=nc/\
  (bif b then l else l)=l/\
  (bif b then o else o)=o/\
  (bif b then false else false)=false/\
  (bif b then e2_1 else e2_1)=e2_1/\
  (bif b then e0_1 else e0_1)=e0_1/\
  (bif b then lies (List.getD o (Int.toNat c) (Place.mk false (0:Int))).n (0:Int) e
  else lies (List.getD o (Int.toNat c) (Place.mk false (0:Int))).n (0:Int) f)=
  p'.1/\
  IntKind.i64.wrap ((bif b then c else c)+(1:Int))=p'.2.1/\
  (bif b then a else a)=a/\
  (bif b then ns else ns)=ns/\
  (bif b then nc else nc)=nc/\
  (bif b then l else l)=l/\
  (bif b then o else o)=o/\
  ((0:Int)<=p'.2.1/\
  p'.2.1<=d/\
  p'.1=(V1 a ns nc&&List.all l (K8 ns nc)&&List.all (List.take (Int.toNat p'.2.1) o) (I5 ns nc)))/\
  List.length o-Int.toNat p'.2.1<List.length o-Int.toNat c)/\
  (e1_2=false->(p.1,())=(D7 (RCode.mk a ns nc l o),())))):=by kernel_rfl
theorem bX6 (a ns nc:Int) (l:List RIns) (o:List Place):vc (EV [(35,cUnion)]) (bO3 l) Go.Proofs.Tryd.f63 cTwice (a,ns,nc,l,o,())=(
 let b:RIns:=RIns.mk (0:Int) (0:Int) (0:Int) ins0;
  Small RU (Sigma.mk (Ty.slice (55:Nat) (Ty.user (1:Nat))) l)->
  Small RU (Sigma.mk (Ty.slice (59:Nat) (Ty.user (2:Nat))) o)->
  (∃ (p:Int×Unit),
  a=a/\
  ns=ns/\
  nc=nc/\
  l=l/\
  o=o/\(0:Int)=p.1/\a=a/\ns=ns/\nc=nc/\l=l/\o=o/\(0:Int)<=p.1/\p.1<=(↑(List.length l):Int)/\List.all (List.take (Int.toNat p.1) l) aq2=true)/\
  ∀ (p:Int×Unit),
 let e0_1:Bool:=
  (List.getD l (Int.toNat p.1) b).kind==(0:Int)&&
  (↑(List.length (D8 [] (List.getD l (Int.toNat p.1) b).ins.to)):Int) !=(↑(List.length (List.getD l (Int.toNat p.1) b).ins.to):Int);
 let c:Bool:=decide (p.1<(↑(List.length l):Int));
  (0:Int)<=p.1/\p.1<=(↑(List.length l):Int)/\List.all (List.take (Int.toNat p.1) l) aq2=true->
  (c=true->
  ((0:Int)<=p.1/\p.1<(↑(List.length l):Int))/\
  ((0:Int)<=p.1/\p.1<(↑(List.length l):Int))/\
  (((List.getD l (Int.toNat p.1) b).kind==(0:Int))=true->Nat.le (List.length ([]:List Int)+List.length (List.getD l (Int.toNat p.1) b).ins.to) (17592186044400:Nat))/\
  (e0_1=true->(true,())=(!List.all l aq2,()))/\
  (e0_1=false->
  ∃ (p':Int×Unit),
  a=a/\
  ns=ns/\
  nc=nc/\
  l=l/\
  o=o/\
  IntKind.i64.wrap (p.1+(1:Int))=p'.1/\
  a=a/\
  ns=ns/\
  nc=nc/\
  l=l/\
  o=o/\
  ((0:Int)<=p'.1/\p'.1<=(↑(List.length l):Int)/\List.all (List.take (Int.toNat p'.1) l) aq2=true)/\
  List.length l-Int.toNat p'.1<List.length l-Int.toNat p.1))/\
  (c=false->(false,())=(!List.all l aq2,()))):=by kernel_rfl
theorem bO7 (a ns nc:Int) (l:List RIns) (o:List Place):vc (EV [(32,cWhere)]) (bm6 a ns nc l o) Go.Proofs.Tryd.f59 cUndone (a,ns,nc,l,o,())=(
 let s:List Int×List Int×Int×List Ins×List Int×List Int×Int×Bool×Unit:=
  ((C9 (RCode.mk a ns nc l o)).1.slots,(C9 (RCode.mk a ns nc l o)).1.cells,a,(C9 (RCode.mk a ns nc l o)).1.code,(C9 (RCode.mk a ns nc l o)).2.1,[],
  (C9 (RCode.mk a ns nc l o)).1.next,(C9 (RCode.mk a ns nc l o)).2.2,());
 let b:RIns:=RIns.mk (0:Int) (0:Int) (0:Int) ins0;
 let t:Int:=(↑(List.length l):Int);
 let f:Int:=(-1:Int);
 let q:Int:=(↑(List.length o):Int);
 let u:Place:=Place.mk false (0:Int);
  Small RU (Sigma.mk (Ty.slice (55:Nat) (Ty.user (1:Nat))) l)->
  Small RU (Sigma.mk (Ty.slice (59:Nat) (Ty.user (2:Nat))) o)->
  (∃ (p:Int×List Int×Unit),
  a=a/\
  ns=ns/\
  nc=nc/\
  l=l/\
  o=o/\
  false=false/\
  (0:Int)=p.1/\
  a=a/\
  ns=ns/\
  nc=nc/\
  l=l/\
  o=o/\
  (0:Int)=(0:Int)/\(0:Int)=(0:Int)/\a=a/\a=a/\[]=p.2.1/\(0:Int)<=p.1/\p.1<=ns/\p.2.1=List.replicate (Int.toNat p.1) f)/\
  ∀ (p:Int×List Int×Unit),
 let e0_1:Bool:=decide (p.1<ns);
 let e1_1:List Int:=p.2.1;
 let e2_1:Int:=p.1;
  (0:Int)<=e2_1/\e2_1<=ns/\e1_1=List.replicate (Int.toNat e2_1) f->
  (e0_1=true->
  (List.length e1_1+List.length [f])*(8:Nat)<=(140737488355328:Nat)/\
  ∃ (p':Int×List Int×Unit),
  a=a/\
  ns=ns/\
  nc=nc/\
  l=l/\
  o=o/\
  false=false/\
  IntKind.i64.wrap (e2_1+(1:Int))=p'.1/\
  a=a/\
  ns=ns/\
  nc=nc/\
  l=l/\
  o=o/\
  (0:Int)=(0:Int)/\
  (0:Int)=(0:Int)/\
  a=a/\
  a=a/\
  e1_1++[f]=p'.2.1/\
  ((0:Int)<=p'.1/\p'.1<=ns/\p'.2.1=List.replicate (Int.toNat p'.1) f)/\
  Int.toNat ns-Int.toNat p'.1<Int.toNat ns-Int.toNat e2_1)/\
  (e0_1=false->
  (∃ (p:Int×List Int×Unit),
  a=a/\
  ns=ns/\
  nc=nc/\
  l=l/\
  o=o/\
  false=false/\
  e2_1=e2_1/\
  e0_1=e0_1/\
  (0:Int)=p.1/\
  a=a/\
  ns=ns/\
  nc=nc/\
  l=l/\
  o=o/\
  (0:Int)=(0:Int)/\
  (0:Int)=(0:Int)/\
  a=a/\a=a/\e1_1=e1_1/\[]=p.2.1/\(0:Int)<=p.1/\p.1<=nc/\p.2.1=List.map (ax4 a) (List.range (Int.toNat p.1)))/\
  ∀ (p:Int×List Int×Unit),
 let e0_2:Bool:=decide (p.1<a);
 let e1_2:Bool:=decide (p.1<nc);
 let e2_2:List Int:=p.2.1++[f];
 let e3_1:Int:=p.1;
 let e4_1:List Int:=p.2.1;
  (0:Int)<=e3_1/\e3_1<=nc/\e4_1=List.map (ax4 a) (List.range (Int.toNat e3_1))->
  (e1_2=true->
  (List.length e4_1+List.length [f])*(8:Nat)<=(140737488355328:Nat)/\
  (e0_2=true->(0:Int)<=e3_1/\e3_1<(↑(List.length e2_2):Int))/\
  ∃ (p':Int×List Int×Unit),
  (bif e0_2 then a else a)=a/\
  (bif e0_2 then ns else ns)=ns/\
  (bif e0_2 then nc else nc)=nc/\
  (bif e0_2 then l else l)=l/\
  (bif e0_2 then o else o)=o/\
  (bif e0_2 then false else false)=false/\
  (bif e0_2 then e2_1 else e2_1)=e2_1/\
  (bif e0_2 then e0_1 else e0_1)=e0_1/\
  IntKind.i64.wrap ((bif e0_2 then e3_1 else e3_1)+(1:Int))=p'.1/\
  (bif e0_2 then a else a)=a/\
  (bif e0_2 then ns else ns)=ns/\
  (bif e0_2 then nc else nc)=nc/\
  (bif e0_2 then l else l)=l/\
  (bif e0_2 then o else o)=o/\
  (bif e0_2 then (0:Int) else (0:Int))=(0:Int)/\
  (bif e0_2 then (0:Int) else (0:Int))=(0:Int)/\
  (bif e0_2 then a else a)=a/\
  (bif e0_2 then a else a)=a/\
  (bif e0_2 then e1_1 else e1_1)=e1_1/\
  (bif e0_2 then List.set e2_2 (Int.toNat e3_1) e3_1 else e2_2)=p'.2.1/\
  ((0:Int)<=p'.1/\p'.1<=nc/\p'.2.1=List.map (ax4 a) (List.range (Int.toNat p'.1)))/\
  Int.toNat nc-Int.toNat p'.1<Int.toNat nc-Int.toNat e3_1)/\
  (e1_2=false->
  (∃ (p:Int×List Int×List Int×Int×List Ins×Unit),
  a=a/\
  ns=ns/\
  nc=nc/\
  l=l/\
  o=o/\
  e2_1=e2_1/\
  e0_1=e0_1/\
  e3_1=e3_1/\
  e1_2=e1_2/\
  (0:Int)=p.1/\
  a=a/\
  ns=ns/\
  nc=nc/\
  l=l/\
  o=o/\
  (0:Int)=(0:Int)/\
  (0:Int)=(0:Int)/\
  a=a/\
  a=p.2.2.2.1/\
  e1_1=p.2.1/\
  e4_1=p.2.2.1/\
  []=p.2.2.2.2.1/\
  (0:Int)<=p.1/\
  p.1<=t/\
  runU (List.take (Int.toNat p.1) l) (J5 a ns nc)=
  (HU.mk p.2.1 p.2.2.1 p.2.2.2.2.1 p.2.2.2.1,true))/\
  ∀ (p:Int×List Int×List Int×Int×List Ins×Unit),
 let e0_3:List Ins:=p.2.2.2.2.1;
 let e1_3:List Int:=p.2.2.1;
 let e2_3:Int:=p.2.2.2.1;
 let e3_2:List Int:=p.2.1;
 let e4_2:Bool:=decide (p.1<t);
 let e5_1:Bool:=
  decide
  (List.getD (List.set e1_3 (Int.toNat (List.getD l (Int.toNat p.1) b).cell) (List.getD e3_2 (Int.toNat (List.getD l (Int.toNat p.1) b).slot) (0:Int)))
  (Int.toNat (List.getD l (Int.toNat p.1) b).cell) (0:Int)<
  (0:Int));
 let x:Bool:=
  decide
  (List.getD (List.set e3_2 (Int.toNat (List.getD l (Int.toNat p.1) b).slot) (List.getD e1_3 (Int.toNat (List.getD l (Int.toNat p.1) b).cell) (0:Int)))
  (Int.toNat (List.getD l (Int.toNat p.1) b).slot) (0:Int)<
  (0:Int));
 let c:Int:=p.1;
 let B:List Int×Int×List Ins×List Int×List Int×Int×Bool×Unit:=(e1_3,a,e0_3,[],[],e2_3,false,());
 let A:List Int:=List.set e1_3 (Int.toNat (List.getD l (Int.toNat c) b).cell) (List.getD e3_2 (Int.toNat (List.getD l (Int.toNat c) b).slot) (0:Int));
 let y:List Int:=List.set e3_2 (Int.toNat (List.getD l (Int.toNat c) b).slot) (List.getD e1_3 (Int.toNat (List.getD l (Int.toNat c) b).cell) (0:Int));
 let i:Bool:=(List.getD l (Int.toNat c) b).kind==(2:Int);
 let j:Bool:=(List.getD l (Int.toNat c) b).kind==(1:Int);
 let z:Int:=(↑(List.length (List.getD l (Int.toNat c) b).ins.from_):Int);
 let g:List Int:=(List.getD l (Int.toNat c) b).ins.to;
 let d:Int:=(List.getD l (Int.toNat c) b).slot;
 let e:Int:=(List.getD l (Int.toNat c) b).cell;
 let r:HU:=(runU (List.take (Int.toNat c) l) (J5 a ns nc)).1;
 let h:List Int:=(List.getD l (Int.toNat c) b).ins.from_;
 let k:List Ins:=(List.getD l (Int.toNat c) b).ins.body;
 let m:Int:=(List.getD l (Int.toNat c) b).ins.op;
 let n:Int:=(List.getD l (Int.toNat c) b).ins.n;
 let v:Nat:=List.length (List.getD l (Int.toNat c) rins0).ins.from_;
 let w:Nat:=List.length (List.getD l (Int.toNat c) rins0).ins.to;
  (0:Int)<=c/\c<=t/\runU (List.take (Int.toNat c) l) (J5 a ns nc)=(HU.mk e3_2 e1_3 e0_3 e2_3,true)->
  (e4_2=true->
  ((0:Int)<=c/\c<t)/\
  (j=true->
  ((0:Int)<=e/\e<(↑(List.length e1_3):Int))/\
  ((0:Int)<=d/\d<(↑(List.length e3_2):Int))/\
  ((0:Int)<=d/\d<(↑(List.length y):Int))/\
  (x=true->(y,B)=s)/\
  (x=false->
  ∃ (p':Int×List Int×List Int×Int×List Ins×Unit),
  a=a/\
  ns=ns/\
  nc=nc/\
  l=l/\
  o=o/\
  e2_1=e2_1/\
  e0_1=e0_1/\
  e3_1=e3_1/\
  e1_2=e1_2/\
  IntKind.i64.wrap (c+(1:Int))=p'.1/\
  a=a/\
  ns=ns/\
  nc=nc/\
  l=l/\
  o=o/\
  (0:Int)=(0:Int)/\
  (0:Int)=(0:Int)/\
  a=a/\
  e2_3=p'.2.2.2.1/\
  y=p'.2.1/\
  e1_3=p'.2.2.1/\
  e0_3=p'.2.2.2.2.1/\
  ((0:Int)<=p'.1/\
  p'.1<=t/\
  runU (List.take (Int.toNat p'.1) l) (J5 a ns nc)=
  (HU.mk p'.2.1 p'.2.2.1 p'.2.2.2.2.1 p'.2.2.2.1,true))/\
  List.length l-Int.toNat p'.1<List.length l-Int.toNat c))/\
  (j=false->
  (i=true->
  ((0:Int)<=d/\d<(↑(List.length e3_2):Int))/\
  ((0:Int)<=e/\e<(↑(List.length e1_3):Int))/\
  ((0:Int)<=e/\e<(↑(List.length A):Int))/\
  (e5_1=true->(e3_2,A,a,e0_3,[],[],e2_3,false,())=s)/\
  (e5_1=false->
  ∃ (p':Int×List Int×List Int×Int×List Ins×Unit),
  a=a/\
  ns=ns/\
  nc=nc/\
  l=l/\
  o=o/\
  e2_1=e2_1/\
  e0_1=e0_1/\
  e3_1=e3_1/\
  e1_2=e1_2/\
  IntKind.i64.wrap (c+(1:Int))=p'.1/\
  a=a/\
  ns=ns/\
  nc=nc/\
  l=l/\
  o=o/\
  (0:Int)=(0:Int)/\
  (0:Int)=(0:Int)/\
  a=a/\
  e2_3=p'.2.2.2.1/\
  e3_2=p'.2.1/\
  A=p'.2.2.1/\
  e0_3=p'.2.2.2.2.1/\
  ((0:Int)<=p'.1/\
  p'.1<=t/\
  runU (List.take (Int.toNat p'.1) l) (J5 a ns nc)=
  (HU.mk p'.2.1 p'.2.2.1 p'.2.2.2.2.1 p'.2.2.2.1,true))/\
  List.length l-Int.toNat p'.1<List.length l-Int.toNat c))/\
  (i=false->
  (∃ (p:Int×List Int×Unit),
  a=a/\
  ns=ns/\
  nc=nc/\
  l=l/\
  o=o/\
  e2_1=e2_1/\
  e0_1=e0_1/\
  e3_1=e3_1/\
  e1_2=e1_2/\
  c=c/\
  e4_2=e4_2/\
  (List.getD l (Int.toNat c) b).kind=(List.getD l (Int.toNat c) b).kind/\
  j=j/\
  i=i/\
  (0:Int)=p.1/\
  a=a/\
  ns=ns/\
  nc=nc/\
  l=l/\
  o=o/\
  (0:Int)=(0:Int)/\
  (0:Int)=(0:Int)/\
  a=a/\
  e2_3=e2_3/\
  e3_2=e3_2/\
  e1_3=e1_3/\
  e0_3=e0_3/\
  (List.getD l (Int.toNat c) b).kind=(List.getD l (Int.toNat c) b).kind/\
  d=d/\
  e=e/\
  m=m/\
  n=n/\
  g=g/\
  h=h/\
  k=k/\
  []=p.2.1/\
  ([]:List Int)=[]/\
  (0:Int)<=p.1/\
  p.1<=(↑v:Int)/\
  p.2.1=
  af5 r
  (List.take (Int.toNat p.1)
  (List.getD l (Int.toNat c) rins0).ins.from_))/\
  ∀ (p:Int×List Int×Unit),
 let e0_4:Bool:=decide (G9 p.2.1 f>=(0:Int));
 let e1_4:Bool:=decide (p.1<z);
 let e2_4:List Int:=p.2.1;
 let f:Int:=p.1;
 let q:List Int:=[List.getD e3_2 (Int.toNat (List.getD h (Int.toNat f) (0:Int))) (0:Int)];
  (0:Int)<=f/\f<=(↑v:Int)/\e2_4=af5 r (List.take (Int.toNat f) (List.getD l (Int.toNat c) rins0).ins.from_)->
  (e1_4=true->
  ((0:Int)<=f/\f<z)/\
  ((0:Int)<=List.getD h (Int.toNat f) (0:Int)/\List.getD h (Int.toNat f) (0:Int)<(↑(List.length e3_2):Int))/\
  (List.length e2_4+List.length q)*(8:Nat)<=(140737488355328:Nat)/\
  ∃ (p':Int×List Int×Unit),
  a=a/\
  ns=ns/\
  nc=nc/\
  l=l/\
  o=o/\
  e2_1=e2_1/\
  e0_1=e0_1/\
  e3_1=e3_1/\
  e1_2=e1_2/\
  c=c/\
  e4_2=e4_2/\
  (List.getD l (Int.toNat c) b).kind=(List.getD l (Int.toNat c) b).kind/\
  j=j/\
  i=i/\
  IntKind.i64.wrap (f+(1:Int))=p'.1/\
  a=a/\
  ns=ns/\
  nc=nc/\
  l=l/\
  o=o/\
  (0:Int)=(0:Int)/\
  (0:Int)=(0:Int)/\
  a=a/\
  e2_3=e2_3/\
  e3_2=e3_2/\
  e1_3=e1_3/\
  e0_3=e0_3/\
  (List.getD l (Int.toNat c) b).kind=(List.getD l (Int.toNat c) b).kind/\
  d=d/\
  e=e/\
  m=m/\
  n=n/\
  g=g/\
  h=h/\
  k=k/\
  e2_4++q=p'.2.1/\
  ([]:List Int)=[]/\
  ((0:Int)<=p'.1/\
  p'.1<=(↑v:Int)/\
  p'.2.1=
  af5 r
  (List.take (Int.toNat p'.1)
  (List.getD l (Int.toNat c) rins0).ins.from_))/\
  v-Int.toNat p'.1<v-Int.toNat f)/\
  (e1_4=false->
  (e0_4=true->(e3_2,B)=s)/\
  (e0_4=false->
  (∃ (p:Int×List Int×Int×List Int×Unit),
  a=a/\
  ns=ns/\
  nc=nc/\
  l=l/\
  o=o/\
  e2_1=e2_1/\
  e0_1=e0_1/\
  e3_1=e3_1/\
  e1_2=e1_2/\
  c=c/\
  e4_2=e4_2/\
  (List.getD l (Int.toNat c) b).kind=(List.getD l (Int.toNat c) b).kind/\
  j=j/\
  i=i/\
  f=f/\
  e1_4=e1_4/\
  e0_4=e0_4/\
  (0:Int)=p.1/\
  a=a/\
  ns=ns/\
  nc=nc/\
  l=l/\
  o=o/\
  (0:Int)=(0:Int)/\
  (0:Int)=(0:Int)/\
  a=a/\
  e2_3=p.2.2.1/\
  e3_2=p.2.2.2.1/\
  e1_3=e1_3/\
  e0_3=e0_3/\
  (List.getD l (Int.toNat c) b).kind=(List.getD l (Int.toNat c) b).kind/\
  d=d/\
  e=e/\
  m=m/\
  n=n/\
  g=g/\
  h=h/\
  k=k/\
  e2_4=e2_4/\
  []=p.2.1/\
  (0:Int)<=p.1/\
  p.1<=(↑w:Int)/\
  (p.2.1,p.2.2.1,p.2.2.2.1)=
  tosU r.next r.slots
  (List.take (Int.toNat p.1)
  (List.getD l (Int.toNat c) rins0).ins.to))/\
  ∀ (p:Int×List Int×Int×List Int×Unit),
 let s:Int:=p.2.2.1;
 let e1_5:List Int:=p.2.2.2.1;
 let e2_5:List Int:=p.2.1;
 let e3_3:Bool:=decide (p.1<(↑(List.length g):Int));
 let q:Int:=p.1;
 let u:Int:=List.getD g (Int.toNat q) (0:Int);
  (0:Int)<=q/\
  q<=(↑w:Int)/\(e2_5,s,e1_5)=tosU r.next r.slots (List.take (Int.toNat q) (List.getD l (Int.toNat c) rins0).ins.to)->
  (e3_3=true->
  ((0:Int)<=q/\q<(↑(List.length g):Int))/\
  ((0:Int)<=u/\u<(↑(List.length e1_5):Int))/\
  (List.length e2_5+List.length [s])*(8:Nat)<=(140737488355328:Nat)/\
  ∃ (p':Int×List Int×Int×List Int×Unit),
  a=a/\
  ns=ns/\
  nc=nc/\
  l=l/\
  o=o/\
  e2_1=e2_1/\
  e0_1=e0_1/\
  e3_1=e3_1/\
  e1_2=e1_2/\
  c=c/\
  e4_2=e4_2/\
  (List.getD l (Int.toNat c) b).kind=(List.getD l (Int.toNat c) b).kind/\
  j=j/\
  i=i/\
  f=f/\
  e1_4=e1_4/\
  e0_4=e0_4/\
  IntKind.i64.wrap (q+(1:Int))=p'.1/\
  a=a/\
  ns=ns/\
  nc=nc/\
  l=l/\
  o=o/\
  (0:Int)=(0:Int)/\
  (0:Int)=(0:Int)/\
  a=a/\
  IntKind.i64.wrap (s+(1:Int))=p'.2.2.1/\
  List.set e1_5 (Int.toNat u) s=p'.2.2.2.1/\
  e1_3=e1_3/\
  e0_3=e0_3/\
  (List.getD l (Int.toNat c) b).kind=
  (List.getD l (Int.toNat c) b).kind/\
  d=d/\
  e=e/\
  m=m/\
  n=n/\
  g=g/\
  h=h/\
  k=k/\
  e2_4=e2_4/\
  e2_5++[s]=p'.2.1/\
  ((0:Int)<=p'.1/\
  p'.1<=(↑w:Int)/\
  (p'.2.1,p'.2.2.1,
  p'.2.2.2.1)=
  tosU r.next r.slots
  (List.take (Int.toNat p'.1)
  (List.getD l (Int.toNat c)
  rins0).ins.to))/\
  w-Int.toNat p'.1<
  w-Int.toNat q)/\
  (e3_3=false->
  (List.length e0_3+List.length [Ins.mk m n e2_5 e2_4 k])*(88:Nat)<=(140737488355328:Nat)/\
  ∃ (p':Int×List Int×List Int×Int×List Ins×Unit),
  a=a/\
  ns=ns/\
  nc=nc/\
  l=l/\
  o=o/\
  e2_1=e2_1/\
  e0_1=e0_1/\
  e3_1=e3_1/\
  e1_2=e1_2/\
  IntKind.i64.wrap (c+(1:Int))=p'.1/\
  a=a/\
  ns=ns/\
  nc=nc/\
  l=l/\
  o=o/\
  (0:Int)=(0:Int)/\
  (0:Int)=(0:Int)/\
  a=a/\
  s=p'.2.2.2.1/\
  e1_5=p'.2.1/\
  e1_3=p'.2.2.1/\
  e0_3++[Ins.mk m n e2_5 e2_4 k]=p'.2.2.2.2.1/\
  ((0:Int)<=p'.1/\
  p'.1<=t/\
  runU (List.take (Int.toNat p'.1) l) (J5 a ns nc)=
  (HU.mk p'.2.1 p'.2.2.1 p'.2.2.2.2.1 p'.2.2.2.1,
  true))/\
  List.length l-Int.toNat p'.1<List.length l-Int.toNat c))))))/\
  (e4_2=false->
  (∃ (p:Int×List Int×Unit),
  a=a/\
  ns=ns/\
  nc=nc/\
  l=l/\
  o=o/\
  e2_1=e2_1/\
  e0_1=e0_1/\
  e3_1=e3_1/\
  e1_2=e1_2/\
  c=c/\
  e4_2=e4_2/\
  (0:Int)=p.1/\
  a=a/\
  ns=ns/\
  nc=nc/\
  l=l/\
  o=o/\
  (0:Int)=(0:Int)/\
  (0:Int)=(0:Int)/\
  a=a/\
  e2_3=e2_3/\
  e3_2=e3_2/\
  e1_3=e1_3/\
  e0_3=e0_3/\
  []=p.2.1/\
  (0:Int)<=p.1/\
  p.1<=q/\T3 (runU l (J5 a ns nc)).1 (List.take (Int.toNat p.1) o)=(p.2.1,true))/\
  ∀ (p:Int×List Int×Unit),
 let e0_4:Bool:=
  decide
  ((bif (List.getD o (Int.toNat p.1) u).cell then List.getD e1_3 (Int.toNat (List.getD o (Int.toNat p.1) u).n) (0:Int)
  else List.getD e3_2 (Int.toNat (List.getD o (Int.toNat p.1) u).n) (0:Int))<
  (0:Int));
 let b:Bool:=(List.getD o (Int.toNat p.1) u).cell;
 let t:List Int:=bif b then p.2.1 else p.2.1;
 let f:List Int:=
  [bif b then List.getD e1_3 (Int.toNat (List.getD o (Int.toNat p.1) u).n) (0:Int)
  else List.getD e3_2 (Int.toNat (List.getD o (Int.toNat p.1) u).n) (0:Int)];
 let e4_3:Bool:=decide (p.1<q);
 let e5_2:Int:=p.1;
 let x:Int:=(List.getD o (Int.toNat e5_2) u).n;
  (0:Int)<=e5_2/\e5_2<=q/\T3 (runU l (J5 a ns nc)).1 (List.take (Int.toNat e5_2) o)=(p.2.1,true)->
  (e4_3=true->
  ((0:Int)<=e5_2/\e5_2<q)/\
  ((b=true->((0:Int)<=e5_2/\e5_2<q)/\(0:Int)<=x/\x<(↑(List.length e1_3):Int))/\
  (b=false->((0:Int)<=e5_2/\e5_2<q)/\(0:Int)<=x/\x<(↑(List.length e3_2):Int)))/\
  (e0_4=true->
  (bif b then e3_2 else e3_2,bif b then e1_3 else e1_3,bif b then a else a,bif b then e0_3 else e0_3,t,[],bif b then e2_3 else e2_3,
  false,())=
  s)/\
  (e0_4=false->
  (List.length t+List.length f)*(8:Nat)<=(140737488355328:Nat)/\
  ∃ (p':Int×List Int×Unit),
  (bif b then a else a)=a/\
  (bif b then ns else ns)=ns/\
  (bif b then nc else nc)=nc/\
  (bif b then l else l)=l/\
  (bif b then o else o)=o/\
  (bif b then e2_1 else e2_1)=e2_1/\
  (bif b then e0_1 else e0_1)=e0_1/\
  (bif b then e3_1 else e3_1)=e3_1/\
  (bif b then e1_2 else e1_2)=e1_2/\
  (bif b then c else c)=c/\
  (bif b then e4_2 else e4_2)=e4_2/\
  IntKind.i64.wrap ((bif b then e5_2 else e5_2)+(1:Int))=p'.1/\
  (bif b then a else a)=a/\
  (bif b then ns else ns)=ns/\
  (bif b then nc else nc)=nc/\
  (bif b then l else l)=l/\
  (bif b then o else o)=o/\
  (bif b then (0:Int) else (0:Int))=(0:Int)/\
  (bif b then (0:Int) else (0:Int))=(0:Int)/\
  (bif b then a else a)=a/\
  (bif b then e2_3 else e2_3)=e2_3/\
  (bif b then e3_2 else e3_2)=e3_2/\
  (bif b then e1_3 else e1_3)=e1_3/\
  (bif b then e0_3 else e0_3)=e0_3/\
  t++f=p'.2.1/\
  ((0:Int)<=p'.1/\
  p'.1<=q/\
  T3 (runU l (J5 a ns nc)).1 (List.take (Int.toNat p'.1) o)=
  (p'.2.1,true))/\
  List.length o-Int.toNat p'.1<List.length o-Int.toNat e5_2))/\
  (e4_3=false->(e3_2,e1_3,a,e0_3,p.2.1,[],e2_3,true,())=s))))):=by kernel_rfl
theorem bO8 (a ns nc:Int) (l:List RIns) (o:List Place):vc (EV [(62,cRanged),(63,cTwice),(59,cUndone)]) noL Go.Proofs.Tryd.f23 cValidR (a,ns,nc,l,o,())=(
 let c:Bool:=decide ((↑(List.length l):Int) >(16000:Int));
 let b:Int×Unit:=(F9 (RCode.mk a ns nc l o),());
 let d:Bool:=!(C9 (RCode.mk a ns nc l o)).2.2;
  Small RU (Sigma.mk (Ty.slice (55:Nat) (Ty.user (1:Nat))) l)->
  Small RU (Sigma.mk (Ty.slice (59:Nat) (Ty.user (2:Nat))) o)->
  (c=true->((3:Int),())=b)/\
  (c=false->
  ((!D7 (RCode.mk a ns nc l o))=true->((2:Int),())=b)/\
  ((!D7 (RCode.mk a ns nc l o))=false->
  (∀ (x:RIns),List.Mem x l->List.length x.ins.to<=(17592186044400:Nat))/\
  ((!List.all l aq2)=true->((5:Int),())=b)/\
  ((!List.all l aq2)=false->
  (D7 (RCode.mk a ns nc l o)=true/\List.length l<=(16000:Nat)/\J3 l=true/\List.length o<=(17592186044400:Nat))/\
  (d=true->((4:Int),())=b)/\(d=false->((0:Int),())=b))))):=by kernel_rfl
theorem bX7 (a ns nc:Int) (l:List RIns) (o:List Place):vc (EV [(23,cValidR),(59,cUndone)]) noL Go.Proofs.Tryd.f21 cBackR (a,ns,nc,l,o,())=(
 let b:Int×List Ins×List Int×List Int×Int×Unit:=
  ((G4 (RCode.mk a ns nc l o)).1.params,(G4 (RCode.mk a ns nc l o)).1.code,(G4 (RCode.mk a ns nc l o)).1.out,(G4 (RCode.mk a ns nc l o)).1.at_,
  (G4 (RCode.mk a ns nc l o)).2,());
 let c:Bool:=decide ((C9 (RCode.mk a ns nc l o)).1.next >(4000:Int))||decide ((↑(List.length (C9 (RCode.mk a ns nc l o)).1.code):Int) >(4000:Int));
 let d:Bool:=F9 (RCode.mk a ns nc l o) !=(0:Int);
  Small RU (Sigma.mk (Ty.slice (55:Nat) (Ty.user (1:Nat))) l)->
  Small RU (Sigma.mk (Ty.slice (59:Nat) (Ty.user (2:Nat))) o)->
  (((-9223372036854775808:Int)<=ns/\ns<(9223372036854775808:Int)/\J3 l=true/\List.length o<=(17592186044400:Nat))/\
  ∀ (x:RIns),List.Mem x l->List.length x.ins.to<=(17592186044400:Nat))/\
  (d=true->((0:Int),[],[],[],F9 (RCode.mk a ns nc l o),())=b)/\
  (d=false->
  (D7 (RCode.mk a ns nc l o)=true/\List.length l<=(16000:Nat)/\J3 l=true/\List.length o<=(17592186044400:Nat))/\
  (c=true->((0:Int),[],[],[],(9:Int),())=b)/\
  (c=false->(a,(C9 (RCode.mk a ns nc l o)).1.code,(C9 (RCode.mk a ns nc l o)).2.1,[],(0:Int),())=b))):=by kernel_rfl
theorem bX8 (a ns nc:Int) (l:List RIns) (o:List Place):vc (EV [(14,cSlotted),(20,cBack),(21,cBackR),(17,cCount),(18,cCount),(22,cValid),(23,cValidR),(24,cSameVec)]) noL Go.Proofs.Tryd.f4 cLawB (a,ns,nc,l,o,())=(
 let c:Bool:=decide ((↑(List.length l):Int) >(200:Int))||decide ((↑(List.length o):Int) >(200:Int));
 let b:VFun:=(G4 (RCode.mk a ns nc l o)).1;
  Small RU (Sigma.mk (Ty.slice (55:Nat) (Ty.user (1:Nat))) l)->
  Small RU (Sigma.mk (Ty.slice (59:Nat) (Ty.user (2:Nat))) o)->
  (c=true->(true,())=(true,()))/\
  (c=false->
  ((-9223372036854775808:Int)<=ns/\ns<(9223372036854775808:Int)/\J3 l=true/\List.length o<=(17592186044400:Nat))/\
  (((-9223372036854775808:Int)<=ns/\ns<(9223372036854775808:Int)/\J3 l=true/\List.length o<=(17592186044400:Nat))/\
  ∀ (x:RIns),List.Mem x l->List.length x.ins.to<=(17592186044400:Nat))/\
  ((-9223372036854775808:Int)<=ns/\ns<(9223372036854775808:Int)/\J3 l=true/\List.length o<=(17592186044400:Nat))/\
  (((-9223372036854775808:Int)<=ns/\ns<(9223372036854775808:Int)/\J3 l=true/\List.length o<=(17592186044400:Nat))/\
  ∀ (x:RIns),List.Mem x l->List.length x.ins.to<=(17592186044400:Nat))/\
  (F9 (RCode.mk a ns nc l o)==F9 (RCode.mk a ns nc l o)&&(G4 (RCode.mk a ns nc l o)).2==(G4 (RCode.mk a ns nc l o)).2&&
  (decide (b.params=b.params)&&U2 b.code b.code&&decide (b.out=b.out)&&decide (b.at_=b.at_))&&
  (U5 (RCode.mk a ns nc l o)).1==(U5 (RCode.mk a ns nc l o)).1&&
  (U5 (RCode.mk a ns nc l o)).2==(U5 (RCode.mk a ns nc l o)).2&&
  true,
  ())=
  (true,()))):=by kernel_rfl
open Classical in
def aV2 (q:List Int) (S:Int->Prop):Nat:=(q.filter λx=>decide (¬ S x)).length
def Size (T:Int->Prop) (k:Nat):Prop:=∀ l:List Int,l.Nodup->(∀ x∈l,T x)->l.length<=k
abbrev Bts:=List (Bool×List Int)
inductive Way (k:Nat):Bts->(Int->Prop)->Nat->Prop
 |nil (S:Int->Prop):Way k [] S 0
 |cons {b:Bool} {q:List Int} {bs:Bts} {S T:Int->Prop} {c:Nat} (h1:∀ x∈q,T x) (h2:∀ x,T x->S x\/x∈q) (h3:Size T k) (h4:Way k bs T c):Way k ((b,q)::bs) S (c+bif b then aV2 q S else 0)
theorem Z0 (x:Int) (q:List Int) (S:Int->Prop):(S x->aV2 (x::q) S=aV2 q S)/\(¬ S x->aV2 (x::q) S=aV2 q S+1):=by
 classical
 refine ⟨λh=>?_,λh=>?_⟩
 .unfold aV2;rw [List.filter_cons_of_neg (by simpa using h)]
 .unfold aV2;rw [List.filter_cons_of_pos (by simpa using h)];rfl
theorem be3 {A B:Int->Prop}:∀ (q:List Int),(∀ z∈q,A z->B z)->aV2 q B<=aV2 q A
 |[],_=>Nat.le_refl _
 |z::q,h=>by
  have ih:=be3 q λy c=>h y (by simp [c]);by_cases b:B z
  .rw [(Z0 z q B).1 b];by_cases a:A z
   .rw [(Z0 z q A).1 a];exact ih
   .rw [(Z0 z q A).2 a];omega
  .rw [(Z0 z q B).2 b,(Z0 z q A).2 λa=>b (h z (by simp) a)];omega
theorem Way.mono {k:Nat} {bs:Bts} {S S':Int->Prop} {c:Nat} (w:Way k bs S c) (h:∀ x,S x->S' x):∃ c',c'<=c/\Way k bs S' c':=by
 cases w with
 |nil=>exact ⟨0,Nat.le_refl _,.nil _⟩
 |@cons b q bs _ T c h1 h2 h3 h4=>
  refine ⟨_,?_,.cons (b:=b) h1 (λx a=>(h2 x a).imp (h x) id) h3 h4⟩;cases b with
  |false=>exact Nat.le_refl _
  |true=>have:=be3 q (A:=S) (B:=S') λz _=>h z;simp only [cond_true];omega
end Go.Rg
end
section
namespace Go.Rg
open Go Go.VT
section
variable {P:Int->Prop} {sp:Spans} {rd:Reads} {ks N:Int}
end
section
variable {a:Int} {b:List Ins} {c:List Int}
def rds (b:List Ins):List Int:=b.flatMap (·.from_)
def parR (a:Int) (b:List Ins):List Int:=b.foldl (λl x=>D8 l (x.from_.filter λn=>decide (n<a))) []
theorem bB7 {l:List Int} (h:incr l):l.Nodup:=by unfold List.Nodup;exact List.Pairwise.imp (λh=>by omega) h
structure Free (a:Int) (b:List Ins) (c:List Int) (ks:Int) (k:Nat) (S:AS):Prop where
 fine:Fine (λr=>0<=r/\(r<a\/r∈wr (b.take k))) ks S.holds
 stores:M0 2 S.code=0
 here:∀ r∈atL b c k,(a<=r\/r∈rds (b.take k))->InS S.holds ks r
 from_:∀ r,InS S.holds ks r->r∈wr (b.take k)\/r∈rds (b.take k)
 loads:M0 1 S.code=(parR a (b.take k)).length
end
end Go.Rg
end
section
namespace Go.Rg
open Go Go.VT
structure Rl (ks:Int) (r:RS) (S:AS):Prop where
 len:r.slots.length=ks.toNat
 get:∀ q:Nat,q<ks.toNat->r.slots.getD q 0=(mget eqP S.holds ⟨false,(q:Int)⟩).getD (-1)
 cells:r.cells=S.cells
 next:r.next=S.ocells
 code:r.code=S.code
structure Ctx (sp:Spans) (rd:Reads) (N:Int) (b:List Ins) (pl:Int) (st keep live:List Int) (P:Int->Prop):Prop where
 pos:∀ r,P r->0<=r
 keep:∀ n,n∈st<->n∈keep
 live:∀ r,P r->(O4 (getS sp r).first (getS sp r).last pl=true<->r∈live)
 next:∀ r,av9 rd N r pl=bO2 b r pl
theorem bO9 (l:List Int) (n:Int):decide (G9 l n>=0)=l.contains n:=by rw [Bool.eq_iff_iff,cp6,List.contains_iff_mem,<-ba6]
section
variable {P:Int->Prop} {sp:Spans} {rd:Reads} {ks N:Int} {b:List Ins} {pl:Int} {st keep live:List Int} {r:RS} {S:AS}
end
end Go.Rg
end
section
namespace Go.Rg
open Go Go.VT
structure SimU (s:SF) (h:HU) (ns nc:Int):Prop where
 code:h.code=s.2.1
 next:h.next=s.2.2
 low:0<=s.2.2
 ls:h.slots.length=ns.toNat
 lc:h.cells.length=nc.toNat
 sl:∀ q:Int,0<=q->q<ns->h.slots.getD q.toNat 0=(mget eqP s.1 ⟨false,q⟩).getD (-1)
 ce:∀ q:Int,0<=q->q<nc->h.cells.getD q.toNat 0=(mget eqP s.1 ⟨true,q⟩).getD (-1)
 pos:∀ k v,mget eqP s.1 k=some v->0<=v
theorem setU {l:List Int} {i j:Nat} (v:Int) (a:i<l.length):(l.set i v).getD j 0=if i=j then v else l.getD j 0:=by
 rw [co8,co8,cp9];by_cases h:i=j
 .subst h;rw [if_pos rfl,if_pos rfl,if_pos a];rfl
 .rw [if_neg h,if_neg h]
theorem aq3 (n:Nat) (r:Int):mget eqP (K0 n) ⟨false,r⟩=none:=by
 induction n with
 |zero=>rfl
 |succ n ih=>rw [ab3,J4,if_neg (by simp),ih]
theorem aO5 {a ns nc:Int} (h0:0<=a) (hc:a<=nc):SimU (E7 a) (J5 a ns nc) ns nc:=by
 refine ⟨rfl,rfl,h0,by simp [J5],by simp [J5],λq d e=>?_,λq d e=>?_,λk v c=>?_⟩
 .show (List.replicate ns.toNat (-1:Int)).getD q.toNat 0=(mget eqP (K0 a.toNat) ⟨false,q⟩).getD (-1);have:mget eqP (K0 a.toNat) ⟨false,q⟩=none:=aq3 _ _;rw [this,co8,List.getElem?_replicate,if_pos (by omega)];rfl
 .show ((List.range nc.toNat).map (ax4 a)).getD q.toNat 0=(mget eqP (K0 a.toNat) ⟨true,q⟩).getD (-1);rw [aw7,co8,co9,List.getElem?_range (by omega)];show ax4 a q.toNat=_;unfold ax4;by_cases h:q<a
  .rw [if_pos (by omega),decide_eq_true (by omega)];show (q.toNat:Int)=q;omega
  .rw [if_neg (by omega),decide_eq_false (by omega)];rfl
 .obtain ⟨b,r⟩:=k;cases b with
  |false=>rw [show mget eqP (E7 a).1 ⟨false,r⟩=none from aq3 _ _] at c;cases c
  |true=>
   rw [show mget eqP (E7 a).1 ⟨true,r⟩=_ from aw7 _ _] at c;by_cases h:0<=r/\r<(a.toNat:Int)
   .rw [if_pos h] at c;cases c;exact h.1
   .rw [if_neg h] at c;cases c
theorem be4 {sl:List Int} {m:Holds} {ns n v:Int} (hl:sl.length=ns.toNat) (hs:∀ q:Int,0<=q->q<ns->sl.getD q.toNat 0=(mget eqP m ⟨false,q⟩).getD (-1)) (h0:0<=n) (h1:n<ns):
  ∀ q:Int,0<=q->q<ns->(sl.set n.toNat v).getD q.toNat 0=(mget eqP (mput eqP m ⟨false,n⟩ v) ⟨false,q⟩).getD (-1):=by
 intro q a b;rw [setU v (by omega),J4];by_cases h:n=q
 .subst h;rw [if_pos rfl,if_pos rfl];rfl
 .rw [if_neg (by omega),if_neg (by simp [h]),hs q a b]
theorem aO6 {ns:Int}:∀ (l:List Int) (acc:List Int) (nx:Int) (m:Holds) (sl:List Int),C7 ns l=true->0<=nx->sl.length=ns.toNat->(∀ q:Int,0<=q->q<ns->sl.getD q.toNat 0=(mget eqP m ⟨false,q⟩).getD (-1))->(∀ k v,mget eqP m k=some v->0<=v)->
  (l.foldl toU (acc,nx,sl)).1=(l.foldl as6 (acc,nx,m)).1/\(l.foldl toU (acc,nx,sl)).2.1=(l.foldl as6 (acc,nx,m)).2.1/\0<=(l.foldl as6 (acc,nx,m)).2.1/\(l.foldl toU (acc,nx,sl)).2.2.length=ns.toNat/\
  (∀ q:Int,0<=q->q<ns->(l.foldl toU (acc,nx,sl)).2.2.getD q.toNat 0=(mget eqP (l.foldl as6 (acc,nx,m)).2.2 ⟨false,q⟩).getD (-1))/\(∀ q:Int,mget eqP (l.foldl as6 (acc,nx,m)).2.2 ⟨true,q⟩=mget eqP m ⟨true,q⟩)/\∀ k v,mget eqP (l.foldl as6 (acc,nx,m)).2.2 k=some v->0<=v
 |[],acc,nx,m,sl,_,c,hl,hs,d=>⟨rfl,rfl,c,hl,hs,λ_=>rfl,d⟩
 |x::r,acc,nx,m,sl,b,c,hl,hs,d=>by
  have b:=P9.1 b;have e:=b x (by simp);have:=aO6 r (acc++[nx]) (nx+1) (mput eqP m ⟨false,x⟩ nx) (sl.set x.toNat nx) (P9.2 λy f=>b y (by simp [f])) (by omega) (by rw [List.length_set,hl]) (be4 hl hs e.1 e.2) (λk v a=>by
   rw [J4] at a;by_cases h:(⟨false,x⟩:Place)=k
   .rw [if_pos h] at a;cases a;exact c
   .rw [if_neg h] at a;exact d k v a)
  refine ⟨this.1,this.2.1,this.2.2.1,this.2.2.2.1,this.2.2.2.2.1,λq=>?_,this.2.2.2.2.2.2⟩;refine (this.2.2.2.2.2.1 q).trans ?_;rw [J4,if_neg (by simp)]
theorem bP0 {s:SF} {h:HU} {ns nc:Int} (S:SimU s h ns nc) {l:List Int} (b:C7 ns l=true):decide (G9 (af5 h l) (-1)>=0)=!l.all (isP (s.1,()))/\(l.all (isP (s.1,()))=true->af5 h l=l.map (getF s.1)):=by
 have b:=P9.1 b;refine ⟨?_,λf=>?_⟩
 .rw [bO9,Bool.eq_iff_iff,List.contains_iff_mem,Bool.not_eq_true',List.all_eq_false];unfold af5;rw [List.mem_map];constructor
  .rintro ⟨n,a,e⟩;refine ⟨n,a,λd=>?_⟩;rw [S.sl n (b n a).1 (b n a).2] at e;obtain ⟨v,c⟩:=Option.isSome_iff_exists.1 (show (mget eqP s.1 ⟨false,n⟩).isSome=true from d);rw [c] at e;have:=S.pos _ _ c;have e:v=-1:=e;omega
  .rintro ⟨n,a,d⟩;refine ⟨n,a,?_⟩;rw [S.sl n (b n a).1 (b n a).2];cases c:mget eqP s.1 ⟨false,n⟩ with
   |none=>rfl
   |some v=>exact absurd (show (mget eqP s.1 ⟨false,n⟩).isSome=true by rw [c];rfl) d
 .refine List.map_congr_left λn a=>?_;rw [S.sl n (b n a).1 (b n a).2];obtain ⟨v,c⟩:=Option.isSome_iff_exists.1 (show (mget eqP s.1 ⟨false,n⟩).isSome=true from cq4.1 f n a);unfold getF;rw [c];rfl
theorem H1 {n x:Int}:C7 n [x]=true<->0<=x/\x<n:=by rw [P9];simp
theorem bP1 {s:SF} {h:HU} {ns nc:Int} (S:SimU s h ns nc) {x:RIns} (b:K8 ns nc x=true):(af6 h x).2=(H7 s x).2/\((H7 s x).2=true->SimU (H7 s x).1 (af6 h x).1 ns nc):=by
 unfold K8 at b;unfold af6 H7;by_cases h0:x.kind=0
 .rw [if_pos h0,cn7] at b;obtain ⟨hf,g⟩:=b;obtain ⟨i,j⟩:=bP0 S hf;simp only [h0,i,show ((0:Int)==1)=false from rfl,show ((0:Int)==2)=false from rfl,beq_self_eq_true,cond_true,cond_false];cases e:x.ins.from_.all (isP (s.1,())) with
  |false=>exact ⟨rfl,λh=>by cases h⟩
  |true=>
   simp only [Bool.not_true,cond_true,cond_false,true_and,forall_const];have N:=aO6 x.ins.to [] s.2.2 s.1 h.slots g S.low S.ls S.sl S.pos;obtain ⟨l,m,n,p,r,t,u⟩:=N;refine ⟨?_,?_,n,by show (tosU h.next h.slots x.ins.to).2.2.length=_;unfold tosU;rw [S.next];exact p,S.lc,λq c d=>by show (tosU h.next h.slots x.ins.to).2.2.getD _ _=_;unfold tosU;rw [S.next];exact r q c d,λq c d=>?_,u⟩
   .show h.code++[_]=s.2.1++[_];rw [S.code,j e];unfold tosU E8;rw [S.next,l]
   .show (tosU h.next h.slots x.ins.to).2.1=(E8 s.2.2 s.1 x.ins.to).2.1;unfold tosU E8;rw [S.next,m]
   .rw [S.ce q c d];exact congrArg (λo:Option Int=>o.getD (-1)) (t q).symm
 .rw [if_neg h0] at b;have y:(x.kind==0)=false:=by simpa using h0
  by_cases h1:x.kind=1
  .rw [if_pos (Or.inl h1),cn7,H1,H1] at b;obtain ⟨hs,hc⟩:=b;simp only [h1,show ((1:Int)==0)=false from rfl,show ((1:Int)==2)=false from rfl,beq_self_eq_true,cond_true,cond_false];rw [S.ce _ hc.1 hc.2];cases hm:mget eqP s.1 ⟨true,x.cell⟩ with
   |none=>exact ⟨rfl,λh=>by cases h⟩
   |some v=>
    have f:=S.pos _ _ hm;refine ⟨decide_eq_true f,λ_=>⟨S.code,S.next,S.low,by show (h.slots.set _ _).length=_;rw [List.length_set,S.ls],S.lc,be4 S.ls S.sl hs.1 hs.2,λq c d=>?_,λk w a=>?_⟩⟩
    .show h.cells.getD _ _=(mget eqP (mput eqP s.1 ⟨false,x.slot⟩ v) ⟨true,q⟩).getD (-1);rw [S.ce q c d,J4,if_neg (by simp)]
    .have a:mget eqP (mput eqP s.1 ⟨false,x.slot⟩ v) k=some w:=a;rw [J4] at a;by_cases h:(⟨false,x.slot⟩:Place)=k
     .rw [if_pos h] at a;cases a;exact f
     .rw [if_neg h] at a;exact S.pos k w a
  .by_cases h2:x.kind=2
   .rw [if_pos (Or.inr h2),cn7,H1,H1] at b;obtain ⟨hs,hc⟩:=b;simp only [h2,show ((2:Int)==0)=false from rfl,show ((2:Int)==1)=false from rfl,beq_self_eq_true,cond_true,cond_false];rw [S.sl _ hs.1 hs.2];cases hm:mget eqP s.1 ⟨false,x.slot⟩ with
    |none=>exact ⟨rfl,λh=>by cases h⟩
    |some v=>
     have f:=S.pos _ _ hm;refine ⟨decide_eq_true f,λ_=>⟨S.code,S.next,S.low,S.ls,by show (h.cells.set _ _).length=_;rw [List.length_set,S.lc],λq c d=>?_,λq c d=>?_,λk w a=>?_⟩⟩
     .show h.slots.getD _ _=(mget eqP (mput eqP s.1 ⟨true,x.cell⟩ v) ⟨false,q⟩).getD (-1);rw [S.sl q c d,J4,if_neg (by simp)]
     .show (h.cells.set _ v).getD _ _=(mget eqP (mput eqP s.1 ⟨true,x.cell⟩ v) ⟨true,q⟩).getD (-1);rw [setU v (by rw [S.lc];omega),J4];by_cases h:x.cell=q
      .subst h;rw [if_pos rfl,if_pos rfl];rfl
      .rw [if_neg (by omega),if_neg (by simp [h]),S.ce q c d]
     .have a:mget eqP (mput eqP s.1 ⟨true,x.cell⟩ v) k=some w:=a;rw [J4] at a;by_cases h:(⟨true,x.cell⟩:Place)=k
      .rw [if_pos h] at a;cases a;exact f
      .rw [if_neg h] at a;exact S.pos k w a
   .rw [if_neg (by rintro (h|h)<;>contradiction)] at b;cases b
theorem aI5 {ns nc:Int}:∀ (l:List RIns) {s:SF} {h:HU},SimU s h ns nc->l.all (K8 ns nc)=true->(runU l h).2=(H0 l s).2/\((H0 l s).2=true->SimU (H0 l s).1 (runU l h).1 ns nc)
 |[],s,h,S,_=>⟨rfl,λ_=>S⟩
 |x::r,s,h,S,a=>by
  rw [List.all_cons,cn7] at a;obtain ⟨b,c⟩:=bP1 S a.1;simp only [runU,H0,b];cases d:(H7 s x).2 with
  |false=>exact ⟨rfl,λh=>by cases h⟩
  |true=>exact aI5 r (c d) a.2
theorem be5 {s:SF} {h:HU} {ns nc:Int} (S:SimU s h ns nc):∀ (l:List Place),l.all (I5 ns nc)=true->T3 h l=O7 s.1 l
 |[],_=>rfl
 |p::r,c=>by
  rw [List.all_cons,cn7] at c;have ih:=be5 S r c.2;have e:outU h p=(mget eqP s.1 p).getD (-1):=by
   obtain ⟨b,n⟩:=p;have a:=c.1;unfold I5 at a;unfold outU;cases b with
   |true=>rw [if_pos rfl,H1] at a;exact S.ce n a.1 a.2
   |false=>rw [if_neg (by simp),H1] at a;exact S.sl n a.1 a.2
  simp only [T3,O7,e,ih];cases hm:mget eqP s.1 p with
  |none=>rfl
  |some v=>have:=S.pos _ _ hm;simp only [Option.getD_some];rw [decide_eq_false (by omega)];rfl
theorem X4 {c:RCode} (h:D7 c=true):(0<=c.params/\c.params<=4000)/\(1<=c.slots/\c.slots<=64)/\(c.params<=c.cells/\c.cells<=8000)/\c.code.all (K8 c.slots c.cells)=true/\c.out.all (I5 c.slots c.cells)=true:=by unfold D7 at h;simp only [cn7,H1,cp6] at h;obtain ⟨⟨⟨⟨⟨⟨⟨a,i⟩,j,k⟩,b⟩,f⟩,g⟩,d⟩,e⟩:=h;exact ⟨⟨a,by omega⟩,⟨b,by omega⟩,⟨f,g⟩,d,e⟩
theorem aI6 {c:RCode} (h:D7 c=true):(C9 c).2.2=(B7 c).2/\((B7 c).2=true->(B7 c).1=⟨c.params,(C9 c).1.code,(C9 c).2.1,[]⟩/\(C9 c).1.next=(H0 c.code (E7 c.params)).1.2.2):=by
 obtain ⟨a,i,hc,b,d⟩:=X4 h;obtain ⟨e,f⟩:=aI5 c.code (aO5 (ns:=c.slots) a.1 hc.1) b;unfold C9 B7;rw [e];cases g:(H0 c.code (E7 c.params)).2 with
 |false=>exact ⟨rfl,λh=>by cases h⟩
 |true=>have S:=f g;have o:=be5 S c.out d;simp only [cond_true,o];refine ⟨trivial,λ_=>⟨?_,S.next⟩⟩;rw [S.code]
theorem aq4 (x n:Int):lies x 0 (n-1)=(decide (0<=x)&&decide (x<n)):=by unfold lies;congr 1;rw [Bool.eq_iff_iff];simp;omega
theorem bP2 (l:List Int) (n:Int) (d:-1000000<=n/\n<=1000000):vc (EV [(31,cLies)]) (bm4 l n) Go.Proofs.Tryd.f94 cWithin (l,n,()):=by
 rw [bO5 l n];intro hs;have hl:l.length<=140737488355328:=hs.len;simp only [true_and,L5 (n:=n-1) (by omega) (by omega),aq4];refine ⟨⟨(0,()),rfl,Int.le_refl _,by dsimp only;omega,by simp [C7]⟩,?_⟩;rintro ⟨i,⟨⟩⟩;dsimp only;rintro ⟨c,e,h1⟩;obtain ⟨i,rfl⟩:=co0 c;simp only [cn8] at h1 |-;refine ⟨λh=>?_,λh=>?_⟩
 .have h:=co4 h;have a:i<l.length:=by omega
  refine ⟨⟨c,h⟩,λb=>?_,λb=>?_⟩
  .have:C7 n l=false:=as5 (p:=λx=>decide (0<=x)&&decide (x<n)) 0 a ((Bool.not_eq_true' _).mp b);rw [this]
  .refine ⟨((i+1:Nat),()),B4 a hl,⟨by dsimp only;omega,by dsimp only;omega,?_⟩,by dsimp only;omega⟩;dsimp only;rw [cn8];exact Y9 (p:=λx=>decide (0<=x)&&decide (x<n)) 0 a h1 ((Bool.not_eq_false' _).mp b)
 .have h:=co3 h;rw [List.take_of_length_le (by omega)] at h1;rw [h1]
theorem be6:C5 prog RG 94 cWithin:=E1 (A6 aN0 B8) (λp=>bm4 p.1 p.2.1) (by kernel_rfl) (by kernel_rfl) (by kernel_rfl) λ(l,n,()) a=>bP2 l n a
theorem bB8 (ns nc:Int) (x:RIns):(bif x.kind==0 then C7 ns x.ins.to&&C7 ns x.ins.from_ else lies x.kind 1 2&&lies x.slot 0 (ns-1)&&lies x.cell 0 (nc-1))=K8 ns nc x:=by
 rw [aq4,aq4];unfold K8;by_cases h:x.kind=0
 .rw [if_pos h,h];exact Bool.and_comm _ _
 .rw [if_neg h,show (x.kind==0)=false by simpa using h,cond_false];by_cases h2:x.kind=1\/x.kind=2
  .rw [if_pos h2,show lies x.kind 1 2=true by rcases h2 with h|h<;>rw [h]<;>rfl];simp [C7]
  .rw [if_neg h2,show lies x.kind 1 2=false by
    rw [Bool.eq_false_iff];intro a;unfold lies at a;simp at a;omega]
   rfl
theorem be7 (ns nc:Int) (p:Place):(bif p.cell then lies p.n 0 (nc-1) else lies p.n 0 (ns-1))=I5 ns nc p:=by rw [aq4,aq4];unfold I5;cases p.cell<;>simp [C7]
theorem cj4 (a ns nc:Int):V1 a ns nc=(C7 4001 [a]&&C7 65 [ns]&&decide (1<=ns)&&decide (a<=nc)&&decide (nc<=8000)):=by rw [Bool.eq_iff_iff];simp [V1,C7,lies];omega
theorem bP3 {α:Type} {p:α->Bool} {l:List α} {i:Nat} {b a:Bool} (h:b=(a&&(l.take i).all p)) (c:(b&&decide ((i:Int)<(l.length:Int)))=false) (d:i<=l.length):b=(a&&l.all p):=by
 cases b with
 |true=>
  rw [Bool.true_and] at c;have c:=co3 c
  rwa [List.take_of_length_le (by omega)] at h
 |false=>
  cases a with
  |false=>rfl
  |true=>rw [Bool.true_and] at h |-;symm;rw [<-List.take_append_drop i l,List.all_append,<-h,Bool.false_and]
theorem bP4 (a ns nc:Int) (l:List RIns) (o:List Place):vc (EV [(31,cLies),(94,cWithin)]) (bm5 a ns nc l o) Go.Proofs.Tryd.f62 cRanged (a,ns,nc,l,o,()):=by
 rw [bO6 a ns nc l o];intro C D E n p q r;have s:l.length<=140737488355328:=q.len;have t:o.length<=140737488355328:=r.len;have J:E=rins0:=rfl;have u:C=(l.length:Int):=rfl;have v:D=(o.length:Int):=rfl;have w:n=IntKind.i64.wrap (nc-1):=rfl;have x:p=IntKind.i64.wrap (ns-1):=rfl
 clear_value C D E n p
 subst J u v;have y:(⟨false,0⟩:Place)=place0:=rfl;have z:(lies a 0 4000&&lies ns 1 64&&lies nc a 8000)=V1 a ns nc:=rfl;simp only [true_and,Bool.cond_self,y,z];have e:V1 a ns nc=true->(0<=a/\1<=ns/\ns<=64/\a<=nc/\nc<=8000):=λh=>by simp [V1,lies] at h;omega
 have F:V1 a ns nc=true->n=nc-1/\p=ns-1:=λh=>by have:=e h;rw [w,x,L5 (by omega) (by omega),L5 (by omega) (by omega)];exact ⟨rfl,rfl⟩
 refine ⟨⟨(V1 a ns nc,0,()),rfl,rfl,Int.le_refl _,by dsimp only;omega,by simp⟩,?_⟩;rintro ⟨b,i,⟨⟩⟩;dsimp only;rintro ⟨G,K,m⟩;obtain ⟨i,rfl⟩:=co0 G;simp only [cn8] at m |-;refine ⟨λh=>?_,λh=>?_⟩
 .rw [cn7,cp6] at h;obtain ⟨rfl,h⟩:=h;have H:i<l.length:=by omega
  have f:=m.symm;rw [cn7] at f;obtain ⟨d,A⟩:=f;have L:=e d;obtain ⟨rfl,rfl⟩:=F d;rw [bB8];refine ⟨⟨G,h⟩,λ_=>⟨by omega,λ_=>by omega⟩,(K8 ns nc (l.getD i rins0),((i+1:Nat):Int),()),rfl,B4 H s,⟨by dsimp only;omega,by dsimp only;omega,?_⟩,by dsimp only;omega⟩;dsimp only;rw [cn8,A4 H rins0,List.all_append,d,A];simp
 .have B:=bP3 m h (by omega);clear m h;refine ⟨⟨(b,0,()),rfl,rfl,Int.le_refl _,by dsimp only;omega,by rw [B];simp⟩,?_⟩;rintro ⟨c,j,⟨⟩⟩;dsimp only;rintro ⟨j0,M,hc⟩;obtain ⟨j,rfl⟩:=co0 j0;simp only [cn8] at hc |-;refine ⟨λh=>?_,λh=>?_⟩
  .rw [cn7,cp6] at h;obtain ⟨rfl,h⟩:=h;have I:j<o.length:=by omega
   have g:=hc.symm;rw [cn7] at g;obtain ⟨d,A⟩:=g;have k:=d;rw [cn7] at k;obtain ⟨rfl,rfl⟩:=F k.1;rw [be7];refine ⟨⟨j0,h⟩,⟨j0,h⟩,λ_=>⟨j0,h⟩,(I5 ns nc (o.getD j place0),((j+1:Nat):Int),()),rfl,B4 I t,⟨by dsimp only;omega,by dsimp only;omega,?_⟩,by dsimp only;omega⟩;dsimp only;rw [cn8,A4 I place0,List.all_append,d,A];simp
  .rw [bP3 hc h (by omega),cj4];rfl
theorem be8:C5 prog RG 62 cRanged:=E1 (A6 aN0 (A6 be6 B8)) (λp=>bm5 p.1 p.2.1 p.2.2.1 p.2.2.2.1 p.2.2.2.2.1) (by kernel_rfl) (by kernel_rfl) (by kernel_rfl) λ(a,ns,nc,l,o,()) _=>bP4 a ns nc l o
theorem bs9:∀ (l u:List Int),C0 l=false->u.Nodup->(∀ x∈u,x∈l)->u.length<l.length
 |[],u,h,_,_=>by simp [C0] at h
 |x::r,u,h,b,hs=>by
  rw [cp0];by_cases c:x∈r
  .have:=ap9 u r b λy a=>by
    rcases List.mem_cons.1 (hs y a) with e|e
    .exact e▸c
    .exact e
   omega
  .have hr:C0 r=false:=by
    unfold C0 at h;rw [show r.contains x=false by simpa using c] at h;simpa using h
   have h1:=bs9 r (u.filter (· !=x)) hr (b.filter _) (λy a=>by
    rw [List.mem_filter] at a;rcases List.mem_cons.1 (hs y a.1) with e|e
    .exact absurd e (by simpa using a.2)
    .exact e)
   have h2:=ap9 u (x::u.filter (· !=x)) b (λy a=>by
    by_cases e:y=x
    .simp [e]
    .simp [e,a])
   rw [cp0] at h2;omega
theorem bB9 (l:List Int):(((D8 [] l).length:Int) !=(l.length:Int))=!C0 l:=by
 have b:incr (D8 [] l):=W6 (by simp [incr]) l;have hm:∀ x,x∈D8 [] l<->x∈l:=λx=>by rw [U6];simp
 cases h:C0 l with
 |true=>
  have h1:=ap9 l (D8 [] l) (G5.1 h) λx a=>(hm x).2 a;have h2:=aj0 [] l;rw [List.length_nil] at h2;have:(D8 [] l).length=l.length:=by omega
  rw [this];simp
 |false=>have h1:=bs9 l (D8 [] l) h (bB7 b) λx a=>(hm x).1 a;simp only [Bool.not_false,bne_iff_ne,ne_eq];omega
theorem bX9 (a ns nc:Int) (l:List RIns) (o:List Place) (k:ci9 l):vc (EV [(35,cUnion)]) (bO3 l) Go.Proofs.Tryd.f63 cTwice (a,ns,nc,l,o,()):=by
 rw [bX6 a ns nc l o];intro j d m;have e:l.length<=140737488355328:=d.len;have n:j=rins0:=rfl
 clear_value j
 subst n;simp only [true_and,bB9];refine ⟨⟨(0,()),rfl,Int.le_refl _,by dsimp only;omega,by simp⟩,?_⟩;rintro ⟨i,⟨⟩⟩;dsimp only;rintro ⟨f,p,h1⟩;obtain ⟨i,rfl⟩:=co0 f;simp only [cn8] at h1 |-;refine ⟨λh=>?_,λh=>?_⟩
 .have h:=co4 h;have b:i<l.length:=by omega
  have q:=k _ (G8 b rins0);have c:aq2 (l.getD i rins0)=!((l.getD i rins0).kind==0&&!C0 (l.getD i rins0).ins.to):=by unfold aq2;show (!((l.getD i rins0).kind==0)||_)=_;cases (l.getD i rins0).kind==0<;>simp
  refine ⟨⟨f,h⟩,⟨f,h⟩,λ_=>by show 0+_<=_;omega,λg=>?_,λg=>?_⟩
  .rw [g] at c;rw [as5 rins0 b c];rfl
  .rw [g] at c;refine ⟨((i+1:Nat),()),B4 b e,⟨by dsimp only;omega,by dsimp only;omega,?_⟩,by dsimp only;omega⟩;dsimp only;rw [cn8];exact Y9 rins0 b h1 c
 .have h:=co3 h;rw [List.take_of_length_le (by omega)] at h1;rw [h1];rfl
theorem bn0:C5 prog RG 63 cTwice:=E1 (A6 bi6 B8) (λp=>bO3 p.2.2.2.1) (by kernel_rfl) (by kernel_rfl) (by kernel_rfl) λ(a,ns,nc,l,o,()) b=>bX9 a ns nc l o b
theorem aV3 (r:List RIns):∀ (l:List RIns) (h:HU),runU (l++r) h=bif (runU l h).2 then runU r (runU l h).1 else runU l h
 |[],h=>rfl
 |x::t,h=>by
  simp only [runU,List.cons_append];cases (af6 h x).2 with
  |true=>exact aV3 r t _
  |false=>rfl
theorem bY0 (h:HU) (x:RIns):runU [x] h=af6 h x:=by
 simp only [runU];cases a:(af6 h x).2 with
 |true=>exact Prod.ext rfl a.symm
 |false=>exact Prod.ext rfl a.symm
theorem aI7 (h:HU) (r:List Place):∀ (l:List Place),T3 h (l++r)=bif (T3 h l).2 then ((T3 h l).1++(T3 h r).1,(T3 h r).2) else T3 h l
 |[]=>rfl
 |p::t=>by
  simp only [T3,List.cons_append];cases decide (outU h p<0) with
  |true=>rfl
  |false=>
   simp only [cond_false];rw [aI7 h r t];cases a:(T3 h t).2 with
   |true=>rfl
   |false=>simp only [cond_false,a]
theorem be9 (h:HU):∀ (l:List Place),(T3 h l).1.length<=l.length
 |[]=>Nat.le_refl _
 |p::t=>by
  simp only [T3];have:=be9 h t;cases decide (outU h p<0) with
  |true=>simp
  |false=>simpa using this
theorem bP5 (nx:Int) (sl l:List Int) (x:Int):tosU nx sl (l++[x])=toU (tosU nx sl l) x:=by simp [tosU]
theorem bY1 (nx:Int) (sl:List Int) (l:List Int):(tosU nx sl l).1.length=l.length/\(tosU nx sl l).2.1=nx+l.length/\(tosU nx sl l).2.2.length=sl.length:=by
 have:∀ (l acc:List Int) (nx:Int) (sl:List Int),(l.foldl toU (acc,nx,sl)).1.length=acc.length+l.length/\(l.foldl toU (acc,nx,sl)).2.1=nx+l.length/\(l.foldl toU (acc,nx,sl)).2.2.length=sl.length:=by
  intro l
  induction l with
  |nil=>intro acc nx sl;exact ⟨rfl,by simp,rfl⟩
  |cons x r ih=>intro acc nx sl;have:=ih (acc++[nx]) (nx+1) (sl.set x.toNat nx);simp only [cp5,List.length_set,cp8] at this;simp only [List.foldl_cons,toU,cp0];omega
 have:=this l [] nx sl;simpa [tosU] using this
theorem bZ7 {a ns nc:Int} {l:List RIns} {o:List Place} {h:HU} (e:runU l (J5 a ns nc)=(h,true)):C9 ⟨a,ns,nc,l,o⟩=(h,T3 h o):=by unfold C9;dsimp only;rw [e];rfl
theorem bY2 {a ns nc:Int} {l:List RIns} {o:List Place} {h:HU} {k:Nat} (e:runU (l.take k) (J5 a ns nc)=(h,false)):C9 ⟨a,ns,nc,l,o⟩=(h,[],false):=by
 have:runU l (J5 a ns nc)=(h,false):=by rw [<-List.take_append_drop k l,aV3,e];rfl
 unfold C9;dsimp only;rw [this];rfl
theorem bn1 {a ns nc:Int} {l:List RIns} {o:List Place} (hs:D7 ⟨a,ns,nc,l,o⟩=true) (p:J3 l=true) (hl:l.length<=16000) {k:Nat} {h:HU} (hr:runU (l.take k) (J5 a ns nc)=(h,true)):
  h.slots.length=ns.toNat/\h.cells.length=nc.toNat/\0<=h.next/\h.next<=281474976714656000/\h.code.length<=16000:=by
 obtain ⟨f,q,hc,b,g⟩:=X4 hs;dsimp only at f q hc b;have r:(l.take k).all (K8 ns nc)=true:=cq4.2 λx c=>cq4.1 b x (List.mem_of_mem_take c);have d:J3 (l.take k)=true:=cq4.2 λx c=>cq4.1 p x (List.mem_of_mem_take c);obtain ⟨i,j⟩:=aI5 (l.take k) (aO5 (ns:=ns) f.1 hc.1) r;rw [hr] at i j;have S:=j i.symm;have L:=ap4 (l.take k) (E7 a) d;have m:=S.code;have e:=S.next;have n:=S.low;have s:(l.take k).length<=16000:=by rw [cq3];omega
 simp only [E7,List.length_nil] at L m e n;refine ⟨S.ls,S.lc,?_,?_,?_⟩
 .rw [e];exact n
 .rw [e];omega
 .rw [m];omega
theorem bP6 (h:HU) (l:List Int):(af5 h l).length=l.length:=by simp [af5]
theorem bP7 (a ns nc:Int) (l:List RIns) (o:List Place) (hp:D7 ⟨a,ns,nc,l,o⟩=true/\l.length<=16000/\J3 l=true/\o.length<=17592186044400):
  vc (EV [(32,cWhere)]) (bm6 a ns nc l o) Go.Proofs.Tryd.f59 cUndone (a,ns,nc,l,o,()):=by
 rw [bO7 a ns nc l o];obtain ⟨H,I,z,ho⟩:=hp;obtain ⟨ha,hn,hc,s,A⟩:=X4 H;dsimp only at ha hn hc s A;intro O e1 e2 e3 e4 e5 hsl hso;have hd:e1=rins0:=rfl;have P:e5=place0:=rfl;have Q:e2=(l.length:Int):=rfl;have S:e3=(-1:Int):=rfl;have T:e4=(o.length:Int):=rfl;have res:∀ h o' b,C9 ⟨a,ns,nc,l,o⟩=(h,o',b)->(h.slots,h.cells,a,h.code,o',[],h.next,b,())=O:=λh o' b e=>by show _=((C9 ⟨a,ns,nc,l,o⟩).1.slots,(C9 ⟨a,ns,nc,l,o⟩).1.cells,a,(C9 ⟨a,ns,nc,l,o⟩).1.code,(C9 ⟨a,ns,nc,l,o⟩).2.1,[],(C9 ⟨a,ns,nc,l,o⟩).1.next,(C9 ⟨a,ns,nc,l,o⟩).2.2,());rw [e]
 clear_value O e1 e2 e3 e4 e5
 subst hd P Q S T;simp only [true_and,Bool.cond_self];refine ⟨⟨(0,[],()),rfl,rfl,Int.le_refl _,by dsimp only;omega,rfl⟩,?_⟩;rintro ⟨i,sl,⟨⟩⟩;dsimp only;rintro ⟨i0,i1,rfl⟩;obtain ⟨i,rfl⟩:=co0 i0;simp only [cn8];refine ⟨λh=>?_,λh=>?_⟩
 .have h:=co4 h;refine ⟨by rw [List.length_replicate];simp only [cp8];omega,((i+1:Nat),List.replicate (i+1) (-1),()),B4 (m:=64) (by omega) (by omega),List.replicate_succ'.symm,⟨by dsimp only;omega,by dsimp only;omega,by dsimp only;rw [cn8]⟩,by dsimp only;omega⟩
 have h:=co3 h;have hi:i=ns.toNat:=by omega
 subst hi;refine ⟨⟨(0,[],()),rfl,rfl,Int.le_refl _,by dsimp only;omega,rfl⟩,?_⟩;rintro ⟨j,ce,⟨⟩⟩;dsimp only;rintro ⟨j0,j1,rfl⟩;obtain ⟨j,rfl⟩:=co0 j0;simp only [cn8];refine ⟨λh2=>?_,λh2=>?_⟩
 .have h2:=co4 h2;refine ⟨by rw [cq5,List.length_range];simp only [cp8];omega,λ_=>⟨by omega,by rw [cp5,cq5,List.length_range];simp only [cp8];omega⟩,((j+1:Nat),(List.range (j+1)).map (ax4 a),()),B4 (m:=8000) (by omega) (by omega),?_,⟨by dsimp only;omega,by dsimp only;omega,by dsimp only;rw [cn8]⟩,by dsimp only;omega⟩;dsimp only;rw [List.range_succ,List.map_append];by_cases E:(j:Int)<a
  .rw [decide_eq_true E,cond_true,List.set_append_right _ _ (by simp)];simp [ax4,E]
  .rw [decide_eq_false E,cond_false];simp [ax4,E]
 have h2:=co3 h2;have E:j=nc.toNat:=by omega
 subst E;refine ⟨⟨(0,List.replicate ns.toNat (-1),(List.range nc.toNat).map (ax4 a),a,[],()),rfl,rfl,rfl,rfl,rfl,Int.le_refl _,by dsimp only;omega,by simp [runU,J5]⟩,?_⟩;rintro ⟨q,sl,ce,nx,cd,⟨⟩⟩;dsimp only;rintro ⟨q0,q1,hr⟩;obtain ⟨q,rfl⟩:=co0 q0;simp only [cn8] at hr |-;have R:=bn1 H z I hr;obtain ⟨R1,R2,R3,R4,R5⟩:=R;dsimp only at R1 R2 R3 R4 R5;refine ⟨λh3=>?_,λh3=>?_⟩
 .have h3:=co4 h3;have M:q<l.length:=by omega
  have f:=cq4.1 s _ (G8 M rins0);have U:=(R7 _).1 (cq4.1 z _ (G8 M rins0));have t:runU (l.take (q+1)) (J5 a ns nc)=af6 ⟨sl,ce,cd,nx⟩ (l.getD q rins0):=by rw [A4 M rins0,aV3,hr];exact bY0 _ _
  rw [hr];dsimp only;obtain ⟨x,V⟩:∃ x,l.getD q rins0=x:=⟨_,rfl⟩;simp only [V] at f U t |-;have fail:∀ h,af6 ⟨sl,ce,cd,nx⟩ x=(h,false)->(h.slots,h.cells,a,h.code,[],[],h.next,false,())=O:=λh e=>res h [] false (bY2 (t.trans e));have W:=B4 M (by omega);refine ⟨⟨q0,h3⟩,λh4=>?_,λh4=>⟨λr=>?_,λr=>?_⟩⟩
  .have F:x.kind=1:=by simpa using h4
   have g:=f;unfold K8 at g;rw [if_neg (by omega),if_pos (Or.inl F),cn7,H1,H1] at g;obtain ⟨w,y⟩:=g;have e:af6 ⟨sl,ce,cd,nx⟩ x=(⟨sl.set x.slot.toNat (ce.getD x.cell.toNat 0),ce,cd,nx⟩,decide (0<=ce.getD x.cell.toNat 0)):=by unfold af6;rw [h4];rfl
   rw [setU _ (by rw [R1];omega),if_pos rfl];refine ⟨⟨y.1,by omega⟩,⟨w.1,by omega⟩,⟨w.1,by rw [List.length_set];omega⟩,λd=>?_,λd=>?_⟩
   .have d:=co4 d;exact fail ⟨_,_,_,_⟩ (by rw [e,decide_eq_false (by omega)])
   .have d:=co3 d;exact ⟨(((q+1:Nat):Int),sl.set x.slot.toNat (ce.getD x.cell.toNat 0),ce,nx,cd,()),W,rfl,rfl,rfl,rfl,⟨by dsimp only;omega,by dsimp only;omega,by dsimp only;rw [cn8,t,e,decide_eq_true (by omega)]⟩,by dsimp only;omega⟩
  .have F:x.kind=2:=by simpa using r
   have g:=f;unfold K8 at g;rw [if_neg (by omega),if_pos (Or.inr F),cn7,H1,H1] at g;obtain ⟨w,y⟩:=g;have e:af6 ⟨sl,ce,cd,nx⟩ x=(⟨sl,ce.set x.cell.toNat (sl.getD x.slot.toNat 0),cd,nx⟩,decide (0<=sl.getD x.slot.toNat 0)):=by unfold af6;rw [h4,r];rfl
   rw [setU _ (by rw [R2];omega),if_pos rfl];refine ⟨⟨w.1,by omega⟩,⟨y.1,by omega⟩,⟨y.1,by rw [List.length_set];omega⟩,λd=>?_,λd=>?_⟩
   .have d:=co4 d;exact fail ⟨_,_,_,_⟩ (by rw [e,decide_eq_false (by omega)])
   .have d:=co3 d;exact ⟨(((q+1:Nat):Int),sl,ce.set x.cell.toNat (sl.getD x.slot.toNat 0),nx,cd,()),W,rfl,rfl,rfl,rfl,⟨by dsimp only;omega,by dsimp only;omega,by dsimp only;rw [cn8,t,e,decide_eq_true (by omega)]⟩,by dsimp only;omega⟩
  .have hk1:x.kind≠1:=by simpa using h4
   have hk2:x.kind≠2:=by simpa using r
   unfold K8 at f;by_cases F:x.kind=0
   case neg=>rw [if_neg F,if_neg (by rintro (h|h)<;>contradiction)] at f;cases f
   rw [if_pos F,cn7,P9,P9] at f;obtain ⟨hf,ht⟩:=f;have e:af6 ⟨sl,ce,cd,nx⟩ x=bif decide (G9 (af5 ⟨sl,ce,cd,nx⟩ x.ins.from_) (-1)>=0) then (⟨sl,ce,cd,nx⟩,false)
     else (⟨(tosU nx sl x.ins.to).2.2,ce,cd++[⟨x.ins.op,x.ins.n,(tosU nx sl x.ins.to).1,af5 ⟨sl,ce,cd,nx⟩ x.ins.from_,x.ins.body⟩],(tosU nx sl x.ins.to).2.1⟩,true):=by
    unfold af6;rw [h4,r];rfl
   refine ⟨⟨(0,[],()),rfl,rfl,Int.le_refl _,by dsimp only;omega,by simp [af5]⟩,?_⟩;rintro ⟨k,fr,⟨⟩⟩;dsimp only;rintro ⟨k0,k1,rfl⟩;obtain ⟨k,rfl⟩:=co0 k0;simp only [cn8];refine ⟨λd=>?_,λd=>?_⟩
   .have d:=co4 d;have B:k<x.ins.from_.length:=by omega
    have hm:=hf _ (G8 B 0);refine ⟨⟨k0,d⟩,⟨hm.1,by omega⟩,by rw [bP6,cq3];simp only [cp8];omega,(((k+1:Nat):Int),af5 ⟨sl,ce,cd,nx⟩ (x.ins.from_.take (k+1)),()),B4 B (by omega),?_,⟨by dsimp only;omega,by dsimp only;omega,by dsimp only;rw [cn8]⟩,by dsimp only;omega⟩;dsimp only;rw [A4 B 0];unfold af5;rw [List.map_append];rfl
   have d:=co3 d;have X:x.ins.from_.take k=x.ins.from_:=List.take_of_length_le (by omega);simp only [X];refine ⟨λY=>?_,λY=>?_⟩
   .exact fail ⟨_,_,_,_⟩ (by rw [e,Y];rfl)
   refine ⟨⟨(0,[],nx,sl,()),rfl,rfl,rfl,rfl,Int.le_refl _,by dsimp only;omega,by simp [tosU]⟩,?_⟩;rintro ⟨m,to,N,s2,⟨⟩⟩;dsimp only;rintro ⟨C,m1,u⟩;obtain ⟨m,rfl⟩:=co0 C;simp only [cn8] at u |-;have L:=bY1 nx sl (x.ins.to.take m);rw [<-u,cq3] at L;dsimp only at L;refine ⟨λG=>?_,λG=>?_⟩
   .have G:=co4 G;have D:m<x.ins.to.length:=by omega
    have hm:=ht _ (G8 D 0);refine ⟨⟨C,G⟩,⟨hm.1,by omega⟩,by simp only [cp8];omega,(((m+1:Nat):Int),to++[N],N+1,s2.set (x.ins.to.getD m 0).toNat N,()),B4 D (by omega),L5 (by omega) (by omega),rfl,rfl,⟨by dsimp only;omega,by dsimp only;omega,?_⟩,by dsimp only;omega⟩;dsimp only;rw [cn8,A4 D 0,bP5,<-u];rfl
   have G:=co3 G;rw [List.take_of_length_le (by omega)] at u;rw [Y,<-u] at e;refine ⟨by simp only [cp8];omega,(((q+1:Nat):Int),s2,ce,N,cd++[⟨x.ins.op,x.ins.n,to,af5 ⟨sl,ce,cd,nx⟩ x.ins.from_,x.ins.body⟩],()),W,rfl,rfl,rfl,rfl,⟨by dsimp only;omega,by dsimp only;omega,by dsimp only;rw [cn8,t,e];rfl⟩,by dsimp only;omega⟩
 have h3:=co3 h3;rw [List.take_of_length_le (by omega)] at hr;rw [hr];dsimp only;refine ⟨⟨(0,[],()),rfl,rfl,Int.le_refl _,by dsimp only;omega,by simp [T3]⟩,?_⟩;rintro ⟨m,ou,⟨⟩⟩;dsimp only;rintro ⟨C,m1,v⟩;obtain ⟨m,rfl⟩:=co0 C;simp only [cn8] at v |-;have J:=be9 ⟨sl,ce,cd,nx⟩ (o.take m);rw [v,cq3] at J;dsimp only at J;refine ⟨λh4=>?_,λh4=>?_⟩
 .have h4:=co4 h4;have hm:m<o.length:=by omega
  have f:=cq4.1 A _ (G8 hm place0);have c:=aI7 ⟨sl,ce,cd,nx⟩ [o.getD m place0] (o.take m);rw [<-A4 hm place0,v] at c;have K:T3 ⟨sl,ce,cd,nx⟩ (o.take (m+1))=(ou,false)->T3 ⟨sl,ce,cd,nx⟩ o=(ou,false):=λe=>by rw [<-List.take_append_drop (m+1) o,aI7,e];rfl
  obtain ⟨p,Z⟩:∃ p,o.getD m place0=p:=⟨_,rfl⟩;simp only [Z] at f c |-;have hv:(bif p.cell then ce.getD p.n.toNat 0 else sl.getD p.n.toNat 0)=outU ⟨sl,ce,cd,nx⟩ p:=rfl;simp only [hv];simp only [T3,cond_true] at c;refine ⟨⟨C,h4⟩,⟨λr=>?_,λr=>?_⟩,λr=>?_,λr=>?_⟩
  .unfold I5 at f;rw [if_pos r,H1] at f;exact ⟨⟨C,h4⟩,f.1,by omega⟩
  .unfold I5 at f;rw [if_neg (by rw [r];simp),H1] at f;exact ⟨⟨C,h4⟩,f.1,by omega⟩
  .rw [r] at c;refine res ⟨sl,ce,cd,nx⟩ ou false ?_;rw [bZ7 hr,K (by rw [c];simp)]
  .rw [r] at c;refine ⟨by simp only [cp8];omega,(((m+1:Nat):Int),ou++[outU ⟨sl,ce,cd,nx⟩ p],()),B4 hm (by omega),rfl,⟨by dsimp only;omega,by dsimp only;omega,by dsimp only;rw [cn8,c];rfl⟩,by dsimp only;omega⟩
 .have h4:=co3 h4;rw [List.take_of_length_le (by omega)] at v;exact res ⟨sl,ce,cd,nx⟩ ou true (by rw [bZ7 hr,v])
theorem aw8:C5 prog RG 59 cUndone:=E1 (A6 bi5 B8) (λp=>bm6 p.1 p.2.1 p.2.2.1 p.2.2.2.1 p.2.2.2.2.1) (by kernel_rfl) (by kernel_rfl) (by kernel_rfl) λ(a,ns,nc,l,o,()) b=>bP7 a ns nc l o b
theorem bP8 (a ns nc:Int) (l:List RIns) (o:List Place) (e:bm7 (a,ns,nc,l,o,())):vc (EV [(62,cRanged),(63,cTwice),(59,cUndone)]) noL Go.Proofs.Tryd.f23 cValidR (a,ns,nc,l,o,()):=by
 rw [bO8 a ns nc l o];obtain ⟨⟨f,g,b,c⟩,d⟩:=e;have i:l.all aq2=(l.all λx=>x.kind !=0||C0 x.ins.to):=rfl;have j:F9 ⟨a,ns,nc,l,o⟩=if 16000<l.length then 3 else if D7 ⟨a,ns,nc,l,o⟩=false then 2 else if l.all aq2=false then 5 else if (B7 ⟨a,ns,nc,l,o⟩).2=false then 4 else 0:=rfl;simp only [j];intro k m;refine ⟨λh=>?_,λh=>⟨λh2=>?_,λh2=>⟨d,λh3=>?_,λh3=>⟨?_,λh4=>?_,λh4=>?_⟩⟩⟩⟩
 .have h:=co4 h;rw [if_pos (by omega)]
 all_goals have h:=co3 h
 .rw [if_neg (by omega),if_pos (by simpa using h2)]
 all_goals have h2:D7 ⟨a,ns,nc,l,o⟩=true:=by simpa using h2
 .rw [if_neg (by omega),if_neg (by rw [h2];simp),if_pos (by simpa using h3)]
 .exact ⟨h2,by omega,b,c⟩
 all_goals have h3:l.all aq2=true:=by simpa using h3
 all_goals rw [(aI6 h2).1] at h4
 .rw [if_neg (by omega),if_neg (by rw [h2];simp),if_neg (by rw [h3];simp),if_pos (by simpa using h4)]
 .rw [if_neg (by omega),if_neg (by rw [h2];simp),if_neg (by rw [h3];simp),if_neg (by simpa using h4)]
theorem aw9:C5 prog RG 23 cValidR:=E1 (A6 be8 (A6 bn0 (A6 aw8 B8))) (λ_=>noL) (by kernel_rfl) (by kernel_rfl) (by kernel_rfl) λ(a,ns,nc,l,o,()) b=>bP8 a ns nc l o b
theorem bC0 {a ns nc:Int} {l:List RIns} {o:List Place} (h:F9 ⟨a,ns,nc,l,o⟩=0):l.length<=16000/\D7 ⟨a,ns,nc,l,o⟩=true/\(B7 ⟨a,ns,nc,l,o⟩).2=true:=by
 unfold F9 at h;dsimp only at h;by_cases h1:16000<l.length
 .rw [if_pos h1] at h;cases h
 rw [if_neg h1] at h;cases h2:D7 ⟨a,ns,nc,l,o⟩ with
 |false=>rw [if_pos h2] at h;cases h
 |true=>
  rw [if_neg (by rw [h2];simp)] at h;split at h
  .cases h
  .cases h3:(B7 ⟨a,ns,nc,l,o⟩).2 with
   |false=>rw [if_pos h3] at h;cases h
   |true=>exact ⟨by omega,rfl,rfl⟩
theorem bY3 (a ns nc:Int) (l:List RIns) (o:List Place) (g:bm7 (a,ns,nc,l,o,())):vc (EV [(23,cValidR),(59,cUndone)]) noL Go.Proofs.Tryd.f21 cBackR (a,ns,nc,l,o,()):=by
 rw [bX7 a ns nc l o];have d:=g;obtain ⟨⟨m,n,b,e⟩,p⟩:=g;have q:G4 ⟨a,ns,nc,l,o⟩=if F9 ⟨a,ns,nc,l,o⟩≠0 then (bi0,F9 ⟨a,ns,nc,l,o⟩) else if 4000<I1 a (B7 ⟨a,ns,nc,l,o⟩).1.code\/4000<(B7 ⟨a,ns,nc,l,o⟩).1.code.length then (bi0,9) else ((B7 ⟨a,ns,nc,l,o⟩).1,0):=rfl;simp only [q];intro r s;refine ⟨d,λh=>?_,λh=>?_⟩
 .have h:F9 ⟨a,ns,nc,l,o⟩≠0:=by simpa using h
  rw [if_pos h];rfl
 have h:F9 ⟨a,ns,nc,l,o⟩=0:=by simpa using h
 obtain ⟨i,f,j⟩:=bC0 h;obtain ⟨t,k⟩:=(aI6 f).2 j;have M:=(ap6 (c:=⟨a,ns,nc,l,o⟩) (X4 f).1 i b).2.2 j;dsimp only at M k;rw [<-k] at M;rw [if_neg (by rw [h];simp),M,t];dsimp only;refine ⟨⟨f,i,b,e⟩,λh2=>?_,λh2=>?_⟩
 .rw [Bool.or_eq_true,cp6,cp6] at h2;rw [if_pos (by omega)];rfl
 .rw [Bool.or_eq_false_iff,decide_eq_false_iff_not,decide_eq_false_iff_not] at h2;rw [if_neg (by omega)]
theorem bn2:C5 prog RG 21 cBackR:=E1 (A6 aw9 (A6 aw8 B8)) (λ_=>noL) (by kernel_rfl) (by kernel_rfl) (by kernel_rfl) λ(a,ns,nc,l,o,()) b=>bY3 a ns nc l o b
theorem bY4 (a ns nc:Int) (l:List RIns) (o:List Place) (d:bm7 (a,ns,nc,l,o,())):vc (EV [(14,cSlotted),(20,cBack),(21,cBackR),(17,cCount),(18,cCount),(22,cValid),(23,cValidR),(24,cSameVec)]) noL Go.Proofs.Tryd.f4 cLawB (a,ns,nc,l,o,()):=by rw [bX8 a ns nc l o];have b:=d;obtain ⟨c,e⟩:=d;intro h i f g;refine ⟨λ_=>rfl,λ_=>⟨c,b,c,b,?_⟩⟩;simp [ah4]
theorem bP9:C5 prog RG 4 cLawB:=E1 (A6 aV0 (A6 aN8 (A6 bn2 (A6 aF9 (A6 bb1 (A6 al8 (A6 aw9 (A6 ap0 B8)))))))) (λ_=>noL) (by kernel_rfl) (by kernel_rfl) (by kernel_rfl) λ(a,ns,nc,l,o,()) b=>bY4 a ns nc l o b
end Go.Rg
end
section
namespace Go.Proofs.YtknhkhdbonjhgaaDoor
open Go.ChangeShapes Go.WideShapes Go.ChangeAt Go.RowKit Go.VT
abbrev aI8:List ArgT:=[(31,true,[Go.Rg.i64,Go.Rg.i64,Go.Rg.i64,Go.Rg.ak9,Go.Rg.W5])]
set_option maxRecDepth 100000 in
theorem bf0 (os:Os) (started:os.Started) (H:Type) (enc:TypeId×Value->H):
  ReturnsInHanded {} Tryd.checked os 4 .any (λw args=>(Rows.regsBacksSpec.pre enc Tryd.prog Tryd.f4 [] false w args/\laidMetH Tryd.prog bA9 w)/\sizedMet enc Tryd.prog Tryd.f4 (OpenSpec.ofChange Rows.regsBacksSpec) false w args)
   (Rows.regsBacksSpec.post enc Tryd.prog Tryd.f4 false true false false):=by
 refine returnsInHanded_of_change_and (C:=Tryd.checked) (X:=λw _=>laidMetH Tryd.prog bA9 w) (λ_ _ _ G h=>h.of_heap G) own started (by kernel_rfl) Tryd.func4
  (ChangeSpec.witness_shaped (enc:=enc) (C:=Tryd.checked) (os:=os) (X:=λw _=>laidMetH Tryd.prog bA9 w) false (World.doorLaid Tryd.prog 600 os) #[.agg #[.int .i64 0,.int .i64 0,.int .i64 0,.slice none 0 0,.slice none 0 0]] 8 rfl (World.shaped_of_RefB (by kernel_rfl) (by kernel_rfl)) (by kernel_rfl) (by kernel_rfl) (by kernel_rfl) (bW9 os _)) ?_
 intro W base args ds gs aF2 f z _ l I _;have c:∀ (j:Nat) t v,Tryd.f4.params[j]? =some t->args[j]? =some v->Value.okWide Tryd.prog W .any base t v:=f;have m:=z;obtain ⟨p,q,o,B,rfl,J,K⟩:=z;have s:DataW.TrodAll enc Tryd.prog W 0 (λ_=>true) true Tryd.f4.params.toList args.toList ds p:=o;have i:Tryd.f4.params.toList=aI8.map (·.1):=by rw [Tryd.params4];rfl
 obtain ⟨rfl,rfl⟩:gs=[]/\q=[]:=by
  cases gs with
  |nil=>exact ⟨rfl,B⟩
  |cons g r=>exact absurd B (by intro h;cases h)
 have d:∀ n∈DataW.weightsEach Tryd.prog Tryd.f4.params.toList ds,n<=reachBytes:=by intro n L;have h1:(DataW.weightsEach Tryd.prog (Tryd.f4.params.toList++[]) (ds++[])).all (·<=reachBytes)=true:=l;rw [List.append_nil,List.append_nil] at h1;simpa using cq4.1 h1 n L
 rw [i] at s d;obtain ⟨xs,us,hr,D⟩:=br4 bX4 (A:=aI8) (λa E=>by
  simp only [List.mem_cons,List.not_mem_nil,or_false] at E;rcases E with rfl
  .exact bX5) (λj t v F u=>c j t v (by rw [<-i] at F;simpa using F) (by simpa using u)) s d
 obtain ⟨x,rfl⟩:∃ x,ds=[x]:=by
  have k:=aI2 s
  match ds,k with
  |[x],_=>exact ⟨_,rfl⟩
 have b:=bH2 (pre:=_) (A:=aI8) (w:=W) Go.Rg.bP9 (ci4 I) hr D (bB6 hr (bB5 hr D λv u=>c 0 31 v (by rw [Tryd.params4];rfl) (by simpa using u)));rw [Array.toArray_toList] at b;refine b.mono λe W' ⟨M,N⟩=>⟨_,M,bX1 rfl m N (by kernel_rfl) rfl (λt y=>?_)⟩;rw [i] at y;simp only [List.map_cons,List.map_nil,List.mem_cons,List.not_mem_nil,or_false] at y;rcases y with rfl<;>exact ⟨by kernel_rfl,co4 (by kernel_rfl)⟩
theorem bn3:Rows.RegsBacksSaid:=
 OpenClaim.holds_of_wide 4 Tryd.f4 rfl rfl rfl rfl rfl rfl rfl ⟨rfl,rfl,rfl,rfl,rfl⟩ rfl rfl rfl rfl rfl (by kernel_rfl) Tryd.func4 (by kernel_rfl)
  (co4 (by kernel_rfl)) (by unfold Func.isWrapper;first|(rw [if_pos (by decide+kernel)];kernel_rfl)|(rw [if_neg (by decide+kernel)];exact ⟨rfl,rfl⟩))
  (λos started H enc _=>bf0 os started H enc)
theorem backs_card:Rows.RegsBacksCardSaid:=
 Claim7.holds_tied_plain_at .later [] [.data,.data] true (true,"168ab8e7f67d43304005f9eb622602b7a6af205c051abe541b21ac4f05ca28a5") false
  bn3 (λ_ h=>by cases h) (by kernel_rfl) (λ_ h=>by cases h) regsBacks_row_tie rfl ⟨rfl,rfl⟩ (by kernel_rfl) rfl
  (λf fn hf b=>by
   obtain rfl:f=4:=Option.some.inj ((show Tryd.prog.funcNamed "sheafworks/sheafworkslaw23.RegsBacks"=some 4 by kernel_rfl).symm.trans hf) |>.symm;obtain rfl:fn=Tryd.f4:=(Option.some.inj (Tryd.func4.symm.trans b)).symm;exact ⟨by kernel_rfl,λj t c=>by
    rw [Tryd.params4] at c;have hm:t∈[31]:=by simpa using Array.mem_of_getElem? c
    have a:([31].all λu=>!Tryd.prog.wantsStandIn u)=true:=by kernel_rfl
    exact (show Tryd.prog.wantsStandIn t=false by simpa using cq4.1 a t hm)⟩)
  (by kernel_rfl)
end Go.Proofs.YtknhkhdbonjhgaaDoor
end
