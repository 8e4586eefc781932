/-
RegsAllocs returns true for any function f and number k, in whatever memory and on every schedule: Alloc returns what the chapter says, and Count counts it, if what it reads fits the chapter's bulk
-/
import Derived.Test.YtknhkhdbonjhgaaDoorV5
import Derived.Test.YtknhkhdbonjhgaaDoorCards
import Derived.Test.YtknhkhdbonjhgaaDoorTie
import Derived.SevenTiedAt
set_option linter.unusedVariables false
set_option linter.unusedSimpArgs false
set_option linter.unnecessarySimpa false
set_option maxRecDepth 100000
noncomputable section
section
namespace Go.Rg
open Go Go.VT
theorem aS7 {p:Nat->Bool} {n i:Nat} (a:i<n) (b:p i=true) (h:∀ j,j<i->p j=false):(List.range n).find? p=some i:=by rw [List.find?_range_eq_some];exact ⟨b,List.mem_range.2 a,λj c=>by simp [h j c]⟩
theorem aS8 {p:Nat->Bool} {n:Nat} (h:∀ j,j<n->p j=false):(List.range n).find? p=none:=by rw [List.find?_eq_none];intro j a;rw [h j (by simpa using a)];simp
theorem ct4 (sl lv kp:List Int):vc (EV [(32,cWhere)]) (cs6 sl lv kp) Go.Proofs.Tryd.f103 cFree (sl,lv,kp,()):=by
 rw [ct2 sl lv kp];simp only [true_and];intro c g k;have hl:sl.length<=140737488355328:=c.len;refine ⟨⟨(0,()),rfl,Int.le_refl _,by dsimp only;omega,λj b=>by simp at b⟩,?_⟩;rintro ⟨i,⟨⟩⟩;dsimp only;rintro ⟨l,m,a⟩;obtain ⟨i,rfl⟩:=cy3 l;simp only [cy0] at a |-;refine ⟨λh=>?_,λh=>?_⟩
 .have h:=cy7 h;have f:i<sl.length:=by omega
  have d:(0:Int)<=i/\(i:Int)<sl.length:=⟨by omega,by omega⟩;refine ⟨d,λ_=>d,λ_ _=>d,λhf=>?_,λhf=>?_⟩
  .have hf:am9 sl lv kp i=true:=hf;unfold Q4;rw [aS7 f hf a]
  .have hf:am9 sl lv kp i=false:=hf;refine ⟨((i+1:Nat),()),B3 f hl,⟨by dsimp only;omega,by dsimp only;omega,λj b=>?_⟩,by dsimp only;omega⟩;dsimp only at b;rw [cy0] at b;by_cases e:j=i
   .rw [e];exact hf
   .exact a j (by omega)
 .have h:=cy6 h;unfold Q4;rw [aS8 λj b=>a j (by omega)]
theorem bJ4:D0 prog RG 103 cFree:=E5 (A5 M6 C0) (λp=>cs6 p.1 p.2.1 p.2.2.1) (by kernel_rfl) (by kernel_rfl) (by kernel_rfl) λ(a,b,c,()) _=>ct4 a b c
theorem bJ5 (a:Int) (b:List Ins) (c d:List Int) (reg fr:Int) (n:0<=fr/\fr<=b.length):vc (EV [(32,cWhere)]) (aZ7 b reg fr) Go.Proofs.Tryd.f108 cReading (a,b,c,d,reg,fr,()):=by
 rw [bJ3 a b c d reg fr];obtain ⟨h0,h1⟩:=n;have o:(⟨0,0,[],[],[]⟩:Ins)=ins0:=rfl;simp only [o,true_and];intro k p q;have hl:b.length<=140737488355328:=k.len;refine ⟨⟨(fr,()),rfl,Int.le_refl _,by dsimp only;omega,λj f=>?_⟩,?_⟩
 .dsimp only at f;unfold T8;rw [decide_eq_false (by omega)];rfl
 rintro ⟨i,⟨⟩⟩;dsimp only;rintro ⟨r,s,e⟩;obtain ⟨i,rfl⟩:=cy3 (show 0<=i by omega);simp only [cy0] at e |-;refine ⟨λh=>?_,λh=>?_⟩
 .have h:=cy7 h;have m:i<b.length:=by omega
  have g:T8 b reg fr i=decide (B8 (b.getD i ins0).from_ reg>=0):=by unfold T8;rw [decide_eq_true (show fr<=(i:Int) by omega)];rfl
  refine ⟨⟨by omega,by omega⟩,λhf=>?_,λhf=>?_⟩
  .rw [<-g] at hf;unfold C2;rw [aS7 m hf e]
  .rw [<-g] at hf;refine ⟨((i+1:Nat),()),B3 m hl,⟨by dsimp only;omega,by dsimp only;omega,λj f=>?_⟩,by dsimp only;omega⟩;dsimp only at f;rw [cy0] at f;by_cases l:j=i
   .rw [l];exact hf
   .exact e j (by omega)
 .have h:=cy6 h;unfold C2;rw [aS8 λj f=>e j (by omega)]
theorem ba0:D0 prog RG 108 cReading:=E5 (A5 M6 C0) (λp=>aZ7 p.2.1 p.2.2.2.2.1 p.2.2.2.2.2.1) (by kernel_rfl) (by kernel_rfl) (by kernel_rfl) λ(a,b,c,d,reg,fr,()) e=>bJ5 a b c d reg fr e
theorem bk3 (b:List Ins) (sl kp:List Int) (fr:Int):∀ n,n<=sl.length->-1<=F5 b sl kp fr n/\F5 b sl kp fr n<n
 |0,_=>⟨Int.le_refl _,show (-1:Int)<0 by decide⟩
 |n+1,h=>by
  obtain ⟨h1,h2⟩:=bk3 b sl kp fr n (by omega);have e:F5 b sl kp fr (n+1)=ai6 b sl kp fr (F5 b sl kp fr n) n:=by unfold F5;rw [List.range_succ,List.foldl_append];rfl
  rw [e];unfold ai6;cases decide (B8 kp (sl.getD n 0)>=0) with
  |true=>exact ⟨h1,by rw [cond_true];omega⟩
  |false=>
   rw [cond_false];cases (decide (F5 b sl kp fr n<0)||decide (C2 b (sl.getD n 0) fr >C2 b (sl.getD (F5 b sl kp fr n).toNat 0) fr)||(C2 b (sl.getD n 0) fr==C2 b (sl.getD (F5 b sl kp fr n).toNat 0) fr&&decide (sl.getD n 0 >sl.getD (F5 b sl kp fr n).toNat 0))) with
   |true=>rw [cond_true];omega
   |false=>rw [cond_false];omega
theorem bX9 (a:Int) (b:List Ins) (c d sl kp:List Int) (fr:Int) (j:0<=fr/\fr<=b.length):vc (EV [(32,cWhere),(108,cReading)]) (bs9 b sl kp fr) Go.Proofs.Tryd.f104 cVictim (a,b,c,d,sl,kp,fr,()):=by
 rw [bX8 a b c d sl kp fr];simp only [true_and,Bool.cond_self];intro r s t l u;have hl:sl.length<=140737488355328:=l.len;refine ⟨⟨(0,-1,()),rfl,rfl,Int.le_refl _,by dsimp only;omega,rfl⟩,?_⟩;rintro ⟨i,m,⟨⟩⟩;dsimp only;rintro ⟨v,y,rfl⟩;obtain ⟨i,rfl⟩:=cy3 v;simp only [cy0];refine ⟨λh=>?_,λh=>?_⟩
 .have h:=cy7 h;have n:i<sl.length:=by omega
  have k:(0:Int)<=i/\(i:Int)<sl.length:=⟨by omega,by omega⟩;have o:=bk3 b sl kp fr i (by omega);have p:F5 b sl kp fr (i+1)=ai6 b sl kp fr (F5 b sl kp fr i) i:=by unfold F5;rw [List.range_succ,List.foldl_append];rfl
  obtain ⟨m,hm⟩:∃ m,F5 b sl kp fr i=m:=⟨_,rfl⟩;simp only [hm] at o p |-;have w:IntKind.i64.wrap ((i:Int)+1)=((i+1:Nat):Int):=B3 n hl;have e:∀ z,z=F5 b sl kp fr (i+1)->∃ p':Int×Int×Unit,IntKind.i64.wrap ((i:Int)+1)=p'.1/\z=p'.2.1/\(0<=p'.1/\p'.1<=(sl.length:Int)/\p'.2.1=F5 b sl kp fr p'.1.toNat)/\sl.length-p'.1.toNat<sl.length-i:=by rintro z rfl;exact ⟨((i+1:Nat),F5 b sl kp fr (i+1),()),w,rfl,⟨by dsimp only;omega,by dsimp only;omega,by dsimp only;rw [cy0]⟩,by dsimp only;omega⟩
  refine ⟨k,λq=>e _ ?_,λq=>?_⟩
  .rw [p];unfold ai6;rw [q];rfl
  .have f:decide (m<0)=false->0<=m/\m<(sl.length:Int):=λh=>by have:=cy6 h;omega
   have g:∀ {x:Bool},(decide (m<0)||x)=false->0<=m/\m<(sl.length:Int):=λh=>f (Bool.or_eq_false_iff.1 h).1;refine ⟨λ_=>k,λ_=>j,f,λ_=>j,λ_=>k,λ_=>j,g,λ_=>j,λ_ _=>k,λh _=>g h,e _ ?_⟩;rw [p];unfold ai6;rw [q];rfl
 .have h:=cy6 h;have n:i=sl.length:=by omega
  subst n;rfl
theorem bk4:D0 prog RG 104 cVictim:=E5 (A5 M6 (A5 ba0 C0)) (λp=>bs9 p.2.1 p.2.2.2.2.1 p.2.2.2.2.2.1 p.2.2.2.2.2.2.1) (by kernel_rfl) (by kernel_rfl) (by kernel_rfl) λ(a,b,c,d,sl,kp,fr,()) e=>bX9 a b c d sl kp fr e
theorem ch1 (a:Int) (b:List Ins) (c d sl:List Int) (ce:List (Int×Int)) (nx:Int) (cd:List RIns) (reg:Int) (lv kp:List Int) (fr:Int)
  (j:aN5 b sl lv kp fr/\0<=fr/\fr<=b.length/\(0<=nx/\nx<=1000000000)/\cd.length<=1000000000):vc (EV [(103,cFree),(104,cVictim)]) noL Go.Proofs.Tryd.f88 cGiven (a,b,c,d,sl,ce,nx,cd,reg,lv,kp,fr,()):=by
 rw [ch0 a b c d sl ce nx cd reg lv kp fr];obtain ⟨⟨e,f⟩,h0,h1,⟨k,l⟩,hc⟩:=j;have o:(⟨0,0,[],[],[]⟩:Ins)=ins0:=rfl;have g:∀ (m:List (Int×Int)) (n:Int),mget (λx y=>x==y) m n=mget eqI m n:=λ_ _=>rfl;have i:∀ (m:List (Int×Int)) (n v:Int),mput (λx y=>x==y) m n v=mput eqI m n v:=λ_ _ _=>rfl;have p:IntKind.i64.wrap (nx+1)=nx+1:=M1 (by omega) (by omega);simp only [o,g,i,p,Bool.cond_self];intro q r s t u w z;unfold L9;unfold atR at e f |-;dsimp only;cases hf:decide (Q4 sl lv kp<0) with
 |false=>rw [hf,cond_false] at e f;exact ⟨λh=>(by cases h),⟨e,f⟩,rfl⟩
 |true=>rw [hf,cond_true] at e f;simp only [cond_true];unfold bs8;dsimp only;refine ⟨λ_=>⟨⟨h0,h1⟩,⟨e,f⟩,λ_=>by simp only [cA1];omega⟩,⟨e,f⟩,?_⟩;cases (mget eqI ce (sl.getD (J0 b sl kp fr).toNat 0)).isSome<;>rfl
theorem bt3:D0 prog RG 88 cGiven:=E5 (A5 bJ4 (A5 bk4 C0)) (λ_=>noL) (by kernel_rfl) (by kernel_rfl) (by kernel_rfl) λ(a,b,c,d,sl,ce,nx,cd,reg,lv,kp,fr,()) e=>ch1 a b c d sl ce nx cd reg lv kp fr e
theorem ax2 (b:List Ins) (r:RS) (n:Int) (live keep:List Int) (fr:Int):r.next<=(L9 b r n live keep fr).next/\(L9 b r n live keep fr).next<=r.next+1/\(L9 b r n live keep fr).code.length<=r.code.length+1:=by
 unfold L9;dsimp only;cases decide (Q4 r.slots live keep<0) with
 |false=>rw [cond_false];omega
 |true=>
  rw [cond_true];unfold bs8;cases (mget eqI r.cells (r.slots.getD (J0 b r.slots keep fr).toNat 0)).isSome with
  |true=>rw [cond_true];omega
  |false=>rw [cond_false];dsimp only;rw [cz8,cA1];omega
theorem ap5 (b:List Ins) (live keep:List Int) (i:Int):∀ (l:List Int) (r:RS),r.next<=(E9 b live keep i r l).next/\(E9 b live keep i r l).next<=r.next+l.length/\(E9 b live keep i r l).code.length<=r.code.length+2*l.length
 |[],r=>by simp [E9]
 |x::l,r=>by
  have ih:=ap5 b live keep i l (al8 b live keep i r x);have h1:r.next<=(al8 b live keep i r x).next/\(al8 b live keep i r x).next<=r.next+1/\(al8 b live keep i r x).code.length<=r.code.length+2:=by
   unfold al8;cases decide (B8 r.slots x>=0) with
   |true=>rw [cond_true];omega
   |false=>have h:=ax2 b r x live keep i;rw [cond_false];dsimp only;rw [cz8,cA1];omega
  show r.next<=(E9 b live keep i (al8 b live keep i r x) l).next/\(E9 b live keep i (al8 b live keep i r x) l).next<=_/\(E9 b live keep i (al8 b live keep i r x) l).code.length<=_;rw [cz3];omega
theorem bk5 (b:List Ins) (live keep:List Int) (i:Int):∀ (l:List Int) (s:RS×List Int),s.1.next<=(l.foldl (toR b live keep i) s).1.next/\(l.foldl (toR b live keep i) s).1.next<=s.1.next+l.length/\(l.foldl (toR b live keep i) s).1.code.length<=s.1.code.length+l.length/\(l.foldl (toR b live keep i) s).2.length=s.2.length+l.length
 |[],s=>by simp
 |x::l,s=>by
  have ih:=bk5 b live keep i l (toR b live keep i s x);have h:=ax2 b s.1 x live keep i;have h2:(toR b live keep i s x).2.length=s.2.length+1:=by unfold toR;simp
  have h3:(toR b live keep i s x).1=L9 b s.1 x live keep i:=rfl;rw [h3] at ih;rw [List.foldl_cons,cz3];omega
theorem bk6 (b:List Ins) (live keep:List Int) (i:Int) (r:RS) (l:List Int):r.next<=(tosR b live keep i r l).1.next/\(tosR b live keep i r l).1.next<=r.next+l.length/\(tosR b live keep i r l).1.code.length<=r.code.length+l.length/\(tosR b live keep i r l).2.length=l.length:=by have h:=bk5 b live keep i l (r,[]);simpa [tosR] using h
theorem ct5 (a:Int) (b:List Ins) (c d sl:List Int) (ce:List (Int×Int)) (nx:Int) (cd:List RIns) (i:Int) (lv:List (List Int))
  (N:(0<=i/\i<b.length)/\b.length<=4000/\lv.length=b.length+1/\(b.getD i.toNat ins0).from_.length<=100000000/\(b.getD i.toNat ins0).to.length<=100000000/\aA3 b lv ⟨sl,ce,nx,cd⟩ i/\(0<=nx/\nx<=100000000)/\cd.length<=100000000):
  vc (EV [(32,cWhere),(88,cGiven)]) (cs7 b lv ⟨sl,ce,nx,cd⟩ i) Go.Proofs.Tryd.f56 cDone (a,b,c,d,sl,ce,nx,cd,i,lv,()):=by
 rw [ct3 a b c d sl ce nx cd i lv];obtain ⟨⟨E,F⟩,O,P,G,H,l,⟨Q,R⟩,S⟩:=N;have T:(⟨0,0,[],[],[]⟩:Ins)=ins0:=rfl;have I:∀ (m:List (Int×Int)) (n:Int),mget (λx y=>x==y) m n=mget eqI m n:=λ_ _=>rfl;have s:IntKind.i64.wrap (i+1)=i+1:=M1 (by omega) (by omega);simp only [T,I,s,true_and];unfold aA3 at l;dsimp only at l;have o:Q1 b lv ⟨sl,ce,nx,cd⟩ i=(match b.getD i.toNat ins0 with
  |x=>match E9 b (lv.getD i.toNat []) x.from_ i ⟨sl,ce,nx,cd⟩ x.from_ with
   |r1=>match tosR b (lv.getD (i+1).toNat []) x.to (i+1) r1 x.to with
    |(D,to)=>⟨D.slots,D.cells,D.next,D.code++[⟨0,0,0,⟨x.op,x.n,to,x.from_.map (B8 r1.slots),x.body⟩⟩]⟩):=rfl
 rw [o];obtain ⟨x,U⟩:∃ x,b.getD i.toNat ins0=x:=⟨_,rfl⟩;obtain ⟨L,V⟩:∃ L,lv.getD i.toNat []=L:=⟨_,rfl⟩;obtain ⟨L2,J⟩:∃ L,lv.getD (i+1).toNat []=L:=⟨_,rfl⟩;obtain ⟨r,hr⟩:∃ r:RS,(⟨sl,ce,nx,cd⟩:RS)=r:=⟨_,rfl⟩;have W:r.next=nx:=by rw [<-hr]
 have X:r.code.length=cd.length:=by rw [<-hr]
 simp only [U,V,J,hr] at G H l |-;clear o;intro Y Z hs3 hs4 hs5 hs6;have K:(0:Int)<=i/\i<b.length:=⟨E,F⟩;refine ⟨K,⟨(0,r.slots,r.cells,r.next,r.code,()),rfl,by rw [<-hr],by rw [<-hr],by rw [<-hr],by rw [<-hr],Int.le_refl _,by dsimp only;omega,rfl⟩,?_⟩;rintro ⟨j,s1,t,v,w,⟨⟩⟩;dsimp only;rintro ⟨j0,j1,f⟩;obtain ⟨j,rfl⟩:=cy3 j0;simp only [cy0] at f |-;have z:=ap5 b L x.from_ i (x.from_.take j) r;rw [f,cA6] at z;dsimp only at z;refine ⟨λh=>?_,λh=>?_⟩
 .have h:=cy7 h;have A:j<x.from_.length:=by omega
  have q:(0:Int)<=j/\(j:Int)<x.from_.length:=⟨by omega,by omega⟩;have k:E9 b L x.from_ i r (x.from_.take (j+1))=al8 b L x.from_ i ⟨s1,t,v,w⟩ (x.from_.getD j 0):=by rw [A4 A 0,<-f];simp [E9]
  have B:IntKind.i64.wrap ((j:Int)+1)=((j+1:Nat):Int):=B3 A (by omega);refine ⟨q,λs=>?_,λs=>?_⟩
  .refine ⟨((j+1:Nat),s1,t,v,w,()),B,rfl,rfl,rfl,rfl,⟨by dsimp only;omega,by dsimp only;omega,?_⟩,by dsimp only;omega⟩;dsimp only;rw [cy0,k];unfold al8;rw [s];rfl
  .have g:=l.1 j A (by rw [f];have:=cy6 s;dsimp only;omega);rw [f] at g;have M:=ax2 b ⟨s1,t,v,w⟩ (x.from_.getD j 0) L x.from_ i;dsimp only at M;refine ⟨q,⟨by omega,by omega⟩,⟨g,by omega,by omega,⟨by omega,by omega⟩,by omega⟩,q,by simp only [cA1];omega,((j+1:Nat),_,_,_,_,()),B,rfl,rfl,rfl,rfl,⟨by dsimp only;omega,by dsimp only;omega,?_⟩,by dsimp only;omega⟩;dsimp only;rw [cy0,k];unfold al8;rw [s];rfl
 .have h:=cy6 h;have A:x.from_.take j=x.from_:=List.take_of_length_le (by omega);rw [A] at f;simp only [f] at l |-;refine ⟨⟨(0,[],()),rfl,rfl,Int.le_refl _,by dsimp only;omega,rfl⟩,?_⟩;rintro ⟨m,fr,⟨⟩⟩;dsimp only;rintro ⟨m0,m1,rfl⟩;obtain ⟨m,rfl⟩:=cy3 m0;simp only [cy0];refine ⟨λh=>?_,λh=>?_⟩
  .have h:=cy7 h;have hm:m<x.from_.length:=by omega
   refine ⟨⟨by omega,by omega⟩,by rw [cA8,cA6];simp only [cA1];omega,((m+1:Nat),(x.from_.take (m+1)).map (B8 s1),()),B3 hm (by omega),?_,⟨by dsimp only;omega,by dsimp only;omega,by dsimp only;rw [cy0]⟩,by dsimp only;omega⟩;dsimp only;rw [A4 hm 0,List.map_append];rfl
  .have h:=cy6 h;have hm:x.from_.take m=x.from_:=List.take_of_length_le (by omega);simp only [hm];refine ⟨⟨(0,[],s1,t,v,w,()),rfl,rfl,rfl,rfl,rfl,rfl,Int.le_refl _,by dsimp only;omega,rfl⟩,?_⟩;rintro ⟨u,to,s2,c2,n2,k2,⟨⟩⟩;dsimp only;rintro ⟨u0,u1,e⟩;obtain ⟨u,rfl⟩:=cy3 u0;simp only [cy0] at e |-;have p:=bk6 b L2 x.to (i+1) ⟨s1,t,v,w⟩ (x.to.take u);rw [e,cA6] at p;dsimp only at p;refine ⟨λh=>?_,λh=>?_⟩
   .have h:=cy7 h;have C:u<x.to.length:=by omega
    have g:=l.2 u C;rw [e] at g;have k:tosR b L2 x.to (i+1) ⟨s1,t,v,w⟩ (x.to.take (u+1))=toR b L2 x.to (i+1) (⟨s2,c2,n2,k2⟩,to) (x.to.getD u 0):=by rw [A4 C 0,<-e];simp [tosR]
    refine ⟨⟨by omega,by omega⟩,⟨by omega,by omega⟩,⟨g,by omega,by omega,⟨by omega,by omega⟩,by omega⟩,by simp only [cA1];omega,((u+1:Nat),_,_,_,_,_,()),B3 C (by omega),rfl,rfl,rfl,rfl,rfl,⟨by dsimp only;omega,by dsimp only;omega,?_⟩,by dsimp only;omega⟩;dsimp only;rw [cy0,k];rfl
   .have h:=cy6 h;have C:x.to.take u=x.to:=List.take_of_length_le (by omega);rw [C] at e;rw [e];exact ⟨by simp only [cA1];omega,rfl⟩
theorem bJ6:D0 prog RG 56 cDone:=E5 (A5 M6 (A5 bt3 C0)) (λp=>cs7 p.2.1 p.2.2.2.2.2.2.2.2.2.1 ⟨p.2.2.2.2.1,p.2.2.2.2.2.1,p.2.2.2.2.2.2.1,p.2.2.2.2.2.2.2.1⟩ p.2.2.2.2.2.2.2.2.1) (by kernel_rfl) (by kernel_rfl) (by kernel_rfl) λ(a,b,c,d,sl,ce,nx,cd,i,lv,()) e=>ct5 a b c d sl ce nx cd i lv e
theorem ch2 (a b c:Int) (cd:List RIns) (ou:List Place) (d e f:Int) (cd':List RIns) (ou':List Place) (o:a=d/\b=e/\c=f/\cd=cd'/\ou=ou'):
  vc (EV [(57,cSameIns)]) (bX5 cd ou) Go.Proofs.Tryd.f19 cSameC (a,b,c,cd,ou,d,e,f,cd',ou',()):=by
 rw [cg9 a b c cd ou d e f cd' ou'];obtain ⟨rfl,rfl,rfl,rfl,rfl⟩:=o;simp only [true_and,bne_self_eq_false,Bool.or_false,aI6,Bool.not_true,Bool.and_false,beq_self_eq_true,Bool.and_true];intro g k _ _;have l:cd.length<=140737488355328:=g.len;have m:ou.length<=140737488355328:=k.len;refine ⟨λh=>(by cases h),λ_=>⟨⟨(0,()),rfl,Int.le_refl _,by dsimp only;omega⟩,?_⟩⟩;rintro ⟨i,⟨⟩⟩;dsimp only;rintro ⟨n,p⟩;obtain ⟨i,rfl⟩:=cy3 n;refine ⟨λh=>?_,λh=>⟨⟨(0,()),rfl,Int.le_refl _,by dsimp only;omega⟩,?_⟩⟩
 .have h:=cy7 h;exact ⟨⟨n,h⟩,⟨n,h⟩,λh=>(by cases h),λ_=>⟨((i+1:Nat),()),B3 (by omega) l,⟨by dsimp only;omega,by dsimp only;omega⟩,by dsimp only;omega⟩⟩
 .rintro ⟨j,⟨⟩⟩;dsimp only;rintro ⟨j0,q⟩;obtain ⟨j,rfl⟩:=cy3 j0;refine ⟨λh=>?_,λ_=>trivial⟩;have h:=cy7 h;exact ⟨⟨j0,h⟩,⟨j0,h⟩,λh=>(by cases h),λ_=>⟨((j+1:Nat),()),B3 (by omega) m,⟨by dsimp only;omega,by dsimp only;omega⟩,by dsimp only;omega⟩⟩
theorem bt4:D0 prog RG 19 cSameC:=E5 (A5 as7 C0) (λp=>bX5 p.2.2.2.1 p.2.2.2.2.1) (by kernel_rfl) (by kernel_rfl) (by kernel_rfl) λ(a,b,c,cd,ou,d,e,f,cd',ou',()) g=>ch2 a b c cd ou d e f cd' ou' g
theorem bk7 {n lo a:Int}:lies n lo a=true<->lo<=n/\n<=a:=by unfold lies;rw [cx9,cz9,cz9]
theorem bY0 {f:VFun} {ks:Int} (hc:D7 f=0) (a:¬ (ks<1\/64<ks)) (hf:f.code.all (fewX ks)=true):B4 f ks=(⟨f.params,ks,(br2 f ks).ocells,(br2 f ks).code,f.out.map (outA (br2 f ks) ks)⟩,0):=by unfold B4;rw [if_neg (by rw [hc];simp),if_neg a,if_neg (by rw [hf];simp)]
theorem bt5 (l:List Int):(C9 [] l).length=(B0 l).length:=by have h1:=bs7 l;have a:incr (C9 [] l):=O6 (by simp [incr]) l;have h2:=aC7 _ (B0 l) (bI9 a) λx b=>K4.2 ((L0.1 b).resolve_left (by simp));omega
theorem bY1 (ks:Int) (x:Ins):(decide (((C9 [] x.from_).length:Int) >ks)||decide ((x.to.length:Int) >ks))=!fewX ks x:=by unfold fewX;rw [bt5,Bool.not_and];congr 1<;>(rw [Bool.eq_iff_iff];simp)
theorem bY2 (b:List Ins) (lv:List (List Int)) (r:RS) (i:Int) (hf:(b.getD i.toNat ins0).from_.length<=60) (a:(b.getD i.toNat ins0).to.length<=60):r.next<=(Q1 b lv r i).next/\(Q1 b lv r i).next<=r.next+200/\(Q1 b lv r i).code.length<=r.code.length+200:=by
 have h1:=ap5 b (lv.getD i.toNat []) (b.getD i.toNat ins0).from_ i (b.getD i.toNat ins0).from_ r;have h2:=bk6 b (lv.getD (i+1).toNat []) (b.getD i.toNat ins0).to (i+1) (E9 b (lv.getD i.toNat []) (b.getD i.toNat ins0).from_ i r (b.getD i.toNat ins0).from_) (b.getD i.toNat ins0).to;have c:(Q1 b lv r i).next=(tosR b (lv.getD (i+1).toNat []) (b.getD i.toNat ins0).to (i+1) (E9 b (lv.getD i.toNat []) (b.getD i.toNat ins0).from_ i r (b.getD i.toNat ins0).from_) (b.getD i.toNat ins0).to).1.next:=rfl;have d:(Q1 b lv r i).code.length=(tosR b (lv.getD (i+1).toNat []) (b.getD i.toNat ins0).to (i+1) (E9 b (lv.getD i.toNat []) (b.getD i.toNat ins0).from_ i r (b.getD i.toNat ins0).from_) (b.getD i.toNat ins0).to).1.code.length+1:=by unfold Q1;dsimp only;rw [cz8,cA1]
 omega
theorem bk8 {a ks:Int} {b:List Ins} (lv:List (List Int)) (c:∀ x∈b,x.to.length<=60/\x.from_.length<=60):∀ k,k<=b.length->a<=(runR b lv (M3 a ks) k).next/\(runR b lv (M3 a ks) k).next<=a+200*k/\(runR b lv (M3 a ks) k).code.length<=200*k
 |0,_=>⟨Int.le_refl _,by show a<=a+0;omega,Nat.le_refl _⟩
 |k+1,h=>by
  obtain ⟨h1,h2,h3⟩:=bk8 (a:=a) (ks:=ks) lv c k (by omega);have e:runR b lv (M3 a ks) (k+1)=Q1 b lv (runR b lv (M3 a ks) k) k:=by unfold runR;rw [List.range_succ,List.foldl_append];rfl
  have hm:=c _ (F7 (l:=b) (i:=k) (by omega) ins0);have hs:=bY2 b lv (runR b lv (M3 a ks) k) (k:Int) (by rw [cy0];exact hm.2) (by rw [cy0];exact hm.1);rw [e];omega
theorem bY3 (a:Int) (b:List Ins) (c d:List Int) (k:Int) (Q:bA2 b c):
  vc (EV [(42,cCheck),(31,cLies),(35,cUnion),(55,cLivesR),(56,cDone),(32,cWhere)]) (bt2 a b c k) Go.Proofs.Tryd.f16 cAllocR (a,b,c,d,k,()):=by
 rw [bX7 a b c d k];obtain ⟨L,M,l⟩:=Q;have S:(⟨0,0,[],[],[]⟩:Ins)=ins0:=rfl;have E:∀ (m:List (Int×Int)) (n:Int),mget (λx y=>x==y) m n=mget eqI m n:=λ_ _=>rfl;have G:∀ (m:List (Int×Int)) (n v:Int),mput (λx y=>x==y) m n v=mput eqI m n v:=λ_ _ _=>rfl;simp only [S,E,G,true_and,Bool.cond_self,bY1];intro T U V;refine ⟨λh=>?_,λh=>⟨λh2=>?_,λh2=>?_⟩⟩
 .have h:D7 ⟨a,b,c,d⟩≠0:=by simpa using h
  unfold B4;rw [if_pos h];rfl
 .have h:D7 ⟨a,b,c,d⟩=0:=by simpa using h
  have h2:¬ (1<=k/\k<=64):=λW=>by rw [bk7.2 W] at h2;cases h2
  unfold B4;rw [if_neg (by rw [h];simp),if_pos (by omega)];rfl
 have h:D7 ⟨a,b,c,d⟩=0:=by simpa using h
 have hk:1<=k/\k<=64:=by
  cases hl:lies k 1 64 with
  |true=>exact bk7.1 hl
  |false=>rw [hl] at h2;cases h2
 have C:=aX3 h;have ha:=C.pos;have X:=C.few;refine ⟨⟨(0,()),rfl,Int.le_refl _,by dsimp only;omega,by simp⟩,?_⟩;rintro ⟨i,⟨⟩⟩;dsimp only;rintro ⟨Y,i1,g⟩;obtain ⟨i,rfl⟩:=cy3 Y;simp only [cy0] at g |-;refine ⟨λh3=>?_,λh3=>?_⟩
 .have h3:=cy7 h3;have s:i<b.length:=by omega
  have hm:=F7 s ins0;have H:=l _ hm;have t:(0:Int)<=i/\(i:Int)<b.length:=⟨by omega,by omega⟩;refine ⟨t,by simp only [List.length_nil];omega,λ_=>t,λhf=>?_,λhf=>?_⟩
  .have hf:fewX k (b.getD i ins0)=false:=by simpa using hf
   have w:b.all (fewX k)=false:=by rw [List.all_eq_false];exact ⟨_,hm,by rw [hf];simp⟩
   unfold B4;rw [if_neg (by rw [h];simp),if_neg (by omega),if_pos (by exact w)];rfl
  .have hf:fewX k (b.getD i ins0)=true:=by simpa using hf
   refine ⟨((i+1:Nat),()),B3 s (by omega),⟨by dsimp only;omega,by dsimp only;omega,?_⟩,by dsimp only;omega⟩;dsimp only;rw [cy0,A4 s ins0,List.all_append,g];simpa using hf
 have h3:=cy6 h3;have s:b.take i=b:=List.take_of_length_le (by omega);rw [s] at g;refine ⟨⟨C.len,by omega,λx H=>by have:=(l x H).2;omega,bh6 C⟩,⟨(0,[],()),rfl,rfl,Int.le_refl _,by dsimp only;omega,rfl⟩,?_⟩;rintro ⟨j,sl,⟨⟩⟩;dsimp only;rintro ⟨j0,j1,rfl⟩;obtain ⟨j,rfl⟩:=cy3 j0;simp only [cy0];refine ⟨λh4=>?_,λh4=>?_⟩
 .have h4:=cy7 h4;exact ⟨by simp only [List.length_replicate,cA1];omega,((j+1:Nat),List.replicate (j+1) (-1),()),B3 (m:=64) (by omega) (by omega),List.replicate_succ'.symm,⟨by dsimp only;omega,by dsimp only;omega,by dsimp only;rw [cy0]⟩,by dsimp only;omega⟩
 have h4:=cy6 h4;have I:j=k.toNat:=by omega
 subst I;refine ⟨⟨(0,[],()),rfl,rfl,Int.le_refl _,by dsimp only;omega,rfl⟩,?_⟩;rintro ⟨u,ce,⟨⟩⟩;dsimp only;rintro ⟨Z,u1,rfl⟩;obtain ⟨u,rfl⟩:=cy3 Z;simp only [cy0];refine ⟨λz=>?_,λz=>?_⟩
 .have z:=cy7 z;exact ⟨((u+1:Nat),Q3 (u+1),()),B3 (m:=4000) (by omega) (by omega),(aL6 u).symm,⟨by dsimp only;omega,by dsimp only;omega,by dsimp only;rw [cy0]⟩,by dsimp only;omega⟩
 have z:=cy6 z;have J:u=a.toNat:=by omega
 subst J;have r:=cg8 C g;refine ⟨⟨(0,List.replicate k.toNat (-1),Q3 a.toNat,a,[],()),rfl,rfl,rfl,rfl,rfl,Int.le_refl _,by dsimp only;omega,rfl⟩,?_⟩;rintro ⟨m,sl,ce,nx,cd,⟨⟩⟩;dsimp only;rintro ⟨m0,m1,hm⟩;obtain ⟨m,rfl⟩:=cy3 m0;simp only [cy0] at hm |-;have A:=bk8 (a:=a) (ks:=k) (A9 b c) l m (by omega);rw [hm] at A;dsimp only at A;refine ⟨λB=>?_,λB=>?_⟩
 .have B:=cy7 B;have p:m<b.length:=by omega
  have H:=l _ (F7 p ins0);have q:=(r m (by omega)).2.1 p;rw [hm] at q;unfold aA3 at q;simp only [cy0] at q;have e:runR b (A9 b c) (M3 a k) (m+1)=Q1 b (A9 b c) ⟨sl,ce,nx,cd⟩ m:=by rw [<-hm];unfold runR;rw [List.range_succ,List.foldl_append];rfl
  refine ⟨⟨⟨by omega,by omega⟩,by omega,H3 _ _,by omega,by omega,q,⟨by omega,by omega⟩,by omega⟩,((m+1:Nat),_,_,_,_,()),B3 p (by omega),rfl,rfl,rfl,rfl,⟨by dsimp only;omega,by dsimp only;omega,?_⟩,by dsimp only;omega⟩;dsimp only;rw [cy0,e]
 have B:=cy6 B;have p:m=b.length:=by omega
 subst p;obtain ⟨R,_,F⟩:=r b.length (Nat.le_refl _);rw [hm] at R;rw [hm];refine ⟨⟨(0,[],()),rfl,rfl,Int.le_refl _,by dsimp only;omega,rfl⟩,?_⟩;rintro ⟨o,ou,⟨⟩⟩;dsimp only;rintro ⟨o0,o1,rfl⟩;obtain ⟨o,rfl⟩:=cy3 o0;simp only [cy0];refine ⟨λD=>?_,λD=>?_⟩
 .have D:=cy7 D;have N:o<c.length:=by omega
  have t:(0:Int)<=o/\(o:Int)<c.length:=⟨by omega,by omega⟩;refine ⟨t,λ_=>t,by rw [cA8,cA6];simp only [cA1];omega,((o+1:Nat),(c.take (o+1)).map (an0 ⟨sl,ce,nx,cd⟩),()),B3 N (by omega),?_,⟨by dsimp only;omega,by dsimp only;omega,by dsimp only;rw [cy0]⟩,by dsimp only;omega⟩;dsimp only;rw [A4 N 0,List.map_append];congr 1;show [_]=[an0 _ _];unfold an0;dsimp only;cases decide (B8 sl (c.getD o 0)<0)<;>rfl
 .have D:=cy6 D;rw [List.take_of_length_le (by omega)];have K:=bY0 (f:=⟨a,b,c,d⟩) h (by omega) g;have hl:br2 ⟨a,b,c,d⟩ k=stA a b c k b.length:=by
   show runA _ _ _ _ b 0 _=runA _ _ _ _ (b.take b.length) 0 _;rw [cA5]
  rw [K,hl];have O:=R.next;have P:=R.code;have e3:c.map (an0 ⟨sl,ce,nx,cd⟩)=c.map (outA (stA a b c k b.length) k):=List.map_congr_left λn hn=>bJ2 R F (C.outR n hn).1;dsimp only at O P |-;rw [e3,O,P]
theorem bk9:D0 prog RG 16 cAllocR:=E5 (A5 bh3 (A5 av5 (A5 aJ4 (A5 bh5 (A5 bJ6 (A5 M6 C0)))))) (λp=>bt2 p.1 p.2.1 p.2.2.1 p.2.2.2.2.1) (by kernel_rfl) (by kernel_rfl) (by kernel_rfl) λ(a,b,c,d,k,()) e=>bY3 a b c d k e
theorem bt6 {a:Int} {b:List Ins} {c d:List Int} (h:ap3 ⟨a,b,c,d⟩=false):bA2 b c:=by unfold ap3 at h;rw [Bool.or_eq_false_iff] at h;obtain ⟨h1,h2⟩:=h;unfold bigF at h1;simp only [Bool.or_eq_false_iff,decide_eq_false_iff_not] at h1;rw [List.any_eq_false] at h2;refine ⟨by omega,by omega,λx e=>?_⟩;have h3:=h2 x e;unfold bigX at h3;simp only [Bool.or_eq_true,cz9,not_or] at h3;omega
theorem bY4 (a:Int) (b:List Ins) (c d:List Int) (k:Int) (f:bz4 b c):vc (EV [(13,cGreat),(14,cSlotted),(15,cAlloc),(16,cAllocR),(17,cCount),(18,cCount),(19,cSameC)]) noL Go.Proofs.Tryd.f3 cLawFK (a,b,c,d,k,()):=by rw [bX6 a b c d k];intro i j l g _ _ _;refine ⟨λ_=>rfl,λh=>?_⟩;have hs:=bt6 h;have e:=hs;obtain ⟨hc,_⟩:=e;exact ⟨⟨f.2.1,f.1,by omega⟩,hs,λ_=>⟨rfl,rfl,rfl,rfl,rfl⟩,by simp [g]⟩
theorem bJ7:D0 prog RG 3 cLawFK:=E5 (A5 br8 (A5 aZ5 (A5 aL8 (A5 bk9 (A5 aJ5 (A5 bf9 (A5 bt4 C0))))))) (λ_=>noL) (by kernel_rfl) (by kernel_rfl) (by kernel_rfl) λ(a,b,c,d,k,()) e=>bY4 a b c d k e
end Go.Rg
end
section
namespace Go.Proofs.YtknhkhdbonjhgaaDoor
open Go.ChangeShapes Go.WideShapes Go.ChangeAt Go.RowKit Go.VT
abbrev ax3:List ArgT:=[(25,true,[Go.Rg.i64,Go.Rg.inss,Go.Rg.ints,Go.Rg.ints]),(3,false,[Go.Rg.i64])]
set_option maxRecDepth 100000 in
theorem ba1 (os:Os) (started:os.Started) (H:Type) (enc:TypeId×Value->H):
  ReturnsInHanded {} Tryd.checked os 3 .any (λw args=>(Rows.regsAllocsSpec.pre enc Tryd.prog Tryd.f3 [] false w args/\laidMetH Tryd.prog bI0 w)/\sizedMet enc Tryd.prog Tryd.f3 (OpenSpec.ofChange Rows.regsAllocsSpec) false w args)
   (Rows.regsAllocsSpec.post enc Tryd.prog Tryd.f3 false true false false):=by
 refine returnsInHanded_of_change_and (C:=Tryd.checked) (X:=λw _=>laidMetH Tryd.prog bI0 w) (λ_ _ _ F h=>h.of_heap F) own started (by kernel_rfl) Tryd.func3
  (ChangeSpec.witness_shaped (enc:=enc) (C:=Tryd.checked) (os:=os) (X:=λw _=>laidMetH Tryd.prog bI0 w) false (World.doorLaid Tryd.prog 600 os) #[.agg #[.int .i64 0,.slice none 0 0,.slice none 0 0,.slice none 0 0],.int .i64 0] 8 rfl (World.shaped_of_RefB (by kernel_rfl) (by kernel_rfl)) (by kernel_rfl) (by kernel_rfl) (by kernel_rfl) (cf6 os _)) ?_
 intro W base args ds gs az3 d z _ l G _;have i:∀ (j:Nat) t v,Tryd.f3.params[j]? =some t->args[j]? =some v->Value.okWide Tryd.prog W .any base t v:=d;have m:=z;obtain ⟨p,q,o,B,rfl,I,J⟩:=z;have s:DataW.TrodAll enc Tryd.prog W 0 (λ_=>true) true Tryd.f3.params.toList args.toList ds p:=o;have f:Tryd.f3.params.toList=ax3.map (·.1):=by rw [Tryd.params3];rfl
 obtain ⟨rfl,rfl⟩:gs=[]/\q=[]:=by
  cases gs with
  |nil=>exact ⟨rfl,B⟩
  |cons g r=>exact absurd B (by intro h;cases h)
 have c:∀ n∈DataW.weightsEach Tryd.prog Tryd.f3.params.toList ds,n<=reachBytes:=by intro n K;have h1:(DataW.weightsEach Tryd.prog (Tryd.f3.params.toList++[]) (ds++[])).all (·<=reachBytes)=true:=l;rw [List.append_nil,List.append_nil] at h1;simpa using cA7.1 h1 n K
 rw [f] at s c;obtain ⟨xs,us,hr,L⟩:=bx7 cr6 (A:=ax3) (λa D=>by
  simp only [List.mem_cons,List.not_mem_nil,or_false] at D;rcases D with rfl|rfl
  .exact cr8
  .exact cr7) (λj t v E M=>i j t v (by rw [<-f] at E;simpa using E) (by simpa using M)) s c
 obtain ⟨u,x,rfl⟩:∃ u x,ds=[u,x]:=by
  have k:=aL9 s
  match ds,k with
  |[u,x],_=>exact ⟨_,_,rfl⟩
 have b:=bO9 (pre:=_) (A:=ax3) (w:=W) Go.Rg.bJ7 (cr5 G) hr L (bI1 hr);rw [Array.toArray_toList] at b;refine b.mono λe W' ⟨N,O⟩=>⟨_,N,cf9 rfl m O (by kernel_rfl) rfl (λt y=>?_)⟩;rw [f] at y;simp only [List.map_cons,List.map_nil,List.mem_cons,List.not_mem_nil,or_false] at y;rcases y with rfl|rfl<;>exact ⟨by kernel_rfl,cy7 (by kernel_rfl)⟩
theorem bl0:Rows.RegsAllocsSaid:=
 OpenClaim.holds_of_wide 3 Tryd.f3 rfl rfl rfl rfl rfl rfl rfl ⟨rfl,rfl,rfl,rfl,rfl⟩ rfl rfl rfl rfl rfl (by kernel_rfl) Tryd.func3 (by kernel_rfl)
  (cy7 (by kernel_rfl)) (by unfold Func.isWrapper;first|(rw [if_pos (by decide+kernel)];kernel_rfl)|(rw [if_neg (by decide+kernel)];exact ⟨rfl,rfl⟩))
  (λos started H enc _=>ba1 os started H enc)
theorem allocs_card:Rows.RegsAllocsCardSaid:=
 Claim7.holds_tied_plain_at .later [] [.data,.data] true (true,"168ab8e7f67d43304005f9eb622602b7a6af205c051abe541b21ac4f05ca28a5") false
  bl0 (λ_ h=>by cases h) (by kernel_rfl) (λ_ h=>by cases h) regsAllocs_row_tie rfl ⟨rfl,rfl⟩ (by kernel_rfl) rfl
  (λf fn hf b=>by
   obtain rfl:f=3:=Option.some.inj ((show Tryd.prog.funcNamed "sheafworks/sheafworkslaw23.RegsAllocs"=some 3 by kernel_rfl).symm.trans hf) |>.symm;obtain rfl:fn=Tryd.f3:=(Option.some.inj (Tryd.func3.symm.trans b)).symm;exact ⟨by kernel_rfl,λj t c=>by
    rw [Tryd.params3] at c;have hm:t∈[25,3]:=by simpa using Array.mem_of_getElem? c
    have a:([25,3].all λu=>!Tryd.prog.wantsStandIn u)=true:=by kernel_rfl
    exact (show Tryd.prog.wantsStandIn t=false by simpa using cA7.1 a t hm)⟩)
  (by kernel_rfl)
end Go.Proofs.YtknhkhdbonjhgaaDoor
end
