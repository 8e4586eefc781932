/-
RegsNames returns true for any numbers l and n, in whatever memory and on every schedule: registers that get other names, in the same order, make no difference to the allocation of the function that l makes, numbered anew.
-/
import Derived.Test.YtknhkhdbonjhgaaDoorV4
import Derived.Test.YtknhkhdbonjhgaaDoorRows
import Derived.ProofKit
import Derived.LaidMore
import Derived.Stop.Joined
import Derived.ChangeSame
import Derived.Test.YtknhkhdbonjhgaaDoorCards
import Derived.Test.YtknhkhdbonjhgaaDoorTie
import Derived.SevenTiedAt
set_option linter.unusedVariables false
set_option linter.unusedSimpArgs false
set_option linter.unnecessarySimpa false
set_option maxRecDepth 100000
noncomputable section
section
namespace Go.Rg
open Go Go.VT
theorem bh4 {s:SF} {x:RIns} (h:(J1 s x).2=false):J1 s x=(s,false):=by
 revert h;unfold J1;cases x.kind==0 with
 |true=>
  simp only [cond_true];cases x.ins.from_.all (isP (s.1,())) with
  |true=>intro h;cases h
  |false=>intro _;rfl
 |false=>
  simp only [cond_false];cases mget eqP s.1 (bif x.kind==2 then ⟨false,x.slot⟩ else ⟨true,x.cell⟩) with
  |none=>intro _;rfl
  |some n=>intro h;cases h
theorem bh5 (s:SF) (x:RIns):J3 [x] s=J1 s x:=by
 simp only [J3];cases h:(J1 s x).2 with
 |true=>simp only [cond_true];rw [<-h]
 |false=>simp only [cond_false];exact (bh4 h).symm
theorem at2 (r:List RIns):∀ (l:List RIns) (s:SF),J3 (l++r) s=bif (J3 l s).2 then J3 r (J3 l s).1 else J3 l s
 |[],s=>rfl
 |x::l,s=>by
  simp only [List.cons_append,J3];cases (J1 s x).2 with
  |true=>simp only [cond_true];exact at2 r l _
  |false=>rfl
theorem aR3 {l:List RIns} {k:Nat} {s s':SF} (a:k<l.length) (h:J3 (l.take k) s=(s',true)):J3 (l.take (k+1)) s=J1 s' (l.getD k rins0):=by rw [A4 a rins0,at2,h];exact bh5 _ _
theorem bF9 {l:List RIns} {k:Nat} {s s':SF} (a:k<l.length) (h:J3 (l.take k) s=(s',true)) (h2:(J1 s' (l.getD k rins0)).2=false):J3 l s=(s',false):=by
 have hs:=aR3 a h;rw [bh4 h2] at hs
 conv=>lhs;rw [<-List.take_append_drop (k+1) l]
 rw [at2,hs];rfl
theorem bG0 (s:SF) (x:RIns) (a:x.ins.to.length<=17592186044416):(J1 s x).1.2.1.length<=s.2.1.length+1/\s.2.2<=(J1 s x).1.2.2/\(J1 s x).1.2.2<=s.2.2+17592186044416:=by
 unfold J1;cases x.kind==0 with
 |true=>
  simp only [cond_true];cases x.ins.from_.all (isP (s.1,())) with
  |true=>have:=(W0 s.2.2 s.1 x.ins.to).2;simp only [cond_true,cx5,cw9,List.length_nil];omega
  |false=>simp only [cond_false];omega
 |false=>
  simp only [cond_false];cases mget eqP s.1 (bif x.kind==2 then ⟨false,x.slot⟩ else ⟨true,x.cell⟩) with
  |none=>simp only;omega
  |some n=>simp only;omega
theorem aJ8:∀ (l:List RIns) (s:SF),U0 l=true->(J3 l s).1.2.1.length<=s.2.1.length+l.length/\s.2.2<=(J3 l s).1.2.2/\(J3 l s).1.2.2<=s.2.2+l.length*17592186044416
 |[],s,_=>by simp [J3]
 |x::r,s,h=>by
  simp only [U0,List.all_cons,cv6] at h;have h1:=bG0 s x ((L5 _).1 h.1).1.1;have h2:=aJ8 r (J1 s x).1 h.2;simp only [J3];cases hs:(J1 s x).2 with
  |true=>simp only [cond_true,cw9];omega
  |false=>simp only [cond_false,cw9];omega
theorem aJ9 (m:Holds) (r:List Place):∀ (l:List Place),Q2 m (l++r)=bif (Q2 m l).2 then ((Q2 m l).1++(Q2 m r).1,(Q2 m r).2) else Q2 m l
 |[]=>rfl
 |p::l=>by
  simp only [List.cons_append,Q2];cases mget eqP m p with
  |none=>rfl
  |some n=>
   simp only [aJ9 m r l];cases h:(Q2 m l).2 with
   |true=>rfl
   |false=>simp only [cond_false,h]
theorem bh6 (m:Holds):∀ (l:List Place),(Q2 m l).1.length<=l.length
 |[]=>by simp [Q2]
 |p::l=>by
  simp only [Q2];split
  .simp
  .have:=bh6 m l;simp only [cw9];omega
theorem at3 (n:Nat):N7 (n+1)=mput eqP (N7 n) ⟨true,n⟩ n:=by simp [N7,List.range_succ]
theorem bS3 (a b c:Int) (code:List RIns) (out:List Place) (S:0<=a/\a<=4000/\code.length<=16000/\U0 code=true/\out.length<=17592186044400):vc (EV [(78,cAll 89 tysP objP [0] isP),(73,cCalledF)]) (bq3 a code out) Go.Proofs.Tryd.f58 cFollow (a,b,c,code,out,()):=by
 rw [bS2 a b c code out];intro D T Q U V W X;obtain ⟨H,Y,Z,z,hp5⟩:=S;have hd:Q=rins0:=rfl;have E:∀ s:SF,J3 code (H0 a)=(s,false)->D=(a,s.2.1,[],[],false,()):=by
  intro s hs;have:C3 ⟨a,b,c,code,out⟩=(⟨a,s.2.1,[],[]⟩,false):=by simp only [C3,hs];rfl
  simp only [D,this]
 have e:∀ s:SF,J3 code (H0 a)=(s,true)->D=(a,s.2.1,(Q2 s.1 out).1,[],(Q2 s.1 out).2,()):=by
  intro s hs;have:C3 ⟨a,b,c,code,out⟩=(⟨a,s.2.1,(Q2 s.1 out).1,[]⟩,(Q2 s.1 out).2):=by simp only [C3,hs];rfl
  simp only [D,this]
 clear_value D
 rw [hd]
 clear_value Q
 dsimp only [T,U,V];simp only [true_and,and_true,Bool.cond_self];refine ⟨⟨(0,[],()),rfl,rfl,Int.le_refl _,H,rfl⟩,?_⟩;rintro ⟨i,m,⟨⟩⟩ ⟨h0,h1,h2⟩;dsimp only at h0 h1 h2 |-;obtain ⟨k,rfl⟩:=cv9 h0;simp only [cv7] at h2 |-;subst h2;refine ⟨λd=>?_,λg=>?_⟩
 .have d:(k:Int)<a:=cw3 d;refine ⟨((k+1:Nat),N7 (k+1),()),?_,at3 k |>.symm,⟨by omega,by dsimp only;omega,by dsimp only;rw [cv7]⟩,by dsimp only;omega⟩;rw [F9 (by omega) (by omega)];rfl
 have hk:a.toNat=k:=by have:¬ (k:Int)<a:=cw2 g;omega
 have I:H0 a=(N7 k,[],a):=by unfold H0;rw [hk]
 clear h0 h1 g;refine ⟨⟨(0,_,a,[],()),rfl,rfl,rfl,rfl,Int.le_refl _,by dsimp only;omega,by simp only [Int.toNat_zero,List.take_zero,J3,I];rfl⟩,?_⟩;rintro ⟨i,m,nx,cd,⟨⟩⟩ ⟨h0,h1,h2⟩;dsimp only at h0 h1 h2 |-;obtain ⟨j,rfl⟩:=cv9 h0;simp only [cv7,Bool.cond_self] at h2 |-;have J:j<=code.length:=by omega
 have R:=aJ8 (code.take j) (H0 a) (by
  unfold U0 at z |-;exact cy5.2 λx K=>cy5.1 z x (List.mem_of_mem_take K))
 rw [h2] at R;simp only [H0,List.length_nil,cy4] at R;refine ⟨λd=>?_,λg=>?_⟩
 .have d:(j:Int)<code.length:=cw3 d;have f:j<code.length:=by omega
  have o:=λh=>E _ (bF9 f h2 h);have r:=aR3 f h2;have F:al4 (code.getD j rins0).ins=true:=cy5.1 z _ (H4 f _);have next:∀ s:SF,J1 (m,cd,nx) (code.getD j rins0)=(s,true)->∃ p':Int×List (Place×Int)×Int×List Ins×Unit,IntKind.i64.wrap ((j:Int)+1)=p'.1/\s.1=p'.2.1/\s.2.2=p'.2.2.1/\s.2.1=p'.2.2.2.1/\
    (0<=p'.1/\p'.1<=(code.length:Int)/\J3 (code.take p'.1.toNat) (H0 a)=((p'.2.1,p'.2.2.2.1,p'.2.2.1),true))/\code.length-p'.1.toNat<code.length-j:=λs hs=>
   ⟨((j+1:Nat),s.1,s.2.2,s.2.1,()),B5 f (by omega),rfl,rfl,rfl,⟨by omega,by dsimp only;omega,by dsimp only;rw [cv7,r,hs]⟩,by dsimp only;omega⟩
  generalize code.getD j rins0=x at o r F next |-
  refine ⟨⟨h0,d⟩,λp=>?_,λp=>?_⟩
  .have p:(x.kind==0)=false:=by simpa [bne] using p
   have L:(Place.mk (bif x.kind==2 then false else true) (bif x.kind==2 then x.slot else x.cell))=(bif x.kind==2 then ⟨false,x.slot⟩ else ⟨true,x.cell⟩):=by cases x.kind==2<;>rfl
   have G:(Place.mk (bif x.kind==2 then true else false) (bif x.kind==2 then x.cell else x.slot))=(bif x.kind==2 then ⟨true,x.cell⟩ else ⟨false,x.slot⟩):=by cases x.kind==2<;>rfl
   rw [L,G];have t:J1 (m,cd,nx) x=match mget eqP m (bif x.kind==2 then ⟨false,x.slot⟩ else ⟨true,x.cell⟩) with
     |none=>((m,cd,nx),false)
     |some n=>((mput eqP m (bif x.kind==2 then ⟨true,x.cell⟩ else ⟨false,x.slot⟩) n,cd,nx),true):=by
    simp only [J1,p,cond_false]
    try rfl
   generalize (bif x.kind==2 then (⟨false,x.slot⟩:Place) else ⟨true,x.cell⟩)=q at t |-;generalize (bif x.kind==2 then (⟨true,x.cell⟩:Place) else ⟨false,x.slot⟩)=q2 at t |-;show ((!(mget eqP m q).isSome)=true->_)/\((!(mget eqP m q).isSome)=false->_);cases u:mget eqP m q with
   |none=>rw [u] at t;refine ⟨λ_=>?_,λh=>(by cases h)⟩;exact (o (by rw [t])).symm
   |some v=>
    rw [u] at t;refine ⟨λh=>(by cases h),λ_=>?_⟩;have A:mget (F6 RU (Ty.user 2)) m q=some v:=u;obtain ⟨p',M,B,N,O,P⟩:=next _ t
    exact ⟨p',M,by rw [A];exact B,N,O,P⟩
  .have p:(x.kind==0)=true:=by simpa [bne] using p
   have t:J1 (m,cd,nx) x=bif x.ins.from_.all (isP (m,())) then (((G1 nx m x.ins.to).2.2,cd++[⟨x.ins.op,x.ins.n,(G1 nx m x.ins.to).1,x.ins.from_.map (getF m),x.ins.body⟩],(G1 nx m x.ins.to).2.1),true) else ((m,cd,nx),false):=by simp only [J1,p,cond_true]
   cases u:x.ins.from_.all (isP (m,())) with
   |false=>rw [u] at t;refine ⟨λ_=>(o (by rw [t];rfl)).symm,λh=>(by cases h)⟩
   |true=>
    rw [u] at t;refine ⟨λh=>(by cases h),λ_=>⟨⟨W2.2 ((L5 _).1 F),by omega,?_⟩,?_,?_⟩⟩
    .omega
    .simp only [cw9,List.length_nil];omega
    .obtain ⟨p',M,B,N,O,P⟩:=next _ t
     exact ⟨p',M,B,N,O,P⟩
 have C:j=code.length:=by have:¬ (j:Int)<code.length:=cw2 g;omega
 subst C;rw [cy3] at h2;rw [h2];have e:=e _ h2;dsimp only at e |-;clear h0 h1 g E h2;refine ⟨⟨(0,[],()),rfl,rfl,Int.le_refl _,by dsimp only;omega,rfl⟩,?_⟩;rintro ⟨i,l,⟨⟩⟩ ⟨h0,h1,h2⟩;dsimp only at h0 h1 h2 |-;obtain ⟨j,rfl⟩:=cv9 h0;simp only [cv7] at h2 |-;have J:j<=out.length:=by omega
 have w:=bh6 m (out.take j);rw [h2,cy4] at w;refine ⟨λd=>?_,λg=>?_⟩
 .have d:(j:Int)<out.length:=cw3 d;have f:j<out.length:=by omega
  have y:out=out.take j++(out.getD j ⟨false,0⟩::out.drop (j+1)):=by
   conv=>lhs;rw [<-List.take_append_drop (j+1) out,A4 f ⟨false,0⟩]
   simp
  generalize K:out.getD j ⟨false,0⟩=x at y |-;obtain ⟨xc,xn⟩:=x;refine ⟨⟨h0,d⟩,?_⟩;show ((!(mget eqP m ⟨xc,xn⟩).isSome)=true->_)/\((!(mget eqP m ⟨xc,xn⟩).isSome)=false->_);cases u:mget eqP m ⟨xc,xn⟩ with
  |none=>
   refine ⟨λ_=>?_,λh=>(by cases h)⟩;have:Q2 m out=(l,false):=by rw [y,aJ9,h2];simp only [cond_true,Q2,u,List.append_nil]
   rw [e,this]
  |some v=>
   refine ⟨λh=>(by cases h),λ_=>⟨by simp only [cw9,List.length_nil] at w |-;omega,((j+1:Nat),l++[v],()),B5 f (by omega),?_,⟨by omega,by dsimp only;omega,?_⟩,by dsimp only;omega⟩⟩
   .have A:mget (F6 RU (Ty.user 2)) m ⟨xc,xn⟩=some v:=u;rw [A];rfl
   .dsimp only;rw [cv7,A4 f ⟨false,0⟩,K,aJ9,h2];simp only [cond_true,Q2,u]
 .have C:j=out.length:=by have:¬ (j:Int)<out.length:=cw2 g;omega
  subst C;rw [cy3] at h2;rw [e,h2]
theorem az6:C9 prog RG 58 cFollow:=E8 (A7 bD5 (A7 aY1 B9)) (λp=>bq3 p.1 p.2.2.2.1 p.2.2.2.2.1) (by kernel_rfl) (by kernel_rfl) (by kernel_rfl) λ(a,b,c,code,out,()) d=>bS3 a b c code out d
theorem aw1 (a:Int) (l r:List Ins):J8 a (l++r)=J8 (J8 a l) r:=by simp [J8]
theorem aK0:∀ (l:List Ins) (a:Int),a<=J8 a l
 |[],a=>Int.le_refl _
 |x::r,a=>by have:=aK0 r (a+x.to.length);simp only [J8,List.foldl_cons] at this |-;omega
theorem bq4 (l:List Ins) (k:Nat) (a:Int):J8 a (l.take k)<=J8 a l:=by
 conv=>rhs;rw [<-List.take_append_drop k l]
 rw [aw1];exact aK0 _ _
theorem bq5 {a:Int} {s:SF} (h:s.2.2=J8 a s.2.1) (x:RIns):(J1 s x).1.2.2=J8 a (J1 s x).1.2.1:=by
 unfold J1;cases x.kind==0 with
 |true=>
  simp only [cond_true];cases x.ins.from_.all (isP (s.1,())) with
  |true=>have:=W0 s.2.2 s.1 x.ins.to;simp only [cond_true,aw1,<-h];simp only [J8,List.foldl_cons,List.foldl_nil];rw [this.2,this.1]
  |false=>exact h
 |false=>
  simp only [cond_false];cases mget eqP s.1 (bif x.kind==2 then ⟨false,x.slot⟩ else ⟨true,x.cell⟩) with
  |none=>exact h
  |some n=>exact h
theorem aR4 {a:Int}:∀ (l:List RIns) {s:SF},s.2.2=J8 a s.2.1->(J3 l s).1.2.2=J8 a (J3 l s).1.2.1
 |[],s,h=>h
 |x::r,s,h=>by
  simp only [J3];cases (J1 s x).2 with
  |true=>exact aR4 r (bq5 h x)
  |false=>exact h
theorem at4 (c:RCode):(C3 c).1.params=c.params/\(C3 c).1.code=(J3 c.code (H0 c.params)).1.2.1:=by unfold C3;cases (J3 c.code (H0 c.params)).2<;>exact ⟨rfl,rfl⟩
theorem aY2 {c:RCode} (h0:0<=c.params/\c.params<=4000) (hl:c.code.length<=16000) (b:U0 c.code=true):(C3 c).1.code.length<=16000/\J8 c.params (C3 c).1.code<=281474976714656000/\((C3 c).2=true->J8 c.params (C3 c).1.code=(J3 c.code (H0 c.params)).1.2.2):=by rw [(at4 c).2];have h1:=aJ8 c.code (H0 c.params) b;have h2:=aR4 c.code (a:=c.params) (s:=H0 c.params) rfl;simp only [H0,List.length_nil] at h1 h2 |-;rw [<-h2];refine ⟨by omega,by omega,λ_=>rfl⟩
theorem aY3 (l:List Int) (x:Int):D6 (l++[x])=(D6 l&&!l.contains x):=by rw [Bool.eq_iff_iff,D7,cv6,D7,List.nodup_append];simp;intro _;exact ⟨λh b=>h x b rfl,λh a c e=>h (e▸c)⟩
theorem bh7 {l r:List Int} (h:D6 l=false):D6 (l++r)=false:=by rw [Bool.eq_false_iff] at h |-;intro a;exact h (D7.2 (List.nodup_append.1 (D7.1 a)).1)
theorem cc6 (a b c:Int) (code:List RIns) (out:List Place) (J:-9223372036854775808<=b/\b<9223372036854775808/\U0 code=true/\out.length<=17592186044400):vc (EV [(60,cShaped),(61,cContains),(58,cFollow)]) (bS1 code) Go.Proofs.Tryd.f22 cValid (a,b,c,code,out,()):=by
 rw [cc5 a b c code out];intro F G z K H L M;obtain ⟨A,B,p,C⟩:=J;have N:G=rins0:=rfl;have d:z=(M2 ⟨a,b,c,code,out⟩,()):=rfl;have s:H=!J7 ⟨a,b,c,code,out⟩:=rfl;have l:F=decide ((16000:Int)<(code.length:Int)):=rfl;simp only [M2] at d
 clear_value F G z H
 subst N;dsimp only [K];simp only [true_and,and_true];have t:∀ k,k<code.length->al4 (code.getD k rins0).ins=true:=λk n=>cy5.1 p _ (H4 n _);refine ⟨λh=>?_,λh=>⟨⟨A,B⟩,λh2=>?_,λh2=>?_⟩⟩
 .rw [l] at h;have h:(16000:Int)<code.length:=cw3 h;rw [d,if_pos (by omega)]
 .rw [l] at h;have h:¬ (16000:Int)<code.length:=cw2 h;rw [s,Bool.not_eq_true'] at h2;rw [d,if_neg (by omega),if_pos h2]
 rw [l] at h;have h:¬ (16000:Int)<code.length:=cw2 h;rw [s,Bool.not_eq_false'] at h2;rw [if_neg (by omega),h2,if_neg (by simp)] at d;refine ⟨⟨(0,()),rfl,Int.le_refl _,by dsimp only;omega,by simp⟩,?_⟩;rintro ⟨i,⟨⟩⟩ ⟨h0,h1,u⟩;dsimp only at h0 h1 u |-;obtain ⟨k,rfl⟩:=cv9 h0;simp only [cv7] at u |-;refine ⟨λm=>?_,λD=>?_⟩
 .have m:(k:Int)<code.length:=cw3 m;have e:k<code.length:=by omega
  have I:=(L5 _).1 (t k e);have no:(code.getD k rins0).kind=0->D6 (code.getD k rins0).ins.to=false->((5:Int),())=z:=λO P=>by have:(code.all λx=>x.kind !=0||D6 x.ins.to)=false:=aX9 rins0 e (by rw [O,P];rfl);rw [d,this,if_pos rfl]
  have yes:((code.getD k rins0).kind≠0\/D6 (code.getD k rins0).ins.to=true)->∃ p':Int×Unit,IntKind.i64.wrap ((k:Int)+1)=p'.1/\(0<=p'.1/\p'.1<=(code.length:Int)/\((code.take p'.1.toNat).all λx=>x.kind !=0||D6 x.ins.to)=true)/\code.length-p'.1.toNat<code.length-k:=λq=>
   ⟨((k+1:Nat),()),B5 e (by omega),⟨by omega,by dsimp only;omega,by
    dsimp only;rw [cv7];refine at1 rins0 e u ?_;rcases q with q|q
    .exact (Bool.or_eq_true_iff ..).2 (.inl (bne_iff_ne.2 q))
    .rw [q];simp⟩,by dsimp only;omega⟩
  obtain ⟨x,E⟩:∃ x,code.getD k rins0=x:=⟨_,rfl⟩;simp only [E] at I no yes |-;refine ⟨⟨h0,m⟩,⟨(0,()),rfl,Int.le_refl _,by dsimp only;omega,.inr (by simp [D6])⟩,?_⟩;rintro ⟨i,⟨⟩⟩ ⟨y,Q,f⟩;dsimp only at y Q f |-;obtain ⟨j,rfl⟩:=cv9 y;simp only [cv7] at f |-;refine ⟨λglt=>?_,λgge=>?_⟩
  .have glt:(j:Int)<x.ins.to.length:=cw3 glt;have v:j<x.ins.to.length:=by omega
   have g:=aY3 (x.ins.to.take j) (x.ins.to.getD j 0);rw [<-A4 v] at g;refine ⟨⟨y,glt⟩,λ_=>⟨y,by omega⟩,λo=>?_,λo=>?_⟩
   .simp only [cv6,beq_iff_eq] at o;refine no o.1 ?_;rw [o.2] at g;have R:D6 (x.ins.to.take (j+1))=false:=by rw [g];simp
    have:=bh7 (r:=x.ins.to.drop (j+1)) R
    rwa [List.take_append_drop] at this
   .refine ⟨((j+1:Nat),()),B5 v (by have:=I.1.1;omega),⟨by omega,by dsimp only;omega,?_⟩,by dsimp only;omega⟩;dsimp only;rw [cv7];rcases f with f|f
    .exact .inl f
    .by_cases n:x.kind=0
     .right;simp only [n,beq_self_eq_true,Bool.true_and] at o;rw [g,f,o];rfl
     .exact .inl n
  .have S:j=x.ins.to.length:=by have:¬ (j:Int)<x.ins.to.length:=cw2 gge;omega
   subst S;rw [cy3] at f;exact yes f
 .have n:k=code.length:=by have:¬ (k:Int)<code.length:=cw2 D;omega
  subst n;rw [cy3] at u;rw [u,if_neg (by simp)] at d;have w:0<=a/\a<=4000:=by simp only [J7,H6,cv6,List.all_cons,List.all_nil,cx6] at h2;omega
  refine ⟨⟨w.1,w.2,by omega,p,C⟩,λq=>?_,λq=>?_⟩
  .rw [Bool.not_eq_true'] at q;rw [d,if_pos q]
  .rw [Bool.not_eq_false'] at q;rw [d,q,if_neg (by simp)]
theorem aK1:C9 prog RG 22 cValid:=E8 (A7 bh3 (A7 O0 (A7 az6 B9))) (λp=>bS1 p.2.2.2.1) (by kernel_rfl) (by kernel_rfl) (by kernel_rfl) λ(a,b,c,code,out,()) d=>cc6 a b c code out d
theorem bh8 {c:RCode} (h:M2 c=0):c.code.length<=16000/\J7 c=true/\(c.code.all λx=>x.kind !=0||D6 x.ins.to)=true/\(C3 c).2=true:=by
 unfold M2 at h;split at h
 .cases h
 .split at h
  .cases h
  .split at h
   .cases h
   .split at h
    .cases h
    .rename_i h1 h2 a b;exact ⟨by omega,(Bool.not_eq_false _▸h2),(Bool.not_eq_false _▸a),(Bool.not_eq_false _▸b)⟩
theorem aY4 {c:RCode} (h:J7 c=true):0<=c.params/\c.params<=4000:=by simp only [J7,H6,cv6,List.all_cons,List.all_nil,cx6] at h;omega
theorem cm7 (a b c:Int) (code:List RIns) (out:List Place) (r:-9223372036854775808<=b/\b<9223372036854775808/\U0 code=true/\out.length<=17592186044400):vc (EV [(22,cValid),(58,cFollow)]) (cm5 a (C3 ⟨a,b,c,code,out⟩).1.code) Go.Proofs.Tryd.f20 cBack (a,b,c,code,out,()):=by
 rw [cm6 a b c code out];intro w B C x D E F y G H;have e:w=((M5 ⟨a,b,c,code,out⟩).1.params,(M5 ⟨a,b,c,code,out⟩).1.code,(M5 ⟨a,b,c,code,out⟩).1.out,(M5 ⟨a,b,c,code,out⟩).1.at_,(M5 ⟨a,b,c,code,out⟩).2,()):=rfl;have g:y=M2 ⟨a,b,c,code,out⟩:=rfl;have m:x=(y !=0):=rfl
 clear_value w x
 dsimp only [B,C,D,E,F];simp only [true_and,and_true];refine ⟨r,λh=>?_,λh=>?_⟩
 .have s:M2 ⟨a,b,c,code,out⟩≠0:=by
   rw [<-g];rw [m] at h;simpa using h
  have:M5 ⟨a,b,c,code,out⟩=(bB9,M2 ⟨a,b,c,code,out⟩):=by simp only [M5,if_pos s]
  rw [e,this,g];rfl
 have z:M2 ⟨a,b,c,code,out⟩=0:=by rw [<-g];rw [m] at h;simpa using h
 obtain ⟨h1,h2,L,A⟩:=bh8 z;have d:=aY4 h2;have hm:=aY2 d h1 r.2.2.1;have hB:M5 ⟨a,b,c,code,out⟩=if 4000<J8 a (C3 ⟨a,b,c,code,out⟩).1.code\/4000<(C3 ⟨a,b,c,code,out⟩).1.code.length then (bB9,9) else ((C3 ⟨a,b,c,code,out⟩).1,0):=by simp only [M5,z,ne_eq,not_true_eq_false,if_false]
 have j:=(at4 ⟨a,b,c,code,out⟩).1;rw [hB] at e;obtain ⟨f,hf⟩:∃ f,C3 ⟨a,b,c,code,out⟩=f:=⟨_,rfl⟩;simp only [hf] at e hm A j |-;obtain ⟨⟨fa,fc,fo,ft⟩,fb⟩:=f;dsimp only at e hm A j |-;subst j;refine ⟨⟨d.1,d.2,h1,r.2.2.1,r.2.2.2⟩,⟨(0,fa,()),rfl,rfl,Int.le_refl _,by dsimp only;omega,by simp [J8]⟩,?_⟩;rintro ⟨i,n,⟨⟩⟩ ⟨t,I,u⟩;dsimp only at t I u |-;obtain ⟨k,rfl⟩:=cv9 t;simp only [cv7] at u |-;subst u;refine ⟨λl=>?_,λo=>?_⟩
 .have l:(k:Int)<fc.length:=cw3 l;have p:k<fc.length:=by omega
  have hs:J8 fa (fc.take (k+1))=J8 fa (fc.take k)+((fc.getD k ins0).to.length:Int):=by rw [A4 p ins0,aw1];rfl
  have J:=bq4 fc (k+1) fa;have o:=aK0 (fc.take k) fa;have v:0<=fa:=d.1;refine ⟨⟨t,l⟩,((k+1:Nat),J8 fa (fc.take (k+1)),()),B5 p (by omega),?_,⟨by omega,by dsimp only;omega,by dsimp only;rw [cv7]⟩,by dsimp only;omega⟩;show IntKind.i64.wrap (J8 fa (fc.take k)+((fc.getD k ins0).to.length:Int))=_;rw [<-hs,F9 (by omega) (by omega)]
 .have K:k=fc.length:=by have:¬ (k:Int)<fc.length:=cw2 o;omega
  subst K;rw [cy3];refine ⟨λq=>?_,λq=>?_⟩
  .simp only [Bool.or_eq_true,cx6] at q;have:4000<J8 fa fc\/4000<fc.length:=by omega
   rw [if_pos this] at e;exact e.symm
  .simp only [Bool.or_eq_false_iff,decide_eq_false_iff_not] at q;have:¬ (4000<J8 fa fc\/4000<fc.length):=by omega
   rw [if_neg this] at e;exact e.symm
theorem bG1:C9 prog RG 20 cBack:=E8 (A7 aK1 (A7 az6 B9)) (λp=>cm5 p.1 (C3 ⟨p.1,p.2.1,p.2.2.1,p.2.2.2.1,p.2.2.2.2.1⟩).1.code) (by kernel_rfl) (by kernel_rfl) (by kernel_rfl) λ(a,b,c,code,out,()) d=>cm7 a b c code out d
abbrev Reads:=List (Int×List Int)
abbrev mapR:Ty:=.map i64 ints
def getL (r:Reads) (n:Int):List Int:=(mget eqI r n).getD []
def ae8 (rd:Reads) (N reg from_:Int):Int:=((getL rd reg).find? (λx=>decide (from_<=x))).getD N
def bS4:Place:=⟨true,-1⟩
def ab5 (m:Holds) (reg:Int) (s:Nat):Bool:=decide (mget eqP m ⟨false,(s:Int)⟩=some reg)
def C0 (m:Holds) (ks reg:Int):Place:=match (List.range ks.toNat).find? (ab5 m reg) with
 |some s=>⟨false,(s:Int)⟩
 |none=>bS4
def held0:Held:=⟨0,0,0⟩
def X5 (x y:Held):Bool:=decide (x.next >y.next)||(x.next==y.next&&decide (x.reg >y.reg))
def G9 (x y:Held):Held:=bif X5 y x then y else x
def J9 (l:List Held):Held:=l.tail.foldl G9 (l.headD held0)
structure AS where
 holds:Holds
 cells:List (Int×Int)
 ocells:Int
 code:List RIns
def C2 (sp:Spans) (rd:Reads) (N:Int) (m:Holds) (place:Int) (stay:List Int):List Nat->List Held->Option Int×List Held
 |[],acc=>(none,acc)
 |s::r,acc=>match mget eqP m ⟨false,(s:Int)⟩ with
  |none=>(some (s:Int),acc)
  |some n=>bif stay.contains n then C2 sp rd N m place stay r acc else bif I6 (getS sp n).first (getS sp n).last place then C2 sp rd N m place stay r (acc++[⟨(s:Int),n,ae8 rd N n place⟩]) else (some (s:Int),acc)
def H5 (sp:Spans) (rd:Reads) (ks N:Int) (m:Holds) (place:Int) (stay:List Int):Option Int×List Held:=C2 sp rd N m place stay (List.range ks.toNat) []
def U1 (sp:Spans) (rd:Reads) (ks N:Int) (m:Holds) (place:Int) (stay:List Int):Prop:=(H5 sp rd ks N m place stay).1=none->(H5 sp rd ks N m place stay).2≠[]
def af0 (s:AS) (x:Held):AS:=bif (mget eqI s.cells x.reg).isSome then s else ⟨s.holds,mput eqI s.cells x.reg s.ocells,s.ocells+1,s.code++[⟨2,x.slot,s.ocells,ins0⟩]⟩
def F7 (sp:Spans) (rd:Reads) (ks N:Int) (s:AS) (place:Int) (stay:List Int):Int×AS:=
 match (H5 sp rd ks N s.holds place stay).1 with
 |some i=>(i,s)
 |none=>((J9 (H5 sp rd ks N s.holds place stay).2).slot,af0 s (J9 (H5 sp rd ks N s.holds place stay).2))
def E4:List Int->List Int->List Int
 |_,[]=>[]
 |seen,x::r=>bif seen.contains x then E4 (seen++[x]) r else x::E4 (seen++[x]) r
def B0 (l:List Int):List Int:=E4 [] l
def F5 (sp:Spans) (rd:Reads) (ks N i:Int) (fr:List Int) (s:AS) (n:Int):AS:=
 bif (C0 s.holds ks n).cell then
  (match F7 sp rd ks N s i fr with
  |(q,t)=>⟨mput eqP t.holds ⟨false,q⟩ n,t.cells,t.ocells,t.code++[⟨1,q,getI t.cells n,ins0⟩]⟩)
 else s
def Q6 (sp:Spans) (rd:Reads) (ks N i:Int) (to:List Int) (s:AS) (n:Int):AS:=
 match F7 sp rd ks N s (i+1) to with
 |(q,t)=>⟨mput eqP t.holds ⟨false,q⟩ n,t.cells,t.ocells,t.code⟩
def D4 (sp:Spans) (rd:Reads) (ks N i:Int) (fr:List Int) (s:AS) (l:List Int):AS:=l.foldl (F5 sp rd ks N i fr) s
def I2 (sp:Spans) (rd:Reads) (ks N i:Int) (to:List Int) (s:AS) (l:List Int):AS:=l.foldl (Q6 sp rd ks N i to) s
def H9 (m:Holds) (ks:Int) (l:List Int):List (Int×Int):=l.foldl (λmm n=>mput eqI mm n (C0 m ks n).n) []
def doOf (sp:Spans) (rd:Reads) (ks N i:Int) (x:Ins) (s:AS):AS:=
 match D4 sp rd ks N i (B0 x.from_) s (B0 x.from_) with
 |s1=>match I2 sp rd ks N i x.to s1 x.to with
  |s2=>⟨s2.holds,s2.cells,s2.ocells,s2.code++[⟨0,0,0,⟨x.op,x.n,x.to.map (λn=>(C0 s2.holds ks n).n),x.from_.map (getI (H9 s1.holds ks (B0 x.from_))),x.body⟩⟩]⟩
def doOk (sp:Spans) (rd:Reads) (ks N i:Int) (x:Ins) (s:AS):Prop:=
 (∀ k,k<(B0 x.from_).length->(C0 (D4 sp rd ks N i (B0 x.from_) s ((B0 x.from_).take k)).holds ks ((B0 x.from_).getD k 0)).cell=true->U1 sp rd ks N (D4 sp rd ks N i (B0 x.from_) s ((B0 x.from_).take k)).holds i (B0 x.from_))/\
 (∀ k,k<x.to.length->U1 sp rd ks N (I2 sp rd ks N i x.to (D4 sp rd ks N i (B0 x.from_) s (B0 x.from_)) (x.to.take k)).holds (i+1) x.to)
def ah4 (rd:Reads):Prop:=∀ n,(getL rd n).Pairwise (·<=·)
abbrev tysA:List Ty:=[i64,inss,ints,ints,mapS,mapR,mapP,mapI,i64,i64,i64,aW3,ay8]
abbrev objA (j b:Nat):List OPat:=[.box 86 [.d b,.d (b+1),.d (b+2),.d (b+3),.map (j+1),.map (j+2),.map (j+3),.map (j+4),.d (b+8),.d (b+9),.d (b+10),.row (j+5),.row (j+6)],.map (b+4),.map (b+5),.map (b+6),.map (b+7),.row (b+11),.row (b+12)]
def cIsNaN:Con RU:=con [one] [i64] [one] [.bool] [false] none λp=>(false,())
def cLess:Con RU:=con [one,one] [i64,i64] [one] [.bool] [false] none λp=>(decide (p.1<p.2.1),())
def cBin:Con RU:=⟨[one,one],[ints,i64],[.d 0,.d 1],[],some λp=>p.1.Pairwise (·<=·),none,[one,one],[i64],[.d 0,.un],[],λp=>(((p.1.takeWhile (λx=>decide (x<p.2.1))).length:Int),()),[],[],[]⟩
def lBin (l:List Int) (t:Int):Nat->St RU->Ann RU:=λ_ _=>⟨[],[.slot 7,.slot 8],[i64,i64],λp=>0<=p.1/\p.1<=p.2.1/\p.2.1<=l.length/\(∀ x∈l.take p.1.toNat,x<t)/\(∀ x∈l.drop p.2.1.toNat,t<=x),λp=>(p.2.1-p.1).toNat,[]⟩
def cSlot:Con RU:=⟨[one,one],i64::tysA,[.ptr 0 0,.d 0],objA 0 1,some λp=>p.2.2.2.2.2.2.2.2.2.2.1<=64,none,[(true,2)],.bool::i64::tysA,[.d 0,.d 1],objA 0 2,λp=>((C0 p.2.2.2.2.2.2.2.1 p.2.2.2.2.2.2.2.2.2.2.1 p.1).cell,(C0 p.2.2.2.2.2.2.2.1 p.2.2.2.2.2.2.2.2.2.2.1 p.1).n,p.2),[],[],[]⟩
def cm8 (ho:Holds) (ks reg:Int):Nat->St RU->Ann RU:=λ_ _=>⟨[],[.slot 14],[i64],λp=>0<=p.1/\(p.1<=ks\/p.1=0)/\∀ s∈List.range p.1.toNat,ab5 ho reg s=false,λp=>ks.toNat-p.1.toNat,[]⟩
def cPutA:Con RU:=⟨[one,(true,8)],[i64,i64,i64,i64,i64,ints,ints,inss]++tysA,[.ptr 0 0,.d 0,.d 1,.d 2,.d 3,.d 4,.d 5,.d 6,.d 7],objA 0 8,some λp=>p.2.2.2.2.2.2.2.2.2.2.2.2.2.2.2.2.2.2.2.1.length<=1000000000,none,[],tysA,[],objA 0 0,
 λp=>match p with
  |(k,s,c,o,n,t,f,b,a0,a1,a2,a3,sp,rd,ho,ce,op,ks,oc,cd,ou,())=>(a0,a1,a2,a3,sp,rd,ho,ce,op,ks,oc,cd++[⟨k,s,c,⟨o,n,t,f,b⟩⟩],ou,()),[],[],[]⟩
def cNext:Con RU:=⟨[one,one,one],i64::i64::tysA,[.ptr 0 0,.d 0,.d 1],objA 0 2,some λp=>ah4 p.2.2.2.2.2.2.2.1,none,[one],i64::tysA,[.d 0],objA 0 1,λp=>(ae8 p.2.2.2.2.2.2.2.1 p.2.2.2.1.length p.1 p.2.1,p.2.2),[],[],[]⟩
def cBetter:Con RU:=con [(true,3),(true,3)] [i64,i64,i64,i64,i64,i64] [one] [.bool] [false] none λp=>(X5 ⟨p.1,p.2.1,p.2.2.1⟩ ⟨p.2.2.2.1,p.2.2.2.2.1,p.2.2.2.2.2.1⟩,())
def cBest:Con RU:=⟨[(true,1),one],[cq6],[.fn 102,.d 0],[],some λp=>p.1≠[],none,[(true,3)],[i64,i64,i64],[.d 0,.d 1,.d 2],[],λp=>((J9 p.1).slot,(J9 p.1).reg,(J9 p.1).next,()),[],[],[]⟩
def cm9 (l:List Held):Nat->St RU->Ann RU:=λ_ _=>⟨[],[.slot 14,.box 320 0,.box 320 1,.box 320 2],[i64,i64,i64,i64],λp=>0<=p.1/\p.1<=l.tail.length/\(⟨p.2.1,p.2.2.1,p.2.2.2.1⟩:Held)=(l.tail.take p.1.toNat).foldl G9 (l.headD held0),λp=>l.tail.length-p.1.toNat,[]⟩
theorem cc7 (a:Int):vc (EV []) noL Go.Proofs.Tryd.f110 cIsNaN (a,())=((a !=a,())=(false,())):=by kernel_rfl
theorem bS5 (a:Int):vc (EV []) noL Go.Proofs.Tryd.f111 cIsNaN (a,())=((a !=a,())=(false,())):=by kernel_rfl
theorem cn0 (a b:Int):vc (EV [(111,cIsNaN)]) noL Go.Proofs.Tryd.f109 cLess (a,b,())=(
 let c:Bool:=decide (a<b);
  (false&&!false||c,())=(c,())):=by kernel_rfl
theorem cs8 (l:List Int) (t:Int):vc (EV [(109,cLess),(110,cIsNaN)]) (lBin l t) Go.Proofs.Tryd.f107 cBin (l,t,())=(
 let a:Int:=(↑(List.length l):Int);
 let c:Int:=(2:Int) ^ (1:Nat);
  Small RU (Sigma.mk (Ty.slice (3:Nat) (Ty.int IntKind.i64)) l)->
  (∃ (p:Int×Int×Unit),
  l=l/\
  t=t/\
  (0:Int)=(0:Int)/\
  false=false/\
  a=a/\
  (0:Int)=p.1/\
  a=p.2.1/\
  (0:Int)<=p.1/\
  p.1<=p.2.1/\p.2.1<=a/\(∀ (x:Int),List.Mem x (List.take (Int.toNat p.1) l)->x<t)/\∀ (x:Int),List.Mem x (List.drop (Int.toNat p.2.1) l)->t<=x)/\
  ∀ (p:Int×Int×Unit),
 let e0_1:Bool:=decide (List.getD l (Int.toNat (IntKind.i64.wrap (Int.fdiv (IntKind.wrap IntKind.u64 (IntKind.i64.wrap (p.1+p.2.1))) c))) (0:Int)<t);
 let c:Int:=IntKind.i64.wrap (Int.fdiv (IntKind.wrap IntKind.u64 (IntKind.i64.wrap (p.1+p.2.1))) c);
 let e:Bool:=decide (p.1<p.2.1);
 let d:Int:=p.2.1;
 let b:Int:=p.1;
  ((0:Int)<=b/\b<=d/\d<=a/\(∀ (x:Int),List.Mem x (List.take (Int.toNat b) l)->x<t)/\∀ (x:Int),List.Mem x (List.drop (Int.toNat d) l)->t<=x)->
  (e=true->
  (0:Int)<=(1:Int)/\
  ((0:Int)<=c/\c<a)/\
  ∃ (p':Int×Int×Unit),
  (bif e0_1 then l else l)=l/\
  (bif e0_1 then t else t)=t/\
  (bif e0_1 then (0:Int) else (0:Int))=(0:Int)/\
  (bif e0_1 then false else false)=false/\
  (bif e0_1 then a else a)=a/\
  (bif e0_1 then IntKind.i64.wrap (c+(1:Int)) else b)=p'.1/\
  (bif e0_1 then d else c)=p'.2.1/\
  ((0:Int)<=p'.1/\
  p'.1<=p'.2.1/\
  p'.2.1<=a/\(∀ (x:Int),List.Mem x (List.take (Int.toNat p'.1) l)->x<t)/\∀ (x:Int),List.Mem x (List.drop (Int.toNat p'.2.1) l)->t<=x)/\
  Int.toNat (p'.2.1-p'.1)<Int.toNat (d-b))/\
  (e=false->
  (decide (b<a)=true->(0:Int)<=b/\b<a)/\
  (decide (b<a)=true->(List.getD l (Int.toNat b) (0:Int)==t)=false->(0:Int)<=b/\b<a)/\
  (b,())=((↑(List.length (List.takeWhile (λ(x:den RU.T i64)=>decide (x<t)) l)):Int),()))):=by kernel_rfl
theorem cn1 (reg e:Int) (b:List Ins) (c d:List Int) (sp:Spans) (rd:Reads) (a:Holds) (ce:List (Int×Int)) (op ks oc:Int) (cd:List RIns) (ou:List Place):vc (EV []) (cm8 a ks reg) Go.Proofs.Tryd.f54 cSlot (reg,e,b,c,d,sp,rd,a,ce,op,ks,oc,cd,ou,())=(
 let f:Int×List Ins×List Int×List Int×List (Int×Span)×List (Int×List Int)×List (Place×Int)×List (Int×Int)×Int×Int×Int×List RIns×List Place×Unit:=
  (e,b,c,d,sp,rd,a,ce,op,ks,oc,cd,ou,());
 let g:Bool×Int×Int×List Ins×List Int×List Int×List (Int×Span)×List (Int×List Int)×List (Place×Int)×List (Int×Int)×Int×Int×Int×List RIns×List Place×Unit:=
  ((C0 a ks reg).cell,(C0 a ks reg).n,f);
  Small RU (Sigma.mk (Ty.slice (52:Nat) (Ty.user (0:Nat))) b)->
  Small RU (Sigma.mk (Ty.slice (3:Nat) (Ty.int IntKind.i64)) c)->
  Small RU (Sigma.mk (Ty.slice (3:Nat) (Ty.int IntKind.i64)) d)->
  Small RU (Sigma.mk (Ty.slice (55:Nat) (Ty.user (1:Nat))) cd)->
  Small RU (Sigma.mk (Ty.slice (59:Nat) (Ty.user (2:Nat))) ou)->
  (∃ (p:Int×Unit),
  reg=reg/\
  ks=ks/\
  (0:Int)=p.1/\
  e=e/\
  b=b/\
  c=c/\
  d=d/\
  op=op/\
  ks=ks/\
  oc=oc/\
  sp=sp/\
  rd=rd/\
  a=a/\
  ce=ce/\
  cd=cd/\
  ou=ou/\
  false=false/\
  (0:Int)=(0:Int)/\
  (0:Int)<=p.1/\(p.1<=ks\/p.1=(0:Int))/\∀ (s:Nat),List.Mem s (List.range (Int.toNat p.1))->ab5 a reg s=false)/\
  ∀ (p:Int×Unit),
 let e0_1:Bool:=
  Option.isSome (mget (F6 RU (Ty.user (2:Nat))) a (Place.mk false p.1))&&Option.getD (mget (F6 RU (Ty.user (2:Nat))) a (Place.mk false p.1)) (0:Int)==reg;
 let e1_1:Bool:=decide (p.1<ks);
  ((0:Int)<=p.1/\(p.1<=ks\/p.1=(0:Int))/\∀ (s:Nat),List.Mem s (List.range (Int.toNat p.1))->ab5 a reg s=false)->
  (e1_1=true->
  (e0_1=true->(false,p.1,f)=g)/\
  (e0_1=false->
  ∃ (p':Int×Unit),
  reg=reg/\
  ks=ks/\
  IntKind.i64.wrap (p.1+(1:Int))=p'.1/\
  e=e/\
  b=b/\
  c=c/\
  d=d/\
  op=op/\
  ks=ks/\
  oc=oc/\
  sp=sp/\
  rd=rd/\
  a=a/\
  ce=ce/\
  cd=cd/\
  ou=ou/\
  false=false/\
  (0:Int)=(0:Int)/\
  ((0:Int)<=p'.1/\
  (p'.1<=ks\/p'.1=(0:Int))/\∀ (s:Nat),List.Mem s (List.range (Int.toNat p'.1))->ab5 a reg s=false)/\
  Int.toNat ks-Int.toNat p'.1<Int.toNat ks-Int.toNat p.1))/\
  (e1_1=false->(true,(-1:Int),f)=g)):=by kernel_rfl
theorem cn2 (k s c o n:Int) (t f:List Int) (b:List Ins) (g:Int) (a:List Ins) (d e:List Int) (sp:Spans) (rd:Reads) (h:Holds) (ce:List (Int×Int)) (op ks oc:Int) (cd:List RIns) (ou:List Place):vc (EV []) noL Go.Proofs.Tryd.f85 cPutA (k,s,c,o,n,t,f,b,g,a,d,e,sp,rd,h,ce,op,ks,oc,cd,ou,())=(
 let i:List RIns:=[RIns.mk k s c (Ins.mk o n t f b)];
  Small RU (Sigma.mk (Ty.slice (3:Nat) (Ty.int IntKind.i64)) t)->
  Small RU (Sigma.mk (Ty.slice (3:Nat) (Ty.int IntKind.i64)) f)->
  Small RU (Sigma.mk (Ty.slice (52:Nat) (Ty.user (0:Nat))) b)->
  Small RU (Sigma.mk (Ty.slice (52:Nat) (Ty.user (0:Nat))) a)->
  Small RU (Sigma.mk (Ty.slice (3:Nat) (Ty.int IntKind.i64)) d)->
  Small RU (Sigma.mk (Ty.slice (3:Nat) (Ty.int IntKind.i64)) e)->
  Small RU (Sigma.mk (Ty.slice (55:Nat) (Ty.user (1:Nat))) cd)->
  Small RU (Sigma.mk (Ty.slice (59:Nat) (Ty.user (2:Nat))) ou)->
  (List.length cd+List.length i)*(112:Nat)<=(140737488355328:Nat)/\
  (g,a,d,e,sp,rd,h,ce,op,ks,oc,cd++i,ou,())=(g,a,d,e,sp,rd,h,ce,op,ks,oc,cd++i,ou,())):=by kernel_rfl
theorem cn3 (reg fr g:Int) (a:List Ins) (d e:List Int) (sp:Spans) (rd:Reads) (h:Holds) (ce:List (Int×Int)) (op ks oc:Int) (cd:List RIns) (ou:List Place):vc (EV [(107,cBin)]) noL Go.Proofs.Tryd.f100 cNext (reg,fr,g,a,d,e,sp,rd,h,ce,op,ks,oc,cd,ou,())=(
 let b:Int:=(↑(List.length (List.takeWhile (λ(x:den RU.T i64)=>decide (x<fr)) (Option.getD (mget (λ(x y:Int)=>x==y) rd reg) []))):Int);
 let f:Int×List Ins×List Int×List Int×List (Int×Span)×List (Int×List Int)×List (Place×Int)×List (Int×Int)×Int×Int×Int×List RIns×List Place×Unit:=
  (g,a,d,e,sp,rd,h,ce,op,ks,oc,cd,ou,());
 let i:Int×Int×List Ins×List Int×List Int×List (Int×Span)×List (Int×List Int)×List (Place×Int)×List (Int×Int)×Int×Int×Int×List RIns×List Place×Unit:=
  (ae8 rd (↑(List.length a):Int) reg fr,f);
 let c:List Int:=Option.getD (mget (λ(x y:Int)=>x==y) rd reg) [];
  Small RU (Sigma.mk (Ty.slice (52:Nat) (Ty.user (0:Nat))) a)->
  Small RU (Sigma.mk (Ty.slice (3:Nat) (Ty.int IntKind.i64)) d)->
  Small RU (Sigma.mk (Ty.slice (3:Nat) (Ty.int IntKind.i64)) e)->
  Small RU (Sigma.mk (Ty.slice (55:Nat) (Ty.user (1:Nat))) cd)->
  Small RU (Sigma.mk (Ty.slice (59:Nat) (Ty.user (2:Nat))) ou)->
  List.Pairwise (λ(j k:den RU.T i64)=>j<=k) c/\
  ((b==(↑(List.length c):Int))=true->((↑(List.length a):Int),f)=i)/\
  ((b==(↑(List.length c):Int))=false->((0:Int)<=b/\b<(↑(List.length c):Int))/\(List.getD c (Int.toNat b) (0:Int),f)=i)):=by kernel_rfl
theorem bS6 (a b c d e f:Int):vc (EV []) noL Go.Proofs.Tryd.f102 cBetter (a,b,c,d,e,f,())=((decide (c >f)||c==f&&decide (b >e),())=(X5 (Held.mk a b c) (Held.mk d e f),())):=by kernel_rfl
theorem cn4 (l:List Held):vc (EV [(102,cBetter)]) (cm9 l) Go.Proofs.Tryd.f101 cBest (l,())=(
 let c:Int:=(↑(List.length (List.drop (1:Nat) l)):Int);
 let d:Held:=List.getD l (0:Nat) (Held.mk (0:Int) (0:Int) (0:Int));
 let a:List Held:=List.drop (1:Nat) l;
 let b:Value:=Value.func (Fn.func (102:Nat)) #[] #[];
  Small RU (Sigma.mk (Ty.slice (131:Nat) (Ty.user (4:Nat))) l)->
  ((0:Int)<=(0:Int)/\(0:Int)<(↑(List.length l):Int))/\
  ((0:Int)<=(1:Int)/\(1:Int)<=(↑(List.length l):Int))/\
  (∃ (p:Int×Int×Int×Int×Unit),
  b=b/\
  l=l/\
  a=a/\
  c=c/\
  (0:Int)=p.1/\
  b=b/\
  (0:Int)=(0:Int)/\
  (0:Int)=(0:Int)/\
  (0:Int)=(0:Int)/\
  d.slot=p.2.1/\
  d.reg=p.2.2.1/\
  d.next=p.2.2.2.1/\
  (0:Int)<=p.1/\
  p.1<=(↑(List.length (List.tail l)):Int)/\
  Held.mk p.2.1 p.2.2.1 p.2.2.2.1=List.foldl G9 (List.headD l held0) (List.take (Int.toNat p.1) (List.tail l)))/\
  ∀ (p:Int×Int×Int×Int×Unit),
 let e0_1:Bool:=
  X5
  (Held.mk (List.getD a (Int.toNat p.1) (Held.mk (0:Int) (0:Int) (0:Int))).slot (List.getD a (Int.toNat p.1) (Held.mk (0:Int) (0:Int) (0:Int))).reg
  (List.getD a (Int.toNat p.1) (Held.mk (0:Int) (0:Int) (0:Int))).next)
  (Held.mk p.2.1 p.2.2.1 p.2.2.2.1);
 let d:Held:=List.getD a (Int.toNat p.1) (Held.mk (0:Int) (0:Int) (0:Int));
 let e2_1:Int:=p.1;
 let e3_1:Int:=p.2.2.2.1;
 let e:Int:=p.2.2.1;
 let f:Int:=p.2.1;
 let g:Bool:=decide (e2_1<c);
  (0:Int)<=e2_1/\e2_1<=(↑(List.length (List.tail l)):Int)/\Held.mk f e e3_1=List.foldl G9 (List.headD l held0) (List.take (Int.toNat e2_1) (List.tail l))->
  (g=true->
  ((0:Int)<=e2_1/\e2_1<c)/\
  ∃ (p':Int×Int×Int×Int×Unit),
  b=b/\
  (bif e0_1 then l else l)=l/\
  (bif e0_1 then a else a)=a/\
  (bif e0_1 then c else c)=c/\
  IntKind.i64.wrap ((bif e0_1 then e2_1 else e2_1)+(1:Int))=p'.1/\
  b=b/\
  (bif e0_1 then (0:Int) else (0:Int))=(0:Int)/\
  (bif e0_1 then (0:Int) else (0:Int))=(0:Int)/\
  (bif e0_1 then (0:Int) else (0:Int))=(0:Int)/\
  (bif e0_1 then d.slot else f)=p'.2.1/\
  (bif e0_1 then d.reg else e)=p'.2.2.1/\
  (bif e0_1 then d.next else e3_1)=p'.2.2.2.1/\
  ((0:Int)<=p'.1/\
  p'.1<=(↑(List.length (List.tail l)):Int)/\
  Held.mk p'.2.1 p'.2.2.1 p'.2.2.2.1=List.foldl G9 (List.headD l held0) (List.take (Int.toNat p'.1) (List.tail l)))/\
  List.length (List.tail l)-Int.toNat p'.1<List.length (List.tail l)-Int.toNat e2_1)/\
  (g=false->(f,e,e3_1,())=((J9 l).slot,(J9 l).reg,(J9 l).next,()))):=by kernel_rfl
theorem bq6:C9 prog RG 110 cIsNaN:=E8 B9 (λ_=>noL) (by kernel_rfl) (by kernel_rfl) (by kernel_rfl) λ(a,()) _=>(cc7 a).mpr (by rw [bne_self_eq_false])
theorem bh9:C9 prog RG 111 cIsNaN:=E8 B9 (λ_=>noL) (by kernel_rfl) (by kernel_rfl) (by kernel_rfl) λ(a,()) _=>(bS5 a).mpr (by rw [bne_self_eq_false])
theorem bG2:C9 prog RG 109 cLess:=E8 (A7 bh9 B9) (λ_=>noL) (by kernel_rfl) (by kernel_rfl) (by kernel_rfl) λ(a,b,()) _=>(cn0 a b).mpr (by dsimp only;rw [Bool.false_and,Bool.false_or])
theorem aY5 {l:List Int} {t:Int} {k:Nat} (b:k<=l.length) (h1:∀ x∈l.take k,x<t) (h2:∀ x∈l.drop k,t<=x):l.takeWhile (λx=>decide (x<t))=l.take k:=by
 induction l generalizing k with
 |nil=>simp
 |cons x r ih=>
  cases k with
  |zero=>have:=h2 x (by simp);rw [List.takeWhile_cons_of_neg (by simp;omega)];rfl
  |succ k=>have c:=h1 x (by simp);rw [List.takeWhile_cons_of_pos (by simpa using c),List.take_succ_cons,ih (by simpa using b) (λy a=>h1 y (by simp [a])) (λy a=>h2 y (by simpa using a))]
theorem bi0 {l:List Int} (h:l.Pairwise (·<=·)) {i j:Nat} (a:i<=j) (b:j<l.length):l.getD i 0<=l.getD j 0:=by
 rw [cw7,cw7,cv5 (by omega),cv5 b];rcases Nat.lt_or_eq_of_le a with h1|h1
 .exact List.pairwise_iff_getElem.1 h i j (by omega) b h1
 .subst h1;exact Int.le_refl _
theorem aY6 {l:List Int} {k:Nat} {x:Int} (h:x∈l.take k):∃ i,i<k/\i<l.length/\x=l.getD i 0:=by obtain ⟨i,a,rfl⟩:=List.mem_iff_getElem.1 h;rw [cy4] at a;exact ⟨i,by omega,by omega,by rw [List.getElem_take,cw7,cv5 (by omega)];rfl⟩
theorem aY7 {l:List Int} {k:Nat} {x:Int} (h:x∈l.drop k):∃ i,k<=i/\i<l.length/\x=l.getD i 0:=by obtain ⟨i,a,rfl⟩:=List.mem_iff_getElem.1 h;rw [List.length_drop] at a;exact ⟨k+i,by omega,by omega,by rw [List.getElem_drop,cw7,cv5 (by omega)];rfl⟩
theorem cs9 (l:List Int) (t:Int) (r:l.Pairwise (·<=·)):vc (EV [(109,cLess),(110,cIsNaN)]) (lBin l t) Go.Proofs.Tryd.f107 cBin (l,t,()):=by
 rw [cs8 l t];intro u s hs;have hl:l.length<=140737488355328:=hs.len;have g:s=2:=rfl;dsimp only [u];simp only [true_and,and_true,Bool.cond_self,g]
 clear_value s
 refine ⟨⟨(0,(l.length:Int),()),rfl,rfl,Int.le_refl _,by dsimp only;omega,Int.le_refl _,λx a=>?_,λx a=>?_⟩,?_⟩
 .change x∈l.take 0 at a;simp at a
 .dsimp only at a;change x∈l.drop (l.length:Int).toNat at a;simp at a
 rintro ⟨i,j,⟨⟩⟩ ⟨h0,h1,h2,b,c⟩;dsimp only at h0 h1 h2 b c |-;have b:∀ x∈l.take i.toNat,x<t:=b;have c:∀ x∈l.drop j.toNat,t<=x:=c;obtain ⟨i,rfl⟩:=cv9 h0;obtain ⟨j,rfl⟩:=cv9 (Int.le_trans h0 h1);simp only [cv7] at b c |-;refine ⟨λd=>?_,λh=>?_⟩
 .have d:(i:Int)<j:=cw3 d;have hm:IntKind.i64.wrap (Int.fdiv (IntKind.u64.wrap (IntKind.i64.wrap ((i:Int)+j))) 2)=((i+j) / 2:Nat):=by
   rw [F9 (n:=(i:Int)+j) (by omega) (by omega)];have v:IntKind.u64.wrap ((i:Int)+j)=(i:Int)+j:=by simp only [IntKind.wrap,IntKind.bits,IntKind.signed,Bool.false_and,Bool.false_eq_true,if_false];omega
   rw [v,Int.fdiv_eq_ediv_of_nonneg _ (by omega),F9 (by omega) (by omega)];omega
  rw [hm];have e:i<=(i+j) / 2/\(i+j) / 2<j:=by omega
  generalize (i+j) / 2=m at e |-;simp only [cv7];refine ⟨by omega,⟨by omega,by omega⟩,?_⟩;cases f:decide (l.getD m 0<t) with
  |true=>have f:l.getD m 0<t:=cw3 f;simp only [cond_true];refine ⟨((m+1:Nat),(j:Int),()),B5 (m:=l.length) (by omega) hl,rfl,⟨by omega,by dsimp only;omega,by dsimp only;omega,λx a=>?_,λx a=>c x a⟩,by dsimp only;omega⟩;have a:x∈l.take ((m+1:Nat):Int).toNat:=a;rw [cv7] at a;obtain ⟨q,k,o,rfl⟩:=aY6 a;have:=bi0 r (i:=q) (j:=m) (by omega) (by omega);omega
  |false=>have f:¬ l.getD m 0<t:=cw2 f;simp only [cond_false];refine ⟨((i:Int),(m:Int),()),rfl,rfl,⟨by omega,by dsimp only;omega,by dsimp only;omega,λx a=>b x a,λx a=>?_⟩,by dsimp only;omega⟩;have a:x∈l.drop ((m:Nat):Int).toNat:=a;rw [cv7] at a;obtain ⟨q,k,o,rfl⟩:=aY7 a;have:=bi0 r (i:=m) (j:=q) (by omega) (by omega);omega
 .have p:i=j:=by have:¬ (i:Int)<j:=cw2 h;omega
  subst p;refine ⟨λq=>⟨h0,cw3 q⟩,λq _=>⟨h0,cw3 q⟩,?_⟩;have:=aY5 (by omega) b c;have w:(List.takeWhile (λ(x:den RU.T i64)=>decide (x<t)) l).length=i:=by show (List.takeWhile (λ(x:Int)=>decide (x<t)) l).length=i;rw [this,cy4];omega
  rw [w]
theorem bS7:C9 prog RG 107 cBin:=E8 (A7 bG2 (A7 bq6 B9)) (λp=>lBin p.1 p.2.1) (by kernel_rfl) (by kernel_rfl) (by kernel_rfl) λ(l,t,()) a=>cs9 l t a
theorem aw2 {m:Holds} {reg:Int} {s:Nat}:ab5 m reg s=true<->mget eqP m ⟨false,(s:Int)⟩=some reg:=by simp [ab5]
theorem bG3 {p:Nat->Bool} {n s:Nat} (h1:∀ x∈List.range s,p x=false) (hs:s<n) (h2:p s=true):(List.range n).find? p=some s:=by rw [List.find?_range_eq_some];exact ⟨h2,by simpa using hs,λj a=>by have:=h1 j (by simpa using a);simp [this]⟩
theorem aK2 {p:Nat->Bool} {n:Nat} (h1:∀ x∈List.range n,p x=false):(List.range n).find? p=none:=by rw [List.find?_eq_none];intro x a;rw [h1 x a];simp
theorem cn5 (reg e:Int) (f:List Ins) (g h:List Int) (sp:Spans) (rd:Reads) (a:Holds) (ce:List (Int×Int)) (op ks oc:Int) (cd:List RIns) (ou:List Place) (o:ks<=64):vc (EV []) (cm8 a ks reg) Go.Proofs.Tryd.f54 cSlot (reg,e,f,g,h,sp,rd,a,ce,op,ks,oc,cd,ou,()):=by
 rw [cn1 reg e f g h sp rd a ce op ks oc cd ou];intro j k _ _ _ _ _;have b:k=((C0 a ks reg).cell,(C0 a ks reg).n,j):=rfl
 clear_value k j
 simp only [true_and,and_true];refine ⟨⟨(0,()),rfl,Int.le_refl _,.inr rfl,λs hs=>?_⟩,?_⟩
 .change s∈List.range 0 at hs;simp at hs
 rintro ⟨i,⟨⟩⟩ ⟨h0,h1,h2⟩;dsimp only at h0 h1 h2 |-;have h2:∀ s∈List.range i.toNat,ab5 a reg s=false:=h2;obtain ⟨i,rfl⟩:=cv9 h0;simp only [cv7] at h2 |-;have l:((mget (F6 RU (Ty.user 2)) a ⟨false,(i:Int)⟩).isSome&&(mget (F6 RU (Ty.user 2)) a ⟨false,(i:Int)⟩).getD 0==reg)=ab5 a reg i:=by
  show ((mget eqP a ⟨false,(i:Int)⟩).isSome&&(mget eqP a ⟨false,(i:Int)⟩).getD 0==reg)=decide (mget eqP a ⟨false,(i:Int)⟩=some reg);cases mget eqP a ⟨false,(i:Int)⟩ with
  |none=>rfl
  |some v=>rw [Bool.eq_iff_iff];simp
 rw [l];refine ⟨λc=>?_,λd=>?_⟩
 .have c:(i:Int)<ks:=cw3 c;refine ⟨λq=>?_,λq=>?_⟩
  .rw [b,show C0 a ks reg=⟨false,(i:Int)⟩ by unfold C0;rw [bG3 h2 (by omega) q]]
  .refine ⟨((i+1:Nat),()),?_,⟨by omega,.inl (by dsimp only;omega),λs hs=>?_⟩,by dsimp only;omega⟩
   .rw [F9 (by omega) (by omega)];rfl
   .have hs:s∈List.range ((i+1:Nat):Int).toNat:=hs;rw [cv7,List.range_succ,cy1] at hs;rcases hs with hs|hs
    .exact h2 s hs
    .simp only [cw4] at hs;rw [hs];exact q
 .have d:¬ (i:Int)<ks:=cw2 d;have p:List.range ks.toNat=List.range (min i ks.toNat):=by congr 1;omega
  have m:(List.range ks.toNat).find? (ab5 a reg)=none:=aK2 (λx n=>h2 x (by simp at n |-;omega));rw [b,show C0 a ks reg=bS4 by unfold C0;rw [m]];rfl
theorem aw3:C9 prog RG 54 cSlot:=E8 B9 (λp=>cm8 p.2.2.2.2.2.2.2.1 p.2.2.2.2.2.2.2.2.2.2.1 p.1) (by kernel_rfl) (by kernel_rfl) (by kernel_rfl) λ(reg,a,b,c,d,sp,rd,e,ce,op,ks,oc,cd,ou,()) f=>cn5 reg a b c d sp rd e ce op ks oc cd ou f
theorem aR5:C9 prog RG 85 cPutA:=E8 B9 (λ_=>noL) (by kernel_rfl) (by kernel_rfl) (by kernel_rfl) λ(k,s,c,o,n,t,f,b,d,e,g,h,sp,rd,i,ce,op,ks,oc,cd,ou,()) a=>(cn2 k s c o n t f b d e g h sp rd i ce op ks oc cd ou).mpr (by
 have a:cd.length<=1000000000:=a;intro j _ _ _ _ _ _ _ _;exact ⟨by show (cd.length+1)*112<=_;omega,rfl⟩)
theorem bi1 {t:Int}:∀ (l:List Int),l.find? (λx=>decide (t<=x))=l[(l.takeWhile (λx=>decide (x<t))).length]?
 |[]=>rfl
 |x::r=>by
  by_cases h:x<t
  .rw [List.find?_cons_of_neg (by simpa using h),List.takeWhile_cons_of_pos (by simpa using h)];simp only [cw9,List.getElem?_cons_succ];exact bi1 r
  .rw [List.find?_cons_of_pos (by simp;omega),List.takeWhile_cons_of_neg (by simpa using h)];rfl
theorem bG4:C9 prog RG 100 cNext:=E8 (A7 bS7 B9) (λ_=>noL) (by kernel_rfl) (by kernel_rfl) (by kernel_rfl) λ(reg,fr,h,d,i,j,sp,rd,k,ce,op,ks,oc,cd,ou,()) e=>(cn3 reg fr h d i j sp rd k ce op ks oc cd ou).mpr (by
 have e:ah4 rd:=e;intro l f g a _ _ _ _ _;have m:a=getL rd reg:=rfl;have c:l=((a.takeWhile (λx=>decide (x<fr))).length:Int):=rfl;have b:g=(ae8 rd d.length reg fr,f):=rfl;have n:ae8 rd d.length reg fr=(a[(a.takeWhile (λx=>decide (x<fr))).length]?).getD d.length:=by rw [<-bi1];rfl
 have o:(a.takeWhile (λx=>decide (x<fr))).length<=a.length:=(List.takeWhile_prefix _).length_le;rw [n] at b
 clear_value g f
 refine ⟨e reg,λq=>?_,λq=>?_⟩
 .rw [c] at q;have q:(a.takeWhile (λx=>decide (x<fr))).length=a.length:=by have:=eq_of_beq q;omega
  rw [b,List.getElem?_eq_none (by omega)];rfl
 .rw [c] at q |-;have q:¬ (a.takeWhile (λx=>decide (x<fr))).length=a.length:=by have:=beq_eq_false_iff_ne.1 q;omega
  refine ⟨by omega,?_⟩;rw [b,cv7,cw7,cv5 (by omega)];rfl)
theorem bi2:C9 prog RG 102 cBetter:=E8 B9 (λ_=>noL) (by kernel_rfl) (by kernel_rfl) (by kernel_rfl) λ(a,b,c,d,e,f,()) _=>(bS6 a b c d e f).mpr rfl
theorem cn6 (l:List Held) (r:l≠[]):vc (EV [(102,cBetter)]) (cm9 l) Go.Proofs.Tryd.f101 cBest (l,()):=by
 rw [cn4 l];intro n o e s hs;have hl:l.length<=140737488355328:=hs.len;have p:0<l.length:=by cases l with|nil=>exact absurd rfl r|cons=>simp
 have f:e=l.tail:=List.drop_one;have t:l.tail.length=l.length-1:=by simp
 have g:o=l.headD held0:=by show l.getD 0 held0=_;cases l<;>rfl
 have h:n=(e.length:Int):=rfl
 clear_value n o e
 subst h g f;dsimp only [s];simp only [true_and,and_true,Bool.cond_self];have u:(⟨0,0,0⟩:Held)=held0:=rfl;rw [u];refine ⟨by omega,by omega,⟨(0,(l.headD held0).slot,(l.headD held0).reg,(l.headD held0).next,()),rfl,rfl,rfl,rfl,Int.le_refl _,by dsimp only;omega,rfl⟩,?_⟩;rintro ⟨i,a,b,c,⟨⟩⟩ ⟨h0,h1,h2⟩;dsimp only at h0 h1 h2 |-;obtain ⟨k,rfl⟩:=cv9 h0;simp only [cv7] at h2 |-;refine ⟨λd=>?_,λj=>?_⟩
 .have d:(k:Int)<l.tail.length:=cw3 d;have q:(l.tail.take (k+1)).foldl G9 (l.headD held0)=G9 ⟨a,b,c⟩ (l.tail.getD k held0):=by
   rw [A4 (by omega) held0,List.foldl_append,<-h2];rfl
  generalize l.tail.getD k held0=y at q |-;refine ⟨⟨h0,d⟩,((k+1:Nat),(G9 ⟨a,b,c⟩ y).slot,(G9 ⟨a,b,c⟩ y).reg,(G9 ⟨a,b,c⟩ y).next,()),B5 (m:=l.length) (by omega) hl,?_,?_,?_,⟨by omega,by dsimp only;omega,by dsimp only;rw [cv7,q]⟩,by dsimp only;omega⟩
  all_goals
   show (bif X5 ⟨y.slot,y.reg,y.next⟩ ⟨a,b,c⟩ then _ else _)=_;dsimp only [G9];rw [show (⟨y.slot,y.reg,y.next⟩:Held)=y from rfl];cases X5 y ⟨a,b,c⟩<;>rfl
 .have v:k=l.tail.length:=by have:¬ (k:Int)<l.tail.length:=cw2 j;omega
  subst v;rw [cy3] at h2;rw [J9,<-h2]
theorem bG5:C9 prog RG 101 cBest:=E8 (A7 bi2 B9) (λp=>cm9 p.1) (by kernel_rfl) (by kernel_rfl) (by kernel_rfl) λ(l,()) a=>cn6 l a
def cRoom:Con RU:=⟨[one,one,one],i64::ints::tysA,[.ptr 0 0,.d 0,.d 1],objA 0 2,some λp=>match p with
  |(pl,st,a0,a1,a2,a3,sp,rd,ho,ce,op,ks,oc,cd,ou,())=>ah4 rd/\U1 sp rd ks a1.length ho pl st/\ks<=64/\0<=oc/\oc<=1000000000/\cd.length<=1000000000,
 none,[one],i64::tysA,[.d 0],objA 0 1,λp=>match p with
  |(pl,st,a0,a1,a2,a3,sp,rd,ho,ce,op,ks,oc,cd,ou,())=>((F7 sp rd ks a1.length ⟨ho,ce,oc,cd⟩ pl st).1,a0,a1,a2,a3,sp,rd,(F7 sp rd ks a1.length ⟨ho,ce,oc,cd⟩ pl st).2.holds,(F7 sp rd ks a1.length ⟨ho,ce,oc,cd⟩ pl st).2.cells,op,ks,(F7 sp rd ks a1.length ⟨ho,ce,oc,cd⟩ pl st).2.ocells,(F7 sp rd ks a1.length ⟨ho,ce,oc,cd⟩ pl st).2.code,ou,()),[],[],[]⟩
def cn7 (sp:Spans) (rd:Reads) (ks N:Int) (ho:Holds) (pl:Int) (st:List Int):Nat->St RU->Ann RU:=λ_ _=>⟨[8],[.slot 22,.row 900001],[i64,cq6],λp=>0<=p.1/\(p.1<=ks\/p.1=0)/\C2 sp rd N ho pl st (List.range p.1.toNat) []=(none,p.2.1),λp=>ks.toNat-p.1.toNat,[(.slot 8,900001,131,.user 4)]⟩
def cGetA:Con RU:=⟨[one,one],i64::tysA,[.d 0,.ptr 0 0],.box 79 [.ptr 1 0]::objA 1 1,some λp=>p.2.2.2.2.2.2.2.2.2.2.1<=64,none,[one],i64::tysA,[.d 0],.box 79 [.ptr 1 0]::objA 1 1,λp=>((C0 p.2.2.2.2.2.2.2.1 p.2.2.2.2.2.2.2.2.2.2.1 p.1).n,p.2),[0],[],[]⟩
def cCalledA:Con RU:=⟨[(true,5),one,one],ay9++tysA++[mapI],[.d 0,.d 1,.d 2,.d 3,.d 4,.clo 86 [0],.clo 87 [8]],.box 79 [.ptr 1 0]::objA 1 5++[.box 84 [.map 9],.map 18],some λp=>match p with
  |(x1,x2,x3,x4,x5,a0,a1,a2,a3,sp,rd,ho,ce,op,ks,oc,cd,ou,sl,())=>X4 x3 x4 x5=true/\ks<=64,none,
 [(true,5)],ay9++tysA++[mapI],[.d 0,.d 1,.d 2,.d 3,.d 4],.box 79 [.ptr 1 0]::objA 1 5++[.box 84 [.map 9],.map 18],
 λp=>match p with
  |(x1,x2,x3,x4,x5,a0,a1,a2,a3,sp,rd,ho,ce,op,ks,oc,cd,ou,sl,())=>(x1,x2,x3.map (λn=>(C0 ho ks n).n),x4.map (getI sl),x5,a0,a1,a2,a3,sp,rd,ho,ce,op,ks,oc,cd,ou,sl,()),[0,8],[],[]⟩
def aY8 (x1 x2:Int) (x3 x4:List Int) (x5:List Ins) (ho:Holds) (ks:Int) (sl:List (Int×Int)):Nat->St RU->Ann RU:=λk s=>match k with
 |0=>⟨[],[.slot 20,.row 896],[i64,inss],λp=>0<=p.1/\p.1<=x4.length/\p.2.1=[⟨x1,x2,x3,(x4.take p.1.toNat).map (getI sl)++x4.drop p.1.toNat,x5⟩],λp=>x4.length-p.1.toNat,[]⟩
 |_=>⟨[],[.slot 36,.row 896],[i64,inss],λp=>0<=p.1/\p.1<=x3.length/\p.2.1=[⟨x1,x2,(x3.take p.1.toNat).map (λn=>(C0 ho ks n).n)++x3.drop p.1.toNat,x4.map (getI sl),x5⟩],λp=>x3.length-p.1.toNat,[]⟩
def cReads:Con RU:=⟨[(true,5)],ay9,[.d 0,.d 1,.d 2,.d 3,.d 4],[],none,none,[one],ay9,[.clo 83 [0]],[.box 52 [.d 0,.d 1,.d 2,.d 3,.d 4]],λp=>p,[],[],[]⟩
def at5:Con RU:=⟨[one,one],[i64,i64,ints],[.d 0,.yld 0],[.loop 1,.box 23 [.row 2],.row 2],some λp=>p.2.1=0/\p.2.2.1.length<=17592186044400,none,[one],[.bool,i64,ints],[.d 0],[.loop 1,.box 23 [.row 2],.row 2],λp=>(true,0,p.2.2.1++[p.1],()),[],[(0,0),(1,1)],[(1,1000001)]⟩
def aY9:Con RU:=⟨[one,one],[i64,ints,i64,i64,ints,ints,inss],[.yld 0,.ptr 3 0],[.loop 0,.box 23 [.row 2],.row 1,.box 52 [.d 2,.d 3,.d 4,.d 5,.d 6]],some λp=>p.1=0/\p.2.1.length+p.2.2.2.2.2.1.length<=17592186044400,none,[],[i64,ints],[],[.loop 0,.box 23 [.row 2],.row 1,.box 52 [.un,.un,.un,.un,.un]],
 λp=>(0,p.2.1++B0 p.2.2.2.2.2.1,()),[],[(0,0),(1,1)],[(1,384)]⟩
def itDo:FuncId->List (Con RU×Con RU×List (Nat×Nat)):=λf=>bif Nat.beq f 83 then [(aY9,at5,[(0,0),(1,1),(2,2)])] else []
def bq7 (fr:List Int) (r0:List Int):Nat->St RU->Ann RU:=λ_ _=>⟨[],[.slot 8,.row 1000000,.row 1000002],[i64,i64,ints],λp=>0<=p.1/\p.1<=fr.length/\p.2.1=0/\p.2.2.1=r0++B0 (fr.take p.1.toNat),λp=>fr.length-p.1.toNat,[]⟩
def cDo:Con RU:=⟨[one,one,(true,5)],i64::ay9++tysA,[.ptr 0 0,.d 0,.d 1,.d 2,.d 3,.d 4,.d 5],objA 0 6,some λp=>match p with
  |(i,x1,x2,x3,x4,x5,a0,a1,a2,a3,sp,rd,ho,ce,op,ks,oc,cd,ou,())=>X4 x3 x4 x5=true/\x4.length<=17592186044400/\(B0 x4).length<=64/\x3.length<=64/\ah4 rd/\doOk sp rd ks a1.length i ⟨x1,x2,x3,x4,x5⟩ ⟨ho,ce,oc,cd⟩/\ks<=64/\0<=i/\i<=1000000/\0<=oc/\oc<=100000000/\cd.length<=100000000,
 none,[],tysA,[],objA 0 0,λp=>match p with
  |(i,x1,x2,x3,x4,x5,a0,a1,a2,a3,sp,rd,ho,ce,op,ks,oc,cd,ou,())=>(a0,a1,a2,a3,sp,rd,(doOf sp rd ks a1.length i ⟨x1,x2,x3,x4,x5⟩ ⟨ho,ce,oc,cd⟩).holds,(doOf sp rd ks a1.length i ⟨x1,x2,x3,x4,x5⟩ ⟨ho,ce,oc,cd⟩).cells,op,ks,(doOf sp rd ks a1.length i ⟨x1,x2,x3,x4,x5⟩ ⟨ho,ce,oc,cd⟩).ocells,(doOf sp rd ks a1.length i ⟨x1,x2,x3,x4,x5⟩ ⟨ho,ce,oc,cd⟩).code,ou,()),[],[],[]⟩
def lDo (sp:Spans) (rd:Reads) (ks N i:Int) (x3 x4:List Int) (s0:AS):Nat->St RU->Ann RU:=λk s=>match k with
 |0=>⟨[],[],[],λ_=>False,λ_=>0,[(.box 384 0,900001,3,i64)]⟩
 |1=>⟨[],[.slot 27,.row 1000003,.row 1000004,.box 1000000 10,.row 1000005],[i64,mapP,mapI,i64,aW3],λp=>0<=p.1/\p.1<=(B0 x4).length/\D4 sp rd ks N i (B0 x4) s0 ((B0 x4).take p.1.toNat)=⟨p.2.1,p.2.2.1,p.2.2.2.1,p.2.2.2.2.1⟩,λp=>(B0 x4).length-p.1.toNat,[(.cell 384 0,0,3,i64),(.row 25,0,3,i64)]⟩
 |2=>⟨[],[.slot 61,.row 3712],[i64,mapI],λp=>0<=p.1/\p.1<=(B0 x4).length/\p.2.1=H9 (D4 sp rd ks N i (B0 x4) s0 (B0 x4)).holds ks ((B0 x4).take p.1.toNat),λp=>(B0 x4).length-p.1.toNat,[]⟩
 |_=>⟨[],[.slot 75,.row 1000003,.row 1000004,.box 1000000 10,.row 1000005],[i64,mapP,mapI,i64,aW3],λp=>0<=p.1/\p.1<=x3.length/\I2 sp rd ks N i x3 (D4 sp rd ks N i (B0 x4) s0 (B0 x4)) (x3.take p.1.toNat)=⟨p.2.1,p.2.2.1,p.2.2.2.1,p.2.2.2.2.1⟩,λp=>x3.length-p.1.toNat,[]⟩
theorem cn8 (pl:Int) (st:List Int) (f:Int) (b:List Ins) (d e:List Int) (sp:Spans) (rd:Reads) (a:Holds) (ce:List (Int×Int)) (op ks oc:Int) (cd:List RIns) (ou:List Place):vc (EV [(100,cNext),(61,cContains),(69,cAt),(101,cBest),(85,cPutA)]) (cn7 sp rd ks b.length a pl st) Go.Proofs.Tryd.f84 cRoom (pl,st,f,b,d,e,sp,rd,a,ce,op,ks,oc,cd,ou,())=(
 let h:Int×Int×List Ins×List Int×List Int×List (Int×Span)×List (Int×List Int)×List (Place×Int)×List (Int×Int)×Int×Int×Int×List RIns×List Place×Unit:=
  ((F7 sp rd ks (↑(List.length b):Int) (AS.mk a ce oc cd) pl st).1,f,b,d,e,sp,rd,(F7 sp rd ks (↑(List.length b):Int) (AS.mk a ce oc cd) pl st).2.holds,
  (F7 sp rd ks (↑(List.length b):Int) (AS.mk a ce oc cd) pl st).2.cells,op,ks,(F7 sp rd ks (↑(List.length b):Int) (AS.mk a ce oc cd) pl st).2.ocells,
  (F7 sp rd ks (↑(List.length b):Int) (AS.mk a ce oc cd) pl st).2.code,ou,());
 let i:Int×List Ins×List Int×List Int×List (Int×Span)×List (Int×List Int)×List (Place×Int)×List (Int×Int)×Int×Int×Int×List RIns×List Place×Unit:=
  (f,b,d,e,sp,rd,a,ce,op,ks,oc,cd,ou,());
  Small RU (Sigma.mk (Ty.slice (3:Nat) (Ty.int IntKind.i64)) st)->
  Small RU (Sigma.mk (Ty.slice (52:Nat) (Ty.user (0:Nat))) b)->
  Small RU (Sigma.mk (Ty.slice (3:Nat) (Ty.int IntKind.i64)) d)->
  Small RU (Sigma.mk (Ty.slice (3:Nat) (Ty.int IntKind.i64)) e)->
  Small RU (Sigma.mk (Ty.slice (55:Nat) (Ty.user (1:Nat))) cd)->
  Small RU (Sigma.mk (Ty.slice (59:Nat) (Ty.user (2:Nat))) ou)->
  (∃ (p:Int×List Held×Unit),
  pl=pl/\
  st=st/\
  ks=ks/\
  (0:Int)=p.1/\
  f=f/\
  b=b/\
  d=d/\
  e=e/\
  op=op/\
  ks=ks/\
  oc=oc/\
  sp=sp/\
  rd=rd/\
  a=a/\
  ce=ce/\
  cd=cd/\
  ou=ou/\
  []=p.2.1/\
  (0:Int)<=p.1/\
  (p.1<=ks\/p.1=(0:Int))/\C2 sp rd (↑(List.length b):Int) a pl st (List.range (Int.toNat p.1)) []=(none,p.2.1))/\
  ∀ (p:Int×List Held×Unit),
 let e0_1:Bool:=!Option.isSome (mget (λ(x y:Int)=>x==y) ce (J9 p.2.1).reg);
 let e1_1:Bool:=
  !I6
  (Option.getD (mget (λ(x y:Int)=>x==y) sp (Option.getD (mget (F6 RU (Ty.user (2:Nat))) a (Place.mk false p.1)) (0:Int))) (Span.mk (0:Int) (0:Int))).first
  (Option.getD (mget (λ(x y:Int)=>x==y) sp (Option.getD (mget (F6 RU (Ty.user (2:Nat))) a (Place.mk false p.1)) (0:Int))) (Span.mk (0:Int) (0:Int))).last pl;
 let g:List Held:=p.2.1;
 let j:List Held:=
  [Held.mk p.1 (Option.getD (mget (F6 RU (Ty.user (2:Nat))) a (Place.mk false p.1)) (0:Int))
  (ae8 rd (↑(List.length b):Int) (Option.getD (mget (F6 RU (Ty.user (2:Nat))) a (Place.mk false p.1)) (0:Int)) pl)];
 let c:Int:=p.1;
 let k:Bool:=List.contains st (Option.getD (mget (F6 RU (Ty.user (2:Nat))) a (Place.mk false c)) (0:Int));
 let l:Bool:=decide (c<ks);
 let m:Bool:=!Option.isSome (mget (F6 RU (Ty.user (2:Nat))) a (Place.mk false c));
  (0:Int)<=c/\(c<=ks\/c=(0:Int))/\C2 sp rd (↑(List.length b):Int) a pl st (List.range (Int.toNat c)) []=(none,g)->
  (l=true->
  (m=true->(c,i)=h)/\
  (m=false->
  (k=true->
  ∃ (p':Int×List Held×Unit),
  pl=pl/\
  st=st/\
  ks=ks/\
  IntKind.i64.wrap (c+(1:Int))=p'.1/\
  f=f/\
  b=b/\
  d=d/\
  e=e/\
  op=op/\
  ks=ks/\
  oc=oc/\
  sp=sp/\
  rd=rd/\
  a=a/\
  ce=ce/\
  cd=cd/\
  ou=ou/\
  g=p'.2.1/\
  ((0:Int)<=p'.1/\
  (p'.1<=ks\/p'.1=(0:Int))/\
  C2 sp rd (↑(List.length b):Int) a pl st (List.range (Int.toNat p'.1)) []=(none,p'.2.1))/\
  Int.toNat ks-Int.toNat p'.1<Int.toNat ks-Int.toNat c)/\
  (k=false->
  (e1_1=true->(c,i)=h)/\
  (e1_1=false->
  (∀ (n:Int),List.Pairwise (λ(o q:Int)=>o<=q) (getL rd n))/\
  (List.length g+List.length j)*(24:Nat)<=(140737488355328:Nat)/\
  ∃ (p':Int×List Held×Unit),
  pl=pl/\
  st=st/\
  ks=ks/\
  IntKind.i64.wrap (c+(1:Int))=p'.1/\
  f=f/\
  b=b/\
  d=d/\
  e=e/\
  op=op/\
  ks=ks/\
  oc=oc/\
  sp=sp/\
  rd=rd/\
  a=a/\
  ce=ce/\
  cd=cd/\
  ou=ou/\
  g++j=p'.2.1/\
  ((0:Int)<=p'.1/\
  (p'.1<=ks\/p'.1=(0:Int))/\
  C2 sp rd (↑(List.length b):Int) a pl st (List.range (Int.toNat p'.1)) []=(none,p'.2.1))/\
  Int.toNat ks-Int.toNat p'.1<Int.toNat ks-Int.toNat c))))/\
  (l=false->
  g≠[]/\
  (e0_1=true->List.length cd<=(1000000000:Nat))/\
  (bif e0_1 then (J9 g).slot else (J9 g).slot,bif e0_1 then f else f,bif e0_1 then b else b,bif e0_1 then d else d,bif e0_1 then e else e,
  bif e0_1 then sp else sp,bif e0_1 then rd else rd,bif e0_1 then a else a,bif e0_1 then mput (λ(x y:Int)=>x==y) ce (J9 g).reg oc else ce,
  bif e0_1 then op else op,bif e0_1 then ks else ks,bif e0_1 then IntKind.i64.wrap (oc+(1:Int)) else oc,
  bif e0_1 then cd++[RIns.mk (2:Int) (J9 g).slot oc (Ins.mk (0:Int) (0:Int) [] [] [])] else cd,bif e0_1 then ou else ou,())=
  h)):=by kernel_rfl
theorem cn9 (n e:Int) (a:List Ins) (b c:List Int) (sp:Spans) (rd:Reads) (d:Holds) (ce:List (Int×Int)) (op ks oc:Int) (cd:List RIns) (ou:List Place):vc (EV [(54,cSlot)]) noL Go.Proofs.Tryd.f86 cGetA (n,e,a,b,c,sp,rd,d,ce,op,ks,oc,cd,ou,())=(
 let f:Int×Int×List Ins×List Int×List Int×List (Int×Span)×List (Int×List Int)×List (Place×Int)×List (Int×Int)×Int×Int×Int×List RIns×List Place×Unit:=
  ((C0 d ks n).n,e,a,b,c,sp,rd,d,ce,op,ks,oc,cd,ou,());
  Small RU (Sigma.mk (Ty.slice (52:Nat) (Ty.user (0:Nat))) a)->
  Small RU (Sigma.mk (Ty.slice (3:Nat) (Ty.int IntKind.i64)) b)->
  Small RU (Sigma.mk (Ty.slice (3:Nat) (Ty.int IntKind.i64)) c)->
  Small RU (Sigma.mk (Ty.slice (55:Nat) (Ty.user (1:Nat))) cd)->Small RU (Sigma.mk (Ty.slice (59:Nat) (Ty.user (2:Nat))) ou)->ks<=(64:Int)/\f=f):=by kernel_rfl
theorem co0 (n:Int) (m:List (Int×Int)):vc (EV []) noL Go.Proofs.Tryd.f87 cOld (n,m,())=((Option.getD (mget (λ(x y:Int)=>x==y) m n) (0:Int),m,())=(getI m n,m,())):=by kernel_rfl
theorem bG6 (a b:Int) (c e:List Int) (d:List Ins) (m:Int) (j:List Ins) (k l:List Int) (sp:Spans) (rd:Reads) (f:Holds) (ce:List (Int×Int)) (op ks oc:Int) (cd:List RIns) (ou:List Place) (sl:List (Int×Int)):vc (EV [(96,cBody),(86,cGetA),(87,cOld)]) (aY8 a b c e d f ks sl) Go.Proofs.Tryd.f73 cCalledA (a,b,c,e,d,m,j,k,l,sp,rd,f,ce,op,ks,oc,cd,ou,sl,())=(
 let q:
  List Ins×
  Int×List Ins×List Int×List Int×List (Int×Span)×List (Int×List Int)×List (Place×Int)×List (Int×Int)×Int×Int×Int×List RIns×List Place×List (Int×Int)×Unit:=
  (d,m,j,k,l,sp,rd,f,ce,op,ks,oc,cd,ou,sl,());
 let g:Ins:=Ins.mk (0:Int) (0:Int) [] [] [];
 let h:List Ins:=[Ins.mk a b c e d];
 let i:Int:=(↑(List.length e):Int);
  Small RU (Sigma.mk (Ty.slice (3:Nat) (Ty.int IntKind.i64)) c)->
  Small RU (Sigma.mk (Ty.slice (3:Nat) (Ty.int IntKind.i64)) e)->
  Small RU (Sigma.mk (Ty.slice (52:Nat) (Ty.user (0:Nat))) d)->
  Small RU (Sigma.mk (Ty.slice (52:Nat) (Ty.user (0:Nat))) j)->
  Small RU (Sigma.mk (Ty.slice (3:Nat) (Ty.int IntKind.i64)) k)->
  Small RU (Sigma.mk (Ty.slice (3:Nat) (Ty.int IntKind.i64)) l)->
  Small RU (Sigma.mk (Ty.slice (55:Nat) (Ty.user (1:Nat))) cd)->
  Small RU (Sigma.mk (Ty.slice (59:Nat) (Ty.user (2:Nat))) ou)->
  (List.length h<=(1599289640354:Nat)/\G6 h=true)/\
  ((0:Int)<=(0:Int)/\(0:Int)<(↑(List.length h):Int))/\
  (∃ (p:Int×List Ins×Unit),
  a=a/\
  b=b/\
  c=c/\
  e=e/\
  d=d/\
  (0:Int)=(0:Int)/\
  i=i/\
  (0:Int)=p.1/\
  m=m/\
  j=j/\
  k=k/\
  l=l/\
  op=op/\
  ks=ks/\
  oc=oc/\
  sp=sp/\
  rd=rd/\
  f=f/\
  ce=ce/\
  cd=cd/\
  ou=ou/\
  sl=sl/\
  a=a/\
  b=b/\
  c=c/\
  e=e/\
  d=d/\
  (0:Int)=(0:Int)/\
  (0:Int)=(0:Int)/\
  h=h/\
  h=p.2.1/\
  a=a/\
  b=b/\
  (0:Int)=(0:Int)/\
  (0:Int)=(0:Int)/\
  d=d/\
  (0:Int)<=p.1/\
  p.1<=i/\
  p.2.1=
  [Ins.mk a b c
  (List.map (getI sl) (List.take (Int.toNat p.1) e)++List.drop (Int.toNat p.1) e) d])/\
  ∀ (p:Int×List Ins×Unit),
 let e0_1:Ins:=List.getD p.2.1 (0:Nat) g;
 let e1_1:Bool:=decide (p.1<i);
 let e2_1:Int:=p.1;
 let e3_1:List Ins:=p.2.1;
 let o:Int:=(↑(List.length e0_1.to):Int);
  (0:Int)<=e2_1/\e2_1<=i/\e3_1=[Ins.mk a b c (List.map (getI sl) (List.take (Int.toNat e2_1) e)++List.drop (Int.toNat e2_1) e) d]->
  (e1_1=true->
  ((0:Int)<=e2_1/\e2_1<(↑(List.length e0_1.from_):Int))/\
  (True/\sl=sl/\True)/\
  ((0:Int)<=e2_1/\e2_1<(↑(List.length e0_1.from_):Int))/\
  ∃ (p':Int×List Ins×Unit),
  a=a/\
  b=b/\
  c=c/\
  e=e/\
  d=d/\
  (0:Int)=(0:Int)/\
  i=i/\
  IntKind.i64.wrap (e2_1+(1:Int))=p'.1/\
  m=m/\
  j=j/\
  k=k/\
  l=l/\
  op=op/\
  ks=ks/\
  oc=oc/\
  sp=sp/\
  rd=rd/\
  f=f/\
  ce=ce/\
  cd=cd/\
  ou=ou/\
  sl=sl/\
  a=a/\
  b=b/\
  c=c/\
  e=e/\
  d=d/\
  (0:Int)=(0:Int)/\
  (0:Int)=(0:Int)/\
  h=h/\
  List.set e3_1 (0:Nat)
  (Ins.mk e0_1.op e0_1.n e0_1.to
  (List.set e0_1.from_ (Int.toNat e2_1)
  (getI sl (List.getD e0_1.from_ (Int.toNat e2_1) (0:Int))))
  e0_1.body)=
  p'.2.1/\
  a=a/\
  b=b/\
  (0:Int)=(0:Int)/\
  (0:Int)=(0:Int)/\
  d=d/\
  ((0:Int)<=p'.1/\
  p'.1<=i/\
  p'.2.1=
  [Ins.mk a b c
  (List.map (getI sl) (List.take (Int.toNat p'.1) e)++
  List.drop (Int.toNat p'.1) e)
  d])/\
  List.length e-Int.toNat p'.1<List.length e-Int.toNat e2_1)/\
  (e1_1=false->
  (∃ (p:Int×List Ins×Unit),
  a=a/\
  b=b/\
  c=c/\
  e=e/\
  d=d/\
  (0:Int)=(0:Int)/\
  i=i/\
  e2_1=e2_1/\
  e1_1=e1_1/\
  (0:Int)=(0:Int)/\
  o=o/\
  (0:Int)=p.1/\
  m=m/\
  j=j/\
  k=k/\
  l=l/\
  op=op/\
  ks=ks/\
  oc=oc/\
  sp=sp/\
  rd=rd/\
  f=f/\
  ce=ce/\
  cd=cd/\
  ou=ou/\
  sl=sl/\
  a=a/\
  b=b/\
  c=c/\
  e=e/\
  d=d/\
  (0:Int)=(0:Int)/\
  (0:Int)=(0:Int)/\
  h=h/\
  e3_1=p.2.1/\
  a=a/\
  b=b/\
  (0:Int)=(0:Int)/\
  (0:Int)=(0:Int)/\
  d=d/\
  (0:Int)<=p.1/\
  p.1<=(↑(List.length c):Int)/\
  p.2.1=
  [Ins.mk a b
  (List.map (λ(n:Int)=>(C0 f ks n).n)
  (List.take (Int.toNat p.1) c)++
  List.drop (Int.toNat p.1) c)
  (List.map (getI sl) e) d])/\
  ∀ (p:Int×List Ins×Unit),
 let e0_2:Ins:=List.getD p.2.1 (0:Nat) g;
 let g:Int:=p.1;
 let e2_2:Bool:=decide (g<o);
 let e3_2:List Ins:=p.2.1;
  (0:Int)<=g/\
  g<=(↑(List.length c):Int)/\
  e3_2=[Ins.mk a b (List.map (λ(n:Int)=>(C0 f ks n).n) (List.take (Int.toNat g) c)++List.drop (Int.toNat g) c) (List.map (getI sl) e) d]->
  (e2_2=true->
  ((0:Int)<=g/\g<(↑(List.length e0_2.to):Int))/\
  (ks<=(64:Int)/\True)/\
  ((0:Int)<=g/\g<(↑(List.length e0_2.to):Int))/\
  ∃ (p':Int×List Ins×Unit),
  a=a/\
  b=b/\
  c=c/\
  e=e/\
  d=d/\
  (0:Int)=(0:Int)/\
  i=i/\
  e2_1=e2_1/\
  e1_1=e1_1/\
  (0:Int)=(0:Int)/\
  o=o/\
  IntKind.i64.wrap (g+(1:Int))=p'.1/\
  m=m/\
  j=j/\
  k=k/\
  l=l/\
  op=op/\
  ks=ks/\
  oc=oc/\
  sp=sp/\
  rd=rd/\
  f=f/\
  ce=ce/\
  cd=cd/\
  ou=ou/\
  sl=sl/\
  a=a/\
  b=b/\
  c=c/\
  e=e/\
  d=d/\
  (0:Int)=(0:Int)/\
  (0:Int)=(0:Int)/\
  h=h/\
  List.set e3_2 (0:Nat)
  (Ins.mk e0_2.op e0_2.n
  (List.set e0_2.to (Int.toNat g)
  (C0 f ks (List.getD e0_2.to (Int.toNat g) (0:Int))).n)
  e0_2.from_ e0_2.body)=
  p'.2.1/\
  a=a/\
  b=b/\
  (0:Int)=(0:Int)/\
  (0:Int)=(0:Int)/\
  d=d/\
  ((0:Int)<=p'.1/\
  p'.1<=(↑(List.length c):Int)/\
  p'.2.1=
  [Ins.mk a b
  (List.map (λ(n:Int)=>(C0 f ks n).n)
  (List.take (Int.toNat p'.1) c)++
  List.drop (Int.toNat p'.1) c)
  (List.map (getI sl) e) d])/\
  List.length c-Int.toNat p'.1<List.length c-Int.toNat g)/\
  (e2_2=false->(a,b,e0_2.to,e0_2.from_,q)=(a,b,List.map (λ(n:Int)=>(C0 f ks n).n) c,List.map (getI sl) e,q)))):=by kernel_rfl
theorem cc8 (d e:Int) (a b:List Int) (c:List Ins):vc (EV []) noL Go.Proofs.Tryd.f52 cReads (d,e,a,b,c,())=(
 let f:Int×Int×List Int×List Int×List Ins×Unit:=(d,e,a,b,c,());
  Small RU (Sigma.mk (Ty.slice (3:Nat) (Ty.int IntKind.i64)) a)->
  Small RU (Sigma.mk (Ty.slice (3:Nat) (Ty.int IntKind.i64)) b)->Small RU (Sigma.mk (Ty.slice (52:Nat) (Ty.user (0:Nat))) c)->f=f):=by kernel_rfl
theorem bS8 (st:Int) (d:List Int) (g h:Int) (e a:List Int) (f:List Ins):vc (EVy [(0,0),(1,1)] (some at5) [(61,cContains)]) (bq7 a d) Go.Proofs.Tryd.f83 aY9 (st,d,g,h,e,a,f,())=(
 let j:Int×List Int×Unit:=((0:Int),d++B0 a,());
 let b:Int:=(↑(List.length a):Int);
  Small RU (Sigma.mk (Ty.slice (3:Nat) (Ty.int IntKind.i64)) d)->
  Small RU (Sigma.mk (Ty.slice (3:Nat) (Ty.int IntKind.i64)) e)->
  Small RU (Sigma.mk (Ty.slice (3:Nat) (Ty.int IntKind.i64)) a)->
  Small RU (Sigma.mk (Ty.slice (52:Nat) (Ty.user (0:Nat))) f)->
  (∃ (p:Int×Int×List Int×Unit),
  a=a/\
  b=b/\
  (0:Int)=p.1/\
  st=p.2.1/\
  d=p.2.2.1/\
  g=g/\h=h/\e=e/\a=a/\f=f/\(0:Int)<=p.1/\p.1<=b/\p.2.1=(0:Int)/\p.2.2.1=d++B0 (List.take (Int.toNat p.1) a))/\
  ∀ (p:Int×Int×List Int×Unit),
 let e0_1:List Int:=p.2.2.1;
 let e1_1:List Int:=e0_1++[List.getD a (Int.toNat p.1) (0:Int)];
 let k:Bool:=List.contains (List.take (Int.toNat p.1) a) (List.getD a (Int.toNat p.1) (0:Int));
 let c:Int:=p.1;
 let i:Int:=p.2.1;
 let l:Bool:=decide (c<b);
  (0:Int)<=c/\c<=b/\i=(0:Int)/\e0_1=d++B0 (List.take (Int.toNat c) a)->
  (l=true->
  ((0:Int)<=c/\c<b)/\
  ((0:Int)<=c/\c<=b)/\
  (k=true->
  ∃ (p':Int×Int×List Int×Unit),
  a=a/\
  b=b/\
  IntKind.i64.wrap (c+(1:Int))=p'.1/\
  i=p'.2.1/\
  e0_1=p'.2.2.1/\
  g=g/\
  h=h/\
  e=e/\
  a=a/\
  f=f/\
  ((0:Int)<=p'.1/\p'.1<=b/\p'.2.1=(0:Int)/\p'.2.2.1=d++B0 (List.take (Int.toNat p'.1) a))/\
  List.length a-Int.toNat p'.1<List.length a-Int.toNat c)/\
  (k=false->
  (i=(0:Int)/\List.length e0_1<=(17592186044400:Nat))/\
  ((!true)=true->((0:Int),e1_1,())=j)/\
  ((!true)=false->
  ∃ (p':Int×Int×List Int×Unit),
  a=a/\
  b=b/\
  IntKind.i64.wrap (c+(1:Int))=p'.1/\
  (0:Int)=p'.2.1/\
  e1_1=p'.2.2.1/\
  g=g/\
  h=h/\
  e=e/\
  a=a/\
  f=f/\
  ((0:Int)<=p'.1/\p'.1<=b/\p'.2.1=(0:Int)/\p'.2.2.1=d++B0 (List.take (Int.toNat p'.1) a))/\
  List.length a-Int.toNat p'.1<List.length a-Int.toNat c)))/\
  (l=false->(i,e0_1,())=j)):=by kernel_rfl
theorem cu9 (i d e:Int) (c b:List Int) (f:List Ins) (l:Int) (h:List Ins) (j k:List Int) (sp:Spans) (rd:Reads) (o:Holds) (ce:List (Int×Int)) (op ks oc:Int) (cd:List RIns) (ou:List Place):vc (EVd [] itDo [(52,cReads),(54,cSlot),(84,cRoom),(85,cPutA),(73,cCalledA)]) (lDo sp rd ks h.length i c b ⟨o,ce,oc,cd⟩) Go.Proofs.Tryd.f53 cDo (i,d,e,c,b,f,l,h,j,k,sp,rd,o,ce,op,ks,oc,cd,ou,())=(
 let g:Int:=(↑(List.length ([]++B0 b)):Int);
 let a:List Int:=[]++B0 b;
 let t:AS:=doOf sp rd ks (↑(List.length h):Int) i (Ins.mk d e c b f) (AS.mk o ce oc cd);
 let m:Int:=(↑(List.length h):Int);
 let u:Int:=IntKind.i64.wrap (i+(1:Int));
 let q:Int:=(↑(List.length c):Int);
 let r:AS:=D4 sp rd ks m i (B0 b) (AS.mk o ce oc cd) (B0 b);
  Small RU (Sigma.mk (Ty.slice (3:Nat) (Ty.int IntKind.i64)) c)->
  Small RU (Sigma.mk (Ty.slice (3:Nat) (Ty.int IntKind.i64)) b)->
  Small RU (Sigma.mk (Ty.slice (52:Nat) (Ty.user (0:Nat))) f)->
  Small RU (Sigma.mk (Ty.slice (52:Nat) (Ty.user (0:Nat))) h)->
  Small RU (Sigma.mk (Ty.slice (3:Nat) (Ty.int IntKind.i64)) j)->
  Small RU (Sigma.mk (Ty.slice (3:Nat) (Ty.int IntKind.i64)) k)->
  Small RU (Sigma.mk (Ty.slice (55:Nat) (Ty.user (1:Nat))) cd)->
  Small RU (Sigma.mk (Ty.slice (59:Nat) (Ty.user (2:Nat))) ou)->
  (∀ (xs:Int×Int×List Int×Unit),
 let g:List Int:=xs.2.2.1;
  xs.2.1=(0:Int)/\List.length g<=(17592186044400:Nat)->
  Small RU (Sigma.mk (Ty.slice (3:Nat) (Ty.int IntKind.i64)) g)->
  xs.2.1=(0:Int)/\(List.length g+List.length [xs.1])*(8:Nat)<=(140737488355328:Nat)/\(true,(0:Int),g++[xs.1],())=at5.fn xs)/\
  ((0:Int)=(0:Int)/\List.length ([]:List Int)+List.length b<=(17592186044400:Nat))/\
  (0:Int)=(0:Int)/\
  (∃ (p:Int×List (Place×Int)×List (Int×Int)×Int×List RIns×Unit),
  i=i/\
  d=d/\
  e=e/\
  c=c/\
  b=b/\
  f=f/\
  a=a/\
  g=g/\
  (0:Int)=p.1/\
  l=l/\
  h=h/\
  j=j/\
  k=k/\
  op=op/\
  ks=ks/\
  oc=p.2.2.2.1/\
  sp=sp/\
  rd=rd/\
  o=p.2.1/\
  ce=p.2.2.1/\
  cd=p.2.2.2.2.1/\
  ou=ou/\
  d=d/\
  e=e/\
  c=c/\
  b=b/\
  f=f/\
  a=a/\
  a=a/\
  (0:Int)<=p.1/\
  p.1<=(↑(List.length (B0 b)):Int)/\
  D4 sp rd ks m i (B0 b) (AS.mk o ce oc cd) (List.take (Int.toNat p.1) (B0 b))=
  AS.mk p.2.1 p.2.2.1 p.2.2.2.1 p.2.2.2.2.1)/\
  ∀ (p:Int×List (Place×Int)×List (Int×Int)×Int×List RIns×Unit),
 let e0_1:AS:=(F7 sp rd ks m (AS.mk p.2.1 p.2.2.1 p.2.2.2.1 p.2.2.2.2.1) i a).2;
 let e1_1:Int:=p.2.2.2.1;
 let e2_1:List RIns:=p.2.2.2.2.1;
 let e3_1:List (Place×Int):=p.2.1;
 let e4_1:List (Int×Int):=p.2.2.1;
 let e5_1:Bool:=decide (p.1<g);
 let e6_1:Int:=p.1;
 let v:Bool:=
  !((C0 e3_1 ks (List.getD a (Int.toNat e6_1) (0:Int))).cell==true&&((C0 e3_1 ks (List.getD a (Int.toNat e6_1) (0:Int))).n==(-1:Int)&&true));
 let w:Int:=(F7 sp rd ks m (AS.mk e3_1 e4_1 e1_1 e2_1) i a).1;
 let s:Int:=(↑(List.length (B0 b)):Int);
  (0:Int)<=e6_1/\e6_1<=s/\D4 sp rd ks m i (B0 b) (AS.mk o ce oc cd) (List.take (Int.toNat e6_1) (B0 b))=AS.mk e3_1 e4_1 e1_1 e2_1->
  (e5_1=true->
  ((0:Int)<=e6_1/\e6_1<g)/\
  ks<=(64:Int)/\
  (v=true->
  ∃ (p':Int×List (Place×Int)×List (Int×Int)×Int×List RIns×Unit),
  i=i/\
  d=d/\
  e=e/\
  c=c/\
  b=b/\
  f=f/\
  a=a/\
  g=g/\
  IntKind.i64.wrap (e6_1+(1:Int))=p'.1/\
  l=l/\
  h=h/\
  j=j/\
  k=k/\
  op=op/\
  ks=ks/\
  e1_1=p'.2.2.2.1/\
  sp=sp/\
  rd=rd/\
  e3_1=p'.2.1/\
  e4_1=p'.2.2.1/\
  e2_1=p'.2.2.2.2.1/\
  ou=ou/\
  d=d/\
  e=e/\
  c=c/\
  b=b/\
  f=f/\
  a=a/\
  a=a/\
  ((0:Int)<=p'.1/\
  p'.1<=s/\
  D4 sp rd ks m i (B0 b) (AS.mk o ce oc cd)
  (List.take (Int.toNat p'.1) (B0 b))=
  AS.mk p'.2.1 p'.2.2.1 p'.2.2.2.1 p'.2.2.2.2.1)/\
  List.length (B0 b)-Int.toNat p'.1<List.length (B0 b)-Int.toNat e6_1)/\
  (v=false->
  ((∀ (n:Int),List.Pairwise (λ(d e:Int)=>d<=e) (getL rd n))/\
  ((H5 sp rd ks m e3_1 i a).1=none->(H5 sp rd ks m e3_1 i a).2≠[])/\
  ks<=(64:Int)/\(0:Int)<=e1_1/\e1_1<=(1000000000:Int)/\List.length e2_1<=(1000000000:Nat))/\
  List.length e0_1.code<=(1000000000:Nat)/\
  ∃ (p':Int×List (Place×Int)×List (Int×Int)×Int×List RIns×Unit),
  i=i/\
  d=d/\
  e=e/\
  c=c/\
  b=b/\
  f=f/\
  a=a/\
  g=g/\
  IntKind.i64.wrap (e6_1+(1:Int))=p'.1/\
  l=l/\
  h=h/\
  j=j/\
  k=k/\
  op=op/\
  ks=ks/\
  e0_1.ocells=p'.2.2.2.1/\
  sp=sp/\
  rd=rd/\
  mput (F6 RU (Ty.user (2:Nat))) e0_1.holds (Place.mk false w) (List.getD a (Int.toNat e6_1) (0:Int))=
  p'.2.1/\
  e0_1.cells=p'.2.2.1/\
  e0_1.code++
  [RIns.mk (1:Int) w
  (Option.getD (mget (λ(x y:Int)=>x==y) e0_1.cells (List.getD a (Int.toNat e6_1) (0:Int)))
  (0:Int))
  (Ins.mk (0:Int) (0:Int) [] [] [])]=
  p'.2.2.2.2.1/\
  ou=ou/\
  d=d/\
  e=e/\
  c=c/\
  b=b/\
  f=f/\
  a=a/\
  a=a/\
  ((0:Int)<=p'.1/\
  p'.1<=s/\
  D4 sp rd ks m i (B0 b) (AS.mk o ce oc cd)
  (List.take (Int.toNat p'.1) (B0 b))=
  AS.mk p'.2.1 p'.2.2.1 p'.2.2.2.1 p'.2.2.2.2.1)/\
  List.length (B0 b)-Int.toNat p'.1<List.length (B0 b)-Int.toNat e6_1))/\
  (e5_1=false->
  (∃ (p:Int×List (Int×Int)×Unit),
  i=i/\
  d=d/\
  e=e/\
  c=c/\
  b=b/\
  f=f/\
  a=a/\
  g=g/\
  e6_1=e6_1/\
  e5_1=e5_1/\
  a=a/\
  g=g/\
  (0:Int)=p.1/\
  l=l/\
  h=h/\
  j=j/\
  k=k/\
  op=op/\
  ks=ks/\
  e1_1=e1_1/\
  sp=sp/\
  rd=rd/\
  e3_1=e3_1/\
  e4_1=e4_1/\
  e2_1=e2_1/\
  ou=ou/\
  d=d/\
  e=e/\
  c=c/\
  b=b/\
  f=f/\
  a=a/\
  a=a/\
  []=p.2.1/\
  (0:Int)<=p.1/\
  p.1<=s/\p.2.1=H9 r.holds ks (List.take (Int.toNat p.1) (B0 b)))/\
  ∀ (p:Int×List (Int×Int)×Unit),
 let e0_2:Bool:=decide (p.1<g);
 let e1_2:List (Int×Int):=p.2.1;
 let e2_2:Int:=p.1;
  (0:Int)<=e2_2/\e2_2<=s/\e1_2=H9 r.holds ks (List.take (Int.toNat e2_2) (B0 b))->
  (e0_2=true->
  ((0:Int)<=e2_2/\e2_2<g)/\
  ks<=(64:Int)/\
  ∃ (p':Int×List (Int×Int)×Unit),
  i=i/\
  d=d/\
  e=e/\
  c=c/\
  b=b/\
  f=f/\
  a=a/\
  g=g/\
  e6_1=e6_1/\
  e5_1=e5_1/\
  a=a/\
  g=g/\
  IntKind.i64.wrap (e2_2+(1:Int))=p'.1/\
  l=l/\
  h=h/\
  j=j/\
  k=k/\
  op=op/\
  ks=ks/\
  e1_1=e1_1/\
  sp=sp/\
  rd=rd/\
  e3_1=e3_1/\
  e4_1=e4_1/\
  e2_1=e2_1/\
  ou=ou/\
  d=d/\
  e=e/\
  c=c/\
  b=b/\
  f=f/\
  a=a/\
  a=a/\
  mput (λ(x y:Int)=>x==y) e1_2 (List.getD a (Int.toNat e2_2) (0:Int))
  (C0 e3_1 ks (List.getD a (Int.toNat e2_2) (0:Int))).n=
  p'.2.1/\
  ((0:Int)<=p'.1/\
  p'.1<=s/\
  p'.2.1=H9 r.holds ks (List.take (Int.toNat p'.1) (B0 b)))/\
  List.length (B0 b)-Int.toNat p'.1<
  List.length (B0 b)-Int.toNat e2_2)/\
  (e0_2=false->
  (∃ (p:Int×List (Place×Int)×List (Int×Int)×Int×List RIns×Unit),
  i=i/\
  d=d/\
  e=e/\
  c=c/\
  b=b/\
  f=f/\
  a=a/\
  g=g/\
  e6_1=e6_1/\
  e5_1=e5_1/\
  a=a/\
  g=g/\
  e2_2=e2_2/\
  e0_2=e0_2/\
  c=c/\
  q=q/\
  (0:Int)=p.1/\
  l=l/\
  h=h/\
  j=j/\
  k=k/\
  op=op/\
  ks=ks/\
  e1_1=p.2.2.2.1/\
  sp=sp/\
  rd=rd/\
  e3_1=p.2.1/\
  e4_1=p.2.2.1/\
  e2_1=p.2.2.2.2.1/\
  ou=ou/\
  d=d/\
  e=e/\
  c=c/\
  b=b/\
  f=f/\
  a=a/\
  a=a/\
  e1_2=e1_2/\
  (0:Int)<=p.1/\
  p.1<=q/\
  I2 sp rd ks m i c r (List.take (Int.toNat p.1) c)=
  AS.mk p.2.1 p.2.2.1 p.2.2.2.1 p.2.2.2.2.1)/\
  ∀ (p:Int×List (Place×Int)×List (Int×Int)×Int×List RIns×Unit),
 let e0_3:AS:=(F7 sp rd ks m (AS.mk p.2.1 p.2.2.1 p.2.2.2.1 p.2.2.2.2.1) u c).2;
 let e1_3:AS:=AS.mk p.2.1 p.2.2.1 p.2.2.2.1 p.2.2.2.2.1;
 let e2_3:Int:=p.2.2.2.1;
 let e3_2:List RIns:=p.2.2.2.2.1;
 let e4_2:List (Place×Int):=p.2.1;
 let e5_2:Int:=p.1;
 let e6_2:Bool:=decide (e5_2<q);
  (0:Int)<=e5_2/\e5_2<=q/\I2 sp rd ks m i c r (List.take (Int.toNat e5_2) c)=e1_3->
  (e6_2=true->
  ((0:Int)<=e5_2/\e5_2<q)/\
  ((∀ (n:Int),List.Pairwise (λ(d e:Int)=>d<=e) (getL rd n))/\
  ((H5 sp rd ks m e4_2 u c).1=none->(H5 sp rd ks m e4_2 u c).2≠[])/\
  ks<=(64:Int)/\(0:Int)<=e2_3/\e2_3<=(1000000000:Int)/\List.length e3_2<=(1000000000:Nat))/\
  ∃ (p':Int×List (Place×Int)×List (Int×Int)×Int×List RIns×Unit),
  i=i/\
  d=d/\
  e=e/\
  c=c/\
  b=b/\
  f=f/\
  a=a/\
  g=g/\
  e6_1=e6_1/\
  e5_1=e5_1/\
  a=a/\
  g=g/\
  e2_2=e2_2/\
  e0_2=e0_2/\
  c=c/\
  q=q/\
  IntKind.i64.wrap (e5_2+(1:Int))=p'.1/\
  l=l/\
  h=h/\
  j=j/\
  k=k/\
  op=op/\
  ks=ks/\
  e0_3.ocells=p'.2.2.2.1/\
  sp=sp/\
  rd=rd/\
  mput (F6 RU (Ty.user (2:Nat))) e0_3.holds
  (Place.mk false (F7 sp rd ks m e1_3 u c).1)
  (List.getD c (Int.toNat e5_2) (0:Int))=
  p'.2.1/\
  e0_3.cells=p'.2.2.1/\
  e0_3.code=p'.2.2.2.2.1/\
  ou=ou/\
  d=d/\
  e=e/\
  c=c/\
  b=b/\
  f=f/\
  a=a/\
  a=a/\
  e1_2=e1_2/\
  ((0:Int)<=p'.1/\
  p'.1<=q/\
  I2 sp rd ks m i c r
  (List.take (Int.toNat p'.1) c)=
  AS.mk p'.2.1 p'.2.2.1 p'.2.2.2.1
  p'.2.2.2.2.1)/\
  List.length c-Int.toNat p'.1<
  List.length c-Int.toNat e5_2)/\
  (e6_2=false->
  (((X4 c b f=true/\ks<=(64:Int))/\True)/\True)/\
  List.length e3_2<=(1000000000:Nat)/\
  (l,h,j,k,sp,rd,e4_2,p.2.2.1,op,ks,e2_3,
  e3_2++
  [RIns.mk (0:Int) (0:Int) (0:Int) (Ins.mk d e (List.map (λ(n:Int)=>(C0 e4_2 ks n).n) c) (List.map (getI e1_2) b) f)],
  ou,())=
  (l,h,j,k,sp,rd,t.holds,t.cells,op,ks,t.ocells,t.code,ou,()))))):=by kernel_rfl
theorem Z7 (sp:Spans) (rd:Reads) (N:Int) (m:Holds) (pl:Int) (st:List Int) (r:List Nat):∀ (l:List Nat) (acc:List Held),C2 sp rd N m pl st (l++r) acc=match C2 sp rd N m pl st l acc with
  |(none,acc')=>C2 sp rd N m pl st r acc'
  |x=>x
 |[],acc=>rfl
 |s::l,acc=>by
  simp only [List.cons_append,C2];cases mget eqP m ⟨false,(s:Int)⟩ with
  |none=>rfl
  |some n=>
   simp only;cases st.contains n with
   |true=>exact Z7 sp rd N m pl st r l acc
   |false=>
    simp only [cond_false];cases I6 (getS sp n).first (getS sp n).last pl with
    |true=>exact Z7 sp rd N m pl st r l _
    |false=>rfl
theorem ah5 (sp:Spans) (rd:Reads) (N:Int) (m:Holds) (pl:Int) (st:List Int):∀ (l:List Nat) (acc:List Held),(C2 sp rd N m pl st l acc).2.length<=acc.length+l.length
 |[],acc=>by simp [C2]
 |s::l,acc=>by
  simp only [C2];cases mget eqP m ⟨false,(s:Int)⟩ with
  |none=>simp
  |some n=>
   simp only;cases st.contains n with
   |true=>have:=ah5 sp rd N m pl st l acc;simp only [cond_true,cw9];omega
   |false=>
    simp only [cond_false];cases I6 (getS sp n).first (getS sp n).last pl with
    |true=>have:=ah5 sp rd N m pl st l (acc++[⟨(s:Int),n,ae8 rd N n pl⟩]);simp only [cond_true,cw9,cx5,List.length_nil] at this |-;omega
    |false=>simp
theorem at6 {sp:Spans} {rd:Reads} {N:Int} {m:Holds} {pl:Int} {st:List Int} {k:Nat} {acc:List Held} (h:C2 sp rd N m pl st (List.range k) []=(none,acc)):C2 sp rd N m pl st (List.range (k+1)) []=C2 sp rd N m pl st [k] acc:=by rw [List.range_succ,Z7,h]
theorem aZ0 {sp:Spans} {rd:Reads} {N:Int} {m:Holds} {pl:Int} {st:List Int} {k n:Nat} {acc:List Held} (a:k<n) (h:C2 sp rd N m pl st (List.range k) []=(none,acc)) {i:Int} (h2:C2 sp rd N m pl st [k] acc=(some i,acc)):C2 sp rd N m pl st (List.range n) []=(some i,acc):=by
 have:List.range n=List.range (k+1)++(List.range (n-(k+1))).map ((k+1)+·):=by rw [<-List.range_add];congr 1;omega
 rw [this,Z7,at6 h,h2]
theorem co1 (pl:Int) (st:List Int) (o:Int) (b:List Ins) (p q:List Int) (sp:Spans) (rd:Reads) (a:Holds) (ce:List (Int×Int)) (op ks oc:Int) (cd:List RIns) (ou:List Place)
  (y:ah4 rd/\U1 sp rd ks b.length a pl st/\ks<=64/\0<=oc/\oc<=1000000000/\cd.length<=1000000000):vc (EV [(100,cNext),(61,cContains),(69,cAt),(101,cBest),(85,cPutA)]) (cn7 sp rd ks b.length a pl st) Go.Proofs.Tryd.f84 cRoom (pl,st,o,b,p,q,sp,rd,a,ce,op,ks,oc,cd,ou,()):=by
 rw [cn8 pl st o b p q sp rd a ce op ks oc cd ou];intro r s _ _ _ _ _ _;obtain ⟨t,f,z,A,B,u⟩:=y;have c:r=((F7 sp rd ks b.length ⟨a,ce,oc,cd⟩ pl st).1,o,b,p,q,sp,rd,(F7 sp rd ks b.length ⟨a,ce,oc,cd⟩ pl st).2.holds,(F7 sp rd ks b.length ⟨a,ce,oc,cd⟩ pl st).2.cells,op,ks,(F7 sp rd ks b.length ⟨a,ce,oc,cd⟩ pl st).2.ocells,(F7 sp rd ks b.length ⟨a,ce,oc,cd⟩ pl st).2.code,ou,()):=rfl;have v:s=(o,b,p,q,sp,rd,a,ce,op,ks,oc,cd,ou,()):=rfl
 clear_value r s
 generalize (b.length:Int)=N at f c |-;simp only [true_and,and_true,Bool.cond_self];refine ⟨⟨(0,[],()),rfl,rfl,Int.le_refl _,.inr rfl,rfl⟩,?_⟩;rintro ⟨i,l,⟨⟩⟩ ⟨h0,h1,h2⟩;dsimp only at h0 h1 h2 |-;obtain ⟨k,rfl⟩:=cv9 h0;simp only [cv7] at h2 |-;have d:=ah5 sp rd N a pl st (List.range k) [];rw [h2] at d;simp only [List.length_nil,List.length_range,Nat.zero_add] at d;refine ⟨λg=>?_,λj=>?_⟩
 .have g:(k:Int)<ks:=cw3 g;have stop:C2 sp rd N a pl st [k] l=(some (k:Int),l)->((k:Int),s)=r:=λh=>by
   have hr:(H5 sp rd ks N a pl st)=(some (k:Int),l):=aZ0 (by omega) h2 h;have:F7 sp rd ks N ⟨a,ce,oc,cd⟩ pl st=((k:Int),⟨a,ce,oc,cd⟩):=by simp only [F7,hr]
   rw [c,this,v]
  have next:∀ l',C2 sp rd N a pl st [k] l=(none,l')->∃ p':Int×List Held×Unit,IntKind.i64.wrap ((k:Int)+1)=p'.1/\l'=p'.2.1/\(0<=p'.1/\(p'.1<=ks\/p'.1=0)/\C2 sp rd N a pl st (List.range p'.1.toNat) []=(none,p'.2.1))/\ks.toNat-p'.1.toNat<ks.toNat-k:=λl' h=>
   ⟨((k+1:Nat),l',()),by rw [F9 (by omega) (by omega)];rfl,rfl,⟨by omega,.inl (by dsimp only;omega),by dsimp only;rw [cv7,at6 h2,h]⟩,by dsimp only;omega⟩
  show ((!(mget eqP a ⟨false,(k:Int)⟩).isSome)=true->_)/\((!(mget eqP a ⟨false,(k:Int)⟩).isSome)=false->_);cases m:mget eqP a ⟨false,(k:Int)⟩ with
  |none=>refine ⟨λ_=>stop ?_,λh=>(by cases h)⟩;simp only [C2,m]
  |some n=>
   refine ⟨λh=>(by cases h),λ_=>?_⟩;have w:mget (F6 RU (Ty.user 2)) a ⟨false,(k:Int)⟩=some n:=m;simp only [w,Option.getD_some];refine ⟨λh=>?_,λh=>⟨λe=>stop ?_,λe=>⟨t,?_,?_⟩⟩⟩
   .exact next l (by simp only [C2,m,h,cond_true])
   .have e:I6 (getS sp n).first (getS sp n).last pl=false:=by simpa [getS] using e
    simp only [C2,m,h,e,cond_false]
   .simp only [cw9,List.length_nil];omega
   .have e:I6 (getS sp n).first (getS sp n).last pl=true:=by simpa [getS] using e
    exact next _ (by simp only [C2,m,h,e,cond_false,cond_true])
 .have j:¬ (k:Int)<ks:=cw2 j;have hr:H5 sp rd ks N a pl st=(none,l):=by
   rw [<-h2];show C2 sp rd N a pl st (List.range ks.toNat) []=_;congr 2;omega
  have x:l≠[]:=by have:=f;unfold U1 at this;rw [hr] at this;exact this rfl
  have C:F7 sp rd ks N ⟨a,ce,oc,cd⟩ pl st=((J9 l).slot,af0 ⟨a,ce,oc,cd⟩ (J9 l)):=by simp only [F7,hr]
  rw [C] at c;refine ⟨x,λ_=>u,?_⟩;rw [c];dsimp only [af0];show (_,_,_,_,_,_,_,_,(bif !(mget eqI ce (J9 l).reg).isSome then mput eqI ce (J9 l).reg oc else ce),_,_,(bif !(mget eqI ce (J9 l).reg).isSome then IntKind.i64.wrap (oc+1) else oc),(bif !(mget eqI ce (J9 l).reg).isSome then cd++[⟨2,(J9 l).slot,oc,ins0⟩] else cd),_,_)=_;rw [F9 (by omega) (by omega)];cases (mget eqI ce (J9 l).reg).isSome<;>rfl
theorem bG7:C9 prog RG 84 cRoom:=E8 (A7 bG4 (A7 O0 (A7 bx2 (A7 bG5 (A7 aR5 B9))))) (λ(pl,st,c,a,d,e,sp,rd,b,ce,op,ks,oc,cd,ou,())=>cn7 sp rd ks a.length b pl st) (by kernel_rfl) (by kernel_rfl) (by kernel_rfl) λ(pl,st,c,a,d,e,sp,rd,b,ce,op,ks,oc,cd,ou,()) f=>co1 pl st c a d e sp rd b ce op ks oc cd ou f
theorem bG8:C9 prog RG 86 cGetA:=E8 (A7 aw3 B9) (λ_=>noL) (by kernel_rfl) (by kernel_rfl) (by kernel_rfl) λ(n,b,c,d,e,sp,rd,f,ce,op,ks,oc,cd,ou,()) a=>(cn9 n b c d e sp rd f ce op ks oc cd ou).mpr (by
 have a:ks<=64:=a;intros;simp only [true_and,and_true];exact a)
theorem bG9:C9 prog RG 87 cOld:=E8 B9 (λ_=>noL) (by kernel_rfl) (by kernel_rfl) (by kernel_rfl) λ(n,m,()) _=>(co0 n m).mpr rfl
theorem bH0 (g h:Int) (b c:List Int) (f:List Ins) (s:Int) (t:List Ins) (u v:List Int) (sp:Spans) (rd:Reads) (j:Holds) (ce:List (Int×Int)) (op ks oc:Int) (cd:List RIns) (ou:List Place) (sl:List (Int×Int)) (w:X4 b c f=true/\ks<=64):
  vc (EV [(96,cBody),(86,cGetA),(87,cOld)]) (aY8 g h b c f j ks sl) Go.Proofs.Tryd.f73 cCalledA (g,h,b,c,f,s,t,u,v,sp,rd,j,ce,op,ks,oc,cd,ou,sl,()):=by
 rw [bG6 g h b c f s t u v sp rd j ce op ks oc cd ou sl];intro x y z A m o _ _ _ _ _ _;have p:b.length<=140737488355328:=m.len;have q:c.length<=140737488355328:=o.len
 clear_value x
 dsimp only [y,z,A];simp only [true_and,and_true];refine ⟨⟨by simp,?_⟩,⟨by omega,by simp⟩,⟨(0,_,()),rfl,rfl,Int.le_refl _,by dsimp only;omega,by simp⟩,?_⟩
 .simp only [G6,Bool.and_true];exact (L5 _).2 (W2.1 w.1)
 rintro ⟨i,l,⟨⟩⟩ ⟨h0,h1,h2⟩;dsimp only at h0 h1 h2 |-;subst h2;obtain ⟨k,rfl⟩:=cv9 h0;simp only [cv7,List.getD_cons_zero,List.set_cons_zero];have e:((c.take k).map (getI sl)).length=k:=by simp;omega
 refine ⟨λa=>?_,λd=>?_⟩
 .have a:(k:Int)<c.length:=cw3 a;rw [S5 e (by omega),ao9 e (by omega),ap0 e (by omega)];refine ⟨⟨h0,a⟩,⟨h0,a⟩,((k+1:Nat),[⟨g,h,b,(c.take (k+1)).map (getI sl)++c.drop (k+1),f⟩],()),B5 (by omega) q,?_,⟨by omega,by dsimp only;omega,by dsimp only;rw [cv7]⟩,by dsimp only;omega⟩;dsimp only;rw [A4 (by omega) 0,List.map_append];rfl
 have r:k=c.length:=by have:¬ (k:Int)<c.length:=cw2 d;omega
 subst r;simp only [cy3,List.drop_length,List.append_nil];clear h0 h1 d e;refine ⟨⟨(0,_,()),rfl,rfl,Int.le_refl _,by dsimp only;omega,by simp⟩,?_⟩;rintro ⟨i,l,⟨⟩⟩ ⟨h0,h1,h2⟩;dsimp only at h0 h1 h2 |-;subst h2;obtain ⟨k,rfl⟩:=cv9 h0;simp only [cv7,List.getD_cons_zero,List.set_cons_zero];have e:((b.take k).map (λn=>(C0 j ks n).n)).length=k:=by simp;omega
 refine ⟨λa=>?_,λd=>?_⟩
 .have a:(k:Int)<b.length:=cw3 a;rw [S5 e (by omega),ao9 e (by omega),ap0 e (by omega)];refine ⟨⟨h0,a⟩,w.2,⟨h0,a⟩,((k+1:Nat),[⟨g,h,(b.take (k+1)).map (λn=>(C0 j ks n).n)++b.drop (k+1),c.map (getI sl),f⟩],()),B5 (by omega) p,?_,⟨by omega,by dsimp only;omega,by dsimp only;rw [cv7]⟩,by dsimp only;omega⟩;dsimp only;rw [A4 (by omega) 0,List.map_append];rfl
 .have r:k=b.length:=by have:¬ (k:Int)<b.length:=cw2 d;omega
  subst r;simp only [cy3,List.drop_length,List.append_nil]
theorem aZ1:C9 prog RG 73 cCalledA:=E8 (A7 av8 (A7 bG8 (A7 bG9 B9))) (λ(a,b,c,d,e,g,h,i,j,sp,rd,f,ce,op,ks,oc,cd,ou,sl,())=>aY8 a b c d e f ks sl) (by kernel_rfl) (by kernel_rfl) (by kernel_rfl) λ(a,b,c,d,e,g,h,i,j,sp,rd,f,ce,op,ks,oc,cd,ou,sl,()) k=>bH0 a b c d e g h i j sp rd f ce op ks oc cd ou sl k
theorem am5 (x:Int):∀ (l seen:List Int),E4 seen (l++[x])=E4 seen l++bif (seen++l).contains x then [] else [x]
 |[],seen=>by simp only [List.nil_append,E4,List.append_nil]
 |y::l,seen=>by have ih:=am5 x l (seen++[y]);rw [cy0,List.singleton_append] at ih;simp only [List.cons_append,E4,ih];cases seen.contains y<;>rfl
theorem aR6 (l:List Int) (x:Int):B0 (l++[x])=bif l.contains x then B0 l else B0 l++[x]:=by unfold B0;rw [am5,List.nil_append];cases l.contains x<;>simp
theorem ah6 (l:List Int):(B0 l).length<=l.length:=by
 have key:∀ (l seen:List Int),(E4 seen l).length<=l.length:=by
  intro l
  induction l with
  |nil=>intro seen;simp [E4]
  |cons x r ih=>
   intro seen;have:=ih (seen++[x]);simp only [E4];cases seen.contains x with
   |true=>simp only [cond_true,cw9];omega
   |false=>simp only [cond_false,cw9];omega
 exact key l []
theorem aK3:C9 prog RG 52 cReads:=E8 B9 (λ_=>noL) (by kernel_rfl) (by kernel_rfl) (by kernel_rfl) λ(a,b,c,d,e,()) _=>(cc8 a b c d e).mpr (by intros;rfl)
theorem bS9 (s0:Int) (c:List Int) (m n:Int) (o a:List Int) (p:List Ins) (s:s0=0/\c.length+a.length<=17592186044400):vc (EVy [(0,0),(1,1)] (some at5) [(61,cContains)]) (bq7 a c) Go.Proofs.Tryd.f83 aY9 (s0,c,m,n,o,a,p,()):=by
 rw [bS8 s0 c m n o a p];intro r t _ _ e _;have d:a.length<=140737488355328:=e.len;have f:r=(0,c++B0 a,()):=rfl
 clear_value r
 dsimp only [t];simp only [true_and,and_true];refine ⟨⟨(0,0,c,()),rfl,s.1,rfl,Int.le_refl _,by dsimp only;omega,rfl,by simp [B0,E4]⟩,?_⟩;rintro ⟨i,st,l,⟨⟩⟩ ⟨h0,h1,h2,g⟩;dsimp only at h0 h1 h2 g |-;subst h2;obtain ⟨k,rfl⟩:=cv9 h0;simp only [cv7] at g |-;subst g;refine ⟨λb=>?_,λj=>?_⟩
 .have b:(k:Int)<a.length:=cw3 b;have hs:=aR6 (a.take k) (a.getD k 0);rw [<-A4 (by omega)] at hs;have hl:=ah6 (a.take k);rw [cy4] at hl;refine ⟨⟨h0,b⟩,⟨h0,by omega⟩,λq=>?_,λq=>⟨⟨trivial,by rw [cx5];omega⟩,λh=>(by cases h),λ_=>?_⟩⟩
  .rw [q] at hs;exact ⟨((k+1:Nat),0,_,()),B5 (by omega) d,rfl,rfl,⟨by omega,by dsimp only;omega,rfl,by dsimp only;rw [cv7,hs];rfl⟩,by dsimp only;omega⟩
  .rw [q] at hs;exact ⟨((k+1:Nat),0,_,()),B5 (by omega) d,rfl,rfl,⟨by omega,by dsimp only;omega,rfl,by dsimp only;rw [cv7,hs,cy0];rfl⟩,by dsimp only;omega⟩
 .have u:k=a.length:=by have:¬ (k:Int)<a.length:=cw2 j;omega
  subst u;rw [f,cy3]
theorem co2:ItOk itDo:=by
 intro f k kY mp h Y' b;unfold itDo at h;cases hf:Nat.beq f 83 with
 |false=>rw [hf] at h;cases h
 |true=>
  have hf:=cv4 hf;subst hf;simp only [Nat.beq_refl,cond_true,List.mem_cons,List.not_mem_nil,or_false,cw5] at h;obtain ⟨rfl,rfl,rfl⟩:=h;exact ak2 (E:=EVy [(0,0),(1,1)] (some at5) [(61,cContains)]) (bZ4 _ _ _) ⟨Z2 (λx a=>by rcases List.mem_cons.1 a with rfl|a;exact O0 _;cases a),λ_ _ _ _ _ h=>(by cases h),λ_ _ _ h=>(by cases h),λk c=>by cases c;exact b,λ_ _ _ _ h=>(by cases h)⟩ bn8 Go.Proofs.Tryd.func83 (by kernel_rfl)
    (λp=>bq7 p.2.2.2.2.2.1 p.2.1) (λ(st,d,e,g,i,j,l,()) m=>bS9 st d e g i j l m) (by kernel_rfl) rfl
theorem bT0 (s:AS) (x:Held):(af0 s x).code.length<=s.code.length+1/\s.ocells<=(af0 s x).ocells/\(af0 s x).ocells<=s.ocells+1:=by
 unfold af0;cases (mget eqI s.cells x.reg).isSome with
 |true=>simp only [cond_true];omega
 |false=>simp only [cond_false,cx5,cw9,List.length_nil];omega
theorem aw4 (sp:Spans) (rd:Reads) (ks N:Int) (s:AS) (pl:Int) (st:List Int):(F7 sp rd ks N s pl st).2.code.length<=s.code.length+1/\s.ocells<=(F7 sp rd ks N s pl st).2.ocells/\(F7 sp rd ks N s pl st).2.ocells<=s.ocells+1:=by
 unfold F7;split
 .simp only;omega
 .exact bT0 _ _
theorem bi3 (sp:Spans) (rd:Reads) (ks N i:Int) (fr:List Int) (s:AS) (n:Int):(F5 sp rd ks N i fr s n).code.length<=s.code.length+2/\s.ocells<=(F5 sp rd ks N i fr s n).ocells/\(F5 sp rd ks N i fr s n).ocells<=s.ocells+1:=by
 unfold F5;have:=aw4 sp rd ks N s i fr;cases (C0 s.holds ks n).cell with
 |true=>simp only [cond_true,cx5,cw9,List.length_nil];omega
 |false=>simp only [cond_false];omega
theorem ad9 (sp:Spans) (rd:Reads) (ks N i:Int) (fr:List Int):∀ (l:List Int) (s:AS),(D4 sp rd ks N i fr s l).code.length<=s.code.length+2*l.length/\s.ocells<=(D4 sp rd ks N i fr s l).ocells/\(D4 sp rd ks N i fr s l).ocells<=s.ocells+l.length
 |[],s=>by simp [D4]
 |x::r,s=>by have h1:=ad9 sp rd ks N i fr r (F5 sp rd ks N i fr s x);have h2:=bi3 sp rd ks N i fr s x;simp only [D4,List.foldl_cons,cw9] at h1 |-;omega
theorem bH1 (sp:Spans) (rd:Reads) (ks N i:Int) (to:List Int) (s:AS) (n:Int):(Q6 sp rd ks N i to s n).code.length<=s.code.length+1/\s.ocells<=(Q6 sp rd ks N i to s n).ocells/\(Q6 sp rd ks N i to s n).ocells<=s.ocells+1:=by have:=aw4 sp rd ks N s (i+1) to;exact this
theorem aK4 (sp:Spans) (rd:Reads) (ks N i:Int) (to:List Int):∀ (l:List Int) (s:AS),(I2 sp rd ks N i to s l).code.length<=s.code.length+l.length/\s.ocells<=(I2 sp rd ks N i to s l).ocells/\(I2 sp rd ks N i to s l).ocells<=s.ocells+l.length
 |[],s=>by simp [I2]
 |x::r,s=>by have h1:=aK4 sp rd ks N i to r (Q6 sp rd ks N i to s x);have h2:=bH1 sp rd ks N i to s x;simp only [I2,List.foldl_cons,cw9] at h1 |-;omega
theorem ah7 (sp:Spans) (rd:Reads) (ks N i:Int) (fr:List Int) (s:AS) (l:List Int) (x:Int):D4 sp rd ks N i fr s (l++[x])=F5 sp rd ks N i fr (D4 sp rd ks N i fr s l) x:=by simp [D4]
theorem ak7 (sp:Spans) (rd:Reads) (ks N i:Int) (to:List Int) (s:AS) (l:List Int) (x:Int):I2 sp rd ks N i to s (l++[x])=Q6 sp rd ks N i to (I2 sp rd ks N i to s l) x:=by simp [I2]
theorem bi4 (m:Holds) (ks n:Int):((C0 m ks n).cell==true&&((C0 m ks n).n==(-1:Int)))=(C0 m ks n).cell:=by
 unfold C0;split
 .rfl
 .rfl
theorem cv0 (i x y:Int) (b a:List Int) (w:List Ins) (K:Int) (C:List Ins) (L M:List Int) (sp:Spans) (rd:Reads) (p:Holds) (ce:List (Int×Int)) (op ks oc:Int) (cd:List RIns) (ou:List Place)
  (S:X4 b a w=true/\a.length<=17592186044400/\(B0 a).length<=64/\b.length<=64/\ah4 rd/\doOk sp rd ks C.length i ⟨x,y,b,a,w⟩ ⟨p,ce,oc,cd⟩/\ks<=64/\0<=i/\i<=1000000/\0<=oc/\oc<=100000000/\cd.length<=100000000):
  vc (EVd [] itDo [(52,cReads),(54,cSlot),(84,cRoom),(85,cPutA),(73,cCalledA)]) (lDo sp rd ks C.length i b a ⟨p,ce,oc,cd⟩) Go.Proofs.Tryd.f53 cDo (i,x,y,b,a,w,K,C,L,M,sp,rd,p,ce,op,ks,oc,cd,ou,()):=by
 rw [cu9 i x y b a w K C L M sp rd p ce op ks oc cd ou];obtain ⟨D,T,U,V,z,E,r,W,X,N,O,P⟩:=S;intro Y Z F g Q e5 u _ G _ _ _ _ _ _;have hl4:a.length<=140737488355328:=G.len;have hdl:=ah6 a;have he2:F=doOf sp rd ks g i ⟨x,y,b,a,w⟩ ⟨p,ce,oc,cd⟩:=rfl;have H:Q=i+1:=F9 (by omega) (by omega);have v:u=D4 sp rd ks g i (B0 a) ⟨p,ce,oc,cd⟩ (B0 a):=rfl;have A:=ad9 sp rd ks g i (B0 a) (B0 a) ⟨p,ce,oc,cd⟩;rw [<-v] at A;have I:F=⟨(I2 sp rd ks g i b u b).holds,(I2 sp rd ks g i b u b).cells,(I2 sp rd ks g i b u b).ocells,(I2 sp rd ks g i b u b).code++[⟨0,0,0,⟨x,y,b.map (λn=>(C0 (I2 sp rd ks g i b u b).holds ks n).n),a.map (getI (H9 u.holds ks (B0 a))),w⟩⟩]⟩:=rfl;obtain ⟨s,t⟩:=E;change ∀ k,k<(B0 a).length->(C0 (D4 sp rd ks g i (B0 a) ⟨p,ce,oc,cd⟩ ((B0 a).take k)).holds ks ((B0 a).getD k 0)).cell=true->U1 sp rd ks g (D4 sp rd ks g i (B0 a) ⟨p,ce,oc,cd⟩ ((B0 a).take k)).holds i (B0 a) at s;change ∀ k,k<b.length->U1 sp rd ks g (I2 sp rd ks g i b u (b.take k)).holds (i+1) b at t
 clear_value F Q u g
 subst H;dsimp only [Y,Z,e5];simp only [true_and,and_true,List.nil_append,Bool.and_true,bi4];refine ⟨?_,?_,⟨(0,p,ce,oc,cd,()),rfl,rfl,rfl,rfl,rfl,Int.le_refl _,by dsimp only;omega,rfl⟩,?_⟩
 .rintro ⟨n,st,l,⟨⟩⟩ ⟨h1,h2⟩ _;dsimp only at h1 h2 |-;exact ⟨h1,by simp only [cw9,List.length_nil];omega,rfl⟩
 .simp only [List.length_nil];omega
 rintro ⟨j,m,cc,c,q,⟨⟩⟩ ⟨h0,h1,h2⟩;dsimp only at h0 h1 h2 |-;obtain ⟨k,rfl⟩:=cv9 h0;simp only [cv7] at h2 |-;have J:=ad9 sp rd ks g i (B0 a) ((B0 a).take k) ⟨p,ce,oc,cd⟩;rw [h2,cy4] at J;dsimp only at J;refine ⟨λd=>?_,λh=>?_⟩
 .have d:(k:Int)<(B0 a).length:=cw3 d;have e:k<(B0 a).length:=by omega
  have o:=s k e;rw [h2] at o;have f:D4 sp rd ks g i (B0 a) ⟨p,ce,oc,cd⟩ ((B0 a).take (k+1))=F5 sp rd ks g i (B0 a) ⟨m,cc,c,q⟩ ((B0 a).getD k 0):=by rw [A4 e 0,ah7,h2]
  generalize (B0 a).getD k 0=n at o f |-;dsimp only at o;refine ⟨⟨h0,d⟩,r,λhc=>?_,λhc=>?_⟩
  .have hc:(C0 m ks n).cell=false:=by simpa using hc
   have hS:F5 sp rd ks g i (B0 a) ⟨m,cc,c,q⟩ n=⟨m,cc,c,q⟩:=by simp only [F5,hc,cond_false]
   exact ⟨((k+1:Nat),m,cc,c,q,()),B5 (m:=(B0 a).length) e (by omega),rfl,rfl,rfl,rfl,⟨by omega,by dsimp only;omega,by dsimp only;rw [cv7,f,hS]⟩,by dsimp only;omega⟩
  .have hc:(C0 m ks n).cell=true:=by simpa using hc
   have hR:=aw4 sp rd ks g ⟨m,cc,c,q⟩ i (B0 a);dsimp only at hR;refine ⟨⟨z,o hc,r,by omega,by omega,by omega⟩,by omega,((k+1:Nat),_,_,_,_,()),B5 (m:=(B0 a).length) e (by omega),rfl,rfl,rfl,rfl,⟨by omega,by dsimp only;omega,?_⟩,by dsimp only;omega⟩;dsimp only;rw [cv7,f];simp only [F5,hc,cond_true];rfl
 have B:k=(B0 a).length:=by have:¬ (k:Int)<(B0 a).length:=cw2 h;omega
 subst B;rw [cy3,<-v] at h2;clear v s h0 h1 h J;subst h2;dsimp only at A I t |-;refine ⟨⟨(0,[],()),rfl,rfl,Int.le_refl _,by dsimp only;omega,rfl⟩,?_⟩;rintro ⟨j,sl,⟨⟩⟩ ⟨h0,h1,h2⟩;dsimp only at h0 h1 h2 |-;obtain ⟨k,rfl⟩:=cv9 h0;simp only [cv7] at h2 |-;refine ⟨λd=>?_,λh=>?_⟩
 .have d:(k:Int)<(B0 a).length:=cw3 d;have e:k<(B0 a).length:=by omega
  refine ⟨⟨h0,d⟩,r,((k+1:Nat),_,()),B5 (m:=(B0 a).length) e (by omega),rfl,⟨by omega,by dsimp only;omega,?_⟩,by dsimp only;omega⟩;dsimp only;rw [cv7,A4 e 0,h2];simp only [H9,List.foldl_append,List.foldl_cons,List.foldl_nil]
 have B:k=(B0 a).length:=by have:¬ (k:Int)<(B0 a).length:=cw2 h;omega
 subst B;rw [cy3] at h2;subst h2;clear h0 h1 h;refine ⟨⟨(0,m,cc,c,q,()),rfl,rfl,rfl,rfl,rfl,Int.le_refl _,by dsimp only;omega,rfl⟩,?_⟩;rintro ⟨j,m2,cc2,c2,q2,⟨⟩⟩ ⟨h0,h1,h2⟩;dsimp only at h0 h1 h2 |-;obtain ⟨k,rfl⟩:=cv9 h0;simp only [cv7] at h2 |-;have R:=aK4 sp rd ks g i b (b.take k) ⟨m,cc,c,q⟩;rw [h2,cy4] at R;dsimp only at R;refine ⟨λd=>?_,λh=>?_⟩
 .have d:(k:Int)<b.length:=cw3 d;have e:k<b.length:=by omega
  have o:=t k e;rw [h2] at o;have f:I2 sp rd ks g i b ⟨m,cc,c,q⟩ (b.take (k+1))=Q6 sp rd ks g i b ⟨m2,cc2,c2,q2⟩ (b.getD k 0):=by rw [A4 e 0,ak7,h2]
  refine ⟨⟨h0,d⟩,⟨z,o,r,by omega,by omega,by omega⟩,((k+1:Nat),_,_,_,_,()),B5 (m:=b.length) e (by omega),rfl,rfl,rfl,rfl,⟨by omega,by dsimp only;omega,?_⟩,by dsimp only;omega⟩;dsimp only;rw [cv7,f];rfl
 .have B:k=b.length:=by have:¬ (k:Int)<b.length:=cw2 h;omega
  subst B;rw [cy3] at h2;rw [h2] at I;refine ⟨⟨D,r⟩,by omega,?_⟩;rw [I]
theorem cc9:C9 prog RG 53 cDo:=bw9 co2 (A7 aK3 (A7 aw3 (A7 bG7 (A7 aR5 (A7 aZ1 B9))))) (λ(i,e,f,a,b,g,h,c,j,k,sp,rd,d,ce,op,ks,oc,cd,ou,())=>lDo sp rd ks c.length i a b ⟨d,ce,oc,cd⟩) (by kernel_rfl) (by kernel_rfl) (by kernel_rfl) λ(i,e,f,a,b,g,h,c,j,k,sp,rd,d,ce,op,ks,oc,cd,ou,()) l=>cv0 i e f a b g h c j k sp rd d ce op ks oc cd ou l
def F8 (m:Reads) (l:List Int) (i:Int):Reads:=l.foldl (λm n=>mput eqI m n (getL m n++[i])) m
def M3:List Ins->Int->Reads->Reads
 |[],_,m=>m
 |x::r,i,m=>M3 r (i+1) (F8 m (B0 x.from_) i)
def I0 (code:List Ins):Reads:=M3 code 0 []
def Q3 (a:Nat):List (Int×Int):=(List.range a).foldl (λ(m:List (Int×Int)) (k:Nat)=>mput eqI m (k:Int) (k:Int)) []
def G4 (a:Int):AS:=⟨[],Q3 a.toNat,a,[]⟩
def runA (sp:Spans) (rd:Reads) (ks N:Int):List Ins->Int->AS->AS
 |[],_,s=>s
 |x::r,i,s=>runA sp rd ks N r (i+1) (doOf sp rd ks N i x s)
def fewX (ks:Int) (x:Ins):Bool:=decide (((B0 x.from_).length:Int)<=ks)&&decide ((x.to.length:Int)<=ks)
def outA (s:AS) (ks n:Int):Place:=bif (C0 s.holds ks n).cell then ⟨true,getI s.cells n⟩ else C0 s.holds ks n
def ap1 (f:VFun) (ks:Int):AS:=runA (A5 f.params f.code f.out) (I0 f.code) ks f.code.length f.code 0 (G4 f.params)
def B8 (f:VFun) (ks:Int):RCode×Int:=
 if C1 f≠0 then (aH6,C1 f) else if ks<1\/64<ks then (aH6,2) else if f.code.all (fewX ks)=false then (aH6,9)
 else (⟨f.params,ks,(ap1 f ks).ocells,(ap1 f ks).code,f.out.map (outA (ap1 f ks) ks)⟩,0)
theorem bx9 (sp:Spans) (rd:Reads) (ks N:Int) (r:List Ins):∀ (l:List Ins) (i:Int) (s:AS),runA sp rd ks N (l++r) i s=runA sp rd ks N r (i+l.length) (runA sp rd ks N l i s)
 |[],i,s=>by simp [runA]
 |x::l,i,s=>by simp only [List.cons_append,runA,bx9 sp rd ks N r l,cw9];congr 1;omega
theorem ah8 (sp:Spans) (rd:Reads) (ks N:Int) (l:List Ins) (x:Ins) (s:AS):runA sp rd ks N (l++[x]) 0 s=doOf sp rd ks N l.length x (runA sp rd ks N l 0 s):=by rw [bx9];simp [runA]
theorem ah9 {p q:Place}:eqP p q=true<->p=q:=by obtain ⟨c,n⟩:=p;obtain ⟨c',n'⟩:=q;show ((c==c')&&((n==n')&&true))=true<->_;simp
theorem H7 {β:Type} (m:List (Place×β)) (k:Place) (v:β) (n:Place):mget eqP (mput eqP m k v) n=if k=n then some v else mget eqP m n:=by
 induction m with
 |nil=>
  show (bif eqP k n then some v else none)=_;by_cases h:k=n
  .rw [if_pos h,ah9.2 h];rfl
  .have:eqP k n=false:=by rw [Bool.eq_false_iff];exact λh2=>h (ah9.1 h2)
   rw [if_neg h,this];rfl
 |cons x r ih=>
  obtain ⟨k',v'⟩:=x;show mget eqP (bif eqP k' k then (k,v)::r else (k',v')::mput eqP r k v) n=if k=n then some v else bif eqP k' n then some v' else mget eqP r n;by_cases h:k'=k
  .subst h;rw [ah9.2 rfl];show (bif eqP k' n then some v else mget eqP r n)=_;by_cases h1:k'=n
   .rw [if_pos h1,ah9.2 h1];rfl
   .have:eqP k' n=false:=by rw [Bool.eq_false_iff];exact λh2=>h1 (ah9.1 h2)
    rw [if_neg h1,this];rfl
  .have h2:eqP k' k=false:=by rw [Bool.eq_false_iff];exact λh2=>h (ah9.1 h2)
   rw [h2];show (bif eqP k' n then some v' else mget eqP (mput eqP r k v) n)=_;rw [ih];by_cases h1:k'=n
   .subst h1;rw [show eqP k' k'=true from ah9.2 rfl,cond_true,cond_true,if_neg (λe=>h e.symm)]
   .have:eqP k' n=false:=by rw [Bool.eq_false_iff];exact λh2=>h1 (ah9.1 h2)
    rw [this];rfl
def bT1 (m:Holds) (ks n:Int):Prop:=∀ a:Nat,a<ks.toNat->mget eqP m ⟨false,(a:Int)⟩≠some n
structure Fine (P:Int->Prop) (ks:Int) (m:Holds):Prop where
 inj:∀ a b:Nat,a<ks.toNat->b<ks.toNat->∀ r,mget eqP m ⟨false,(a:Int)⟩=some r->mget eqP m ⟨false,(b:Int)⟩=some r->a=b
 reg:∀ a:Nat,a<ks.toNat->∀ r,mget eqP m ⟨false,(a:Int)⟩=some r->P r
theorem X6 {m:Holds} {ks n:Int}:(C0 m ks n).cell=true<->bT1 m ks n:=by
 unfold C0 bT1;constructor
 .intro h a c hm;split at h
  .cases h
  .rename_i b;rw [List.find?_eq_none] at b;exact b a (by simpa using c) (aw2.2 hm)
 .intro h;split
  .rename_i s hs;have h1:=List.find?_some hs;have h2:=List.mem_of_find?_eq_some hs;exact (h s (by simpa using h2) (aw2.1 h1)).elim
  .rfl
theorem aK5 {m:Holds} {ks n:Int} (h:(C0 m ks n).cell=false):∃ a:Nat,a<ks.toNat/\C0 m ks n=⟨false,(a:Int)⟩/\mget eqP m ⟨false,(a:Int)⟩=some n:=by
 unfold C0 at h |-;split at h
 .rename_i s hs;have h1:=List.find?_some hs;have h2:=List.mem_of_find?_eq_some hs;exact ⟨s,by simpa using h2,rfl,aw2.1 h1⟩
 .cases h
theorem aZ2:∀ (l m:List Int),l.Nodup->(∀ x∈l,x∈m)->l.length<=m.length
 |[],_,_,_=>Nat.zero_le _
 |x::r,m,h,hs=>by obtain ⟨h1,h2⟩:=List.nodup_cons.1 h;have a:=hs x (by simp);have:=aZ2 r (m.erase x) h2 (λy b=>(List.mem_erase_of_ne (λe=>by subst e;exact h1 b)).2 (hs y (by simp [b])));rw [List.length_erase_of_mem a] at this;have:=List.length_pos_of_mem a;simp only [cw9];omega
theorem aw5 (sp:Spans) (rd:Reads) (N:Int) (m:Holds) (pl:Int) (st:List Int):∀ (l:List Nat) (acc:List Held),C2 sp rd N m pl st l acc=(none,[])->acc=[]/\∀ s∈l,∃ n∈st,mget eqP m ⟨false,(s:Int)⟩=some n
 |[],acc,h=>by simp only [C2,cw5,true_and] at h;exact ⟨h,by simp⟩
 |s::r,acc,h=>by
  simp only [C2] at h;cases hm:mget eqP m ⟨false,(s:Int)⟩ with
  |none=>rw [hm] at h;simp at h
  |some n=>
   rw [hm] at h;simp only at h;cases hc:st.contains n with
   |true=>
    rw [hc] at h;obtain ⟨h1,h2⟩:=aw5 sp rd N m pl st r acc h;refine ⟨h1,λx a=>?_⟩;rcases List.mem_cons.1 a with rfl|a
    .exact ⟨n,by simpa [List.contains_iff_mem] using hc,hm⟩
    .exact h2 x a
   |false=>
    rw [hc] at h;simp only [cond_false] at h;cases hs:I6 (getS sp n).first (getS sp n).last pl with
    |true=>rw [hs] at h;have:=(aw5 sp rd N m pl st r _ h).1;simp at this
    |false=>rw [hs] at h;simp at h
theorem aK6 {P:Int->Prop} {ks:Int} {m:Holds} (F:Fine P ks m) {n:Int} (p:bT1 m ks n) {st:List Int} (hs:n∈st) (hl:(st.length:Int)<=ks) (sp:Spans) (rd:Reads) (N pl:Int):U1 sp rd ks N m pl st:=by
 intro h1 h2;have q:C2 sp rd N m pl st (List.range ks.toNat) []=(none,[]):=Prod.ext h1 h2;obtain ⟨_,t⟩:=aw5 sp rd N m pl st _ _ q
 let f:Nat->Int:=λs=>(mget eqP m ⟨false,(s:Int)⟩).getD 0
 have hf:∀ s,s<ks.toNat->f s∈st/\mget eqP m ⟨false,(s:Int)⟩=some (f s):=by
  intro s hs;obtain ⟨r,g,d⟩:=t s (by simpa using hs);have:f s=r:=by simp only [f,d,Option.getD_some]
  rw [this];exact ⟨g,d⟩
 have h:((List.range ks.toNat).map f).Nodup:=by rw [List.nodup_iff_pairwise_ne,List.pairwise_map];refine List.Pairwise.imp_of_mem ?_ (List.nodup_iff_pairwise_ne.1 List.nodup_range);intro a b l o i j;refine i (F.inj a b (by simpa using l) (by simpa using o) (f a) (hf a (by simpa using l)).2 ?_);rw [j];exact (hf b (by simpa using o)).2
 have k:=aZ2 _ (st.erase n) h (λx u=>by
  obtain ⟨s,c,rfl⟩:=List.mem_map.1 u;have c:s<ks.toNat:=by simpa using c
  exact (List.mem_erase_of_ne (λe=>p s c (by rw [(hf s c).2,e]))).2 (hf s c).1)
 rw [List.length_erase_of_mem hs,cy6,List.length_range] at k;have:=List.length_pos_of_mem hs;omega
theorem Fine.put {P P':Int->Prop} {ks:Int} {m:Holds} (F:Fine P ks m) (h:∀ r,P r->P' r) {n:Int} (f:bT1 m ks n) (i:P' n) (q:Int):Fine P' ks (mput eqP m ⟨false,q⟩ n):=by
 have hg:∀ (a:Nat),mget eqP (mput eqP m ⟨false,q⟩ n) ⟨false,(a:Int)⟩=if q=a then some n else mget eqP m ⟨false,(a:Int)⟩:=by intro a;rw [H7];simp
 refine ⟨λa b d g r h1 h2=>?_,λa d r h1=>?_⟩
 .rw [hg] at h1 h2;by_cases c:q=a<;>by_cases e:q=b
  .omega
  .rw [if_pos c] at h1;rw [if_neg e] at h2;simp only [cv3] at h1;subst h1;exact (f b g h2).elim
  .rw [if_neg c] at h1;rw [if_pos e] at h2;simp only [cv3] at h2;subst h2;exact (f a d h1).elim
  .rw [if_neg c] at h1;rw [if_neg e] at h2;exact F.inj a b d g r h1 h2
 .rw [hg] at h1;by_cases c:q=a
  .rw [if_pos c] at h1;simp only [cv3] at h1;subst h1;exact i
  .rw [if_neg c] at h1;exact h r (F.reg a d r h1)
theorem Fine.mono {P P':Int->Prop} {ks:Int} {m:Holds} (F:Fine P ks m) (b:∀ r,P r->P' r):Fine P' ks m:=⟨F.inj,λa c r h=>b r (F.reg a c r h)⟩
theorem bq8 (s:AS) (x:Held):(af0 s x).holds=s.holds:=by unfold af0;cases (mget eqI s.cells x.reg).isSome<;>rfl
theorem az7 (sp:Spans) (rd:Reads) (ks N:Int) (s:AS) (pl:Int) (st:List Int):(F7 sp rd ks N s pl st).2.holds=s.holds:=by
 unfold F7;split
 .rfl
 .exact bq8 _ _
theorem aN0 (sp:Spans) (rd:Reads) (ks N i:Int) (fr:List Int) (s:AS) (n:Int):((C0 s.holds ks n).cell=true/\(F5 sp rd ks N i fr s n).holds=mput eqP s.holds ⟨false,(F7 sp rd ks N s i fr).1⟩ n)\/((C0 s.holds ks n).cell=false/\F5 sp rd ks N i fr s n=s):=by
 unfold F5;have:=az7 sp rd ks N s i fr;cases h:(C0 s.holds ks n).cell with
 |true=>exact .inl ⟨rfl,by simp only [cond_true];rw [this]⟩
 |false=>exact .inr ⟨rfl,rfl⟩
theorem ak8 {P:Int->Prop} {sp:Spans} {rd:Reads} {ks N i:Int} {fr:List Int}:∀ (l:List Int) {s:AS},Fine P ks s.holds->(∀ n∈l,P n)->Fine P ks (D4 sp rd ks N i fr s l).holds
 |[],s,F,_=>F
 |n::r,s,F,h=>by
  refine ak8 r (s:=F5 sp rd ks N i fr s n) ?_ (λx a=>h x (by simp [a]));rcases aN0 sp rd ks N i fr s n with ⟨h1,h2⟩|⟨h1,h2⟩
  .rw [h2];exact F.put (λ_ h=>h) (X6.1 h1) (h n (by simp)) _
  .rw [h2];exact F
theorem bi5 (sp:Spans) (rd:Reads) (ks N i:Int) (to:List Int) (s:AS) (n:Int):(Q6 sp rd ks N i to s n).holds=mput eqP s.holds ⟨false,(F7 sp rd ks N s (i+1) to).1⟩ n:=by have:=az7 sp rd ks N s (i+1) to;show mput eqP (F7 sp rd ks N s (i+1) to).2.holds ⟨false,(F7 sp rd ks N s (i+1) to).1⟩ n=_;rw [this]
theorem by0 {P:Int->Prop} {sp:Spans} {rd:Reads} {ks N i:Int} {to:List Int} {s:AS} (F:Fine P ks s.holds) (m:to.Nodup) (g:∀ n∈to,¬ P n):∀ (k:Nat),k<=to.length->Fine (λr=>P r\/r∈to.take k) ks (I2 sp rd ks N i to s (to.take k)).holds/\(∀ n,k<to.length->n=to.getD k 0->bT1 (I2 sp rd ks N i to s (to.take k)).holds ks n):=by
 intro k
 induction k with
 |zero=>intro _;refine ⟨F.mono λr h=>.inl h,λn j b a e hm=>?_⟩;have:=F.reg a e n hm;exact g n (by rw [b];exact H4 j 0) this
 |succ k ih=>
  intro j;obtain ⟨h1,h2⟩:=ih (by omega);have l:Fine (λr=>P r\/r∈to.take (k+1)) ks (I2 sp rd ks N i to s (to.take (k+1))).holds:=by
   rw [A4 (by omega) 0,ak7,bi5];refine h1.put (λr h=>?_) (h2 _ (by omega) rfl) (.inr (by simp)) _;rcases h with h|h
   .exact .inl h
   .exact .inr (by simp [h])
  refine ⟨l,λn c b a e hm=>?_⟩;rcases l.reg a e n hm with f|f
  .exact g n (by rw [b];exact H4 c 0) f
  .have d:=m;rw [<-List.take_append_drop (k+1) to,List.nodup_append] at d;refine d.2.2 n f n ?_ rfl;rw [b,cw7,cv5 c];exact List.mem_iff_getElem.2 ⟨0,by rw [List.length_drop];omega,by simp⟩
theorem aK7 {l:List Int} {n:Int}:n∈B0 l<->n∈l:=by
 have key:∀ (l seen:List Int),(n∈E4 seen l->n∈l)/\(n∈l->n∈E4 seen l\/n∈seen):=by
  intro l
  induction l with
  |nil=>intro seen;simp [E4]
  |cons x r ih=>
   intro seen;obtain ⟨h1,h2⟩:=ih (seen++[x]);simp only [E4];cases hc:seen.contains x with
   |true=>
    have hc:x∈seen:=by simpa [List.contains_iff_mem] using hc
    refine ⟨λh=>by simp [h1 h],λh=>?_⟩;simp only [List.mem_cons] at h;rcases h with rfl|h
    .exact .inr hc
    .rcases h2 h with a|a
     .exact .inl a
     .simp only [cy1,cw4] at a;rcases a with a|rfl
      .exact .inr a
      .exact .inr hc
   |false=>
    simp only [cond_false,List.mem_cons];refine ⟨λh=>?_,λh=>?_⟩
    .rcases h with h|h
     .exact .inl h
     .exact .inr (h1 h)
    .rcases h with rfl|h
     .exact .inl (.inl rfl)
     .rcases h2 h with a|a
      .exact .inl (.inr a)
      .simp only [cy1,cw4] at a;rcases a with a|rfl
       .exact .inr a
       .exact .inl (.inl rfl)
 obtain ⟨h1,h2⟩:=key l [];exact ⟨h1,λh=>(h2 h).resolve_right (by simp)⟩
theorem bT2 {P:Int->Prop} {sp:Spans} {rd:Reads} {ks N i:Int} {x:Ins} {s:AS} (F:Fine P ks s.holds) (a:fewX ks x=true) (hf:∀ n∈x.from_,P n) (b:x.to.Nodup) (d:∀ n∈x.to,¬ P n):
  doOk sp rd ks N i x s/\Fine (λr=>P r\/r∈x.to) ks (doOf sp rd ks N i x s).holds:=by
 simp only [fewX,cv6,cx6] at a;have e:∀ n∈B0 x.from_,P n:=λn b=>hf n (aK7.1 b);have F1:=ak8 (sp:=sp) (rd:=rd) (N:=N) (i:=i) (fr:=B0 x.from_) (B0 x.from_) F e;refine ⟨⟨λk c hc=>?_,λk c=>?_⟩,?_⟩
 .have Fk:=ak8 (sp:=sp) (rd:=rd) (N:=N) (i:=i) (fr:=B0 x.from_) ((B0 x.from_).take k) F (λn b=>e n (List.mem_of_mem_take b));exact aK6 Fk (X6.1 hc) (H4 c 0) a.1 sp rd N i
 .obtain ⟨h1,h2⟩:=by0 (sp:=sp) (rd:=rd) (N:=N) (i:=i) F1 b d k (by omega);exact aK6 h1 (h2 _ c rfl) (H4 c 0) a.2 sp rd N (i+1)
 .have:=(by0 (sp:=sp) (rd:=rd) (N:=N) (i:=i) F1 b d x.to.length (Nat.le_refl _)).1;rw [cy3] at this;exact this
theorem aK8 {a:Int} {b:List Ins} {c:List Int} (C:Checked a b c) {ks:Int} (g:b.all (fewX ks)=true) (sp:Spans) (rd:Reads) (N:Int):∀ k,k<=b.length->Fine (λr=>r<a\/r∈wr (b.take k)) ks (runA sp rd ks N (b.take k) 0 (G4 a)).holds/\(k<b.length->doOk sp rd ks N k (b.getD k ins0) (runA sp rd ks N (b.take k) 0 (G4 a))):=by
 have step:∀ k,k<b.length->Fine (λr=>r<a\/r∈wr (b.take k)) ks (runA sp rd ks N (b.take k) 0 (G4 a)).holds->doOk sp rd ks N k (b.getD k ins0) (runA sp rd ks N (b.take k) 0 (G4 a))/\Fine (λr=>(r<a\/r∈wr (b.take k))\/r∈(b.getD k ins0).to) ks (doOf sp rd ks N k (b.getD k ins0) (runA sp rd ks N (b.take k) 0 (G4 a))).holds:=by
  intro k f F;have j:b=b.take k++b.getD k ins0::b.drop (k+1):=by
   conv=>lhs;rw [<-List.take_append_drop (k+1) b,A4 f ins0]
   simp
  have e:=H4 f ins0;refine bT2 F (cy5.1 g _ e) (λn i=>?_) ?_ (λn i=>?_)
  .have:=C.there;rw [j] at this;simpa using M9 this n i
  .have d:=D7.1 C.once;rw [j,T9,L9] at d;exact (List.nodup_append.1 (List.nodup_append.1 d).2.1).1
  .rintro (h|h)
   .have:=C.new n (aR0.2 ⟨_,e,i⟩);omega
   .have d:=D7.1 C.once;rw [j,T9,L9] at d;exact (List.nodup_append.1 d).2.2 n h n (List.mem_append_left _ i) rfl
 intro k
 induction k with
 |zero=>intro _;have F0:Fine (λr=>r<a\/r∈wr (b.take 0)) ks (runA sp rd ks N (b.take 0) 0 (G4 a)).holds:=⟨λx y _ _ r h=>by simp [runA,G4,mget] at h,λx _ r h=>by simp [runA,G4,mget] at h⟩;exact ⟨F0,λf=>(step 0 f F0).1⟩
 |succ k ih=>
  intro f;obtain ⟨F,_⟩:=ih (by omega);have F1:=(step k (by omega) F).2;have F2:Fine (λr=>r<a\/r∈wr (b.take (k+1))) ks (runA sp rd ks N (b.take (k+1)) 0 (G4 a)).holds:=by
   rw [A4 (by omega) ins0,ah8,cy4,Nat.min_eq_left (by omega)];refine F1.mono λr h=>?_;rw [T9,cy1];rcases h with (h|h)|h
   .exact .inl h
   .exact .inr (.inl h)
   .exact .inr (.inr (by simpa [wr] using h))
  exact ⟨F2,λf=>(step (k+1) f F2).1⟩
theorem cd0 (sp:Spans) (rd:Reads) (ks N i:Int) (x:Ins) (s:AS):(doOf sp rd ks N i x s).code.length<=s.code.length+2*(B0 x.from_).length+x.to.length+1/\s.ocells<=(doOf sp rd ks N i x s).ocells/\(doOf sp rd ks N i x s).ocells<=s.ocells+(B0 x.from_).length+x.to.length:=by
 have h1:=ad9 sp rd ks N i (B0 x.from_) (B0 x.from_) s;have h2:=aK4 sp rd ks N i x.to x.to (D4 sp rd ks N i (B0 x.from_) s (B0 x.from_));have hc:(doOf sp rd ks N i x s).code.length=(I2 sp rd ks N i x.to (D4 sp rd ks N i (B0 x.from_) s (B0 x.from_)) x.to).code.length+1:=by simp only [doOf,cx5,cw9,List.length_nil]
 have a:(doOf sp rd ks N i x s).ocells=(I2 sp rd ks N i x.to (D4 sp rd ks N i (B0 x.from_) s (B0 x.from_)) x.to).ocells:=rfl;rw [hc,a];omega
theorem aZ3 {ks:Int} (a:ks<=64) (sp:Spans) (rd:Reads) (N:Int):∀ (l:List Ins) (i:Int) (s:AS),l.all (fewX ks)=true->(runA sp rd ks N l i s).code.length<=s.code.length+193*l.length/\s.ocells<=(runA sp rd ks N l i s).ocells/\(runA sp rd ks N l i s).ocells<=s.ocells+128*l.length
 |[],i,s,_=>by simp [runA]
 |x::r,i,s,h=>by simp only [List.all_cons,cv6] at h;have h1:=h.1;simp only [fewX,cv6,cx6] at h1;have h2:=cd0 sp rd ks N i x s;have b:=aZ3 a sp rd N r (i+1) (doOf sp rd ks N i x s) h.2;simp only [runA,cw9];omega
theorem bi6 (m:Reads) (k:Int) (l:List Int) (n:Int):getL (mput eqI m k l) n=if k=n then l else getL m n:=by unfold getL;rw [I7];split<;>rfl
theorem ai0 (i:Int):∀ (l:List Int) (m:Reads),(∀ n,(getL m n).Pairwise (·<=·)/\∀ x∈getL m n,x<=i)->∀ n,(getL (F8 m l i) n).Pairwise (·<=·)/\∀ x∈getL (F8 m l i) n,x<=i
 |[],m,h,n=>h n
 |y::r,m,h,n=>by
  refine ai0 i r (mput eqI m y (getL m y++[i])) (λk=>?_) n;rw [bi6];split
  .rename_i e;subst e;refine ⟨List.pairwise_append.2 ⟨(h y).1,by simp,λa f b d=>?_⟩,λx c=>?_⟩
   .simp only [cw4] at d;subst d;exact (h y).2 a f
   .simp only [cy1,cw4] at c;rcases c with c|rfl
    .exact (h y).2 x c
    .exact Int.le_refl _
  .exact h k
theorem am6:∀ (l:List Ins) (i:Int) (m:Reads),(∀ n,(getL m n).Pairwise (·<=·)/\∀ x∈getL m n,x<=i)->ah4 (M3 l i m)
 |[],i,m,h=>λn=>(h n).1
 |x::r,i,m,h=>by refine am6 r (i+1) _ (λn=>?_);obtain ⟨h1,h2⟩:=ai0 i (B0 x.from_) m h n;exact ⟨h1,λy a=>by have:=h2 y a;omega⟩
theorem aN1 (code:List Ins):ah4 (I0 code):=am6 code 0 [] (λn=>by simp [getL,mget])
theorem az8 (x:Ins):∀ (l:List Ins) (i:Int) (m:Reads),M3 (l++[x]) i m=F8 (M3 l i m) (B0 x.from_) (i+l.length)
 |[],i,m=>by simp [M3]
 |y::l,i,m=>by simp only [List.cons_append,M3,az8 x l,cw9];congr 1;omega
theorem aK9 (k:Nat):Q3 (k+1)=mput eqI (Q3 k) k k:=by simp [Q3,List.range_succ]
abbrev tysR:List Ty:=[i64,inss,ints,ints,mapS,mapR,mapP,mapI,i64,i64,i64,i64,i64]
abbrev objR (b:Nat):List OPat:=[.box 79 [.ptr 2 0],.box 86 [.d b,.d (b+1),.d (b+2),.d (b+3),.map 4,.ms 3,.map 5,.map 6,.d (b+8),.d (b+9),.d (b+10),.nil,.nil],.ms (b+5),.map (b+4),.map (b+6),.map (b+7),.box 3 [.d (b+11)],.box 3 [.d (b+12)]]
abbrev ylR:List (Nat×Nat):=[(0,0),(1,1),(2,2),(4,4),(5,5),(6,6),(7,7),(8,8)]
def at7:Con RU:=⟨[one,one],i64::i64::tysR,[.d 0,.yld 0],.loop 1::objR 2,some λp=>match p with
  |(n,st,a0,a1,a2,a3,sp,rd,ho,ce,op,ks,oc,i,many,())=>st=0/\(∀ n,(getL rd n).length<=1000001)/\0<=many/\many<=140737488356000,
 none,[one],.bool::i64::tysR,[.d 0],.loop 1::objR 2,λp=>match p with
  |(n,st,a0,a1,a2,a3,sp,rd,ho,ce,op,ks,oc,i,many,())=>(true,0,a0,a1,a2,a3,sp,mput eqI rd n (getL rd n++[i]),ho,ce,op,ks,oc,i,many+1,()),[],ylR,[(1,1000001),(7,1000007),(8,1000008)]⟩
def aZ4:Con RU:=⟨[one,one],i64::tysR++ay9,[.yld 0,.ptr 9 0],.loop 0::objR 1++[.box 52 [.d 14,.d 15,.d 16,.d 17,.d 18]],some λp=>match p with
  |(st,a0,a1,a2,a3,sp,rd,ho,ce,op,ks,oc,i,many,x1,x2,x3,x4,x5,())=>st=0/\(∀ n,(getL rd n).length<=1000000)/\many=0,
 none,[],i64::tysR,[],.loop 0::objR 1++[.box 52 [.un,.un,.un,.un,.un]],λp=>match p with
  |(st,a0,a1,a2,a3,sp,rd,ho,ce,op,ks,oc,i,many,x1,x2,x3,x4,x5,())=>(0,a0,a1,a2,a3,sp,F8 rd (B0 x4) i,ho,ce,op,ks,oc,i,many+(B0 x4).length,()),[],ylR,[(1,448),(7,512),(8,640)]⟩
def itAlloc:FuncId->List (Con RU×Con RU×List (Nat×Nat)):=λf=>bif Nat.beq f 83 then [(aZ4,at7,[(0,0),(1,1),(2,2),(3,3),(4,4),(5,5),(6,6),(7,7),(8,8)])] else []
def bq9 (fr:List Int) (rd:Reads) (i many:Int):Nat->St RU->Ann RU:=λ_ _=>⟨[],[.slot 8,.row 1000000,.row 1000003,.box 1000008 0],[i64,i64,mapR,i64],λp=>0<=p.1/\p.1<=fr.length/\p.2.1=0/\p.2.2.1=F8 rd (B0 (fr.take p.1.toNat)) i/\p.2.2.2.1=many+(B0 (fr.take p.1.toNat)).length,λp=>fr.length-p.1.toNat,[]⟩
def cAlloc:Con RU:=con [(true,4),one] [i64,inss,ints,ints,i64] [(true,5),one] [i64,i64,i64,aW3,ay8,i64] [false,false,false,false,false,false] (some λp=>M1 p.2.1=true/\G6 p.2.1=true/\p.2.2.1.length<=8796093022200) λp=>
 ((B8 ⟨p.1,p.2.1,p.2.2.1,p.2.2.2.1⟩ p.2.2.2.2.1).1.params,(B8 ⟨p.1,p.2.1,p.2.2.1,p.2.2.2.1⟩ p.2.2.2.2.1).1.slots,(B8 ⟨p.1,p.2.1,p.2.2.1,p.2.2.2.1⟩ p.2.2.2.2.1).1.cells,(B8 ⟨p.1,p.2.1,p.2.2.1,p.2.2.2.1⟩ p.2.2.2.2.1).1.code,(B8 ⟨p.1,p.2.1,p.2.2.1,p.2.2.2.1⟩ p.2.2.2.2.1).1.out,(B8 ⟨p.1,p.2.1,p.2.2.1,p.2.2.2.1⟩ p.2.2.2.2.1).2,())
def bT3 (a:Int) (b:List Ins) (c:List Int) (ks:Int):Nat->St RU->Ann RU:=λk s=>match k with
 |0=>⟨[],[.slot 48,.row 2176],[i64,mapR],λp=>0<=p.1/\p.1<=b.length/\p.2.1=M3 (b.take p.1.toNat) 0 []/\(b.take p.1.toNat).all (fewX ks)=true,λp=>b.length-p.1.toNat,[(.seen 2176,0,0,.bool)]⟩
 |1=>⟨[],[],[],λ_=>False,λ_=>0,[]⟩
 |2=>⟨[],[.slot 86,.row 2304],[i64,mapI],λp=>0<=p.1/\p.1<=a/\p.2.1=Q3 p.1.toNat,λp=>a.toNat-p.1.toNat,[(.seen 2176,0,0,.bool)]⟩
 |3=>⟨[],[.slot 99,.row 2240,.row 2304,.box 2816 10,.row 900001],[i64,mapP,mapI,i64,aW3],λp=>0<=p.1/\p.1<=b.length/\runA (A5 a b c) (I0 b) ks b.length (b.take p.1.toNat) 0 (G4 a)=⟨p.2.1,p.2.2.1,p.2.2.2.1,p.2.2.2.2.1⟩,λp=>b.length-p.1.toNat,[(.box 2816 11,900001,55,.user 1),(.box 2816 12,900002,59,.user 2)]⟩
 |_=>⟨[],[.slot 112,.row 900002],[i64,ay8],λp=>0<=p.1/\p.1<=c.length/\p.2.1=(c.take p.1.toNat).map (outA (runA (A5 a b c) (I0 b) ks b.length b 0 (G4 a)) ks),λp=>c.length-p.1.toNat,[]⟩
theorem bT4 (st g:Int) (d:List Ins) (e f:List Int) (sp:Spans) (rd:Reads) (h:Holds) (ce:List (Int×Int)) (op ks oc i many l m:Int) (j a:List Int) (k:List Ins):vc (EVy ylR (some at7) [(61,cContains)]) (bq9 a rd i many) Go.Proofs.Tryd.f83 aZ4 (st,g,d,e,f,sp,rd,h,ce,op,ks,oc,i,many,l,m,j,a,k,())=(
 let q:Int×Int×List Ins×List Int×List Int×List (Int×Span)×List (Int×List Int)×List (Place×Int)×List (Int×Int)×Int×Int×Int×Int×Int×Unit:=
  ((0:Int),g,d,e,f,sp,F8 rd (B0 a) i,h,ce,op,ks,oc,i,many+(↑(List.length (B0 a)):Int),());
 let c:Int:=(↑(List.length a):Int);
  Small RU (Sigma.mk (Ty.slice (52:Nat) (Ty.user (0:Nat))) d)->
  Small RU (Sigma.mk (Ty.slice (3:Nat) (Ty.int IntKind.i64)) e)->
  Small RU (Sigma.mk (Ty.slice (3:Nat) (Ty.int IntKind.i64)) f)->
  Small RU (Sigma.mk (Ty.slice (3:Nat) (Ty.int IntKind.i64)) j)->
  Small RU (Sigma.mk (Ty.slice (3:Nat) (Ty.int IntKind.i64)) a)->
  Small RU (Sigma.mk (Ty.slice (52:Nat) (Ty.user (0:Nat))) k)->
  (∃ (p:Int×Int×List (Int×List Int)×Int×Unit),
  a=a/\
  c=c/\
  (0:Int)=p.1/\
  st=p.2.1/\
  g=g/\
  d=d/\
  e=e/\
  f=f/\
  op=op/\
  ks=ks/\
  oc=oc/\
  rd=p.2.2.1/\
  sp=sp/\
  h=h/\
  ce=ce/\
  i=i/\
  many=p.2.2.2.1/\
  l=l/\
  m=m/\
  j=j/\
  a=a/\
  k=k/\
  (0:Int)<=p.1/\
  p.1<=c/\
  p.2.1=(0:Int)/\
  p.2.2.1=F8 rd (B0 (List.take (Int.toNat p.1) a)) i/\
  p.2.2.2.1=many+(↑(List.length (B0 (List.take (Int.toNat p.1) a))):Int))/\
  ∀ (p:Int×Int×List (Int×List Int)×Int×Unit),
 let e0_1:Int:=p.2.2.2.1;
 let e1_1:List (Int×List Int):=p.2.2.1;
 let r:List (Int×List Int):=mput eqI e1_1 (List.getD a (Int.toNat p.1) (0:Int)) (getL e1_1 (List.getD a (Int.toNat p.1) (0:Int))++[i]);
 let b:Int:=p.1;
 let o:Int:=p.2.1;
 let s:Bool:=decide (b<c);
 let t:Bool:=List.contains (List.take (Int.toNat b) a) (List.getD a (Int.toNat b) (0:Int));
 let u:Int:=e0_1+(1:Int);
  (0:Int)<=b/\b<=c/\o=(0:Int)/\e1_1=F8 rd (B0 (List.take (Int.toNat b) a)) i/\e0_1=many+(↑(List.length (B0 (List.take (Int.toNat b) a))):Int)->
  (s=true->
  ((0:Int)<=b/\b<c)/\
  ((0:Int)<=b/\b<=c)/\
  (t=true->
  ∃ (p':Int×Int×List (Int×List Int)×Int×Unit),
  a=a/\
  c=c/\
  IntKind.i64.wrap (b+(1:Int))=p'.1/\
  o=p'.2.1/\
  g=g/\
  d=d/\
  e=e/\
  f=f/\
  op=op/\
  ks=ks/\
  oc=oc/\
  e1_1=p'.2.2.1/\
  sp=sp/\
  h=h/\
  ce=ce/\
  i=i/\
  e0_1=p'.2.2.2.1/\
  l=l/\
  m=m/\
  j=j/\
  a=a/\
  k=k/\
  ((0:Int)<=p'.1/\
  p'.1<=c/\
  p'.2.1=(0:Int)/\
  p'.2.2.1=F8 rd (B0 (List.take (Int.toNat p'.1) a)) i/\
  p'.2.2.2.1=many+(↑(List.length (B0 (List.take (Int.toNat p'.1) a))):Int))/\
  List.length a-Int.toNat p'.1<List.length a-Int.toNat b)/\
  (t=false->
  (o=(0:Int)/\(∀ (n:Int),List.length (getL e1_1 n)<=(1000001:Nat))/\(0:Int)<=e0_1/\e0_1<=(140737488356000:Int))/\
  ((!true)=true->((0:Int),g,d,e,f,sp,r,h,ce,op,ks,oc,i,u,())=q)/\
  ((!true)=false->
  ∃ (p':Int×Int×List (Int×List Int)×Int×Unit),
  a=a/\
  c=c/\
  IntKind.i64.wrap (b+(1:Int))=p'.1/\
  (0:Int)=p'.2.1/\
  g=g/\
  d=d/\
  e=e/\
  f=f/\
  op=op/\
  ks=ks/\
  oc=oc/\
  r=p'.2.2.1/\
  sp=sp/\
  h=h/\
  ce=ce/\
  i=i/\
  u=p'.2.2.2.1/\
  l=l/\
  m=m/\
  j=j/\
  a=a/\
  k=k/\
  ((0:Int)<=p'.1/\
  p'.1<=c/\
  p'.2.1=(0:Int)/\
  p'.2.2.1=F8 rd (B0 (List.take (Int.toNat p'.1) a)) i/\
  p'.2.2.2.1=many+(↑(List.length (B0 (List.take (Int.toNat p'.1) a))):Int))/\
  List.length a-Int.toNat p'.1<List.length a-Int.toNat b)))/\
  (s=false->(o,g,d,e,f,sp,e1_1,h,ce,op,ks,oc,i,e0_1,())=q)):=by kernel_rfl
theorem cd1 (a:Int) (b:List Ins) (c d:List Int) (ks:Int):vc (EVd [] itAlloc [(41,cCheck),(51,cSpans),(52,cReads),(53,cDo),(54,cSlot)]) (bT3 a b c ks) Go.Proofs.Tryd.f15 cAlloc (a,b,c,d,ks,())=(
 let j:Int×Int×Int×List RIns×List Place×Int×Unit:=
  ((B8 (VFun.mk a b c d) ks).1.params,(B8 (VFun.mk a b c d) ks).1.slots,(B8 (VFun.mk a b c d) ks).1.cells,(B8 (VFun.mk a b c d) ks).1.code,
  (B8 (VFun.mk a b c d) ks).1.out,(B8 (VFun.mk a b c d) ks).2,());
 let g:Bool:=decide (ks<(1:Int))||decide (ks >(64:Int));
 let e:Int:=(↑(List.length b):Int);
 let f:Ins:=Ins.mk (0:Int) (0:Int) [] [] [];
 let h:Bool:=C1 (VFun.mk a b c d) !=(0:Int);
 let l:Int:=(↑(List.length c):Int);
 let i:Int:=C1 (VFun.mk a b c d);
  Small RU (Sigma.mk (Ty.slice (52:Nat) (Ty.user (0:Nat))) b)->
  Small RU (Sigma.mk (Ty.slice (3:Nat) (Ty.int IntKind.i64)) c)->
  Small RU (Sigma.mk (Ty.slice (3:Nat) (Ty.int IntKind.i64)) d)->
  (h=true->((0:Int),(0:Int),(0:Int),[],[],i,())=j)/\
  (h=false->
  (g=true->((0:Int),(0:Int),(0:Int),[],[],(2:Int),())=j)/\
  (g=false->
  a<=(4000:Int)/\
  (∃ (p:Int×List (Int×List Int)×Unit),
  a=a/\
  b=b/\
  c=c/\
  d=d/\
  ks=ks/\
  i=i/\
  h=h/\
  g=g/\
  a=a/\
  b=b/\
  c=c/\
  d=d/\
  b=b/\
  e=e/\
  (0:Int)=p.1/\
  a=a/\
  b=b/\
  c=c/\
  d=d/\
  (0:Int)=(0:Int)/\
  (0:Int)=(0:Int)/\
  (0:Int)=(0:Int)/\
  A5 a b c=A5 a b c/\
  []=p.2.1/\
  ([]:List (Place×Int))=[]/\
  ([]:List (Int×Int))=[]/\
  a=a/\
  b=b/\
  c=c/\
  d=d/\
  a=a/\
  ks=ks/\
  a=a/\
  (0:Int)<=p.1/\
  p.1<=e/\
  p.2.1=M3 (List.take (Int.toNat p.1) b) (0:Int) []/\
  List.all (List.take (Int.toNat p.1) b) (fewX ks)=true)/\
  ∀ (p:Int×List (Int×List Int)×Unit),
 let e0_1:Bool:=
  decide ((0:Int)+(↑(List.length (B0 (List.getD b (Int.toNat p.1) f).from_)):Int) >ks)||decide ((↑(List.length (List.getD b (Int.toNat p.1) f).to):Int) >ks);
 let e1_1:List (Int×List Int):=p.2.1;
 let e2_1:Bool:=decide (p.1<e);
 let e3_1:Int:=p.1;
  (0:Int)<=e3_1/\e3_1<=e/\e1_1=M3 (List.take (Int.toNat e3_1) b) (0:Int) []/\List.all (List.take (Int.toNat e3_1) b) (fewX ks)=true->
  (e2_1=true->
  ((0:Int)<=e3_1/\e3_1<e)/\
  (∀
  (xs:
  Int×
  Int×
  Int×List Ins×List Int×List Int×List (Int×Span)×List (Int×List Int)×List (Place×Int)×List (Int×Int)×Int×Int×Int×Int×Int×Unit),
 let j:Int:=xs.2.2.2.2.2.2.2.2.2.2.2.2.2.1;
 let g:Int×Int×Int×Unit:=xs.2.2.2.2.2.2.2.2.2.2.2.2;
 let e:List Int:=Option.getD (mget (λ(x y:Int)=>x==y) xs.2.2.2.2.2.2.2.1 xs.1) [];
 let f:Int×Int×Int×Int×Int×Unit:=xs.2.2.2.2.2.2.2.2.2.2;
 let h:List (Place×Int)×List (Int×Int)×Int×Int×Int×Int×Int×Unit:=xs.2.2.2.2.2.2.2.2;
 let l:List (Int×Span)×List (Int×List Int)×List (Place×Int)×List (Int×Int)×Int×Int×Int×Int×Int×Unit:=xs.2.2.2.2.2.2;
 let i:List Int:=xs.2.2.2.2.2.1;
 let q:List Int:=xs.2.2.2.2.1;
 let m:List Ins:=xs.2.2.2.1;
 let r:Int:=xs.1;
 let o:
  Int×
  Int×List Ins×List Int×List Int×List (Int×Span)×List (Int×List Int)×List (Place×Int)×List (Int×Int)×Int×Int×Int×Int×Int×Unit:=
  xs.2;
  xs.2.1=(0:Int)/\
  (∀ (n:Int),List.length (getL xs.2.2.2.2.2.2.2.1 n)<=(1000001:Nat))/\
  (0:Int)<=xs.2.2.2.2.2.2.2.2.2.2.2.2.2.2.1/\xs.2.2.2.2.2.2.2.2.2.2.2.2.2.2.1<=(140737488356000:Int)->
  Small RU (Sigma.mk (Ty.slice (52:Nat) (Ty.user (0:Nat))) m)->
  Small RU (Sigma.mk (Ty.slice (3:Nat) (Ty.int IntKind.i64)) q)->
  Small RU (Sigma.mk (Ty.slice (3:Nat) (Ty.int IntKind.i64)) i)->
  o.1=(0:Int)/\
  (List.length e+List.length [j])*(8:Nat)<=(140737488355328:Nat)/\
  r=r/\
  (true,(0:Int),o.2.1,m,q,i,l.1,mput (λ(x y:Int)=>x==y) l.2.1 r (e++[j]),h.1,h.2.1,f.1,f.2.1,
  g.1,j,IntKind.i64.wrap (g.2.2.1+(1:Int)),())=
  at7.fn xs)/\
  ((0:Int)=(0:Int)/\(∀ (n:Int),List.length (getL e1_1 n)<=(1000000:Nat))/\(0:Int)=(0:Int))/\
  (0:Int)=(0:Int)/\
  (e0_1=true->((0:Int),(0:Int),(0:Int),[],[],(9:Int),())=j)/\
  (e0_1=false->
  ∃ (p':Int×List (Int×List Int)×Unit),
  a=a/\
  b=b/\
  c=c/\
  d=d/\
  ks=ks/\
  i=i/\
  h=h/\
  g=g/\
  a=a/\
  b=b/\
  c=c/\
  d=d/\
  b=b/\
  e=e/\
  IntKind.i64.wrap (e3_1+(1:Int))=p'.1/\
  a=a/\
  b=b/\
  c=c/\
  d=d/\
  (0:Int)=(0:Int)/\
  (0:Int)=(0:Int)/\
  (0:Int)=(0:Int)/\
  A5 a b c=A5 a b c/\
  F8 e1_1 (B0 (List.getD b (Int.toNat e3_1) f).from_) e3_1=p'.2.1/\
  ([]:List (Place×Int))=[]/\
  ([]:List (Int×Int))=[]/\
  a=a/\
  b=b/\
  c=c/\
  d=d/\
  a=a/\
  ks=ks/\
  a=a/\
  ((0:Int)<=p'.1/\
  p'.1<=e/\
  p'.2.1=M3 (List.take (Int.toNat p'.1) b) (0:Int) []/\
  List.all (List.take (Int.toNat p'.1) b) (fewX ks)=true)/\
  List.length b-Int.toNat p'.1<List.length b-Int.toNat e3_1))/\
  (e2_1=false->
  (∃ (p:Int×List (Int×Int)×Unit),
  a=a/\
  b=b/\
  c=c/\
  d=d/\
  ks=ks/\
  i=i/\
  h=h/\
  g=g/\
  a=a/\
  b=b/\
  c=c/\
  d=d/\
  b=b/\
  e=e/\
  e3_1=e3_1/\
  e2_1=e2_1/\
  a=a/\
  (0:Int)=p.1/\
  a=a/\
  b=b/\
  c=c/\
  d=d/\
  (0:Int)=(0:Int)/\
  (0:Int)=(0:Int)/\
  (0:Int)=(0:Int)/\
  A5 a b c=A5 a b c/\
  e1_1=e1_1/\
  ([]:List (Place×Int))=[]/\
  []=p.2.1/\
  a=a/\
  b=b/\
  c=c/\
  d=d/\a=a/\ks=ks/\a=a/\(0:Int)<=p.1/\p.1<=a/\p.2.1=Q3 (Int.toNat p.1))/\
  ∀ (p:Int×List (Int×Int)×Unit),
 let e0_2:Bool:=decide (p.1<a);
 let e1_2:Int:=p.1;
 let e2_2:List (Int×Int):=p.2.1;
  (0:Int)<=e1_2/\e1_2<=a/\e2_2=Q3 (Int.toNat e1_2)->
  (e0_2=true->
  ∃ (p':Int×List (Int×Int)×Unit),
  a=a/\
  b=b/\
  c=c/\
  d=d/\
  ks=ks/\
  i=i/\
  h=h/\
  g=g/\
  a=a/\
  b=b/\
  c=c/\
  d=d/\
  b=b/\
  e=e/\
  e3_1=e3_1/\
  e2_1=e2_1/\
  a=a/\
  IntKind.i64.wrap (e1_2+(1:Int))=p'.1/\
  a=a/\
  b=b/\
  c=c/\
  d=d/\
  (0:Int)=(0:Int)/\
  (0:Int)=(0:Int)/\
  (0:Int)=(0:Int)/\
  A5 a b c=A5 a b c/\
  e1_1=e1_1/\
  ([]:List (Place×Int))=[]/\
  mput (λ(x y:Int)=>x==y) e2_2 e1_2 e1_2=p'.2.1/\
  a=a/\
  b=b/\
  c=c/\
  d=d/\
  a=a/\
  ks=ks/\
  a=a/\
  ((0:Int)<=p'.1/\p'.1<=a/\p'.2.1=Q3 (Int.toNat p'.1))/\
  Int.toNat a-Int.toNat p'.1<Int.toNat a-Int.toNat e1_2)/\
  (e0_2=false->
  (∃ (p:Int×List (Place×Int)×List (Int×Int)×Int×List RIns×Unit),
  a=a/\
  b=b/\
  c=c/\
  d=d/\
  ks=ks/\
  i=i/\
  h=h/\
  g=g/\
  a=a/\
  b=b/\
  c=c/\
  d=d/\
  b=b/\
  e=e/\
  e3_1=e3_1/\
  e2_1=e2_1/\
  a=a/\
  e1_2=e1_2/\
  e0_2=e0_2/\
  b=b/\
  e=e/\
  (0:Int)=p.1/\
  a=a/\
  b=b/\
  c=c/\
  d=d/\
  (0:Int)=(0:Int)/\
  (0:Int)=(0:Int)/\
  (0:Int)=(0:Int)/\
  A5 a b c=A5 a b c/\
  e1_1=e1_1/\
  []=p.2.1/\
  e2_2=p.2.2.1/\
  a=a/\
  b=b/\
  c=c/\
  d=d/\
  a=a/\
  ks=ks/\
  a=p.2.2.2.1/\
  []=p.2.2.2.2.1/\
  ([]:List Place)=[]/\
  (0:Int)<=p.1/\
  p.1<=e/\
  runA (A5 a b c) (I0 b) ks e (List.take (Int.toNat p.1) b)
  (0:Int) (G4 a)=
  AS.mk p.2.1 p.2.2.1 p.2.2.2.1
  p.2.2.2.2.1)/\
  ∀ (p:Int×List (Place×Int)×List (Int×Int)×Int×List RIns×Unit),
 let e0_3:AS:=AS.mk p.2.1 p.2.2.1 p.2.2.2.1 p.2.2.2.2.1;
 let e1_3:Int:=p.2.2.2.1;
 let e2_3:AS:=
  doOf (A5 a b c) e1_1 ks e p.1
  (Ins.mk (List.getD b (Int.toNat p.1) f).op (List.getD b (Int.toNat p.1) f).n (List.getD b (Int.toNat p.1) f).to
  (List.getD b (Int.toNat p.1) f).from_ (List.getD b (Int.toNat p.1) f).body)
  e0_3;
 let e3_2:List RIns:=p.2.2.2.2.1;
 let e4_1:Int:=p.1;
 let e5_1:List (Int×Int):=p.2.2.1;
 let e6_1:List (Place×Int):=p.2.1;
 let q:Bool:=decide (e4_1<e);
 let m:List Int:=B0 (List.getD b (Int.toNat e4_1) f).from_;
 let r:List Int:=(List.getD b (Int.toNat e4_1) f).to;
 let o:Int:=e4_1+(1:Int);
  (0:Int)<=e4_1/\e4_1<=e/\runA (A5 a b c) (I0 b) ks e (List.take (Int.toNat e4_1) b) (0:Int) (G4 a)=e0_3->
  (q=true->
  ((0:Int)<=e4_1/\e4_1<e)/\
  (X4 r (List.getD b (Int.toNat e4_1) f).from_ (List.getD b (Int.toNat e4_1) f).body=true/\
  List.length (List.getD b (Int.toNat e4_1) f).from_<=(17592186044400:Nat)/\
  List.length m<=(64:Nat)/\
  List.length r<=(64:Nat)/\
  (∀ (n:Int),List.Pairwise (λ(s t:Int)=>s<=t) (getL e1_1 n))/\
  ((∀ (k:Nat),
 let j:Option Int×List Held:=
  H5 (A5 a b c) e1_1 ks e (D4 (A5 a b c) e1_1 ks e e4_1 m e0_3 (List.take k m)).holds e4_1 m;
  k<List.length m->
  (C0 (D4 (A5 a b c) e1_1 ks e e4_1 m e0_3 (List.take k m)).holds ks (List.getD m k (0:Int))).cell=true->
  j.1=none->j.2≠[])/\
  ∀ (k:Nat),
 let j:Option Int×List Held:=
  H5 (A5 a b c) e1_1 ks e
  (I2 (A5 a b c) e1_1 ks e e4_1 r (D4 (A5 a b c) e1_1 ks e e4_1 m e0_3 m) (List.take k r)).holds o r;
  k<List.length r->j.1=none->j.2≠[])/\
  ks<=(64:Int)/\
  (0:Int)<=e4_1/\e4_1<=(1000000:Int)/\(0:Int)<=e1_3/\e1_3<=(100000000:Int)/\List.length e3_2<=(100000000:Nat))/\
  ∃ (p':Int×List (Place×Int)×List (Int×Int)×Int×List RIns×Unit),
  a=a/\
  b=b/\
  c=c/\
  d=d/\
  ks=ks/\
  i=i/\
  h=h/\
  g=g/\
  a=a/\
  b=b/\
  c=c/\
  d=d/\
  b=b/\
  e=e/\
  e3_1=e3_1/\
  e2_1=e2_1/\
  a=a/\
  e1_2=e1_2/\
  e0_2=e0_2/\
  b=b/\
  e=e/\
  IntKind.i64.wrap o=p'.1/\
  a=a/\
  b=b/\
  c=c/\
  d=d/\
  (0:Int)=(0:Int)/\
  (0:Int)=(0:Int)/\
  (0:Int)=(0:Int)/\
  A5 a b c=A5 a b c/\
  e1_1=e1_1/\
  e2_3.holds=p'.2.1/\
  e2_3.cells=p'.2.2.1/\
  a=a/\
  b=b/\
  c=c/\
  d=d/\
  a=a/\
  ks=ks/\
  e2_3.ocells=p'.2.2.2.1/\
  e2_3.code=p'.2.2.2.2.1/\
  ([]:List Place)=[]/\
  ((0:Int)<=p'.1/\
  p'.1<=e/\
  runA (A5 a b c) (I0 b) ks e
  (List.take (Int.toNat p'.1) b) (0:Int)
  (G4 a)=
  AS.mk p'.2.1 p'.2.2.1 p'.2.2.2.1
  p'.2.2.2.2.1)/\
  List.length b-Int.toNat p'.1<
  List.length b-Int.toNat e4_1)/\
  (q=false->
  (∃ (p:Int×List Place×Unit),
  a=a/\
  b=b/\
  c=c/\
  d=d/\
  ks=ks/\
  i=i/\
  h=h/\
  g=g/\
  a=a/\
  b=b/\
  c=c/\
  d=d/\
  b=b/\
  e=e/\
  e3_1=e3_1/\
  e2_1=e2_1/\
  a=a/\
  e1_2=e1_2/\
  e0_2=e0_2/\
  b=b/\
  e=e/\
  e4_1=e4_1/\
  q=q/\
  c=c/\
  l=l/\
  (0:Int)=p.1/\
  a=a/\
  b=b/\
  c=c/\
  d=d/\
  (0:Int)=(0:Int)/\
  (0:Int)=(0:Int)/\
  (0:Int)=(0:Int)/\
  A5 a b c=A5 a b c/\
  e1_1=e1_1/\
  e6_1=e6_1/\
  e5_1=e5_1/\
  a=a/\
  b=b/\
  c=c/\
  d=d/\
  a=a/\
  ks=ks/\
  e1_3=e1_3/\
  e3_2=e3_2/\
  []=p.2.1/\
  (0:Int)<=p.1/\
  p.1<=l/\
  p.2.1=
  List.map
  (outA
  (runA (A5 a b c) (I0 b) ks e b
  (0:Int) (G4 a))
  ks)
  (List.take (Int.toNat p.1) c))/\
  ∀ (p:Int×List Place×Unit),
 let e0_4:Bool:=
  (C0 e6_1 ks (List.getD c (Int.toNat p.1) (0:Int))).cell==true&&
  ((C0 e6_1 ks (List.getD c (Int.toNat p.1) (0:Int))).n==(-1:Int)&&true);
 let e1_4:List Place:=
  [Place.mk (bif e0_4 then true else (C0 e6_1 ks (List.getD c (Int.toNat p.1) (0:Int))).cell)
  (bif e0_4 then Option.getD (mget (λ(x y:Int)=>x==y) e5_1 (List.getD c (Int.toNat p.1) (0:Int))) (0:Int)
  else (C0 e6_1 ks (List.getD c (Int.toNat p.1) (0:Int))).n)];
 let e2_4:List Place:=p.2.1;
 let f:Int:=p.1;
 let e4_2:Bool:=decide (f<l);
  (0:Int)<=f/\f<=l/\e2_4=List.map (outA (runA (A5 a b c) (I0 b) ks e b (0:Int) (G4 a)) ks) (List.take (Int.toNat f) c)->
  (e4_2=true->
  ((0:Int)<=f/\f<l)/\
  ks<=(64:Int)/\
  (List.length (bif e0_4 then e2_4 else e2_4)+List.length e1_4)*(16:Nat)<=(140737488355328:Nat)/\
  ∃ (p':Int×List Place×Unit),
  (bif e0_4 then a else a)=a/\
  (bif e0_4 then b else b)=b/\
  (bif e0_4 then c else c)=c/\
  (bif e0_4 then d else d)=d/\
  (bif e0_4 then ks else ks)=ks/\
  (bif e0_4 then i else i)=i/\
  (bif e0_4 then h else h)=h/\
  (bif e0_4 then g else g)=g/\
  (bif e0_4 then a else a)=a/\
  (bif e0_4 then b else b)=b/\
  (bif e0_4 then c else c)=c/\
  (bif e0_4 then d else d)=d/\
  (bif e0_4 then b else b)=b/\
  (bif e0_4 then e else e)=e/\
  (bif e0_4 then e3_1 else e3_1)=e3_1/\
  (bif e0_4 then e2_1 else e2_1)=e2_1/\
  (bif e0_4 then a else a)=a/\
  (bif e0_4 then e1_2 else e1_2)=e1_2/\
  (bif e0_4 then e0_2 else e0_2)=e0_2/\
  (bif e0_4 then b else b)=b/\
  (bif e0_4 then e else e)=e/\
  (bif e0_4 then e4_1 else e4_1)=e4_1/\
  (bif e0_4 then q else q)=q/\
  (bif e0_4 then c else c)=c/\
  (bif e0_4 then l else l)=l/\
  IntKind.i64.wrap ((bif e0_4 then f else f)+(1:Int))=p'.1/\
  (bif e0_4 then a else a)=a/\
  (bif e0_4 then b else b)=b/\
  (bif e0_4 then c else c)=c/\
  (bif e0_4 then d else d)=d/\
  (bif e0_4 then (0:Int) else (0:Int))=(0:Int)/\
  (bif e0_4 then (0:Int) else (0:Int))=(0:Int)/\
  (bif e0_4 then (0:Int) else (0:Int))=(0:Int)/\
  (bif e0_4 then A5 a b c else A5 a b c)=A5 a b c/\
  (bif e0_4 then e1_1 else e1_1)=e1_1/\
  (bif e0_4 then e6_1 else e6_1)=e6_1/\
  (bif e0_4 then e5_1 else e5_1)=e5_1/\
  (bif e0_4 then a else a)=a/\
  (bif e0_4 then b else b)=b/\
  (bif e0_4 then c else c)=c/\
  (bif e0_4 then d else d)=d/\
  (bif e0_4 then a else a)=a/\
  (bif e0_4 then ks else ks)=ks/\
  (bif e0_4 then e1_3 else e1_3)=e1_3/\
  (bif e0_4 then e3_2 else e3_2)=e3_2/\
  (bif e0_4 then e2_4 else e2_4)++e1_4=
  p'.2.1/\
  ((0:Int)<=p'.1/\
  p'.1<=l/\
  p'.2.1=
  List.map
  (outA
  (runA (A5 a b c)
  (I0 b) ks e b (0:Int)
  (G4 a))
  ks)
  (List.take (Int.toNat p'.1)
  c))/\
  List.length c-Int.toNat p'.1<
  List.length c-Int.toNat f)/\
  (e4_2=false->(a,ks,e1_3,e3_2,e2_4,(0:Int),())=j))))))):=by kernel_rfl
theorem ap2 (l:List Int):(B0 l).Nodup:=by
 have key:∀ (l seen:List Int),(E4 seen l).Nodup/\∀ x∈E4 seen l,x∉seen:=by
  intro l
  induction l with
  |nil=>intro seen;simp [E4]
  |cons y r ih=>
   intro seen;obtain ⟨h1,h2⟩:=ih (seen++[y]);simp only [E4];cases hc:seen.contains y with
   |true=>exact ⟨h1,λx a h=>h2 x a (by simp [h])⟩
   |false=>
    have hc:y∉seen:=by rw [Bool.eq_false_iff,ne_eq,List.contains_iff_mem] at hc;exact hc
    simp only [cond_false];refine ⟨List.nodup_cons.2 ⟨λh=>h2 y h (by simp),h1⟩,λx a h=>?_⟩;rcases List.mem_cons.1 a with rfl|a
    .exact hc h
    .exact h2 x a (by simp [h])
 exact (key l []).1
theorem aZ5 (m:Reads) (l:List Int) (x i:Int):F8 m (l++[x]) i=mput eqI (F8 m l i) x (getL (F8 m l i) x++[i]):=by simp [F8]
theorem ai1 (i n:Int):∀ (l:List Int) (m:Reads),l.Nodup->(getL (F8 m l i) n).length<=(getL m n).length+(if n∈l then 1 else 0)
 |[],m,_=>by simp [F8]
 |y::r,m,h=>by
  obtain ⟨h1,h2⟩:=List.nodup_cons.1 h;have:=ai1 i n r (mput eqI m y (getL m y++[i])) h2;rw [bi6] at this;show (getL (F8 (mput eqI m y (getL m y++[i])) r i) n).length<=_;by_cases a:y=n
  .subst a;rw [if_pos rfl,if_neg h1] at this;simp only [cx5,cw9,List.length_nil] at this;rw [if_pos (by simp)];omega
  .rw [if_neg a] at this;have b:(n∈y::r)<->n∈r:=by simp [Ne.symm a]
   simp only [b];exact this
theorem aL0 (n:Int):∀ (l:List Ins) (i:Int) (m:Reads),(getL (M3 l i m) n).length<=(getL m n).length+l.length
 |[],i,m=>by simp [M3]
 |x::r,i,m=>by have h1:=aL0 n r (i+1) (F8 m (B0 x.from_) i);have h2:=ai1 i n (B0 x.from_) m (ap2 _);simp only [M3,cw9];split at h2<;>omega
theorem bT5 (st f:Int) (g:List Ins) (l o:List Int) (sp:Spans) (rd:Reads) (p:Holds) (ce:List (Int×Int)) (op ks oc i many u v:Int) (w a:List Int) (x:List Ins) (y:st=0/\(∀ n,(getL rd n).length<=1000000)/\many=0):
  vc (EVy ylR (some at7) [(61,cContains)]) (bq9 a rd i many) Go.Proofs.Tryd.f83 aZ4 (st,f,g,l,o,sp,rd,p,ce,op,ks,oc,i,many,u,v,w,a,x,()):=by
 rw [bT4 st f g l o sp rd p ce op ks oc i many u v w a x];intro z A _ _ _ _ r _;have e:a.length<=140737488355328:=r.len;have s:z=(0,f,g,l,o,sp,F8 rd (B0 a) i,p,ce,op,ks,oc,i,many+(B0 a).length,()):=rfl
 clear_value z
 dsimp only [A];simp only [true_and,and_true];refine ⟨⟨(0,0,rd,many,()),rfl,y.1,rfl,rfl,Int.le_refl _,by dsimp only;omega,rfl,rfl,by simp [B0,E4]⟩,?_⟩;rintro ⟨j,s0,m,mm,⟨⟩⟩ ⟨h0,h1,h2,b,d⟩;dsimp only at h0 h1 h2 b d |-;obtain ⟨k,rfl⟩:=cv9 h0;simp only [cv7] at b d |-;subst h2;refine ⟨λc=>?_,λt=>?_⟩
 .have c:(k:Int)<a.length:=cw3 c;have hs:=aR6 (a.take k) (a.getD k 0);rw [<-A4 (by omega)] at hs;have hl:=ah6 (a.take k);rw [cy4] at hl;refine ⟨⟨h0,c⟩,⟨h0,by omega⟩,λq=>?_,λq=>⟨⟨rfl,λn=>?_,by omega,by omega⟩,λh=>(by cases h),λ_=>?_⟩⟩
  .rw [q] at hs;exact ⟨((k+1:Nat),0,m,mm,()),B5 (by omega) e,rfl,rfl,rfl,⟨by omega,by dsimp only;omega,rfl,by dsimp only;rw [cv7,hs];exact b,by dsimp only;rw [cv7,hs];exact d⟩,by dsimp only;omega⟩
  .have B:=ai1 i n (B0 (a.take k)) rd (ap2 _);have D:=y.2.1 n;rw [b];split at B<;>omega
  .rw [q,cond_false] at hs;refine ⟨((k+1:Nat),0,_,_,()),B5 (by omega) e,rfl,rfl,rfl,⟨by omega,by dsimp only;omega,rfl,?_,?_⟩,by dsimp only;omega⟩
   .dsimp only;rw [cv7,hs,aZ5,<-b]
   .dsimp only;rw [cv7,hs,cx5,d];simp only [cw9,List.length_nil];omega
 .have C:k=a.length:=by have:¬ (k:Int)<a.length:=cw2 t;omega
  subst C;rw [cy3] at b d;rw [s,b,d]
theorem bH2:ItOk itAlloc:=by
 intro f k kY mp h Y' p;unfold itAlloc at h;cases hf:Nat.beq f 83 with
 |false=>rw [hf] at h;cases h
 |true=>
  have hf:=cv4 hf;subst hf;simp only [Nat.beq_refl,cond_true,List.mem_cons,List.not_mem_nil,or_false,cw5] at h;obtain ⟨rfl,rfl,rfl⟩:=h;exact ak2 (E:=EVy ylR (some at7) [(61,cContains)]) (bZ4 _ _ _) ⟨Z2 (λx a=>by rcases List.mem_cons.1 a with rfl|a;exact O0 _;cases a),λ_ _ _ _ _ h=>(by cases h),λ_ _ _ h=>(by cases h),λk q=>by cases q;exact p,λ_ _ _ _ h=>(by cases h)⟩ bn8 Go.Proofs.Tryd.func83 (by kernel_rfl)
    (λ(st,c,d,e,g,sp,rd,j,ce,op,ks,oc,i,many,l,m,n,b,o,())=>bq9 b rd i many) (λ(st,c,d,e,g,sp,rd,j,ce,op,ks,oc,i,many,l,m,n,b,o,()) r=>bT5 st c d e g sp rd j ce op ks oc i many l m n b o r) (by kernel_rfl) rfl
theorem aw6:∀ {l:List Ins},G6 l=true->∀ x∈l,al4 x=true
 |[],_,x,a=>by simp at a
 |y::r,h,x,a=>by
  simp only [G6,cv6] at h;rcases List.mem_cons.1 a with rfl|a
  .exact h.1
  .exact aw6 h.2 x a
theorem cd2 (a:Int) (b:List Ins) (c d:List Int) (ks:Int) (hp:M1 b=true/\G6 b=true/\c.length<=8796093022200):vc (EVd [] itAlloc [(41,cCheck),(51,cSpans),(52,cReads),(53,cDo),(54,cSlot)]) (bT3 a b c ks) Go.Proofs.Tryd.f15 cAlloc (a,b,c,d,ks,()):=by
 rw [cd1 a b c d ks];intro Q e1 e2 e3 R e5 P _ _ _;obtain ⟨S,T,hp3⟩:=hp;have o:Q=((B8 ⟨a,b,c,d⟩ ks).1.params,(B8 ⟨a,b,c,d⟩ ks).1.slots,(B8 ⟨a,b,c,d⟩ ks).1.cells,(B8 ⟨a,b,c,d⟩ ks).1.code,(B8 ⟨a,b,c,d⟩ ks).1.out,(B8 ⟨a,b,c,d⟩ ks).2,()):=rfl;have s:P=C1 ⟨a,b,c,d⟩:=rfl;have y:R=(P !=0):=rfl;have B:e1=(decide (ks<1)||decide (ks >64)):=rfl;have U:e3=ins0:=rfl;have hA:B8 ⟨a,b,c,d⟩ ks=if C1 ⟨a,b,c,d⟩≠0 then (aH6,C1 ⟨a,b,c,d⟩) else if ks<1\/64<ks then (aH6,2) else if b.all (fewX ks)=false then (aH6,9)
   else (⟨a,ks,(runA (A5 a b c) (I0 b) ks b.length b 0 (G4 a)).ocells,(runA (A5 a b c) (I0 b) ks b.length b 0 (G4 a)).code,c.map (outA (runA (A5 a b c) (I0 b) ks b.length b 0 (G4 a)) ks)⟩,0):=rfl
 rw [hA] at o;clear hA
 clear_value Q e1 e3 R
 subst U;have F:R=true->((0:Int),(0:Int),(0:Int),([]:List RIns),([]:List Place),P,())=Q:=λh=>by
  have:C1 ⟨a,b,c,d⟩≠0:=by rw [y] at h;simpa [s] using h
  rw [o,if_pos this,<-s];rfl
 refine ⟨F,λz=>⟨λh=>?_,λh=>?_⟩⟩
 .have G:¬ C1 ⟨a,b,c,d⟩≠0:=by rw [y] at z;simpa [s] using z
  have H:ks<1\/64<ks:=by rw [B] at h;simp only [Bool.or_eq_true,cx6] at h;omega
  rw [o,if_neg G,if_pos H];rfl
 have G:C1 ⟨a,b,c,d⟩=0:=by rw [y] at z;simpa [s] using z
 have H:1<=ks/\ks<=64:=by rw [B] at h;simp only [Bool.or_eq_false_iff,decide_eq_false_iff_not] at h;omega
 have C:=aX3 G;rw [if_neg (by rw [G];simp),if_neg (by omega)] at o;clear F G s
 clear_value P
 clear y B z h;have hlen:=C.len;have I:=C.pos;have hfew:=C.few;dsimp only [e2,e5];simp only [true_and,and_true,Bool.cond_self,Bool.and_true,bi4];refine ⟨C.few,⟨(0,[],()),rfl,rfl,Int.le_refl _,by dsimp only;omega,rfl,rfl⟩,?_⟩;rintro ⟨j,rd,⟨⟩⟩ ⟨h0,h1,h2,A⟩;dsimp only at h0 h1 h2 A |-;obtain ⟨k,rfl⟩:=cv9 h0;simp only [cv7] at h2 A |-;refine ⟨λe=>?_,λg=>?_⟩
 .have e:(k:Int)<b.length:=cw3 e;have f:k<b.length:=by omega
  have hb:∀ x:Bool,fewX ks (b.getD k ins0)=x->b.all (fewX ks)=true->x=true:=λx h1 h2=>by rw [<-h1];exact cy5.1 h2 _ (H4 f _)
  have p:M3 (b.take (k+1)) 0 []=F8 rd (B0 (b.getD k ins0).from_) k:=by rw [A4 f ins0,az8,cy4,Nat.min_eq_left (by omega),<-h2];simp
  have r:fewX ks (b.getD k ins0)=true->(b.take (k+1)).all (fewX ks)=true:=λh=>at1 ins0 f A h;have t:fewX ks (b.getD k ins0)=false->b.all (fewX ks)=false:=λh=>aX9 ins0 f h;obtain ⟨x,V⟩:∃ x,b.getD k ins0=x:=⟨_,rfl⟩;simp only [V] at hb p r t |-;have J:(decide ((0:Int)+((B0 x.from_).length:Int) >ks)||decide ((x.to.length:Int) >ks))=!fewX ks x:=by unfold fewX;rw [Bool.eq_iff_iff];simp only [Bool.or_eq_true,cx6,Bool.not_eq_true',Bool.and_eq_false_iff,decide_eq_false_iff_not];omega
  rw [J];refine ⟨⟨h0,e⟩,?_,?_,λq=>?_,λq=>?_⟩
  .rintro ⟨n,st,a0,a1,a2,a3,sp,rd2,ho,ce,op,ks2,oc,i,many,⟨⟩⟩ ⟨q1,q2,q3,q4⟩ _ _ _;dsimp only at q1 q2 q3 q4 |-;have q5:=q2 n;refine ⟨q1,?_,?_⟩
   .show ((getL rd2 n).length+1)*8<=_;omega
   .rw [F9 (by omega) (by omega)];rfl
  .intro n;have:=aL0 n (b.take k) 0 [];rw [<-h2,cy4] at this;have hg:(getL ([]:Reads) n).length=0:=rfl;omega
  .have q:fewX ks x=false:=by simpa using q
   rw [o,if_pos (t q)];rfl
  .have q:fewX ks x=true:=by simpa using q
   exact ⟨((k+1:Nat),_,()),B5 f (by omega),rfl,⟨by omega,by dsimp only;omega,by dsimp only;rw [cv7,p];rfl,by dsimp only;rw [cv7];exact r q⟩,by dsimp only;omega⟩
 have K:k=b.length:=by have:¬ (k:Int)<b.length:=cw2 g;omega
 subst K;rw [cy3] at h2 A;have W:rd=I0 b:=h2;subst W;clear h2 h0 h1 g;rw [if_neg (by rw [A];simp)] at o;refine ⟨⟨(0,[],()),rfl,rfl,Int.le_refl _,I,rfl⟩,?_⟩;rintro ⟨j,ce,⟨⟩⟩ ⟨h0,h1,h2⟩;dsimp only at h0 h1 h2 |-;obtain ⟨k,rfl⟩:=cv9 h0;simp only [cv7] at h2 |-;subst h2;refine ⟨λe=>?_,λg=>?_⟩
 .have e:(k:Int)<a:=cw3 e;refine ⟨((k+1:Nat),Q3 (k+1),()),?_,(aK9 k).symm,⟨by omega,by dsimp only;omega,by dsimp only;rw [cv7]⟩,by dsimp only;omega⟩;rw [F9 (by omega) (by omega)];rfl
 have K:(k:Int)=a:=by have:¬ (k:Int)<a:=cw2 g;omega
 have X:G4 a=⟨[],Q3 k,a,[]⟩:=by
  have:a.toNat=k:=by omega
  simp only [G4,this]
 clear h0 h1 g;refine ⟨⟨(0,[],Q3 k,a,[],()),rfl,rfl,rfl,rfl,rfl,Int.le_refl _,by dsimp only;omega,by simp only [Int.toNat_zero,List.take_zero,runA];exact X⟩,?_⟩;rintro ⟨j,m,cc,oc,q,⟨⟩⟩ ⟨h0,h1,h2⟩;dsimp only at h0 h1 h2 |-;obtain ⟨u,rfl⟩:=cv9 h0;simp only [cv7] at h2 |-;have Y:=aZ3 H.2 (A5 a b c) (I0 b) b.length (b.take u) 0 (G4 a) (cy5.2 λx hx=>cy5.1 A x (List.mem_of_mem_take hx));rw [h2,cy4] at Y;simp only [G4,List.length_nil] at Y;refine ⟨λe=>?_,λg=>?_⟩
 .have e:(u:Int)<b.length:=cw3 e;have f:u<b.length:=by omega
  have Z:=(aK8 C A (A5 a b c) (I0 b) b.length u (by omega)).2 f;rw [h2] at Z;have v:runA (A5 a b c) (I0 b) ks b.length (b.take (u+1)) 0 (G4 a)=doOf (A5 a b c) (I0 b) ks b.length u (b.getD u ins0) ⟨m,cc,oc,q⟩:=by rw [A4 f ins0,ah8,cy4,Nat.min_eq_left (by omega),h2]
  have w:=H4 f ins0;have L:=aw6 T _ w;have D:=cy5.1 S _ w;have M:=cy5.1 A _ w;generalize b.getD u ins0=x at Z v L D M |-;simp only [cv6,cx6] at D;simp only [fewX,cv6,cx6] at M;refine ⟨⟨h0,e⟩,⟨W2.2 ((L5 x).1 L),D.1,by omega,by omega,aN1 b,Z,H.2,by omega,by omega,by omega,by omega,by omega⟩,((u+1:Nat),_,_,_,_,()),B5 f (by omega),rfl,rfl,rfl,rfl,⟨by omega,by dsimp only;omega,?_⟩,by dsimp only;omega⟩;dsimp only;rw [cv7,v];rfl
 have N:u=b.length:=by have:¬ (u:Int)<b.length:=cw2 g;omega
 subst N;rw [cy3] at h2;rw [h2] at o |-;clear h0 h1 g Y;dsimp only at o;refine ⟨⟨(0,[],()),rfl,rfl,Int.le_refl _,by dsimp only;omega,rfl⟩,?_⟩;rintro ⟨j,l,⟨⟩⟩ ⟨h0,h1,z⟩;dsimp only at h0 h1 z |-;obtain ⟨E,rfl⟩:=cv9 h0;simp only [cv7] at z |-;subst z;refine ⟨λe=>?_,λg=>?_⟩
 .have e:(E:Int)<c.length:=cw3 e;have f:E<c.length:=by omega
  refine ⟨⟨h0,e⟩,H.2,?_,((E+1:Nat),_,()),B5 f (by omega),rfl,⟨by omega,by dsimp only;omega,?_⟩,by dsimp only;omega⟩
  .rw [cy6,cy4];simp only [cw9,List.length_nil];omega
  .dsimp only;rw [cv7,A4 f 0,List.map_append];congr 1;show _=[outA _ ks (c.getD E 0)];generalize c.getD E 0=n;unfold outA;dsimp only;cases hc:(C0 m ks n).cell with
   |true=>rfl
   |false=>simp only [cond_false];rw [<-hc]
 .have O:E=c.length:=by have:¬ (E:Int)<c.length:=cw2 g;omega
  subst O;rw [cy3,o]
theorem aL1:C9 prog RG 15 cAlloc:=bw9 bH2 (A7 ad8 (A7 aJ2 (A7 aK3 (A7 cc9 (A7 aw3 B9))))) (λp=>bT3 p.1 p.2.1 p.2.2.1 p.2.2.2.2.1) (by kernel_rfl) (by kernel_rfl) (by kernel_rfl) λ(a,b,c,d,ks,()) e=>cd2 a b c d ks e
def insI (to:Int) (fr:List Int):Ins:=⟨1,0,[to],fr,[]⟩
def K0:VFun:=⟨2,[insI 2 [0,1],insI 3 [2,0],insI 4 [3,1],insI 5 [4,2]],[5],[]⟩
def cIns:Con RU:=con [one,one] [i64,ints] [(true,5)] ay9 [false,false,false,false,false] none λp=>(1,0,[p.1],p.2.1,[],())
def cFour:Con RU:=con [] [] [(true,4)] as5 [false,false,false,false] none λ_=>(2,K0.code,[5],[],())
abbrev bT6:List Ty:=[i64,i64,i64,i64,i64,ints,ints,inss]
abbrev own8:List Bool:=[false,false,false,false,false,false,false,false]
def cLoadI:Con RU:=con [one,one] [i64,i64] [(true,8)] bT6 own8 none λp=>(1,p.1,p.2.1,0,0,[],[],[],())
def cStoreI:Con RU:=con [one,one] [i64,i64] [(true,8)] bT6 own8 none λp=>(2,p.1,p.2.1,0,0,[],[],[],())
def cDoI:Con RU:=con [one,one] [i64,ints] [(true,8)] bT6 own8 none λp=>(0,0,0,1,0,[p.1],p.2.1,[],())
def bT7 (x y:RIns):Bool:=(x.kind==y.kind)&&((x.kind==0)&&insB x.ins y.ins||((x.kind !=0)&&(x.slot==y.slot)&&(x.cell==y.cell)))
def V0 (l m:List RIns) (k:Nat):Bool:=(decide (l.length=m.length))&&((l.zip m).take k).all λp=>bT7 p.1 p.2
def aN2 (l m:List RIns):Bool:=V0 l m l.length
def cSame:Con RU:=con [one,one] [aW3,aW3] [one] [.bool] [false] none λp=>(aN2 p.1 p.2.1,())
def co3 (l m:List RIns):Nat->St RU->Ann RU:=λ_ _=>⟨[],[.slot 5,.slot 6],[.bool,i64],λp=>0<=p.2.1/\p.2.1<=l.length/\p.1=V0 l m p.2.1.toNat,λp=>l.length-p.2.1.toNat,[]⟩
def cSlotted:Con RU:=con [] [] [one] [.bool] [false] none λ_=>(true,())
end Go.Rg
end
section
namespace Go.Proofs.YtknhkhdbonjhgaaDoor
open Go.ChangeShapes Go.WideShapes Go.ChangeAt Go.RowKit Go.VT
theorem own:ownKnob Tryd.prog.godebug=none:=by kernel_rfl
theorem co4:laidOutB Tryd.prog=true:=by kernel_rfl
theorem ct0:Tryd.prog.globalNamed "sheafworks/regs.never"=some 1:=by kernel_rfl
theorem cd3:Tryd.prog.globalNamed "sheafworks/regs.nowhere"=some 0:=by kernel_rfl
theorem ct1:(Tryd.prog.globals[1]?).map (·.type)=some 107:=by kernel_rfl
theorem cd4:(Tryd.prog.globals[0]?).map (·.type)=some 59:=by kernel_rfl
abbrev bH3:List (String×DataW Unit):=[("sheafworks/regs.never",Rows.laid_sheafworks_regs_never),("sheafworks/regs.nowhere",Rows.laid_sheafworks_regs_nowhere)]
theorem cd5 (os:Os) (args:Array Value):laidMetH Tryd.prog bH3 ((World.doorLaid Tryd.prog 600 os).forCall (λ_ _=>0) ⟨#[],args,[]⟩).memory:=
 laidMetH_of_parts3 (fuel:=8) (laidMet_of_run' 8 (by kernel_rfl) (by kernel_rfl)) (by kernel_rfl) (by kernel_rfl)
theorem aL2:Tryd.prog.cellsOf 3=1:=by kernel_rfl
theorem ct2:Tryd.prog.cellsOf 4=1:=by kernel_rfl
theorem co5:Tryd.prog.cellsOf 22=1:=by kernel_rfl
theorem bT8:Tryd.prog.cellsOf 23=1:=by kernel_rfl
theorem br0:Tryd.prog.cellsOf 52=5:=by kernel_rfl
theorem co6:Tryd.prog.cellsOf 59=2:=by kernel_rfl
theorem cd6:Tryd.prog.cellsOf 107=2:=by kernel_rfl
theorem ct3:Tryd.prog.bytesOf 3=8:=by kernel_rfl
theorem co7:Tryd.prog.bytesOf 52=88:=by kernel_rfl
theorem aR7 {W:World} {g i:Nat} {v:Value} (h:W.cell? ⟨g,i,none⟩=some v):g<W.heap.size:=by
 unfold World.cell? at h;cases a:W.heap[g]? with
 |none=>simp [a] at h
 |some ob=>exact (cx1.1 a).1
theorem co8 {W:World} (h:laidMetH Tryd.prog bH3 W):∀ g fs,(g,fs)∈Go.Rg.RG->g<W.heap.size/\∀ i f,fs.cell i=some f->W.cell? ⟨g,i,none⟩=some f:=by
 obtain ⟨ps,⟨I,J,cs1,fuel1,K,L,a,q,e,r,⟨M,t0,cs0,fuel0,p0,N,b,s,k,t,_⟩,_⟩,_⟩:laidMet Tryd.prog bH3 W:=h;obtain rfl:=Option.some.inj (ct0.symm.trans a);obtain rfl:=Option.some.inj (cd3.symm.trans b);obtain rfl:=Option.some.inj (ct1.symm.trans q);obtain rfl:=Option.some.inj (cd4.symm.trans s);obtain ⟨O,P,n,p,hl,c,d⟩:=trod_struct2 Tryd.underlying107 r;obtain ⟨Q,R,m,kx,kl,ky1,ky2⟩:=trod_struct2 Tryd.underlying59 t;rw [cd6] at hl;rw [co6] at kl;obtain ⟨S,eu1,u⟩:=aQ1 (cs:=cs1.toList) (j:=0) (by omega);obtain ⟨T,eu2,v⟩:=aQ1 (cs:=cs1.toList) (j:=1) (by omega);obtain ⟨w1,ew1,w⟩:=aQ1 (cs:=cs0.toList) (j:=0) (by omega);obtain ⟨U,ew2,x⟩:=aQ1 (cs:=cs0.toList) (j:=1) (by omega);dsimp only at c d ky1 ky2;rw [aL2,u] at c;rw [aL2,v] at d;rw [ct2,w] at ky1;rw [aL2,x] at ky2;obtain ⟨V,A,E,_⟩:=DataW.trod_int Tryd.underlying3 c;obtain ⟨X,B,F,_⟩:=DataW.trod_int Tryd.underlying3 d;obtain ⟨Y,C,G⟩:=DataW.trod_bool Tryd.underlying4 ky1;obtain ⟨Z,D,H,_⟩:=DataW.trod_int Tryd.underlying3 ky2;rw [E,F] at p;rw [G,H] at kx;simp only [Rows.laid_sheafworks_regs_never,cw5,DataW.agg.injEq,List.cons.injEq,DataW.lit.injEq,Lit.int.injEq,true_and,and_true] at p;simp only [Rows.laid_sheafworks_regs_nowhere,cw5,DataW.agg.injEq,List.cons.injEq,DataW.lit.injEq,Lit.int.injEq,Lit.bool.injEq,true_and,and_true] at kx;simp only [List.cons.injEq,and_true] at A B C D;rw [A,<-p.1.1] at eu1;rw [B,<-p.1.2] at eu2;rw [C,<-kx.1.1] at ew1;rw [D,<-kx.1.2] at ew2;have l:W.cell? ⟨1,0,none⟩=some (.int .i64 0):=by rw [World.var?_cell a e 0];simpa using eu1
 have y:W.cell? ⟨1,1,none⟩=some (.int .i64 (-1)):=by rw [World.var?_cell a e 1];simpa using eu2
 have o:W.cell? ⟨0,0,none⟩=some (.bool true):=by rw [World.var?_cell b k 0];simpa using ew1
 have z:W.cell? ⟨0,1,none⟩=some (.int .i64 (-1)):=by rw [World.var?_cell b k 1];simpa using ew2
 intro g fs hm;simp only [Go.Rg.RG,List.mem_cons,List.not_mem_nil,or_false,cw5] at hm;rcases hm with ⟨rfl,rfl⟩|⟨rfl,rfl⟩
 .refine ⟨aR7 o,λi f hf=>?_⟩
  match i,hf with
  |0,hf=>cases hf;exact o
  |1,hf=>cases hf;exact z
  |_+2,hf=>simp [Glob.cell] at hf
 .refine ⟨aR7 l,λi f hf=>?_⟩
  match i,hf with
  |0,hf=>cases hf;exact l
  |1,hf=>cases hf;exact y
  |_+2,hf=>simp [Glob.cell] at hf
def readL:List (TypeId×Ty):=[(3,Go.Rg.i64),(4,.bool),(52,.user 0),(23,Go.Rg.ints),(22,Go.Rg.inss)]
theorem co9:bw6 Tryd.prog Go.Rg.RU readL:=by
 intro t ty hm;simp only [readL,List.mem_cons,cw5,List.not_mem_nil,or_false] at hm;rcases hm with ⟨rfl,rfl⟩|⟨rfl,rfl⟩|⟨rfl,rfl⟩|⟨rfl,rfl⟩|⟨rfl,rfl⟩
 .exact Tryd.underlying3
 .exact Tryd.underlying4
 .refine ⟨_,Tryd.underlying52,br0,rfl,λj f ty' hf a=>?_⟩
  match j,hf,a with
  |0,hf,a=>cases hf;cases a;exact ⟨rfl,aL2,rfl,by simp [readL]⟩
  |1,hf,a=>cases hf;cases a;exact ⟨rfl,aL2,rfl,by simp [readL]⟩
  |2,hf,a=>cases hf;cases a;exact ⟨rfl,bT8,rfl,by simp [readL]⟩
  |3,hf,a=>cases hf;cases a;exact ⟨rfl,bT8,rfl,by simp [readL]⟩
  |4,hf,a=>cases hf;cases a;exact ⟨rfl,co5,rfl,by simp [readL]⟩
  |j+5,hf,a=>simp [Go.Rg.RU] at a
 .exact ⟨Tryd.underlying23,aL2,by rw [aL2];decide,by rw [ct3];decide,by simp [readL]⟩
 .exact ⟨Tryd.underlying22,br0,by rw [br0];decide,by rw [co7];decide,by simp [readL]⟩
theorem cp0:bZ3 Tryd.prog Go.Rg.RU readL 3 false [Go.Rg.i64]:=.inl ⟨rfl,_,rfl,rfl,by simp [readL]⟩
theorem cd7:bZ3 Tryd.prog Go.Rg.RU readL 23 false [Go.Rg.ints]:=.inl ⟨rfl,_,rfl,rfl,by simp [readL]⟩
theorem at8 {H:Type} {enc:TypeId×Value->H} {W W':World} (f:Below W.heap.size W W'):∀ {ts:List TypeId} {vs:List Value} {ds:List (DataW H)} {ps:List MemPlace},(∀ t∈ts,Tryd.prog.readableRec t=true/\t<Tryd.prog.types.size)->
  DataW.TrodAll enc Tryd.prog W 0 (λ_=>true) true ts vs ds ps->(∀ x∈ps,x.block<W.heap.size)->DataW.TrodAll enc Tryd.prog W' 0 (λb=>decide (b<W.heap.size)) true ts vs ds ps
 |[],[],[],ps,_,h,_=>h
 |[],_::_,_,_,_,h,_=>h.elim
 |[],[],_::_,_,_,h,_=>h.elim
 |_::_,[],_,_,_,h,_=>h.elim
 |_::_,_::_,[],_,_,h,_=>h.elim
 |t::ts,v::vs,d::ds,ps,c,h,a=>by obtain ⟨p,q,h1,h2,rfl⟩:=h;exact ⟨p,q,Below.trod co4 (c t (by simp)).1 (c t (by simp)).2 h1 f (λx e=>a x (by simp [e])),at8 f (λt' h'=>c t' (by simp [h'])) h2 (λx e=>a x (by simp [e])),rfl⟩
theorem cd8 {H:Type} {enc:TypeId×Value->H} {fn:Func} {s:ChangeSpec} (hs:s.vars=[]) {W W':World} {args:Array Value} {ds gs:List (DataW H)} {am1:List MemPlace}
  (e:DataW.Whole enc Tryd.prog fn.params.toList s.vars false W args.toList ds gs am1) (f:Below W.heap.size W W') (b:fn.resultTypes=#[4])
  (a:s.fn H ds={ results:=[.lit (.bool true)],args:=ds }) (i:∀ t∈fn.params.toList,Tryd.prog.readableRec t=true/\t<Tryd.prog.types.size):
  s.post enc Tryd.prog fn false true false false W args (.bool true) W':=by
 have c:=e;obtain ⟨p,q,j,d,rfl,k,l⟩:=e;rw [hs] at d;obtain ⟨rfl,rfl⟩:gs=[]/\q=[]:=by
  cases gs with
  |nil=>exact ⟨rfl,d⟩
  |cons g r=>exact absurd d (by intro h;cases h)
 refine ⟨ds,[],p++[],[],p,[],c,?_,?_,?_,f.frame _,λh=>by cases h⟩
 .rw [List.append_nil,a,b];exact trodAll_mk1 (shut_bool Tryd.underlying4 true)
 .rw [List.append_nil,a];exact at8 f i j (λx m=>c.lt x (by simp [m]))
 .rw [List.append_nil,a,hs];rfl
theorem aL3 {H:Type} {enc:TypeId×Value->H} {P:Program} {w:World} {base:Nat} {sp:Nat->Bool} {held:Bool}:∀ {ts:List TypeId} {vs:List Value} {ds:List (DataW H)} {ps:List MemPlace},DataW.TrodAll enc P w base sp held ts vs ds ps->ds.length=ts.length
 |[],[],[],_,_=>rfl
 |[],_::_,_,_,h=>h.elim
 |[],[],_::_,_,h=>h.elim
 |_::_,[],_,_,h=>h.elim
 |_::_,_::_,[],_,h=>h.elim
 |t::ts,v::vs,d::ds,ps,h=>by obtain ⟨p,q,_,h2,_⟩:=h;simp [aL3 h2]
end Go.Proofs.YtknhkhdbonjhgaaDoor
end
section
namespace Go.Rg
open Go Go.VT
theorem ct4 (a:Int) (b:List Int):vc (EV []) noL Go.Proofs.Tryd.f46 cIns (a,b,())=(
 let c:Int×Int×List Int×List Int×List Ins×Unit:=((1:Int),(0:Int),[a],b,[],());
  Small RU (Sigma.mk (Ty.slice (3:Nat) (Ty.int IntKind.i64)) b)->c=c):=by kernel_rfl
theorem cd9 (a b:Int):vc (EV []) noL Go.Proofs.Tryd.f47 cLoadI (a,b,())=(
 let c:Int×Int×Int×Int×Int×List Int×List Int×List Ins×Unit:=((1:Int),a,b,(0:Int),(0:Int),[],[],[],());
  c=c):=by kernel_rfl
theorem bT9 (a b:Int):vc (EV []) noL Go.Proofs.Tryd.f48 cStoreI (a,b,())=(
 let c:Int×Int×Int×Int×Int×List Int×List Int×List Ins×Unit:=((2:Int),a,b,(0:Int),(0:Int),[],[],[],());
  c=c):=by kernel_rfl
theorem ct5 (a:Int) (b:List Int):vc (EV [(46,cIns)]) noL Go.Proofs.Tryd.f49 cDoI (a,b,())=(
 let c:Int×Int×Int×Int×Int×List Int×List Int×List Ins×Unit:=((0:Int),(0:Int),(0:Int),(1:Int),(0:Int),[a],b,[],());
  Small RU (Sigma.mk (Ty.slice (3:Nat) (Ty.int IntKind.i64)) b)->c=c):=by kernel_rfl
theorem cp1 (l m:List RIns):vc (EV [(57,cSameIns)]) (co3 l m) Go.Proofs.Tryd.f45 cSame (l,m,())=(
 let b:RIns:=RIns.mk (0:Int) (0:Int) (0:Int) ins0;
 let c:Int:=(↑(List.length l):Int);
 let e:Int:=(↑(List.length m):Int);
  Small RU (Sigma.mk (Ty.slice (55:Nat) (Ty.user (1:Nat))) l)->
  Small RU (Sigma.mk (Ty.slice (55:Nat) (Ty.user (1:Nat))) m)->
  (∃ (p:Bool×Int×Unit),l=l/\m=m/\false=false/\(c==e)=p.1/\(0:Int)=p.2.1/\(0:Int)<=p.2.1/\p.2.1<=c/\p.1=V0 l m (Int.toNat p.2.1))/\
  ∀ (p:Bool×Int×Unit),
 let e0_1:Bool:=
  (List.getD l (Int.toNat p.2.1) b).kind==(0:Int)&&
  insB
  (Ins.mk (List.getD l (Int.toNat p.2.1) b).ins.op (List.getD l (Int.toNat p.2.1) b).ins.n (List.getD l (Int.toNat p.2.1) b).ins.to
  (List.getD l (Int.toNat p.2.1) b).ins.from_ (List.getD l (Int.toNat p.2.1) b).ins.body)
  (Ins.mk (List.getD m (Int.toNat p.2.1) b).ins.op (List.getD m (Int.toNat p.2.1) b).ins.n (List.getD m (Int.toNat p.2.1) b).ins.to
  (List.getD m (Int.toNat p.2.1) b).ins.from_ (List.getD m (Int.toNat p.2.1) b).ins.body);
 let e1_1:Bool:=(List.getD l (Int.toNat p.2.1) b).kind !=(0:Int)&&(List.getD l (Int.toNat p.2.1) b).slot==(List.getD m (Int.toNat p.2.1) b).slot;
 let e2_1:Bool:=p.1&&decide (p.2.1<c);
 let a:Int:=p.2.1;
 let d:Bool:=(List.getD l (Int.toNat a) b).kind==(List.getD m (Int.toNat a) b).kind;
  (0:Int)<=a/\a<=c/\p.1=V0 l m (Int.toNat a)->
  (e2_1=true->
  ((0:Int)<=a/\a<c)/\
  ((0:Int)<=a/\a<e)/\
  (d=true->(0:Int)<=a/\a<c)/\
  (d=true->((List.getD l (Int.toNat a) b).kind==(0:Int))=true->(0:Int)<=a/\a<c)/\
  (d=true->((List.getD l (Int.toNat a) b).kind==(0:Int))=true->(0:Int)<=a/\a<e)/\
  (d=true->e0_1=false->(0:Int)<=a/\a<c)/\
  (d=true->e0_1=false->((List.getD l (Int.toNat a) b).kind !=(0:Int))=true->(0:Int)<=a/\a<c)/\
  (d=true->e0_1=false->((List.getD l (Int.toNat a) b).kind !=(0:Int))=true->(0:Int)<=a/\a<e)/\
  (d=true->e0_1=false->e1_1=true->(0:Int)<=a/\a<c)/\
  (d=true->e0_1=false->e1_1=true->(0:Int)<=a/\a<e)/\
  ∃ (p':Bool×Int×Unit),
  l=l/\
  m=m/\
  false=false/\
  (d&&(e0_1||e1_1&&(List.getD l (Int.toNat a) b).cell==(List.getD m (Int.toNat a) b).cell))=p'.1/\
  IntKind.i64.wrap (a+(1:Int))=p'.2.1/\
  ((0:Int)<=p'.2.1/\p'.2.1<=c/\p'.1=V0 l m (Int.toNat p'.2.1))/\
  List.length l-Int.toNat p'.2.1<List.length l-Int.toNat a)/\
  (e2_1=false->(p.1,())=(aN2 l m,()))):=by kernel_rfl
theorem cp2:vc (EV [(46,cIns)]) noL Go.Proofs.Tryd.f50 cFour ()=(
 let a:List Int×List Int×Unit:=([(5:Int)],[],());
  ((2:Int),
  [Ins.mk (1:Int) (0:Int) [(2:Int)] [(0:Int),(1:Int)] [],Ins.mk (1:Int) (0:Int) [(3:Int)] [(2:Int),(0:Int)] [],
  Ins.mk (1:Int) (0:Int) [(4:Int)] [(3:Int),(1:Int)] [],Ins.mk (1:Int) (0:Int) [(5:Int)] [(4:Int),(2:Int)] []],
  a)=
  ((2:Int),K0.code,a)):=by kernel_rfl
theorem bH4:vc (EV [(50,cFour),(33,cLive),(29,cPress),(15,cAlloc),(20,cBack),(17,cCount),(41,cCheck),(22,cValid),(47,cLoadI),(48,cStoreI),(49,cDoI),(45,cSame),(43,cEqualLists),(24,cSameVec)]) noL Go.Proofs.Tryd.f14 cSlotted ()=(
 let c:VFun:=
  (M5
  (RCode.mk (B8 (VFun.mk (2:Int) K0.code [(5:Int)] []) (2:Int)).1.params (B8 (VFun.mk (2:Int) K0.code [(5:Int)] []) (2:Int)).1.slots
  (B8 (VFun.mk (2:Int) K0.code [(5:Int)] []) (2:Int)).1.cells (B8 (VFun.mk (2:Int) K0.code [(5:Int)] []) (2:Int)).1.code
  (B8 (VFun.mk (2:Int) K0.code [(5:Int)] []) (2:Int)).1.out)).1;
 let e:Bool:=
  (Q5 (VFun.mk (2:Int) K0.code [(5:Int)] [])).2 !=(0:Int)||(X0 (VFun.mk (2:Int) K0.code [(5:Int)] [])).2 !=(0:Int)||
  (B8 (VFun.mk (2:Int) K0.code [(5:Int)] []) (3:Int)).2 !=(0:Int)||
  (B8 (VFun.mk (2:Int) K0.code [(5:Int)] []) (2:Int)).2 !=(0:Int)||
  (B8 (VFun.mk (2:Int) K0.code [(5:Int)] []) (1:Int)).2 !=(9:Int)||
  (M5
  (RCode.mk (B8 (VFun.mk (2:Int) K0.code [(5:Int)] []) (2:Int)).1.params (B8 (VFun.mk (2:Int) K0.code [(5:Int)] []) (2:Int)).1.slots
  (B8 (VFun.mk (2:Int) K0.code [(5:Int)] []) (2:Int)).1.cells (B8 (VFun.mk (2:Int) K0.code [(5:Int)] []) (2:Int)).1.code
  (B8 (VFun.mk (2:Int) K0.code [(5:Int)] []) (2:Int)).1.out)).2 !=
  (0:Int)||
  C1 (VFun.mk (2:Int) K0.code [(5:Int)] []) !=(0:Int)||
  M2
  (RCode.mk (B8 (VFun.mk (2:Int) K0.code [(5:Int)] []) (3:Int)).1.params (B8 (VFun.mk (2:Int) K0.code [(5:Int)] []) (3:Int)).1.slots
  (B8 (VFun.mk (2:Int) K0.code [(5:Int)] []) (3:Int)).1.cells (B8 (VFun.mk (2:Int) K0.code [(5:Int)] []) (3:Int)).1.code
  (B8 (VFun.mk (2:Int) K0.code [(5:Int)] []) (3:Int)).1.out) !=
  (0:Int);
 let f:Bool:=
  decide
  ((Q5 (VFun.mk (2:Int) K0.code [(5:Int)] [])).1=
  [[(0:Int),(1:Int)],[(0:Int),(1:Int),(2:Int)],[(1:Int),(2:Int),(3:Int)],[(2:Int),(4:Int)],[(5:Int)]])&&
  (X0 (VFun.mk (2:Int) K0.code [(5:Int)] [])).1==(3:Int)&&
  aN2 (B8 (VFun.mk (2:Int) K0.code [(5:Int)] []) (3:Int)).1.code
  [RIns.mk (1:Int) (0:Int) (0:Int) (Ins.mk (0:Int) (0:Int) [] [] []),RIns.mk (1:Int) (1:Int) (1:Int) (Ins.mk (0:Int) (0:Int) [] [] []),
  RIns.mk (0:Int) (0:Int) (0:Int) (Ins.mk (1:Int) (0:Int) [(2:Int)] [(0:Int),(1:Int)] []),
  RIns.mk (0:Int) (0:Int) (0:Int) (Ins.mk (1:Int) (0:Int) [(0:Int)] [(2:Int),(0:Int)] []),
  RIns.mk (0:Int) (0:Int) (0:Int) (Ins.mk (1:Int) (0:Int) [(0:Int)] [(0:Int),(1:Int)] []),
  RIns.mk (0:Int) (0:Int) (0:Int) (Ins.mk (1:Int) (0:Int) [(0:Int)] [(0:Int),(2:Int)] [])]&&
  aN2 (B8 (VFun.mk (2:Int) K0.code [(5:Int)] []) (2:Int)).1.code
  [RIns.mk (1:Int) (0:Int) (0:Int) (Ins.mk (0:Int) (0:Int) [] [] []),RIns.mk (1:Int) (1:Int) (1:Int) (Ins.mk (0:Int) (0:Int) [] [] []),
  RIns.mk (0:Int) (0:Int) (0:Int) (Ins.mk (1:Int) (0:Int) [(1:Int)] [(0:Int),(1:Int)] []),
  RIns.mk (0:Int) (0:Int) (0:Int) (Ins.mk (1:Int) (0:Int) [(0:Int)] [(1:Int),(0:Int)] []),RIns.mk (2:Int) (1:Int) (2:Int) (Ins.mk (0:Int) (0:Int) [] [] []),
  RIns.mk (1:Int) (1:Int) (1:Int) (Ins.mk (0:Int) (0:Int) [] [] []),RIns.mk (0:Int) (0:Int) (0:Int) (Ins.mk (1:Int) (0:Int) [(0:Int)] [(0:Int),(1:Int)] []),
  RIns.mk (1:Int) (1:Int) (2:Int) (Ins.mk (0:Int) (0:Int) [] [] []),RIns.mk (0:Int) (0:Int) (0:Int) (Ins.mk (1:Int) (0:Int) [(0:Int)] [(0:Int),(1:Int)] [])]&&
  (B8 (VFun.mk (2:Int) K0.code [(5:Int)] []) (2:Int)).1.slots==(2:Int)&&
  (B8 (VFun.mk (2:Int) K0.code [(5:Int)] []) (2:Int)).1.cells==(3:Int)&&
  (↑(List.length (B8 (VFun.mk (2:Int) K0.code [(5:Int)] []) (2:Int)).1.out):Int)==(1:Int);
 let g:Int×Int:=
  aH9
  (RCode.mk (B8 (VFun.mk (2:Int) K0.code [(5:Int)] []) (2:Int)).1.params (B8 (VFun.mk (2:Int) K0.code [(5:Int)] []) (2:Int)).1.slots
  (B8 (VFun.mk (2:Int) K0.code [(5:Int)] []) (2:Int)).1.cells (B8 (VFun.mk (2:Int) K0.code [(5:Int)] []) (2:Int)).1.code
  (B8 (VFun.mk (2:Int) K0.code [(5:Int)] []) (2:Int)).1.out);
 let a:RCode:=(B8 (VFun.mk (2:Int) K0.code [(5:Int)] []) (2:Int)).1;
 let b:VFun:=VFun.mk (2:Int) K0.code [(5:Int)] [];
 let d:RCode:=(B8 b (3:Int)).1;
  (M1 K0.code=true/\G6 K0.code=true/\List.length [(5:Int)]<=(8796093022200:Nat))/\
  (M1 K0.code=true/\G6 K0.code=true/\List.length [(5:Int)]<=(8796093022200:Nat))/\
  (M1 K0.code=true/\G6 K0.code=true/\List.length [(5:Int)]<=(8796093022200:Nat))/\
  ((-9223372036854775808:Int)<=a.slots/\a.slots<(9223372036854775808:Int)/\U0 a.code=true/\List.length a.out<=(17592186044400:Nat))/\
  (((Q5 b).2 !=(0:Int)||(X0 b).2 !=(0:Int)||(B8 b (3:Int)).2 !=(0:Int)||(B8 b (2:Int)).2 !=(0:Int)||
  (B8 b (1:Int)).2 !=(9:Int)||
  (M5 (RCode.mk a.params a.slots a.cells a.code a.out)).2 !=(0:Int)||
  C1 b !=(0:Int))=
  false->
  (-9223372036854775808:Int)<=d.slots/\d.slots<(9223372036854775808:Int)/\U0 d.code=true/\List.length d.out<=(17592186044400:Nat))/\
  (e=true->(false,())=(true,()))/\
  (e=false->
  (f=true->(0:Int)<=(0:Int)/\(0:Int)<(↑(List.length a.out):Int))/\
  (f&&(false==false&&((↑(0:Nat):Int)==(0:Int)&&true))&&g.1==(4:Int)&&g.2==(1:Int)&&
  (decide (c.params=(2:Int))&&X7 c.code K0.code&&decide (c.out=[(5:Int)])&&decide (c.at_=[])),
  ())=
  (true,()))):=by kernel_rfl
theorem bi7:C9 prog RG 46 cIns:=E8 B9 (λ_=>noL) (by kernel_rfl) (by kernel_rfl) (by kernel_rfl) λ(a,b,()) _=>(ct4 a b).mpr (by intros;rfl)
theorem br1:C9 prog RG 47 cLoadI:=E8 B9 (λ_=>noL) (by kernel_rfl) (by kernel_rfl) (by kernel_rfl) λ(a,b,()) _=>(cd9 a b).mpr rfl
theorem bi8:C9 prog RG 48 cStoreI:=E8 B9 (λ_=>noL) (by kernel_rfl) (by kernel_rfl) (by kernel_rfl) λ(a,b,()) _=>(bT9 a b).mpr rfl
theorem bU0:C9 prog RG 49 cDoI:=E8 (A7 bi7 B9) (λ_=>noL) (by kernel_rfl) (by kernel_rfl) (by kernel_rfl) λ(a,b,()) _=>(ct5 a b).mpr (by intros;rfl)
theorem bH5:C9 prog RG 50 cFour:=E8 (A7 bi7 B9) (λ_=>noL) (by kernel_rfl) (by kernel_rfl) (by kernel_rfl) λ() _=>cp2.mpr (by intros;rfl)
theorem br2 {l m:List RIns} {k:Nat} (hl:k<l.length) (h:V0 l m k=true):V0 l m (k+1)=bT7 (l.getD k rins0) (m.getD k rins0):=by
 unfold V0 at h |-;simp only [cv6,cx6] at h;obtain ⟨h1,h2⟩:=h;have a:k<(l.zip m).length:=by rw [List.length_zip];omega
 rw [A4 a (rins0,rins0),List.all_append,h2,decide_eq_true h1];simp only [Bool.true_and,List.all_cons,List.all_nil,Bool.and_true];have hg:(l.zip m).getD k (rins0,rins0)=(l.getD k rins0,m.getD k rins0):=by rw [cw7,cv5 a,cw7,cw7,cv5 hl,cv5 (by omega)];simp [List.getElem_zip]
 rw [hg]
theorem bU1 {l m:List RIns} {k:Nat} (h:V0 l m k=false):aN2 l m=false:=by unfold aN2;rw [Bool.eq_false_iff] at h |-;intro h2;refine h ?_;unfold V0 at h2 |-;simp only [cv6,cx6,cy5] at h2 |-;refine ⟨h2.1,λx a=>h2.2 x ?_⟩;rw [List.take_of_length_le (by rw [List.length_zip];omega)];exact List.mem_of_mem_take a
theorem bi9 (x:Ins):(⟨x.op,x.n,x.to,x.from_,x.body⟩:Ins)=x:=by cases x;rfl
theorem cp3 (l m:List RIns):vc (EV [(57,cSameIns)]) (co3 l m) Go.Proofs.Tryd.f45 cSame (l,m,()):=by
 rw [cp1 l m];intro c d e hs _;have hl:l.length<=140737488355328:=hs.len;have f:c=rins0:=rfl
 clear_value c
 subst f;dsimp only [d,e];simp only [true_and,and_true];refine ⟨⟨(V0 l m 0,0,()),?_,rfl,Int.le_refl _,by dsimp only;omega,rfl⟩,?_⟩
 .dsimp only [V0];rw [List.take_zero,List.all_nil,Bool.and_true,Bool.eq_iff_iff];simp only [beq_iff_eq,cx6];omega
 rintro ⟨g,i,⟨⟩⟩ ⟨h0,h1,h2⟩;dsimp only at h0 h1 h2 |-;obtain ⟨k,rfl⟩:=cv9 h0;simp only [cv7] at h2 |-;subst h2;refine ⟨λh=>?_,λh=>?_⟩
 .simp only [cv6,cx6] at h;obtain ⟨hg,a⟩:=h;have b:=br2 (by omega) hg;have j:l.length=m.length:=by
   unfold V0 at hg;simp only [cv6,cx6] at hg;exact hg.1
  have hm:(k:Int)<m.length:=by omega
  refine ⟨⟨h0,a⟩,⟨h0,hm⟩,λ_=>⟨h0,a⟩,λ_ _=>⟨h0,a⟩,λ_ _=>⟨h0,hm⟩,λ_ _=>⟨h0,a⟩,λ_ _ _=>⟨h0,a⟩,λ_ _ _=>⟨h0,hm⟩,λ_ _ _=>⟨h0,a⟩,λ_ _ _=>⟨h0,hm⟩,(bT7 (l.getD k rins0) (m.getD k rins0),((k+1:Nat):Int),()),by dsimp only [bT7];rw [bi9,bi9],B5 (by omega) hl,⟨by dsimp only;omega,by dsimp only;omega,?_⟩,by dsimp only;omega⟩;dsimp only;rw [cv7,b]
 .have key:V0 l m k=aN2 l m:=by
   cases hg:V0 l m k with
   |false=>exact (bU1 hg).symm
   |true=>
    rw [hg] at h;simp only [Bool.true_and,decide_eq_false_iff_not] at h;have n:k=l.length:=by omega
    subst n;exact hg.symm
  rw [key]
theorem aR8:C9 prog RG 45 cSame:=E8 (A7 aW7 B9) (λp=>co3 p.1 p.2.1) (by kernel_rfl) (by kernel_rfl) (by kernel_rfl) λ(l,m,()) _=>cp3 l m
theorem aZ6:C9 prog RG 14 cSlotted:=E8 (A7 bH5 (A7 aR1 (A7 bp8 (A7 aL1 (A7 bG1 (A7 bo7 (A7 ad8 (A7 aK1 (A7 br1 (A7 bi8 (A7 bU0 (A7 aR8 (A7 aA1 (A7 aW8 B9)))))))))))))) (λ_=>noL) (by kernel_rfl) (by kernel_rfl) (by kernel_rfl) λ() _=>bH4.mpr (by
 refine ⟨by decide+kernel,by decide+kernel,by decide+kernel,by decide+kernel,λ_=>by decide+kernel,by decide+kernel,λ_=>⟨by decide+kernel,by decide+kernel⟩⟩)
def G5 (n b:Int):Int:=if b<1 then 0 else n % b
def cTurn:Con RU:=con [one,one] [i64,i64] [one] [i64] [false] (some λp=>p.2.1<=4611686018427387904) λp=>(G5 p.1 p.2.1,())
def X8 (l:List Int) (n:Int):Int:=if l=[] then 0 else l.getD (n % l.length).toNat 0
def cNth:Con RU:=con [one,one] [ints,i64] [one] [i64] [false] none λp=>(X8 p.1 p.2.1,())
def cReadsL:Con RU:=con [(true,5)] ay9 [one] [ints] [false] (some λp=>p.2.2.2.1.length<=17592186044400) λp=>(C8 [] p.2.2.2.1,())
def iota (n:Nat):List Int:=(List.range n).map Int.ofNat
def ce0 (there:List Int) (c:Int) (k:Nat):Int:=X8 there (IntKind.i64.wrap (IntKind.i64.wrap (Int.tdiv c (1+5*(k:Int)))+k))
def O4 (there:List Int) (c:Int) (n:Nat):List Int:=(List.range n).map (ce0 there c)
def ai2 (there:List Int) (b c:Int):List Int:=if there=[] then [] else O4 there c (G5 b 4).toNat
def toK (p count:Int) (k:Nat):Int:=p+((count+k)*7+5) % 97
def Q4 (p count:Int) (n:Nat):List Int:=(List.range n).map (toK p count)
def toN (d:Int):Nat:=1+(G5 d 5).toNat / 4
abbrev BS:=List Ins×List Int×Int
def ce1 (p:Int) (l:List Int) (i:Nat) (s:BS):BS:=
 (s.1++[⟨G5 (l.getD i 0) 15,G5 (l.getD i 0) 12,Q4 p s.2.2 (toN (l.getD (i+3) 0)),ai2 s.2.1 (l.getD (i+1) 0) (l.getD (i+2) 0),[]⟩],
  s.2.1++Q4 p s.2.2 (toN (l.getD (i+3) 0)),s.2.2+toN (l.getD (i+3) 0))
def parB (l:List Int):Int:=G5 (X8 l 0) 4
def runB (l:List Int):Nat->BS
 |0=>([],iota (parB l).toNat,0)
 |j+1=>ce1 (parB l) l (4*j+1) (runB l j)
def goB (l:List Int) (m:Int) (j:Nat):Bool:=decide (4*j+4<l.length)&&decide ((j:Int)<m)&&decide ((runB l j).2.2<90)
def endB (l:List Int) (m:Int):Nat:=((List.range 91).find? λj=>!goB l m j).getD 0
def outB (there:List Int):List Int:=if there=[] then [] else [X8 there (there.length-1),X8 there (there.length-3)]
def B6 (l:List Int) (m:Int):VFun:=⟨parB l,(runB l (endB l m)).1,outB (runB l (endB l m)).2.1,[]⟩
def cBuilt:Con RU:=con [one,one] [ints,i64] [(true,4)] as5 [false,false,false,false] none λp=>(parB p.1,(B6 p.1 p.2.1).code,(B6 p.1 p.2.1).out,[],())
def bU2 (l:List Int) (m:Int):Nat->St RU->Ann RU:=λn s=>match n with
 |0=>⟨[6],[.slot 7,.row 1216],[i64,ints],λp=>0<=p.1/\p.1<=parB l/\p.2.1=iota p.1.toNat,λp=>(parB l).toNat-p.1.toNat,[]⟩
 |1=>⟨[6],[.slot 8,.slot 9,.row 1216,.row 900001],[i64,i64,ints,inss],λp=>∃ j:Nat,p.2.1=4*j+1/\j<=90/\(∀ i,i<j->goB l m i=true)/\(p.2.2.2.1,p.2.2.1,p.1)=runB l j,λp=>400-p.2.1.toNat,[(.box 320 1,900001,52,.user 0)]⟩
 |2=>⟨[],[.slot 11,.row 900002],[i64,ints],λp=>0<=p.1/\p.1<=G5 (l.getD ((s.intAt 9).toNat+1) 0) 4/\p.2.1=O4 (s.rowInts 1216) (l.getD ((s.intAt 9).toNat+2) 0) p.1.toNat/\(s.rowInts 1216=[]->p.1=0),λp=>4-p.1.toNat,[(.box 640 3,900002,3,i64)]⟩
 |3=>⟨[],[.slot 12,.slot 8,.row 900003],[i64,i64,ints],λp=>0<=p.1/\p.1<=toN (l.getD ((s.intAt 9).toNat+3) 0)/\p.2.1=s.intAt 8+p.1/\p.2.2.1=Q4 (parB l) (s.intAt 8) p.1.toNat,λp=>4-p.1.toNat,[(.box 640 2,900003,3,i64)]⟩
 |_=>⟨[],[.slot 14,.row 900004],[i64,ints],λp=>0<=p.1/\p.1<=2/\p.2.1=(outB (s.rowInts 1216)).take p.1.toNat,λp=>2-p.1.toNat,[(.box 320 2,900004,3,i64)]⟩
def O5 (l:List Ins):Int:=l.foldl (λk x=>max (max k ((C8 [] x.from_).length:Int)) (x.to.length:Int)) 1
def ai3 (f:VFun) (n more:Int):Int:=O5 f.code+G5 n more
def cSlots:Con RU:=con [(true,4),one,one] [i64,inss,ints,ints,i64,i64] [one] [i64] [false] (some λp=>M1 p.2.1=true/\p.2.2.2.2.2.1<=1000) λp=>(ai3 ⟨p.1,p.2.1,p.2.2.1,p.2.2.2.1⟩ p.2.2.2.2.1 p.2.2.2.2.2.1,())
def bU3 (l:List Ins):Nat->St RU->Ann RU:=λ_ _=>⟨[],[.slot 7,.slot 8],[i64,i64],λp=>0<=p.2.1/\p.2.1<=l.length/\p.1=O5 (l.take p.2.1.toNat),λp=>l.length-p.2.1.toNat,[]⟩
theorem cp4 (n b:Int):vc (EV []) noL Go.Proofs.Tryd.f65 cTurn (n,b,())=(
 let c:Bool:=decide (b<(1:Int));
 let d:Bool:=decide (Int.tmod n b<(0:Int));
 let a:Int×Unit:=(G5 n b,());
  (c=true->((0:Int),())=a)/\(c=false->b≠(0:Int)/\(d=true->(IntKind.i64.wrap (Int.tmod n b+b),())=a)/\(d=false->(Int.tmod n b,())=a))):=by kernel_rfl
theorem ct6 (l:List Int) (n:Int):vc (EV [(65,cTurn)]) noL Go.Proofs.Tryd.f66 cNth (l,n,())=(
 let a:Int:=(↑(List.length l):Int);
  Small RU (Sigma.mk (Ty.slice (3:Nat) (Ty.int IntKind.i64)) l)->
  ((a==(0:Int))=true->((0:Int),())=(X8 l n,()))/\
  ((a==(0:Int))=false->a<=(4611686018427387904:Int)/\((0:Int)<=G5 n a/\G5 n a<a)/\(List.getD l (Int.toNat (G5 n a)) (0:Int),())=(X8 l n,()))):=by kernel_rfl
theorem bU4 (o n:Int) (t f:List Int) (b:List Ins):vc (EV [(35,cUnion)]) noL Go.Proofs.Tryd.f36 cReadsL (o,n,t,f,b,())=(Small RU (Sigma.mk (Ty.slice (3:Nat) (Ty.int IntKind.i64)) t)->
 Small RU (Sigma.mk (Ty.slice (3:Nat) (Ty.int IntKind.i64)) f)->
 Small RU (Sigma.mk (Ty.slice (52:Nat) (Ty.user (0:Nat))) b)->List.length ([]:List Int)+List.length f<=(17592186044400:Nat)/\(C8 [] f,())=(C8 [] f,())):=by kernel_rfl
theorem ce2 (a:Int) (b:List Ins) (c d:List Int) (n k:Int):vc (EV [(36,cReadsL),(65,cTurn)]) (bU3 b) Go.Proofs.Tryd.f27 cSlots (a,b,c,d,n,k,())=(
 let f:Ins:=Ins.mk (0:Int) (0:Int) [] [] [];
  Small RU (Sigma.mk (Ty.slice (52:Nat) (Ty.user (0:Nat))) b)->
  Small RU (Sigma.mk (Ty.slice (3:Nat) (Ty.int IntKind.i64)) c)->
  Small RU (Sigma.mk (Ty.slice (3:Nat) (Ty.int IntKind.i64)) d)->
  (∃ (p:Int×Int×Unit),
  a=a/\
  b=b/\
  c=c/\
  d=d/\
  n=n/\
  k=k/\
  (0:Int)=(0:Int)/\
  (1:Int)=p.1/\
  (0:Int)=p.2.1/\a=a/\b=b/\c=c/\d=d/\(0:Int)<=p.2.1/\p.2.1<=(↑(List.length b):Int)/\p.1=O5 (List.take (Int.toNat p.2.1) b))/\
  ∀ (p:Int×Int×Unit),
 let e0_1:Bool:=decide (p.2.1<(↑(List.length b):Int));
 let e:Int:=p.2.1;
  (0:Int)<=e/\e<=(↑(List.length b):Int)/\p.1=O5 (List.take (Int.toNat e) b)->
  (e0_1=true->
  ((0:Int)<=e/\e<(↑(List.length b):Int))/\
  List.length (List.getD b (Int.toNat e) f).from_<=(17592186044400:Nat)/\
  ((0:Int)<=e/\e<(↑(List.length b):Int))/\
  ∃ (p':Int×Int×Unit),
  a=a/\
  b=b/\
  c=c/\
  d=d/\
  n=n/\
  k=k/\
  (0:Int)=(0:Int)/\
  max (max p.1 (↑(List.length (C8 [] (List.getD b (Int.toNat e) f).from_)):Int)) (↑(List.length (List.getD b (Int.toNat e) f).to):Int)=p'.1/\
  IntKind.i64.wrap (e+(1:Int))=p'.2.1/\
  a=a/\
  b=b/\
  c=c/\
  d=d/\
  ((0:Int)<=p'.2.1/\p'.2.1<=(↑(List.length b):Int)/\p'.1=O5 (List.take (Int.toNat p'.2.1) b))/\
  List.length b-Int.toNat p'.2.1<List.length b-Int.toNat e)/\
  (e0_1=false->k<=(4611686018427387904:Int)/\(IntKind.i64.wrap (p.1+G5 n k),())=(ai3 (VFun.mk a b c d) n k,()))):=by kernel_rfl
theorem ce3 (l:List Int) (m:Int):vc (EV [(65,cTurn),(66,cNth)]) (bU2 l m) Go.Proofs.Tryd.f25 cBuilt (l,m,())=(
 let b:Int:=G5 (X8 l (0:Int)) (4:Int);
 let g:Int:=(↑(List.length l):Int);
  Small RU (Sigma.mk (Ty.slice (3:Nat) (Ty.int IntKind.i64)) l)->
  (4:Int)<=(4611686018427387904:Int)/\
  (∃ (p:Int×List Int×Unit),l=l/\m=m/\(0:Int)=p.1/\(0:Int)=(0:Int)/\b=b/\[]=p.2.1/\(0:Int)<=p.1/\p.1<=parB l/\p.2.1=iota (Int.toNat p.1))/\
  ∀ (p:Int×List Int×Unit),
 let e0_1:Bool:=decide (p.1<b);
 let e1_1:Int:=p.1;
 let c:List Int:=p.2.1;
  (0:Int)<=e1_1/\e1_1<=parB l/\c=iota (Int.toNat e1_1)->
  (e0_1=true->
  (List.length c+List.length [e1_1])*(8:Nat)<=(140737488355328:Nat)/\
  ∃ (p':Int×List Int×Unit),
  l=l/\
  m=m/\
  IntKind.i64.wrap (e1_1+(1:Int))=p'.1/\
  (0:Int)=(0:Int)/\
  b=b/\
  c++[e1_1]=p'.2.1/\
  ((0:Int)<=p'.1/\p'.1<=parB l/\p'.2.1=iota (Int.toNat p'.1))/\Int.toNat (parB l)-Int.toNat p'.1<Int.toNat (parB l)-Int.toNat e1_1)/\
  (e0_1=false->
  (∃ (p:Int×Int×List Int×List Ins×Unit),
  l=l/\
  m=m/\
  e1_1=e1_1/\
  e0_1=e0_1/\
  (0:Int)=p.1/\
  (1:Int)=p.2.1/\
  (0:Int)=(0:Int)/\
  b=b/\
  c=p.2.2.1/\
  []=p.2.2.2.1/\
  ∃ (j:Nat),
  p.2.1=(4:Int)*(↑j:Int)+(1:Int)/\
  j<=(90:Nat)/\(∀ (i:Nat),i<j->goB l m i=true)/\(p.2.2.2.1,p.2.2.1,p.1)=runB l j)/\
  ∀ (p:Int×Int×List Int×List Ins×Unit),
 let e0_2:Bool:=decide (IntKind.i64.wrap (p.2.1+(3:Int))<g)&&decide ((↑(List.length p.2.2.2.1):Int)<m)&&decide (p.1<(90:Int));
 let e1_2:List Int:=p.2.2.1;
 let c:List Ins:=p.2.2.2.1;
 let a:Int:=p.2.1;
 let h:Bool:=decide ((↑(List.length e1_2):Int) >(0:Int));
 let d:Int:=p.1;
 let r:Int:=G5 (List.getD l (Int.toNat (IntKind.i64.wrap (a+(1:Int)))) (0:Int)) (4:Int);
 let e:Int:=G5 (List.getD l (Int.toNat a) (0:Int)) (12:Int);
 let f:Int:=G5 (List.getD l (Int.toNat a) (0:Int)) (15:Int);
 let o:Int:=IntKind.i64.wrap (a+(3:Int));
 let k:Int:=IntKind.i64.wrap (a+(2:Int));
 let q:Int:=IntKind.i64.wrap ((↑(List.length e1_2):Int)-(1:Int));
 let n:Int:=IntKind.i64.wrap (a+(1:Int));
  (∃ (j:Nat),a=(4:Int)*(↑j:Int)+(1:Int)/\j<=(90:Nat)/\(∀ (i:Nat),i<j->goB l m i=true)/\(c,e1_2,d)=runB l j)->
  (e0_2=true->
  ((0:Int)<=a/\a<g)/\
  (15:Int)<=(4611686018427387904:Int)/\
  ((0:Int)<=a/\a<g)/\
  (12:Int)<=(4611686018427387904:Int)/\
  (∃ (p:Int×List Int×Unit),
  l=l/\
  m=m/\
  e1_1=e1_1/\
  e0_1=e0_1/\
  d=d/\
  a=a/\
  e0_2=e0_2/\
  (0:Int)=p.1/\
  (0:Int)=(0:Int)/\
  b=b/\
  e1_2=e1_2/\
  c=c/\
  f=f/\
  e=e/\
  []=p.2.1/\
  (0:Int)<=p.1/\
  p.1<=G5 (List.getD l (Int.toNat a+(1:Nat)) (0:Int)) (4:Int)/\
  p.2.1=O4 e1_2 (List.getD l (Int.toNat a+(2:Nat)) (0:Int)) (Int.toNat p.1)/\(e1_2=[]->p.1=(0:Int)))/\
  ∀ (p:Int×List Int×Unit),
 let e0_3:Bool:=decide (p.1<r)&&h;
 let e1_3:List Int:=
  [X8 e1_2
  (IntKind.i64.wrap
  (IntKind.i64.wrap
  (Int.tdiv (List.getD l (Int.toNat k) (0:Int)) (IntKind.i64.wrap ((1:Int)+IntKind.i64.wrap ((5:Int)*p.1))))+
  p.1))];
 let e2_1:List Int:=p.2.1;
 let e3_1:Int:=p.1;
 let h:Int:=G5 (List.getD l (Int.toNat a+(1:Nat)) (0:Int)) (4:Int);
 let e5_1:Int:=List.getD l (Int.toNat a+(2:Nat)) (0:Int);
  (0:Int)<=e3_1/\e3_1<=h/\e2_1=O4 e1_2 e5_1 (Int.toNat e3_1)/\(e1_2=[]->e3_1=(0:Int))->
  ((0:Int)<=n/\n<g)/\
  (4:Int)<=(4611686018427387904:Int)/\
  (e0_3=true->
  ((0:Int)<=k/\k<g)/\
  IntKind.i64.wrap ((1:Int)+IntKind.i64.wrap ((5:Int)*e3_1))≠(0:Int)/\
  (List.length e2_1+List.length e1_3)*(8:Nat)<=(140737488355328:Nat)/\
  ∃ (p':Int×List Int×Unit),
  l=l/\
  m=m/\
  e1_1=e1_1/\
  e0_1=e0_1/\
  d=d/\
  a=a/\
  e0_2=e0_2/\
  IntKind.i64.wrap (e3_1+(1:Int))=p'.1/\
  (0:Int)=(0:Int)/\
  b=b/\
  e1_2=e1_2/\
  c=c/\
  f=f/\
  e=e/\
  e2_1++e1_3=p'.2.1/\
  ((0:Int)<=p'.1/\
  p'.1<=h/\p'.2.1=O4 e1_2 e5_1 (Int.toNat p'.1)/\(e1_2=[]->p'.1=(0:Int)))/\
  (4:Nat)-Int.toNat p'.1<(4:Nat)-Int.toNat e3_1)/\
  (e0_3=false->
  (∃ (p:Int×Int×List Int×Unit),
  l=l/\
  m=m/\
  e1_1=e1_1/\
  e0_1=e0_1/\
  a=a/\
  e0_2=e0_2/\
  e3_1=e3_1/\
  e0_3=e0_3/\
  (0:Int)=p.1/\
  d=p.2.1/\
  (0:Int)=(0:Int)/\
  b=b/\
  e1_2=e1_2/\
  c=c/\
  f=f/\
  e=e/\
  e2_1=e2_1/\
  []=p.2.2.1/\
  (0:Int)<=p.1/\
  p.1<=(↑(toN (List.getD l (Int.toNat a+(3:Nat)) (0:Int))):Int)/\
  p.2.1=d+p.1/\p.2.2.1=Q4 (parB l) d (Int.toNat p.1))/\
  ∀ (p:Int×Int×List Int×Unit),
 let e0_4:Bool:=
  decide
  (p.1<
  IntKind.i64.wrap ((1:Int)+IntKind.i64.wrap (Int.tdiv (G5 (List.getD l (Int.toNat o) (0:Int)) (5:Int)) (4:Int))));
 let e1_4:List Int:=p.2.2.1;
 let e2_2:List Int:=
  [IntKind.i64.wrap (b+Int.tmod (IntKind.i64.wrap (IntKind.i64.wrap (p.2.1*(7:Int))+(5:Int))) (97:Int))];
 let e3_2:Int:=p.1;
 let h:Int:=p.2.1;
 let e5_2:Int:=(↑(toN (List.getD l (Int.toNat a+(3:Nat)) (0:Int))):Int);
  (0:Int)<=e3_2/\e3_2<=e5_2/\h=d+e3_2/\e1_4=Q4 (parB l) d (Int.toNat e3_2)->
  ((0:Int)<=o/\o<g)/\
  (5:Int)<=(4611686018427387904:Int)/\
  (4:Int)≠(0:Int)/\
  (e0_4=true->
  (97:Int)≠(0:Int)/\
  (List.length e1_4+List.length e2_2)*(8:Nat)<=(140737488355328:Nat)/\
  ∃ (p':Int×Int×List Int×Unit),
  l=l/\
  m=m/\
  e1_1=e1_1/\
  e0_1=e0_1/\
  a=a/\
  e0_2=e0_2/\
  e3_1=e3_1/\
  e0_3=e0_3/\
  IntKind.i64.wrap (e3_2+(1:Int))=p'.1/\
  IntKind.i64.wrap (h+(1:Int))=p'.2.1/\
  (0:Int)=(0:Int)/\
  b=b/\
  e1_2=e1_2/\
  c=c/\
  f=f/\
  e=e/\
  e2_1=e2_1/\
  e1_4++e2_2=p'.2.2.1/\
  ((0:Int)<=p'.1/\
  p'.1<=e5_2/\
  p'.2.1=d+p'.1/\p'.2.2.1=Q4 (parB l) d (Int.toNat p'.1))/\
  (4:Nat)-Int.toNat p'.1<(4:Nat)-Int.toNat e3_2)/\
  (e0_4=false->
  (List.length e1_2+List.length e1_4)*(8:Nat)<=(140737488355328:Nat)/\
  (List.length c+List.length [Ins.mk f e e1_4 e2_1 []])*(88:Nat)<=(140737488355328:Nat)/\
  ∃ (p':Int×Int×List Int×List Ins×Unit),
  l=l/\
  m=m/\
  e1_1=e1_1/\
  e0_1=e0_1/\
  h=p'.1/\
  IntKind.i64.wrap (a+(4:Int))=p'.2.1/\
  (0:Int)=(0:Int)/\
  b=b/\
  e1_2++e1_4=p'.2.2.1/\
  c++[Ins.mk f e e1_4 e2_1 []]=p'.2.2.2.1/\
  (∃ (j:Nat),
  p'.2.1=(4:Int)*(↑j:Int)+(1:Int)/\
  j<=(90:Nat)/\
  (∀ (i:Nat),i<j->goB l m i=true)/\(p'.2.2.2.1,p'.2.2.1,p'.1)=runB l j)/\
  (400:Nat)-Int.toNat p'.2.1<(400:Nat)-Int.toNat a)))/\
  (e0_2=false->
  (∃ (p:Int×List Int×Unit),
  l=l/\
  m=m/\
  e1_1=e1_1/\
  e0_1=e0_1/\
  d=d/\
  a=a/\
  e0_2=e0_2/\
  (0:Int)=p.1/\
  (0:Int)=(0:Int)/\
  b=b/\e1_2=e1_2/\c=c/\[]=p.2.1/\(0:Int)<=p.1/\p.1<=(2:Int)/\p.2.1=List.take (Int.toNat p.1) (outB e1_2))/\
  ∀ (p:Int×List Int×Unit),
 let e0_3:Bool:=decide (p.1<(2:Int))&&h;
 let g:List Int:=[X8 e1_2 (IntKind.i64.wrap (q-IntKind.i64.wrap ((2:Int)*p.1)))];
 let e2_1:List Int:=p.2.1;
 let e3_1:Int:=p.1;
  (0:Int)<=e3_1/\e3_1<=(2:Int)/\e2_1=List.take (Int.toNat e3_1) (outB e1_2)->
  (e0_3=true->
  (List.length e2_1+List.length g)*(8:Nat)<=(140737488355328:Nat)/\
  ∃ (p':Int×List Int×Unit),
  l=l/\
  m=m/\
  e1_1=e1_1/\
  e0_1=e0_1/\
  d=d/\
  a=a/\
  e0_2=e0_2/\
  IntKind.i64.wrap (e3_1+(1:Int))=p'.1/\
  (0:Int)=(0:Int)/\
  b=b/\
  e1_2=e1_2/\
  c=c/\
  e2_1++g=p'.2.1/\
  ((0:Int)<=p'.1/\p'.1<=(2:Int)/\p'.2.1=List.take (Int.toNat p'.1) (outB e1_2))/\
  (2:Nat)-Int.toNat p'.1<(2:Nat)-Int.toNat e3_1)/\
  (e0_3=false->(b,c,e2_1,([]:List Int),())=(parB l,(B6 l m).code,(B6 l m).out,([]:List Int),()))))):=by kernel_rfl
theorem bU5 {n b:Int} (d:1<=b):(Int.tmod n b<0->Int.tmod n b+b=n % b)/\(¬ Int.tmod n b<0->Int.tmod n b=n % b)/\-b<Int.tmod n b:=by
 have h:=Int.tmod_eq_emod (a:=n) (b:=b);have h1:=Int.emod_nonneg n (b:=b) (by omega);have h2:=Int.emod_lt_of_pos n (b:=b) (by omega);split at h
 .refine ⟨λ_=>by omega,λ_=>by omega,by omega⟩
 .rename_i hc;have e:¬ n % b=0:=λc=>hc (.inr (Int.dvd_of_emod_eq_zero c));refine ⟨λ_=>by omega,λ_=>by omega,by omega⟩
theorem cp5 (n b:Int) (d:b<=4611686018427387904):vc (EV []) noL Go.Proofs.Tryd.f65 cTurn (n,b,()):=(cp4 n b).mpr (by
 intro e f a;refine ⟨λh=>?_,λh=>?_⟩
 .have h:=cw3 h;simp [a,G5,h]
 .have h:=cw2 h;obtain ⟨h1,h2,g⟩:=bU5 (n:=n) (b:=b) (by omega);have c:G5 n b=n % b:=by unfold G5;rw [if_neg h]
  refine ⟨by omega,λhc=>?_,λhc=>?_⟩
  .have hc:=cw3 hc;simp only [a];rw [c,<-h1 hc,F9 (by omega) (by omega)]
  .have hc:=cw2 hc;simp only [a];rw [c,<-h2 hc])
theorem aw7:C9 prog RG 65 cTurn:=E8 B9 (λ_=>noL) (by kernel_rfl) (by kernel_rfl) (by kernel_rfl) λ(n,b,()) a=>cp5 n b a
theorem U2 {n b:Int} (a:1<=b):0<=G5 n b/\G5 n b<b:=by unfold G5;rw [if_neg (by omega)];exact ⟨Int.emod_nonneg n (by omega),Int.emod_lt_of_pos n (by omega)⟩
theorem ct7 (l:List Int) (n:Int):vc (EV [(65,cTurn)]) noL Go.Proofs.Tryd.f66 cNth (l,n,()):=(ct6 l n).mpr (by
 intro a hs;have hl:l.length<=140737488355328:=hs.len;refine ⟨λh=>?_,λh=>?_⟩
 .have h:(l.length:Int)=0:=by simpa [a] using h
  have:l=[]:=List.length_eq_zero_iff.1 (by omega);rw [this];rfl
 .have h:¬ (l.length:Int)=0:=by simpa [a] using h
  have c:l≠[]:=λd=>h (by rw [d];rfl);have e:=U2 (n:=n) (b:=(l.length:Int)) (by omega);refine ⟨by dsimp only [a];omega,e,?_⟩;dsimp only [a];unfold X8 G5;rw [if_neg c,if_neg (by omega)])
theorem bU6:C9 prog RG 66 cNth:=E8 (A7 aw7 B9) (λ_=>noL) (by kernel_rfl) (by kernel_rfl) (by kernel_rfl) λ(l,n,()) _=>ct7 l n
theorem bj0:C9 prog RG 36 cReadsL:=E8 (A7 bo1 B9) (λ_=>noL) (by kernel_rfl) (by kernel_rfl) (by kernel_rfl) λ(o,n,t,f,b,()) a=>(bU4 o n t f b).mpr (λ_ _ _=>⟨by simp only [List.length_nil,Nat.zero_add];exact a,rfl⟩)
theorem aZ7 (l:List Int):0<=parB l/\parB l<4:=U2 (by omega)
theorem by1 (d:Int):1<=toN d/\toN d<=2:=by have:=U2 (n:=d) (b:=5) (by omega);unfold toN;omega
theorem bU7 (k:Nat):iota (k+1)=iota k++[(k:Int)]:=by simp [iota,List.range_succ]
theorem aL4 (k:Nat):(iota k).length=k:=by simp [iota]
theorem bH6 (p c:Int) (k:Nat):Q4 p c (k+1)=Q4 p c k++[toK p c k]:=by simp [Q4,List.range_succ]
theorem Z8 (p c:Int) (k:Nat):(Q4 p c k).length=k:=by simp [Q4]
theorem bj1 (t:List Int) (c:Int) (k:Nat):O4 t c (k+1)=O4 t c k++[ce0 t c k]:=by simp [O4,List.range_succ]
theorem am7 (t:List Int) (c:Int) (k:Nat):(O4 t c k).length=k:=by simp [O4]
theorem aZ8 (l:List Int):∀ j,(runB l j).1.length=j/\(runB l j).2.1.length<=3+2*j/\(j:Int)<=(runB l j).2.2/\(runB l j).2.2<=2*j
 |0=>by have:=aZ7 l;refine ⟨rfl,?_,Int.le_refl _,Int.le_refl _⟩;show (iota _).length<=_;rw [aL4];omega
 |j+1=>by
  obtain ⟨h1,h2,a,b⟩:=aZ8 l j;have c:=by1 (l.getD (4*j+1+3) 0);refine ⟨?_,?_,?_,?_⟩
  .show (_++[_]).length=_;rw [cx5,h1];rfl
  .show (_++Q4 _ _ _).length<=_;rw [cx5,Z8];omega
  .show _<=(runB l j).2.2+_;omega
  .show (runB l j).2.2+_<=_;omega
theorem cp6 {l:List Int} {m:Int} {j:Nat} (h1:j<=90) (h2:∀ i,i<j->goB l m i=true) (a:goB l m j=false):endB l m=j:=by
 unfold endB;have:(List.range 91).find? (λj=>!goB l m j)=some j:=by rw [List.find?_eq_some_iff_getElem];refine ⟨by rw [a];rfl,j,by simp;omega,by simp,λi b=>?_⟩;simp only [List.getElem_range];rw [h2 i b];rfl
 rw [this];rfl
theorem cv1 (d:Int):IntKind.i64.wrap (1+IntKind.i64.wrap (Int.tdiv (G5 d 5) 4))=(toN d:Int):=by have h:=U2 (n:=d) (b:=5) (by omega);have h2:Int.tdiv (G5 d 5) 4=G5 d 5 / 4:=Int.tdiv_eq_ediv_of_nonneg h.1;rw [h2,F9 (n:=G5 d 5 / 4) (by omega) (by omega),F9 (by omega) (by omega)];unfold toN;omega
theorem cv2 {p n:Int} (a:0<=p/\p<4) (h0:0<=n) (h1:n<=1000):IntKind.i64.wrap (p+Int.tmod (IntKind.i64.wrap (IntKind.i64.wrap (n*7)+5)) 97)=p+(n*7+5) % 97:=by rw [F9 (n:=n*7) (by omega) (by omega),F9 (n:=n*7+5) (by omega) (by omega),Int.tmod_eq_emod_of_nonneg (by omega),F9 (by omega) (by omega)]
theorem cp7 (there:List Int) (c:Int) {k:Nat} (a:k<=4):X8 there (IntKind.i64.wrap (IntKind.i64.wrap (Int.tdiv c (IntKind.i64.wrap (1+IntKind.i64.wrap (5*(k:Int)))))+k))=ce0 there c k:=by rw [F9 (n:=5*(k:Int)) (by omega) (by omega),F9 (n:=1+5*(k:Int)) (by omega) (by omega)];rfl
theorem ce4 (l:List Int) (m:Int):vc (EV [(65,cTurn),(66,cNth)]) (bU2 l m) Go.Proofs.Tryd.f25 cBuilt (l,m,()):=by
 rw [ce3 l m];intro P Q hs;have hl:l.length<=140737488355328:=hs.len;have z:P=parB l:=rfl;have A:Q=(l.length:Int):=rfl
 clear_value P Q
 subst z A;have R:=aZ7 l;simp only [true_and,and_true];refine ⟨by omega,⟨(0,[],()),rfl,rfl,Int.le_refl _,R.1,rfl⟩,?_⟩;rintro ⟨r,th,⟨⟩⟩;dsimp only;rintro ⟨h0,h1,rfl⟩;obtain ⟨k,rfl⟩:=cv9 h0;simp only [cv7] at*
 refine ⟨λg=>?_,λe=>?_⟩
 .have g:=cw3 g;refine ⟨by rw [aL4];simp;omega,((k+1:Nat),iota (k+1),()),B5 (m:=4) (by omega) (by omega),(bU7 k).symm,⟨by dsimp only;omega,by dsimp only;omega,by dsimp only;rw [cv7]⟩,by dsimp only;omega⟩
 have e:=cw2 e;have B:(k:Int)=parB l:=by omega
 have p:iota k=(runB l 0).2.1:=by show _=iota (parB l).toNat;rw [<-B,cv7]
 refine ⟨⟨(0,1,iota k,[],()),rfl,rfl,rfl,rfl,0,rfl,by omega,λi y=>by omega,by rw [p];rfl⟩,?_⟩;clear e p;rintro ⟨count,i,there,code,⟨⟩⟩;dsimp only;rintro ⟨j,rfl,T,s,a⟩;obtain ⟨t,U,V,W⟩:=aZ8 l j;have hc:code=(runB l j).1:=congrArg (·.1) a;have d:there=(runB l j).2.1:=congrArg (·.2.1) a;have c:count=(runB l j).2.2:=congrArg (·.2.2) a;clear a;have C:IntKind.i64.wrap (4*(j:Int)+1+3)=((4*j+4:Nat):Int):=by rw [F9 (by omega) (by omega)];omega
 have D:IntKind.i64.wrap (4*(j:Int)+1+2)=((4*j+3:Nat):Int):=by rw [F9 (by omega) (by omega)];omega
 have E:IntKind.i64.wrap (4*(j:Int)+1+1)=((4*j+2:Nat):Int):=by rw [F9 (by omega) (by omega)];omega
 have F:(4*(j:Int)+1).toNat=4*j+1:=by omega
 have v:IntKind.i64.wrap ((there.length:Int)-1)=(there.length:Int)-1:=by rw [F9 (by rw [d];omega) (by rw [d];omega)]
 simp only [C,D,E,F,v,cv7];have G:(decide (((4*j+4:Nat):Int)<(l.length:Int))&&decide ((code.length:Int)<m)&&decide (count<90))=goB l m j:=by unfold goB;rw [hc,t,c];congr 2;simp only [decide_eq_decide];omega
 rw [G];refine ⟨λhg=>?_,λhg=>?_⟩
 .have H:(4*j+4<l.length/\(j:Int)<m)/\(runB l j).2.2<90:=by simpa [goB] using hg
  obtain ⟨⟨g1,g2⟩,g3⟩:=H;have I:=U2 (n:=l.getD (4*j+2) 0) (b:=4) (by omega);refine ⟨⟨by omega,by omega⟩,by omega,⟨by omega,by omega⟩,by omega,⟨(0,[],()),rfl,rfl,Int.le_refl _,I.1,rfl,λ_=>rfl⟩,?_⟩;rintro ⟨q,fr,⟨⟩⟩;dsimp only;rintro ⟨J,K,rfl,L⟩;obtain ⟨q,rfl⟩:=cv9 J;have K:(q:Int)<=G5 (l.getD (4*j+2) 0) 4:=K;have hf:=cp7 there (l.getD (4*j+3) 0) (k:=q) (by omega);simp only [cv7,hf] at*
  refine ⟨⟨by omega,by omega⟩,by omega,λh=>?_,λh=>?_⟩
  .simp only [cv6,cx6] at h;refine ⟨⟨by omega,by omega⟩,by rw [F9 (n:=5*(q:Int)) (by omega) (by omega),F9 (by omega) (by omega)];omega,by rw [am7];simp;omega,((q+1:Nat),O4 there (l.getD (4*j+3) 0) (q+1),()),B5 (m:=4) (by omega) (by omega),(bj1 _ _ _).symm,⟨by dsimp only;omega,?_,by dsimp only;rw [cv7],λc=>?_⟩,by dsimp only;omega⟩
   .show ((q+1:Nat):Int)<=G5 (l.getD (4*j+2) 0) 4;omega
   .rw [c] at h;simp at h
  .have M:O4 there (l.getD (4*j+3) 0) q=ai2 there (l.getD (4*j+2) 0) (l.getD (4*j+3) 0):=by
    unfold ai2;simp only [Bool.and_eq_false_iff,decide_eq_false_iff_not] at h;split
    .rename_i c;have:=L c;have:q=0:=by omega
     rw [this];rfl
    .rename_i c;have w:0<there.length:=List.length_pos_iff.2 c;rw [show (G5 (l.getD (4*j+2) 0) 4).toNat=q from by omega]
   have hN:=by1 (l.getD (4*j+4) 0);have X:=cv1 (l.getD (4*j+4) 0);refine ⟨⟨(0,count,[],()),rfl,rfl,rfl,Int.le_refl _,by dsimp only;omega,(Int.add_zero _).symm,rfl⟩,?_⟩;rintro ⟨u,n2,to,⟨⟩⟩;dsimp only;rintro ⟨Y,S,rfl,rfl⟩;obtain ⟨u,rfl⟩:=cv9 Y;have S:(u:Int)<=(toN (l.getD (4*j+4) 0):Int):=S;have B:=cv2 R (n:=count+(u:Int)) (by omega) (by omega);simp only [cv7,X,B] at*
   refine ⟨⟨by omega,by omega⟩,by omega,by omega,λh=>?_,λh=>?_⟩
   .have h:=cw3 h;refine ⟨by omega,by rw [Z8];simp;omega,((u+1:Nat),count+((u+1:Nat):Int),Q4 (parB l) count (u+1),()),B5 (m:=4) (by omega) (by omega),by rw [F9 (by omega) (by omega)];dsimp only;omega,(bH6 _ _ _).symm,⟨by dsimp only;omega,?_,rfl,by dsimp only;rw [cv7]⟩,by dsimp only;omega⟩;show ((u+1:Nat):Int)<=(toN (l.getD (4*j+4) 0):Int);omega
   .have h:=cw2 h;have Z:u=toN (l.getD (4*j+4) 0):=by omega
    have f:runB l (j+1)=(code++[⟨G5 (l.getD (4*j+1) 0) 15,G5 (l.getD (4*j+1) 0) 12,Q4 (parB l) count u,O4 there (l.getD (4*j+3) 0) q,[]⟩],there++Q4 (parB l) count u,count+u):=by rw [M,Z,hc,d,c];rfl
    refine ⟨by rw [d,Z8];omega,by rw [hc,t];simp;omega,(count+u,((4*(j+1)+1:Nat):Int),there++Q4 (parB l) count u,code++[⟨G5 (l.getD (4*j+1) 0) 15,G5 (l.getD (4*j+1) 0) 12,Q4 (parB l) count u,O4 there (l.getD (4*j+3) 0) q,[]⟩],()),rfl,by rw [F9 (by omega) (by omega)];dsimp only;omega,rfl,rfl,⟨j+1,by dsimp only;omega,by omega,λi y=>?_,f.symm⟩,by dsimp only;omega⟩;rcases Nat.lt_succ_iff_lt_or_eq.1 y with y|rfl
    .exact s i y
    .exact hg
 .have x:=cp6 T s hg;refine ⟨⟨(0,[],()),rfl,rfl,Int.le_refl _,by dsimp only;omega,by dsimp only;rfl⟩,?_⟩;rintro ⟨q,o,⟨⟩⟩;dsimp only;rintro ⟨J,K,rfl⟩;obtain ⟨q,rfl⟩:=cv9 J;simp only [cv7] at*
  refine ⟨λh=>?_,λh=>?_⟩
  .simp only [cv6,cx6] at h;have N:there≠[]:=by rintro hh;rw [hh] at h;simp at h
   have ho:outB there=[X8 there (there.length-1),X8 there (there.length-3)]:=if_neg N;have L:q=0\/q=1:=by omega
   rw [ho];rcases L with rfl|rfl
   .refine ⟨by show (0+1)*8<=140737488355328;omega,(1,[X8 there (there.length-1)],()),rfl,?_,⟨by dsimp only;omega,by dsimp only;omega,rfl⟩,by dsimp only;omega⟩;show []++[X8 there _]=_;rw [F9 (n:=2*((0:Nat):Int)) (by omega) (by omega),F9 (by rw [d];omega) (by rw [d];omega),show ((there.length:Int)-1-2*((0:Nat):Int))=there.length-1 from by omega];rfl
   .refine ⟨by show (1+1)*8<=140737488355328;omega,(2,[X8 there (there.length-1),X8 there (there.length-3)],()),rfl,?_,⟨by dsimp only;omega,by dsimp only;omega,rfl⟩,by dsimp only;omega⟩;show [X8 there _]++[X8 there _]=_;rw [F9 (n:=2*((1:Nat):Int)) (by omega) (by omega),F9 (n:=(there.length:Int)-1-2*((1:Nat):Int)) (by rw [d];omega) (by rw [d];omega)];rw [show ((there.length:Int)-1-2*((1:Nat):Int))=there.length-3 from by omega];rfl
  .have O:(outB there).take q=outB there:=by
    simp only [Bool.and_eq_false_iff,decide_eq_false_iff_not] at h;apply List.take_of_length_le;unfold outB;split
    .exact Nat.zero_le _
    .rename_i c;have w:0<there.length:=List.length_pos_iff.2 c;show 2<=q;omega
   rw [O,hc,d];show _=(parB l,(runB l (endB l m)).1,outB (runB l (endB l m)).2.1,[],());rw [x]
theorem br3:C9 prog RG 25 cBuilt:=E8 (A7 aw7 (A7 bU6 B9)) (λp=>bU2 p.1 p.2.1) (by kernel_rfl) (by kernel_rfl) (by kernel_rfl) λ(l,m,()) _=>ce4 l m
theorem bj2 (l:List Ins) (x:Ins):O5 (l++[x])=max (max (O5 l) ((C8 [] x.from_).length:Int)) (x.to.length:Int):=by simp [O5]
theorem aL5 {N:Int}:∀ (l:List Ins) (a:Int),1<=a/\a<=N->(∀ x∈l,(x.from_.length:Int)<=N/\(x.to.length:Int)<=N)->1<=l.foldl (λk x=>max (max k ((C8 [] x.from_).length:Int)) (x.to.length:Int)) a/\l.foldl (λk x=>max (max k ((C8 [] x.from_).length:Int)) (x.to.length:Int)) a<=N
 |[],a,h,_=>h
 |x::r,a,h,b=>by
  have h2:=b x (by simp);have c:=am2 [] x.from_;simp only [List.length_nil,Nat.zero_add] at c;refine aL5 r _ ⟨?_,?_⟩ (λy d=>b y (by simp [d]))
  .dsimp only;omega
  .dsimp only;omega
theorem aR9 {N:Int} (a:1<=N) (l:List Ins) (h:∀ x∈l,(x.from_.length:Int)<=N/\(x.to.length:Int)<=N):1<=O5 l/\O5 l<=N:=aL5 l 1 ⟨Int.le_refl _,a⟩ h
theorem ce5 (a:Int) (b:List Ins) (c d:List Int) (n k:Int) (l:M1 b=true/\k<=1000):vc (EV [(36,cReadsL),(65,cTurn)]) (bU3 b) Go.Proofs.Tryd.f27 cSlots (a,b,c,d,n,k,()):=by
 rw [ce2 a b c d n k];intro j hs _ _;have m:b.length<=140737488355328:=hs.len;have o:j=ins0:=rfl
 clear_value j
 subst o;simp only [true_and,and_true];obtain ⟨e,p⟩:=l;have f:∀ x∈b,x.from_.length<=17592186044400/\x.to.length<=17592186044400:=by intro x f;unfold M1 at e;have:=cy5.1 e x f;simpa using this
 refine ⟨⟨(1,0,()),rfl,rfl,Int.le_refl _,by dsimp only;omega,rfl⟩,?_⟩;rintro ⟨s,i,⟨⟩⟩;dsimp only;rintro ⟨h0,h1,rfl⟩;obtain ⟨i,rfl⟩:=cv9 h0;simp only [cv7] at*
 refine ⟨λh=>?_,λh=>?_⟩
 .have h:=cw3 h;have g:i<b.length:=by omega
  refine ⟨⟨by omega,by omega⟩,(f _ (H4 g _)).1,⟨by omega,by omega⟩,(O5 (b.take (i+1)),((i+1:Nat):Int),()),?_,B5 (by omega) m,⟨by dsimp only;omega,by dsimp only;omega,by dsimp only;rw [cv7]⟩,by dsimp only;omega⟩;rw [A4 g ins0,bj2]
 .have h:=cw2 h;refine ⟨by omega,?_⟩;have g:i=b.length:=by omega
  subst g;rw [cy3];have r:=aR9 (N:=17592186044400) (by omega) b (λx hm=>by have:=f x hm;omega);have t:0<=G5 n k/\G5 n k<=1000:=by
   by_cases q:k<1
   .unfold G5;rw [if_pos q];omega
   .have:=U2 (n:=n) (b:=k) (by omega);omega
  rw [F9 (by omega) (by omega)];rfl
theorem br4:C9 prog RG 27 cSlots:=E8 (A7 bj0 (A7 aw7 B9)) (λp=>bU3 p.2.1) (by kernel_rfl) (by kernel_rfl) (by kernel_rfl) λ(a,b,c,d,n,k,()) e=>ce5 a b c d n k e
theorem aL6 {l:List Int} (n:Int) (h:l≠[]):X8 l n∈l:=by have a:0<l.length:=List.length_pos_iff.2 h;unfold X8;rw [if_neg h];have h1:=Int.emod_nonneg n (b:=(l.length:Int)) (by omega);have h2:=Int.emod_lt_of_pos n (b:=(l.length:Int)) (by omega);exact H4 (by omega) _
theorem by2 {k:Nat} {x:Int}:x∈iota k<->0<=x/\x<k:=by
 simp only [iota,List.mem_map,List.mem_range];constructor
 .rintro ⟨i,a,rfl⟩;simp only [Int.ofNat_eq_natCast];omega
 .rintro ⟨h0,h1⟩;exact ⟨x.toNat,by omega,by simp only [Int.ofNat_eq_natCast];omega⟩
theorem bU8 {p:Int} {c:Int} {k:Nat} {x:Int} (hc:0<=c) (h:x∈Q4 p c k):p<=x/\x<p+97:=by simp only [Q4,List.mem_map,List.mem_range,toK] at h;obtain ⟨i,a,rfl⟩:=h;omega
theorem bU9 (p:Int) (c n:Nat):Q4 p 0 (c+n)=Q4 p 0 c++Q4 p (c:Int) n:=by simp only [Q4,List.range_add,List.map_append,List.map_map];congr 1;apply List.map_congr_left;intro k _;simp only [Function.comp,toK];congr 3;omega
theorem br5 {p:Int} {n:Nat} (h:n<=97):(Q4 p 0 n).Nodup:=by unfold Q4;unfold List.Nodup;rw [List.pairwise_map];refine List.Pairwise.imp_of_mem (R:=λa b=>a<b) ?_ List.pairwise_lt_range;intro a b c d e;simp only [List.mem_range] at c d;simp only [toK];omega
theorem br6 (l:List Ins) (x:Ins):wr (l++[x])=wr l++x.to:=by simp [wr]
theorem br7 {there:List Int} {b c x:Int} (h:x∈ai2 there b c):x∈there:=by
 unfold ai2 at h;split at h
 .simp at h
 .rename_i a;simp only [O4,List.mem_map,ce0] at h;obtain ⟨k,_,rfl⟩:=h;exact aL6 _ a
theorem aN3 (there:List Int) (b c:Int):(ai2 there b c).length<=3:=by
 have:=U2 (n:=b) (b:=4) (by omega);unfold ai2;split
 .exact Nat.zero_le _
 .rw [am7];omega
theorem by3 {there:List Int} {x:Int} (h:x∈outB there):x∈there:=by
 unfold outB at h;split at h
 .simp at h
 .rename_i a;simp only [List.mem_cons,List.not_mem_nil,or_false] at h;rcases h with rfl|rfl
  .exact aL6 _ a
  .exact aL6 _ a
structure BuiltOk (p:Int) (s:BS) (n:Nat):Prop where
 cnt:s.2.2=n
 wrs:wr s.1=Q4 p 0 n
 ther:s.2.1=iota p.toNat++wr s.1
 thr:D3 p [] s.1=true
 froms:∀ x∈s.1,x.from_.length<=3/\∀ y∈x.from_,y∈s.2.1
 tos:∀ x∈s.1,1<=x.to.length/\x.to.length<=2
 bod:∀ x∈s.1,x.body=[]
theorem by4 (l:List Int):∀ j,∃ n,BuiltOk (parB l) (runB l j) n
 |0=>⟨0,rfl,rfl,by show _=_++[];rw [List.append_nil];rfl,rfl,λx a=>by simp [runB] at a,λx a=>by simp [runB] at a,λx a=>by simp [runB] at a⟩
 |j+1=>by
  obtain ⟨n,h⟩:=by4 l j;have p:=aZ7 l;obtain ⟨s,hs⟩:∃ s,runB l j=s:=⟨_,rfl⟩;rw [hs] at h;obtain ⟨d,i⟩:∃ d,toN (l.getD (4*j+1+3) 0)=d:=⟨_,rfl⟩;have k:=by1 (l.getD (4*j+1+3) 0);have e:runB l (j+1)=ce1 (parB l) l (4*j+1) s:=by show ce1 _ _ _ (runB l j)=_;rw [hs]
  rw [e];unfold ce1;rw [i] at*
  obtain ⟨fr,c⟩:∃ fr,ai2 s.2.1 (l.getD (4*j+1+1) 0) (l.getD (4*j+1+2) 0)=fr:=⟨_,rfl⟩;have f:∀ y∈fr,y∈s.2.1:=λy b=>by rw [<-c] at b;exact br7 b
  have g:fr.length<=3:=by rw [<-c];exact aN3 _ _ _
  rw [c];refine ⟨n+d,?_,?_,?_,?_,?_,?_,?_⟩
  .show s.2.2+(d:Int)=_;rw [h.cnt];omega
  .show wr (s.1++[_])=_;rw [br6,h.wrs,bU9,h.cnt]
  .show s.2.1++_=_++wr (s.1++[_]);rw [br6,h.ther,cy0]
  .show D3 _ _ (s.1++[_])=true;rw [M8,h.thr];simp only [Bool.true_and,D3,Bool.and_true,List.nil_append,cy5,Bool.or_eq_true,cx6,List.contains_iff_mem];intro y b;have:=f y b;rw [h.ther,cy1] at this;rcases this with m|o
   .have:=by2.1 m;left;omega
   .exact .inr o
  .intro x a;rcases cy1.1 a with a|a
   .exact ⟨(h.froms x a).1,λy b=>cy1.2 (.inl ((h.froms x a).2 y b))⟩
   .rw [cw4] at a;subst a;exact ⟨g,λy b=>cy1.2 (.inl (f y b))⟩
  .intro x a;rcases cy1.1 a with a|a
   .exact h.tos x a
   .rw [cw4] at a;subst a;show 1<=(Q4 _ _ d).length/\(Q4 _ _ d).length<=2;rw [Z8];exact k
  .intro x a;rcases cy1.1 a with a|a
   .exact h.bod x a
   .rw [cw4] at a;subst a;rfl
theorem bV0 (l:List Int) (m:Int):endB l m<=90/\∀ i,i<endB l m->goB l m i=true:=by
 unfold endB;cases h:(List.range 91).find? λj=>!goB l m j with
 |none=>exact ⟨by simp,λi a=>by simp at a⟩
 |some j=>rw [List.find?_eq_some_iff_getElem] at h;obtain ⟨_,k,b,h1,h2⟩:=h;simp only [List.length_range,List.getElem_range] at b h1 h2;subst h1;refine ⟨by show k<=90;omega,λi a=>?_⟩;have:=h2 i a;simpa using this
theorem cp8 {l:List Int} {m:Int} (hm:0<=m):(endB l m:Int)<=m:=by
 have h:=(bV0 l m).2;by_cases h0:endB l m=0
 .omega
 .have h1:=h (endB l m-1) (by omega);unfold goB at h1;simp only [cv6,cx6] at h1;omega
structure Made (a:Int) (b:List Ins) (c:List Int):Prop where
 chk:Checked a b c
 par:0<=a/\a<=3
 froms:∀ x∈b,x.from_.length<=3
 tos:∀ x∈b,1<=x.to.length/\x.to.length<=2
 bod:∀ x∈b,x.body=[]
 out:c.length<=2
 regs:∀ n∈wr b,n<100
theorem made (l:List Int) {m:Int} (hm:0<=m):Made (parB l) (B6 l m).code (B6 l m).out/\((B6 l m).code.length:Int)<=m:=by
 obtain ⟨n,h⟩:=by4 l (endB l m);have hl:=aZ8 l (endB l m);obtain ⟨g,d⟩:=bV0 l m;have i:=aZ7 l;have p:n<=91:=by
  have h1:=h.cnt;by_cases h0:endB l m=0
  .rw [h0] at h1;have:(0:Int)=n:=h1;omega
  .obtain ⟨k,j⟩:∃ k,endB l m=k+1:=⟨endB l m-1,by omega⟩;have h2:=d k (by omega);unfold goB at h2;simp only [cv6,cx6] at h2;rw [j] at h1;have q:(runB l k).2.2+(toN (l.getD (4*k+1+3) 0):Int)=n:=h1;have:=by1 (l.getD (4*k+1+3) 0);omega
 show Made (parB l) (runB l (endB l m)).1 (outB (runB l (endB l m)).2.1)/\((runB l (endB l m)).1.length:Int)<=m;obtain ⟨s,hs⟩:∃ s,runB l (endB l m)=s:=⟨_,rfl⟩;have o:=cp8 (l:=l) hm;rw [hs] at h hl |-;have b:∀ x∈wr s.1,parB l<=x/\x<parB l+97:=λx a=>by rw [h.wrs] at a;exact bU8 (Int.le_refl _) a
 have e:∀ x∈s.2.1,(0<=x/\x<parB l)\/x∈wr s.1:=by
  intro x a;rw [h.ther,cy1] at a;rcases a with a|a
  .have:=by2.1 a;left;omega
  .exact .inr a
 have c:∀ x∈s.2.1,0<=x/\x<=3999:=by
  intro x a;rcases e x a with a|a
  .omega
  .have:=b x a;omega
 refine ⟨⟨⟨by omega,i.1,by omega,λx a=>c x (by3 a),?_,λx a y f=>c y ((h.froms x a).2 y f),?_,λx a=>(b x a).1,h.thr,?_⟩,by omega,λx a=>(h.froms x a).1,h.tos,h.bod,?_,λx a=>by have:=b x a;omega⟩,by omega⟩
 .intro x a y f;have:=b y (List.mem_flatMap.2 ⟨x,a,f⟩);omega
 .rw [D7,h.wrs];exact br5 (by omega)
 .intro x a;rcases e x (by3 a) with a|a
  .left;omega
  .exact .inr a
 .unfold outB;split<;>simp
theorem ak9 {a:Int} {b:List Ins} {c d:List Int} (h:Checked a b c):C1 ⟨a,b,c,d⟩=0:=by
 have f:(lies a 0 4000&&c.all T7&&b.all λx=>x.to.all T7&&x.from_.all T7)=true:=by simp only [cv6,cy5,as8,lies,cx6];exact ⟨⟨⟨h.pos,h.few⟩,h.outR⟩,λx e=>⟨h.toR x e,h.fromR x e⟩⟩
 have g:(D6 (wr b)&&(wr b).all λn=>decide (a<=n))=true:=by simp only [cv6,cy5,cx6];exact ⟨h.once,h.new⟩
 have i:(D3 a [] b&&c.all λn=>decide (n<a)||(wr b).contains n)=true:=by simp only [cv6,cy5,cx6,Bool.or_eq_true,List.contains_iff_mem];exact ⟨h.there,h.outT⟩
 simp only [C1,f,g,i,if_neg (Nat.not_lt.2 h.len)];rfl
theorem ai4 (sp:Spans) (rd:Reads) (N:Int) (m:Holds) (pl:Int) (st:List Int):∀ (l:List Nat) (acc:List Held),
  (∀ i acc',C2 sp rd N m pl st l acc=(some i,acc')->∃ s∈l,i=(s:Int)/\∀ r,mget eqP m ⟨false,(s:Int)⟩=some r->r∉st/\I6 (getS sp r).first (getS sp r).last pl=false)/\
  (∀ acc',C2 sp rd N m pl st l acc=(none,acc')->∀ x∈acc',x∈acc\/∃ s∈l,x.slot=(s:Int)/\mget eqP m ⟨false,(s:Int)⟩=some x.reg/\x.reg∉st)
 |[],acc=>by
  refine ⟨λi acc' h=>?_,λacc' h x c=>?_⟩
  .simp [C2] at h
  .simp only [C2,cw5,true_and] at h;subst h;exact .inl c
 |s::r,acc=>by
  refine ⟨λi acc' h=>?_,λacc' h x c=>?_⟩
  .simp only [C2] at h;cases hm:mget eqP m ⟨false,(s:Int)⟩ with
   |none=>rw [hm] at h;simp only [cw5,cv3] at h;exact ⟨s,by simp,h.1.symm,λr hr=>by rw [hm] at hr;cases hr⟩
   |some n=>
    rw [hm] at h;simp only at h;cases hc:st.contains n with
    |true=>rw [hc,cond_true] at h;obtain ⟨s',h1,h2,d⟩:=(ai4 sp rd N m pl st r acc).1 i acc' h;exact ⟨s',by simp [h1],h2,d⟩
    |false=>
     rw [hc,cond_false] at h;have b:n∉st:=λe=>by rw [List.contains_iff_mem.2 e] at hc;cases hc
     cases a:I6 (getS sp n).first (getS sp n).last pl with
     |true=>rw [a,cond_true] at h;obtain ⟨s',h1,h2,d⟩:=(ai4 sp rd N m pl st r _).1 i acc' h;exact ⟨s',by simp [h1],h2,d⟩
     |false=>rw [a,cond_false] at h;simp only [cw5,cv3] at h;refine ⟨s,by simp,h.1.symm,λr hr=>?_⟩;rw [hm] at hr;cases hr;exact ⟨b,a⟩
  .simp only [C2] at h;cases hm:mget eqP m ⟨false,(s:Int)⟩ with
   |none=>rw [hm] at h;simp at h
   |some n=>
    rw [hm] at h;simp only at h;cases hc:st.contains n with
    |true=>
     rw [hc,cond_true] at h;rcases (ai4 sp rd N m pl st r acc).2 acc' h x c with h1|⟨s',h1,h2⟩
     .exact .inl h1
     .exact .inr ⟨s',by simp [h1],h2⟩
    |false=>
     rw [hc,cond_false] at h;have b:n∉st:=λe=>by rw [List.contains_iff_mem.2 e] at hc;cases hc
     cases a:I6 (getS sp n).first (getS sp n).last pl with
     |true=>
      rw [a,cond_true] at h;rcases (ai4 sp rd N m pl st r _).2 acc' h x c with h1|⟨s',h1,h2⟩
      .rcases cy1.1 h1 with h1|h1
       .exact .inl h1
       .rw [cw4] at h1;subst h1;exact .inr ⟨s,by simp,rfl,hm,b⟩
      .exact .inr ⟨s',by simp [h1],h2⟩
     |false=>rw [a,cond_false] at h;simp at h
theorem ce6 {l:List Held} (h:l≠[]):J9 l∈l:=by
 cases l with
 |nil=>exact absurd rfl h
 |cons x r=>
  show r.foldl G9 x∈x::r;clear h
  induction r generalizing x with
  |nil=>simp
  |cons y r ih=>
   have h1:=ih (G9 x y);show r.foldl G9 (G9 x y)∈_;have h2:G9 x y=x\/G9 x y=y:=by
    unfold G9;cases X5 y x
    .exact .inl rfl
    .exact .inr rfl
   rcases List.mem_cons.1 h1 with h1|h1
   .rw [h1];rcases h2 with h2|h2<;>rw [h2]<;>simp
   .simp [h1]
def goodI (ks cells:Int) (x:RIns):Prop:=aa3 ks cells x=true/\(x.kind≠0\/D6 x.ins.to=true)/\al4 x.ins=true
theorem O9 {n:Int} {l:List Int}:H6 n l=true<->∀ x∈l,0<=x/\x<n:=by simp [H6]
theorem goodI.mono {ks c c':Int} {x:RIns} (h:goodI ks c x) (hc:c<=c'):goodI ks c' x:=by
 obtain ⟨h1,h2⟩:=h;refine ⟨?_,h2⟩;unfold aa3 at h1 |-;split at h1
 .rename_i h0;rw [if_pos h0];exact h1
 .rename_i h0;rw [if_neg h0];split at h1
  .rename_i a;rw [if_pos a];simp only [cv6,O9,cw4,forall_eq] at h1 |-;omega
  .cases h1
structure Inv (Q9:SF) (T:List Int) (nm:Int->Int) (ks:Int) (S:AS) (m:Holds) (C:List Ins) (nx:Int):Prop where
 run:J3 S.code Q9=((m,C,nx),true)
 slot:∀ (q:Nat) (n:Int),q<ks.toNat->mget eqP S.holds ⟨false,(q:Int)⟩=some n->n∉T->mget eqP m ⟨false,(q:Int)⟩=some (nm n)
 cell:∀ n cl,mget eqI S.cells n=some cl->0<=cl/\cl<S.ocells/\mget eqP m ⟨true,cl⟩=some (nm n)
 good:∀ x∈S.code,goodI ks S.ocells x
 low:0<=S.ocells
theorem aw8 {l:List RIns} {s s':SF} {x:RIns} (h:J3 l s=(s',true)):J3 (l++[x]) s=J1 s' x:=by rw [at2,h];exact bh5 _ _
theorem by5 {sp:Spans} {rd:Reads} {ks N:Int} {S:AS} {pl:Int} {st T:List Int} {nm:Int->Int} {m:Holds} {C:List Ins} {nx:Int} {Q9:SF}
  (E:∀ x∈T,x∈st) (s:U1 sp rd ks N S.holds pl st) (h:Inv Q9 T nm ks S m C nx):
  ∃ (q:Nat) (t:AS) (m':Holds),F7 sp rd ks N S pl st=((q:Int),t)/\q<ks.toNat/\t.holds=S.holds/\Inv Q9 T nm ks t m' C nx/\
   (∀ r,mget eqP S.holds ⟨false,(q:Int)⟩=some r->r∉st/\(I6 (getS sp r).first (getS sp r).last pl=false\/(mget eqI t.cells r).isSome=true))/\
   (∀ n cl,mget eqI S.cells n=some cl->mget eqI t.cells n=some cl)/\(∀ q:Int,mget eqP m' ⟨false,q⟩=mget eqP m ⟨false,q⟩):=by
 obtain ⟨o,hs,b⟩:∃ o hs,H5 sp rd ks N S.holds pl st=(o,hs):=⟨_,_,rfl⟩;have c:=ai4 sp rd N S.holds pl st (List.range ks.toNat) [];cases o with
 |some i=>
  obtain ⟨q,e,rfl,hr⟩:=c.1 i hs b;have e:q<ks.toNat:=by simpa using e
  refine ⟨q,S,m,by unfold F7;rw [b],e,rfl,h,λr hm=>⟨(hr r hm).1,.inl (hr r hm).2⟩,λn cl hc=>hc,λ_=>rfl⟩
 |none=>
  have u:hs≠[]:=by have:=s (by rw [b]);rw [b] at this;exact this
  have v:=c.2 hs b _ (ce6 u);rcases v with v|⟨q,e,k,f,g⟩
  .simp at v
  have e:q<ks.toNat:=by simpa using e
  have a:F7 sp rd ks N S pl st=((q:Int),af0 S (J9 hs)):=by unfold F7;rw [b];simp only [k]
  obtain ⟨x,F⟩:∃ x,J9 hs=x:=⟨_,rfl⟩;rw [F] at k f g a;cases d:(mget eqI S.cells x.reg).isSome with
  |true=>
   have w:af0 S x=S:=by unfold af0;rw [d];rfl
   rw [w] at a;exact ⟨q,S,m,a,e,rfl,h,λr hm=>by rw [f] at hm;cases hm;exact ⟨g,.inr d⟩,λn cl hc=>hc,λ_=>rfl⟩
  |false=>
   have w:af0 S x=⟨S.holds,mput eqI S.cells x.reg S.ocells,S.ocells+1,S.code++[⟨2,x.slot,S.ocells,ins0⟩]⟩:=by unfold af0;rw [d];rfl
   rw [w,k] at a;have z:=h.slot q x.reg e f (λA=>g (E _ A));have p:mget eqI S.cells x.reg=none:=by cases A:mget eqI S.cells x.reg with|none=>rfl|some _=>rw [A] at d;cases d
   refine ⟨q,_,mput eqP m ⟨true,S.ocells⟩ (nm x.reg),a,e,rfl,⟨?_,?_,?_,?_,?_⟩,?_,?_,λq'=>by rw [H7,if_neg (by simp)]⟩
   .rw [aw8 h.run];show J1 (m,C,nx) _=_;unfold J1;have G:((2:Int)==0)=false:=rfl;have H:((2:Int)==2)=true:=rfl;simp only [G,H,cond_true,cond_false,z]
   .intro q' n B j D;rw [H7,if_neg (by simp)];exact h.slot q' n B j D
   .intro n cl hc;dsimp only at hc |-;rw [I7] at hc;rw [H7];by_cases j:x.reg=n
    .rw [if_pos j] at hc;cases hc;rw [if_pos rfl,j];exact ⟨h.low,by omega,rfl⟩
    .rw [if_neg j] at hc;have:=h.cell n cl hc;rw [if_neg (by simp only [Place.mk.injEq,true_and];omega)];exact ⟨this.1,by omega,this.2.2⟩
   .intro y l;dsimp only at l |-;rcases cy1.1 l with l|l
    .exact (h.good y l).mono (by omega)
    .rw [cw4] at l;subst l;refine ⟨?_,.inl (by dsimp only;omega),show al4 ins0=true by decide⟩;have:=h.low;unfold aa3;rw [if_neg (by dsimp only;omega),if_pos (.inr rfl)];simp only [cv6,O9,cw4,forall_eq];omega
   .have:=h.low;dsimp only;omega
   .intro r hm;rw [f] at hm;cases hm;refine ⟨g,.inr ?_⟩;dsimp only;rw [I7,if_pos rfl];rfl
   .intro n cl hc;dsimp only;rw [I7];by_cases j:x.reg=n
    .rw [j,hc] at p;cases p
    .rw [if_neg j];exact hc
def InS (m:Holds) (ks n:Int):Prop:=∃ q:Nat,q<ks.toNat/\mget eqP m ⟨false,(q:Int)⟩=some n
theorem by6 {m:Holds} {ks n:Int} (h:InS m ks n):∃ a:Nat,a<ks.toNat/\C0 m ks n=⟨false,(a:Int)⟩/\mget eqP m ⟨false,(a:Int)⟩=some n:=by
 apply aK5;cases hc:(C0 m ks n).cell with
 |false=>rfl
 |true=>obtain ⟨q,b,hm⟩:=h;exact absurd hm (X6.1 hc q b)
def Av (ks:Int) (L:Int->Prop) (S:AS):Prop:=∀ n,L n->InS S.holds ks n\/(mget eqI S.cells n).isSome=true
theorem cg3 {ks n:Int} {L:Int->Prop} {S t:AS} {q:Nat} {c:List RIns} (d:Av ks L S) (e:t.holds=S.holds) (hc:∀ n cl,mget eqI S.cells n=some cl->mget eqI t.cells n=some cl)
  (f:∀ r,mget eqP S.holds ⟨false,(q:Int)⟩=some r->¬ L r\/(mget eqI t.cells r).isSome=true):Av ks L ⟨mput eqP t.holds ⟨false,(q:Int)⟩ n,t.cells,t.ocells,c⟩:=by
 intro r hr;rcases d r hr with ⟨p,g,hm⟩|hm
 .by_cases a:p=q
  .subst a;rcases f r hm with h|h
   .exact absurd hr h
   .exact .inr h
  .refine .inl ⟨p,g,?_⟩;dsimp only;rw [H7,if_neg (by simp only [Place.mk.injEq,true_and];omega),e];exact hm
 .right;cases b:mget eqI S.cells r with
  |none=>rw [b] at hm;cases hm
  |some cl=>dsimp only;rw [hc r cl b];rfl
theorem bV1 {ks n x:Int} {S t:AS} {q:Nat} (b:t.holds=S.holds) (c:∀ r,mget eqP S.holds ⟨false,(q:Int)⟩=some r->r≠x) (h:InS S.holds ks x):InS (mput eqP t.holds ⟨false,(q:Int)⟩ n) ks x:=by
 obtain ⟨p,d,hm⟩:=h;by_cases a:p=q
 .subst a;exact absurd rfl (c x hm)
 .refine ⟨p,d,?_⟩;rw [H7,if_neg (by simp only [Place.mk.injEq,true_and];omega),b];exact hm
theorem ce7 {sp:Spans} {rd:Reads} {ks N i:Int} {fr:List Int} {S:AS} {n:Int} {P L:Int->Prop} {nm:Int->Int} {m:Holds} {C:List Ins} {nx:Int} {Q9:SF}
  (F:Fine P ks S.holds) (o:n∈fr) (f:(fr.length:Int)<=ks) (b:∀ r,I6 (getS sp r).first (getS sp r).last i=false->¬ L r) (D:L n)
  (h:Inv Q9 [] nm ks S m C nx) (s:Av ks L S):
  ∃ m',Inv Q9 [] nm ks (F5 sp rd ks N i fr S n) m' C nx/\Av ks L (F5 sp rd ks N i fr S n)/\InS (F5 sp rd ks N i fr S n).holds ks n/\(∀ x∈fr,InS S.holds ks x->InS (F5 sp rd ks N i fr S n).holds ks x):=by
 cases hc:(C0 S.holds ks n).cell with
 |false=>
  have u:F5 sp rd ks N i fr S n=S:=by unfold F5;rw [hc];rfl
  rw [u];obtain ⟨a,E,_,hm⟩:=aK5 hc;exact ⟨m,h,s,⟨a,E,hm⟩,λ_ _ h=>h⟩
 |true=>
  have g:=X6.1 hc;obtain ⟨q,t,m',c,G,A,e,B,j,H⟩:=by5 (sp:=sp) (rd:=rd) (N:=N) (pl:=i) (st:=fr) (T:=[]) (by simp) (aK6 F g o f sp rd N i) h;have u:F5 sp rd ks N i fr S n=⟨mput eqP t.holds ⟨false,(q:Int)⟩ n,t.cells,t.ocells,t.code++[⟨1,(q:Int),getI t.cells n,ins0⟩]⟩:=by unfold F5;rw [hc,c];rfl
  rw [u];obtain ⟨cl,v⟩:∃ cl,mget eqI S.cells n=some cl:=by
   rcases s n D with ⟨p,I,hm⟩|hm
   .exact absurd hm (g p I)
   .exact Option.isSome_iff_exists.1 hm
  have k:=j n cl v;have hg:getI t.cells n=cl:=by unfold getI;rw [k];rfl
  have w:=e.cell n cl k;rw [hg];refine ⟨mput eqP m' ⟨false,(q:Int)⟩ (nm n),⟨?_,?_,?_,?_,e.low⟩,?_,?_,?_⟩
  .rw [aw8 e.run];have J:((1:Int)==0)=false:=rfl;have K:((1:Int)==2)=false:=rfl;unfold J1;simp only [J,K,cond_false,w.2.2]
  .intro q' r z hr _;dsimp only at hr;rw [H7] at hr |-;by_cases l:(⟨false,(q:Int)⟩:Place)=⟨false,(q':Int)⟩
   .rw [if_pos l] at hr |-;cases hr;rfl
   .rw [if_neg l] at hr |-;exact e.slot q' r z hr (by simp)
  .intro r c' hr;have:=e.cell r c' hr;rw [H7,if_neg (by simp)];exact this
  .intro y d;dsimp only at d;rcases cy1.1 d with d|d
   .exact e.good y d
   .rw [cw4] at d;subst d;refine ⟨?_,.inl (by dsimp only;omega),show al4 ins0=true by decide⟩;unfold aa3;rw [if_neg (by dsimp only;omega),if_pos (.inl rfl)];simp only [cv6,O9,cw4,forall_eq];omega
  .exact cg3 s A j (λr hr=>(B r hr).2.imp (b r) id)
  .exact ⟨q,G,by dsimp only;rw [H7,if_pos rfl]⟩
  .intro x M O;exact bV1 A (λr hr Q=>(B r hr).1 (Q▸M)) O
theorem bj3 {sp:Spans} {rd:Reads} {ks N i:Int} {fr:List Int} {P L:Int->Prop} {nm:Int->Int} {C:List Ins} {nx:Int} {Q9:SF}
  (b:(fr.length:Int)<=ks) (a:∀ r,I6 (getS sp r).first (getS sp r).last i=false->¬ L r) (f:∀ n∈fr,L n) (g:∀ n∈fr,P n):
  ∀ (l:List Int) {S:AS} {m:Holds},(∀ n∈l,n∈fr)->Fine P ks S.holds->Inv Q9 [] nm ks S m C nx->Av ks L S->
  ∃ m',Inv Q9 [] nm ks (D4 sp rd ks N i fr S l) m' C nx/\Av ks L (D4 sp rd ks N i fr S l)/\(∀ x∈l,InS (D4 sp rd ks N i fr S l).holds ks x)/\(∀ x∈fr,InS S.holds ks x->InS (D4 sp rd ks N i fr S l).holds ks x)
 |[],S,m,_,_,h,e=>⟨m,h,e,by simp,λ_ _ h=>h⟩
 |n::r,S,m,hl,F,h,e=>by
  have d:=hl n (by simp);obtain ⟨v,h1,h2,k,o⟩:=ce7 (sp:=sp) (rd:=rd) (N:=N) F d b a (f n d) h e;have F1:Fine P ks (F5 sp rd ks N i fr S n).holds:=ak8 (sp:=sp) (rd:=rd) (N:=N) (i:=i) (fr:=fr) [n] F (by simpa using g n d);obtain ⟨p,q,s,t,j⟩:=bj3 b a f g r (λx c=>hl x (by simp [c])) F1 h1 h2;refine ⟨p,q,s,λx c=>?_,λx c u=>j x c (o x c u)⟩;rcases List.mem_cons.1 c with rfl|c
  .exact j _ d k
  .exact t x c
theorem ct8 {sp:Spans} {rd:Reads} {ks N i:Int} {to:List Int} {S:AS} {n:Int} {L:Int->Prop} {nm:Int->Int} {m:Holds} {C:List Ins} {nx:Int} {Q9:SF}
  (p:n∈to) (f:U1 sp rd ks N S.holds (i+1) to) (a:∀ r,I6 (getS sp r).first (getS sp r).last (i+1)=false->¬ L r)
  (h:Inv Q9 to nm ks S m C nx) (s:Av ks L S):
  ∃ m',Inv Q9 to nm ks (Q6 sp rd ks N i to S n) m' C nx/\Av ks L (Q6 sp rd ks N i to S n)/\InS (Q6 sp rd ks N i to S n).holds ks n/\(∀ x∈to,InS S.holds ks x->InS (Q6 sp rd ks N i to S n).holds ks x)/\(∀ q:Int,mget eqP m' ⟨false,q⟩=mget eqP m ⟨false,q⟩):=by
 obtain ⟨q,t,m',b,u,l,c,o,g,j⟩:=by5 (T:=to) (λ_ h=>h) f h;have v:Q6 sp rd ks N i to S n=⟨mput eqP t.holds ⟨false,(q:Int)⟩ n,t.cells,t.ocells,t.code⟩:=by unfold Q6;rw [b]
 rw [v];refine ⟨m',⟨c.run,?_,c.cell,c.good,c.low⟩,?_,?_,?_,j⟩
 .intro q' r k hr d;dsimp only at hr;rw [H7] at hr;by_cases e:(⟨false,(q:Int)⟩:Place)=⟨false,(q':Int)⟩
  .rw [if_pos e] at hr;cases hr;exact absurd p d
  .rw [if_neg e] at hr;exact c.slot q' r k hr d
 .exact cg3 s l g (λr hr=>(o r hr).2.imp (a r) id)
 .exact ⟨q,u,by dsimp only;rw [H7,if_pos rfl]⟩
 .intro x w y;exact bV1 l (λr hr z=>(o r hr).1 (z▸w)) y
theorem bH7 (sp:Spans) (rd:Reads) (ks N i:Int) (to:List Int) (S:AS) (l:List Int) (n:Int):I2 sp rd ks N i to S (l++[n])=Q6 sp rd ks N i to (I2 sp rd ks N i to S l) n:=by simp [I2]
theorem bV2 {sp:Spans} {rd:Reads} {ks N i:Int} {to:List Int} {S:AS} {L:Int->Prop} {nm:Int->Int} {m:Holds} {C:List Ins} {nx:Int} {Q9:SF}
  (c:∀ k,k<to.length->U1 sp rd ks N (I2 sp rd ks N i to S (to.take k)).holds (i+1) to) (a:∀ r,I6 (getS sp r).first (getS sp r).last (i+1)=false->¬ L r)
  (h:Inv Q9 to nm ks S m C nx) (d:Av ks L S):∀ k,k<=to.length->
  ∃ m',Inv Q9 to nm ks (I2 sp rd ks N i to S (to.take k)) m' C nx/\Av ks L (I2 sp rd ks N i to S (to.take k))/\(∀ x∈to.take k,InS (I2 sp rd ks N i to S (to.take k)).holds ks x)/\(∀ q:Int,mget eqP m' ⟨false,q⟩=mget eqP m ⟨false,q⟩)
 |0,_=>⟨m,by simpa [I2] using h,by simpa [I2] using d,by simp,λ_=>rfl⟩
 |k+1,u=>by
  obtain ⟨v,h1,h2,e,f⟩:=bV2 c a h d k (by omega);have hg:=H4 (l:=to) (i:=k) (by omega) 0;obtain ⟨g,j,o,p,s,t⟩:=ct8 (n:=to.getD k 0) hg (c k (by omega)) a h1 h2;rw [A4 (by omega) 0,bH7];refine ⟨g,j,o,λx b=>?_,λq=>(t q).trans (f q)⟩;rcases cy1.1 b with b|b
  .exact s x (List.mem_of_mem_take b) (e x b)
  .rw [cw4] at b;subst b;exact p
theorem bj4:∀ (l acc:List Int) (nx:Int) (m:Holds),l.Nodup->(l.foldl al5 (acc,nx,m)).1=acc++(List.range l.length).map (λj:Nat=>nx+(j:Int))/\
  (∀ (j:Nat) (x:Int),l[j]? =some x->mget eqP (l.foldl al5 (acc,nx,m)).2.2 ⟨false,x⟩=some (nx+j))/\
  (∀ p:Place,p.cell=true\/p.n∉l->mget eqP (l.foldl al5 (acc,nx,m)).2.2 p=mget eqP m p)
 |[],acc,nx,m,_=>by simp
 |x::r,acc,nx,m,h=>by
  obtain ⟨d,hr⟩:=List.nodup_cons.1 h;obtain ⟨h1,h2,c⟩:=bj4 r (acc++[nx]) (nx+1) (mput eqP m ⟨false,x⟩ nx) hr;refine ⟨?_,?_,?_⟩
  .show (r.foldl al5 (acc++[nx],nx+1,mput eqP m ⟨false,x⟩ nx)).1=_;rw [h1,cw9,List.range_succ_eq_map,List.map_cons,List.map_map,cy0];congr 1;simp only [List.singleton_append,List.cons.injEq];refine ⟨by omega,?_⟩;apply List.map_congr_left;intro j _;simp only [Function.comp];omega
  .intro j y b;show mget eqP (r.foldl al5 (acc++[nx],nx+1,mput eqP m ⟨false,x⟩ nx)).2.2 _=_;cases j with
   |zero=>simp only [cw1,cv3] at b;subst b;rw [c _ (.inr d),H7,if_pos rfl];congr 1;omega
   |succ j=>rw [h2 j y (by simpa using b)];congr 1;omega
  .intro p a;show mget eqP (r.foldl al5 (acc++[nx],nx+1,mput eqP m ⟨false,x⟩ nx)).2.2 _=_;rw [c p (a.imp id λe hm=>e (by simp [hm])),H7,if_neg];rintro rfl;rcases a with a|a
   .cases a
   .exact a (by simp)
theorem bj5 {m:Holds} {ks n:Int} {l:List Int} (h:n∈l):getI (H9 m ks l) n=(C0 m ks n).n:=by
 have key:∀ (l:List Int) (mm:List (Int×Int)),(n∈l\/mget eqI mm n=some (C0 m ks n).n)->mget eqI (l.foldl (λmm n=>mput eqI mm n (C0 m ks n).n) mm) n=some (C0 m ks n).n:=by
  intro l
  induction l with
  |nil=>intro mm h;simpa using h
  |cons x r ih=>
   intro mm h;rw [List.foldl_cons];apply ih;rw [I7];by_cases a:x=n
   .right;rw [if_pos a,a]
   .rw [if_neg a];rcases h with h|h
    .rcases List.mem_cons.1 h with h|h
     .exact absurd h.symm a
     .exact .inl h
    .exact .inr h
 unfold getI H9;rw [key l [] (.inl h)];rfl
theorem ct9 {sp:Spans} {rd:Reads} {ks N i:Int} {x:Ins} {S:AS} {P Li Lj:Int->Prop} {nm:Int->Int} {m:Holds} {C:List Ins} {nx:Int} {Q9:SF}
  (F:Fine P ks S.holds) (v:fewX ks x=true) (hf:∀ n∈x.from_,P n) (d:x.to.Nodup) (hP:∀ n∈x.to,¬ P n)
  (V:∀ r,I6 (getS sp r).first (getS sp r).last i=false->¬ Li r) (W:∀ r,I6 (getS sp r).first (getS sp r).last (i+1)=false->¬ Lj r)
  (X:∀ n∈x.from_,Li n) (hl:∀ n,Lj n->n∉x.to->Li n) (K:x.to.map nm=(List.range x.to.length).map (λj:Nat=>nx+(j:Int))) (hx:al4 x=true)
  (h:Inv Q9 [] nm ks S m C nx) (hA:Av ks Li S):
  ∃ m',Inv Q9 [] nm ks (doOf sp rd ks N i x S) m' (C++[⟨x.op,x.n,x.to.map nm,x.from_.map nm,x.body⟩]) (nx+x.to.length)/\Av ks Lj (doOf sp rd ks N i x S):=by
 obtain ⟨Y,F3⟩:=bT2 (sp:=sp) (rd:=rd) (N:=N) (i:=i) F v hf d hP;have k:=v;simp only [fewX,cv6,cx6] at k;have t:∀ n,n∈B0 x.from_<->n∈x.from_:=λn=>aK7;obtain ⟨m1,h1,L,w,_⟩:=bj3 (sp:=sp) (rd:=rd) (N:=N) (i:=i) (fr:=B0 x.from_) k.1 V (λn D=>X n ((t n).1 D)) (λn D=>hf n ((t n).1 D)) (B0 x.from_) (λ_ h=>h) F h hA;obtain ⟨S1,M⟩:∃ S1,D4 sp rd ks N i (B0 x.from_) S (B0 x.from_)=S1:=⟨_,rfl⟩;have A:=Y.2;have Z:doOf sp rd ks N i x S=⟨(I2 sp rd ks N i x.to S1 x.to).holds,(I2 sp rd ks N i x.to S1 x.to).cells,(I2 sp rd ks N i x.to S1 x.to).ocells,(I2 sp rd ks N i x.to S1 x.to).code++[⟨0,0,0,⟨x.op,x.n,x.to.map (λn=>(C0 (I2 sp rd ks N i x.to S1 x.to).holds ks n).n),x.from_.map (getI (H9 S1.holds ks (B0 x.from_))),x.body⟩⟩]⟩:=by rw [<-M];rfl
 rw [M] at h1 L w A;have h1':Inv Q9 x.to nm ks S1 m1 C nx:=⟨h1.run,λq n J hm _=>h1.slot q n J hm (by simp),h1.cell,h1.good,h1.low⟩;have O:Av ks (λn=>Lj n/\n∉x.to) S1:=λn d=>L n (hl n d.1 d.2);obtain ⟨o,h2,E,g,hsl⟩:=bV2 A (λr hr D=>W r hr D.1) h1' O x.to.length (Nat.le_refl _);rw [cy3] at h2 E g;rw [Z] at F3 |-;obtain ⟨S2,hS2⟩:∃ S2,I2 sp rd ks N i x.to S1 x.to=S2:=⟨_,rfl⟩;rw [hS2] at h2 E g F3 |-
 --where the registers that are read,and those that are written,lie
 have G:∀ n∈x.from_,∃ a:Nat,a<ks.toNat/\getI (H9 S1.holds ks (B0 x.from_)) n=(a:Int)/\mget eqP o ⟨false,(a:Int)⟩=some (nm n):=by intro n d;obtain ⟨a,s,hs,hm⟩:=by6 (w n ((t n).2 d));refine ⟨a,s,by rw [bj5 ((t n).2 d),hs],?_⟩;rw [hsl];exact h1.slot a n s hm (by simp)
 have l:∀ n∈x.to,∃ a:Nat,a<ks.toNat/\(C0 S2.holds ks n).n=(a:Int)/\mget eqP S2.holds ⟨false,(a:Int)⟩=some n:=by intro n d;obtain ⟨a,s,hs,hm⟩:=by6 (g n d);exact ⟨a,s,by rw [hs],hm⟩
 obtain ⟨tos,c⟩:∃ tos,x.to.map (λn=>(C0 S2.holds ks n).n)=tos:=⟨_,rfl⟩;have H:tos.length=x.to.length:=by rw [<-c,cy6]
 have Q:tos.Nodup:=by
  rw [<-c];unfold List.Nodup;rw [List.pairwise_map];refine List.Pairwise.imp_of_mem ?_ d;intro p q B J hpq heq;obtain ⟨a,s,e1,m1'⟩:=l p B;obtain ⟨b,hb,e2,R⟩:=l q J;have hab:a=b:=by rw [e1,e2] at heq;omega
  subst hab;rw [m1'] at R;exact hpq (Option.some.inj R)
 obtain ⟨n1,n2,n3⟩:=bj4 tos [] nx o Q;have T:=W0 nx o tos;have hfr:(x.from_.map (getI (H9 S1.holds ks (B0 x.from_)))).all (isP (o,()))=true:=by rw [List.all_map,cy5];intro n d;obtain ⟨a,_,e,hm⟩:=G n d;simp only [Function.comp,isP,e,hm,Option.isSome_some]
 have hfm:(x.from_.map (getI (H9 S1.holds ks (B0 x.from_)))).map (getF o)=x.from_.map nm:=by rw [List.map_map];apply List.map_congr_left;intro n d;obtain ⟨a,_,e,hm⟩:=G n d;simp only [Function.comp,getF,e,hm,Option.getD_some]
 rw [c];refine ⟨(G1 nx o tos).2.2,⟨?_,?_,?_,?_,h2.low⟩,?_⟩
 .rw [aw8 h2.run];unfold J1;have e0:((0:Int)==0)=true:=rfl;have e1:(G1 nx o tos).1=x.to.map nm:=by
   show (tos.foldl al5 ([],nx,o)).1=_;rw [n1,K,H,List.nil_append]
  simp only [e0,cond_true,hfr,hfm,e1,T.2,H]
 .intro q n J hm _;dsimp only at hm;by_cases f:n∈x.to
  .obtain ⟨j,hj⟩:=List.mem_iff_getElem?.1 f;obtain ⟨a,s,e,u⟩:=l n f;have hqa:q=a:=F3.inj q a J s n hm u;subst hqa;have hjt:tos[j]? =some (q:Int):=by rw [<-c,cw8,hj,Option.map_some,e]
   have hnj:nm n=nx+j:=by
    have h5:(x.to.map nm)[j]? =some (nm n):=by rw [cw8,hj];rfl
    rw [K,cw8,List.getElem?_range (cv8.1 hj).1] at h5;exact (Option.some.inj h5).symm
   rw [hnj];exact n2 j q hjt
  .have hqt:(q:Int)∉tos:=by
    rw [<-c];intro D;obtain ⟨p,B,he⟩:=List.mem_map.1 D;obtain ⟨a,s,e,u⟩:=l p B;rw [e] at he;have:a=q:=by omega
    subst this;rw [hm] at u;exact f (Option.some.inj u▸B)
   have h6:=n3 ⟨false,(q:Int)⟩ (.inr hqt);show mget eqP (tos.foldl al5 ([],nx,o)).2.2 _=_;rw [h6];exact h2.slot q n J hm f
 .intro n cl hc;have h7:=h2.cell n cl hc;have h6:=n3 ⟨true,cl⟩ (.inl rfl);refine ⟨h7.1,h7.2.1,?_⟩;show mget eqP (tos.foldl al5 ([],nx,o)).2.2 _=_;rw [h6];exact h7.2.2
 .intro y I;dsimp only at I;rcases cy1.1 I with I|I
  .exact h2.good y I
  .rw [cw4] at I;subst I;refine ⟨?_,.inr (D7.2 Q),?_⟩
   .unfold aa3;rw [if_pos rfl,cv6,O9,O9];refine ⟨λz U=>?_,λz U=>?_⟩
    .obtain ⟨p,B,rfl⟩:=List.mem_map.1 U;obtain ⟨a,s,e,_⟩:=G p B;rw [e];omega
    .rw [<-c] at U;obtain ⟨p,B,rfl⟩:=List.mem_map.1 U;obtain ⟨a,s,e,_⟩:=l p B;rw [e];omega
   .have h8:=(L5 x).1 hx;rw [L5];dsimp only;rw [H,cy6];exact h8
 .intro n d;by_cases f:n∈x.to
  .exact .inl (g n f)
  .exact E n ⟨d,f⟩
theorem bV3 {w:List Int} {m:Nat} {n:Int} (c:w.Nodup) (h:w[m]? =some n):G8 w n=m:=by
 obtain ⟨hm,b⟩:=cv8.1 h;have hg:∀ i,(a:i<w.length)->w.getD i 0=w[i]:=λi a=>by rw [cw7,cv5 a];rfl
 refine aW4 hm (λi a=>?_) (by rw [hg m hm,b]);rw [hg i (by omega),<-b];exact List.pairwise_iff_getElem.1 c i m (by omega) hm a
theorem ap3 {a:Int} {w:List Int} {m:Nat} {n:Int} (b:w.Nodup) (h:w[m]? =some n) (c:a<=n):E5 a w n=a+m:=by unfold E5;rw [if_neg (by omega),bV3 b h]
theorem br8 {b:List Ins} {k:Nat} (a:k<b.length):b=b.take k++b.getD k ins0::b.drop (k+1):=by
 conv=>lhs;rw [<-List.take_append_drop (k+1) b,A4 a ins0]
 simp
theorem az9 {b:List Ins} {k:Nat} (a:k<b.length):wr (b.take (k+1))=wr (b.take k)++(b.getD k ins0).to:=by rw [A4 a ins0,br6]
theorem bH8 {a:Int} {b:List Ins} {c:List Int} (C:Checked a b c) (n:Int):∀ d k,k+d=b.length->n∈atL b c k->0<=n/\(n<a\/n∈wr (b.take k)):=by
 intro d
 induction d with
 |zero=>
  intro k i e;have:k=b.length:=by omega
  subst this;rw [at0 b c (Nat.le_refl _),List.drop_length] at e;have e:n∈C8 [] c:=e;rw [O3] at e;rcases e with e|e
  .simp at e
  .rw [cy3];exact ⟨(C.outR n e).1,C.outT n e⟩
 |succ d ih=>
  intro k i e;have f:k<b.length:=by omega
  rw [at0 b c (Nat.le_of_lt f),az5 b c f] at e;have e:n∈am1 (b.getD k ins0) (atL b c (k+1)):=e;rw [ak3] at e;rcases e with e|⟨e,g⟩
  .have h1:=C.there;rw [br8 f] at h1;exact ⟨(C.fromR _ (H4 f ins0) n e).1,by simpa using M9 h1 n e⟩
  .have h2:=ih (k+1) (by omega) e;rw [az9 f,cy1] at h2;exact ⟨h2.1,h2.2.imp id (λh=>h.resolve_right g)⟩
theorem aS0 (n:Nat) (r:Int):mget eqI (Q3 n) r=if 0<=r/\r<n then some r else none:=by
 induction n with
 |zero=>rw [if_neg (by omega)];rfl
 |succ n ih=>
  rw [aK9,I7,ih];by_cases h:(n:Int)=r
  .rw [if_pos h,if_pos (by omega),h]
  .rw [if_neg h];by_cases h2:0<=r/\r<n
   .rw [if_pos h2,if_pos (by omega)]
   .rw [if_neg h2,if_neg (by omega)]
theorem bj6 (n:Nat) (r:Int):mget eqP (N7 n) ⟨true,r⟩=if 0<=r/\r<n then some r else none:=by
 induction n with
 |zero=>rw [if_neg (by omega)];rfl
 |succ n ih=>
  rw [at3,H7,ih];by_cases h:(n:Int)=r
  .rw [if_pos (by rw [h]),if_pos (by omega),h]
  .rw [if_neg (by simp only [Place.mk.injEq,true_and];exact h)];by_cases h2:0<=r/\r<n
   .rw [if_pos h2,if_pos (by omega)]
   .rw [if_neg h2,if_neg (by omega)]
theorem bV4 {a:Int} {b:List Ins} {c:List Int} (C:Checked a b c) {k:Nat} (d:k<=b.length) (r:Int) (h:I6 (getS (A5 a b c) r).first (getS (A5 a b c) r).last k=false):¬ r∈atL b c k:=by
 intro e;have h1:=(bx5 C r k d).2 e;unfold X1 at h1;unfold getS at h;cases hm:mget eqI (A5 a b c) r with
 |none=>rw [hm] at h1;cases h1
 |some s=>rw [hm] at h1 h;simp only [Option.getD_some] at h;have h1:I6 s.first s.last k=true:=h1;rw [h] at h1;cases h1
def ae9 (a:Int) (w:List Int) (x:Ins):Ins:=⟨x.op,x.n,x.to.map (E5 a w),x.from_.map (E5 a w),x.body⟩
theorem cp9 {a:Int} {b:List Ins} {c:List Int} (C:Checked a b c) (I:G6 b=true) {ks:Int} (l:b.all (fewX ks)=true) (rd:Reads) (N:Int):∀ k,k<=b.length->
  ∃ m,Inv (H0 a) [] (E5 a (wr b)) ks (runA (A5 a b c) rd ks N (b.take k) 0 (G4 a)) m ((b.take k).map (ae9 a (wr b))) (a+(wr (b.take k)).length)/\
   Av ks (λn=>n∈atL b c k) (runA (A5 a b c) rd ks N (b.take k) 0 (G4 a)):=by
 intro k;have s:=D7.1 C.once
 induction k with
 |zero=>
  intro _;refine ⟨N7 a.toNat,⟨?_,?_,?_,?_,C.pos⟩,?_⟩
  .show J3 [] (H0 a)=((N7 a.toNat,[],a+((0:Nat):Int)),true);rw [show a+((0:Nat):Int)=a from by omega];rfl
  .intro q n _ h _;simp [runA,G4,mget] at h
  .intro n cl h;have h:mget eqI (Q3 a.toNat) n=some cl:=h;rw [aS0] at h;split at h
   .rename_i g;cases h;refine ⟨g.1,?_,?_⟩
    .show n<a;have:=C.pos;omega
    .rw [bj6,if_pos g];have:n<a:=by have:=C.pos;omega
     unfold E5;rw [if_pos this]
   .cases h
  .intro x p;simp [runA,G4] at p
  .intro n g;right;show (mget eqI (Q3 a.toNat) n).isSome=true;have h1:=bH8 C n b.length 0 (by omega) g;have h2:n<a:=h1.2.resolve_right (by simp [wr]);rw [aS0,if_pos ⟨h1.1,by omega⟩];rfl
 |succ k ih=>
  intro J;have d:k<b.length:=by omega
  obtain ⟨m,h,K⟩:=ih (by omega);obtain ⟨F,_⟩:=aK8 C l (A5 a b c) rd N k (by omega);have f:=H4 d ins0;have o:=br8 d;obtain ⟨x,p⟩:∃ x,b.getD k ins0=x:=⟨_,rfl⟩;have t:=az9 d;have u:=bx6 C d;have v:atL b c k=am1 x (atL b c (k+1)):=by rw [<-p,at0 b c (Nat.le_of_lt d),az5 b c d];rfl
  rw [p] at f o t u;have w:wr b=wr (b.take k)++(x.to++wr (b.drop (k+1))):=by
   conv=>lhs;rw [o]
   rw [T9,L9]
  have y:∀ n∈x.to,¬ (n<a\/n∈wr (b.take k)):=by
   rintro n g (h1|h1)
   .have:=C.new n (aR0.2 ⟨_,f,g⟩);omega
   .have h2:=s;rw [w] at h2;exact (List.nodup_append.1 h2).2.2 n h1 n (List.mem_append_left _ g) rfl
  have E:x.to.map (E5 a (wr b))=(List.range x.to.length).map (λj:Nat=>a+((wr (b.take k)).length:Int)+(j:Int)):=by
   apply List.ext_getElem?;intro j;rw [cw8,cw8];by_cases z:j<x.to.length
   .rw [cv5 z,List.getElem?_range z];simp only [Option.map_some,cv3];have A:(wr b)[(wr (b.take k)).length+j]? =some x.to[j]:=by
     rw [w,cx3 (by omega),show (wr (b.take k)).length+j-(wr (b.take k)).length=j from by omega,cx4 z,cv5 z]
    rw [ap3 s A (C.new _ (aR0.2 ⟨x,f,List.getElem_mem z⟩))];omega
   .rw [List.getElem?_eq_none (by omega),List.getElem?_eq_none (by simp;omega)];rfl
  obtain ⟨m',h',G⟩:=ct9 (sp:=A5 a b c) (rd:=rd) (N:=N) (i:=(k:Int)) (x:=x) (Li:=λn=>n∈atL b c k) (Lj:=λn=>n∈atL b c (k+1)) F (cy5.1 l _ f)
   (λn g=>by
    have h1:=C.there;rw [o] at h1;simpa using M9 h1 n g)
   u y (λr hr=>bV4 C (Nat.le_of_lt d) r hr) (λr hr=>bV4 C (k:=k+1) J r hr)
   (λn g=>by rw [v,ak3];exact .inl g)
   (λn g H=>by rw [v,ak3];exact .inr ⟨g,H⟩) E (aw6 I x f) h K
  have B:runA (A5 a b c) rd ks N (b.take (k+1)) 0 (G4 a)=doOf (A5 a b c) rd ks N k x (runA (A5 a b c) rd ks N (b.take k) 0 (G4 a)):=by rw [A4 d ins0,ah8,cy4,Nat.min_eq_left (by omega),p]
  have D:(b.take (k+1)).map (ae9 a (wr b))=(b.take k).map (ae9 a (wr b))++[ae9 a (wr b) x]:=by rw [A4 d ins0,List.map_append,p];rfl
  rw [B,D,t,cx5];refine ⟨m',?_,G⟩;have e:a+(((wr (b.take k)).length+x.to.length:Nat):Int)=a+((wr (b.take k)).length:Int)+(x.to.length:Int):=by omega
  rw [e];exact h'
def cLaw2:Con RU:=con [one,one] [ints,i64] [one] [.bool] [false] none λ_=>(true,())
structure Fit (a:Int) (b:List Ins) (c:List Int) (ks:Int):Prop where
 made:Made a b c
 len:b.length<=30
 ks1:1<=ks
 ks2:ks<=64
 few:b.all (fewX ks)=true
 ok:G6 b=true
 frm:M1 b=true
theorem aS1:∀ {b:List Ins},(∀ x∈b,al4 x=true)->G6 b=true
 |[],_=>by simp [G6]
 |x::r,h=>by simp only [G6,cv6];exact ⟨h x (by simp),aS1 λy a=>h y (by simp [a])⟩
theorem aZ9 {a:Int} {b:List Ins} {c:List Int} (M:Made a b c):G6 b=true/\M1 b=true:=by
 refine ⟨aS1 λx d=>?_,?_⟩
 .rw [L5,M.bod x d];have h1:=M.froms x d;have h2:=M.tos x d;exact ⟨⟨by omega,by omega,by simp⟩,by simp [G6]⟩
 .unfold M1;rw [cy5];intro x d;have h1:=M.froms x d;have h2:=M.tos x d;rw [cv6,cx6,cx6];omega
theorem aL7:∀ (l:List Ins) (a:Int),a<=l.foldl (λk x=>max (max k ((C8 [] x.from_).length:Int)) (x.to.length:Int)) a/\∀ x∈l,((C8 [] x.from_).length:Int)<=l.foldl (λk x=>max (max k ((C8 [] x.from_).length:Int)) (x.to.length:Int)) a/\(x.to.length:Int)<=l.foldl (λk x=>max (max k ((C8 [] x.from_).length:Int)) (x.to.length:Int)) a
 |[],a=>⟨Int.le_refl _,by simp⟩
 |y::r,a=>by
  obtain ⟨h1,h2⟩:=aL7 r (max (max a ((C8 [] y.from_).length:Int)) (y.to.length:Int));refine ⟨?_,λx b=>?_⟩
  .rw [List.foldl_cons];omega
  .rw [List.foldl_cons];rcases List.mem_cons.1 b with rfl|b
   .omega
   .exact h2 x b
theorem br9 (l:List Int):(B0 l).length<=(C8 [] l).length:=
 aZ2 _ _ (ap2 l) λx a=>O3.2 (.inr (aK7.1 a))
theorem cu0 {a:Int} {b:List Ins} {c:List Int} (M:Made a b c) (hl:b.length<=30) {ks:Int} (h1:O5 b<=ks) (h2:ks<=64):Fit a b c ks:=by
 have d:=aL7 b 1;refine ⟨M,hl,?_,h2,?_,(aZ9 M).1,(aZ9 M).2⟩
 .have:=d.1;have h:(1:Int)<=O5 b:=this;omega
 .rw [cy5];intro x g;obtain ⟨e,f⟩:=d.2 x g;have e:((C8 [] x.from_).length:Int)<=O5 b:=e;have f:(x.to.length:Int)<=O5 b:=f;have i:=br9 x.from_;unfold fewX;rw [cv6,cx6,cx6];omega
theorem bV5 {a:Int} {b:List Ins} {c d:List Int} (M:Made a b c) (hl:b.length<=30) (n:Int) {k:Int} (f:1<=k) (g:k<=60):Fit a b c (ai3 ⟨a,b,c,d⟩ n k)/\ai3 ⟨a,b,c,d⟩ n k<=2+k:=by
 have h1:=U2 (n:=n) f;have h2:=aR9 (N:=3) (by omega) b (λx e=>by
  have h:=M.froms x e;have i:=M.tos x e;omega)
 unfold ai3;dsimp only;exact ⟨cu0 M hl (by omega) (by omega),by omega⟩
theorem ba0 (a:Int) (w:List Int) (b:List Ins):wr (b.map (ae9 a w))=(wr b).map (E5 a w):=by
 induction b with
 |nil=>rfl
 |cons x r ih=>rw [List.map_cons,L9,L9,ih,List.map_append];rfl
theorem bV6 (a:Int) (l:List Ins):J8 a l=a+(wr l).length:=by
 have key:∀ (l:List Ins) (n:Int),l.foldl (λn x=>n+(x.to.length:Int)) n=n+((wr l).length:Int):=by
  intro l
  induction l with
  |nil=>intro n;simp [wr]
  |cons x r ih=>intro n;rw [List.foldl_cons,ih,L9,cx5];omega
 exact key l a
theorem bV7 {a:Int} {b:List Ins} {c:List Int} (M:Made a b c):(wr b).length<=2*b.length:=by
 have key:∀ l:List Ins,(∀ x∈l,x.to.length<=2)->(wr l).length<=2*l.length:=by
  intro l
  induction l with
  |nil=>intro _;simp [wr]
  |cons x r ih=>intro h;have h1:=ih λy d=>h y (by simp [d]);have h2:=h x (by simp);rw [L9,cx5,cw9];omega
 exact key b λx e=>(M.tos x e).2
theorem bH9 {a:Int} {b:List Ins} {c d:List Int} {ks:Int} (F:Fit a b c ks):
  ∃ c',B8 ⟨a,b,c,d⟩ ks=(c',0)/\c'.params=a/\c'.slots=ks/\M2 c'=0/\M5 c'=(⟨a,b.map (ae9 a (wr b)),c.map (E5 a (wr b)),[]⟩,0)/\U0 c'.code=true/\c'.out.length=c.length/\c'.code.length<=5790:=by
 have C:=F.made.chk;obtain ⟨m,h,u⟩:=cp9 C F.ok F.few (I0 b) b.length b.length (Nat.le_refl _);rw [cy3] at h u;have f:=aZ3 F.ks2 (A5 a b c) (I0 b) b.length b 0 (G4 a) F.few;obtain ⟨S,A⟩:∃ S,runA (A5 a b c) (I0 b) ks b.length b 0 (G4 a)=S:=⟨_,rfl⟩;rw [A] at h u f;have D:(G4 a).code.length=0:=rfl;have E:(G4 a).ocells=a:=rfl;rw [D,E] at f;have G:=F.len;have v:B8 ⟨a,b,c,d⟩ ks=(⟨a,ks,S.ocells,S.code,c.map (outA S ks)⟩,0):=by have hl:ap1 ⟨a,b,c,d⟩ ks=S:=A;have H:=F.ks1;have w:=F.ks2;unfold B8;rw [if_neg (by rw [ak9 C];simp),if_neg (by omega),if_neg (by show ¬ b.all (fewX ks)=false;rw [F.few];simp),hl]
 have B:=F.made.par;have g:∀ n∈c,mget eqP m (outA S ks n)=some (E5 a (wr b) n)/\U6 ks S.ocells (outA S ks n)=true:=by
  intro n y;have k:n∈atL b c b.length:=by rw [at0 b c (Nat.le_refl _),List.drop_length];show n∈C8 [] c;exact O3.2 (.inr y)
  unfold outA;cases hc:(C0 S.holds ks n).cell with
  |true=>
   rw [cond_true];obtain ⟨cl,s⟩:∃ cl,mget eqI S.cells n=some cl:=by
    rcases u n k with ⟨p,B,hm⟩|hm
    .exact absurd hm (X6.1 hc p B)
    .exact Option.isSome_iff_exists.1 hm
   have I:=h.cell n cl s;have hg:getI S.cells n=cl:=by unfold getI;rw [s];rfl
   rw [hg];refine ⟨I.2.2,?_⟩;unfold U6;rw [O9];simp only [cw4,forall_eq,if_true];omega
  |false=>rw [cond_false];obtain ⟨q,J,hs,hm⟩:=aK5 hc;rw [hs];refine ⟨h.slot q n J hm (by simp),?_⟩;unfold U6;rw [O9];simp only [cw4,forall_eq];rw [if_neg (by simp)];omega
 have o:Q2 m (c.map (outA S ks))=(c.map (E5 a (wr b)),true):=by
  have key:∀ l:List Int,(∀ n∈l,n∈c)->Q2 m (l.map (outA S ks))=(l.map (E5 a (wr b)),true):=by
   intro l
   induction l with
   |nil=>intro _;rfl
   |cons n r ih=>intro hl;have K:=(g n (hl n (by simp))).1;simp only [List.map_cons,Q2,K,ih λx e=>hl x (by simp [e])]
  exact key c λ_ h=>h
 have i:C3 ⟨a,ks,S.ocells,S.code,c.map (outA S ks)⟩=(⟨a,b.map (ae9 a (wr b)),c.map (E5 a (wr b)),[]⟩,true):=by unfold C3;simp only [h.run,o,cond_true]
 have j:M2 ⟨a,ks,S.ocells,S.code,c.map (outA S ks)⟩=0:=by
  have z:J7 ⟨a,ks,S.ocells,S.code,c.map (outA S ks)⟩=true:=by have H:=F.ks1;have w:=F.ks2;have hc:=C.few;have L:=C.pos;unfold J7;simp only [cv6,cx6,O9,cw4,forall_eq,cy5];refine ⟨⟨⟨⟨⟨⟨by omega,by omega⟩,by omega⟩,by omega⟩,by omega⟩,λx e=>(h.good x e).1⟩,λx e=>?_⟩;obtain ⟨n,y,rfl⟩:=List.mem_map.1 e;exact (g n y).2
  have t:(S.code.all λx=>x.kind !=0||D6 x.ins.to)=true:=by rw [cy5];intro x e;have:=(h.good x e).2.1;simpa using this
  unfold M2;rw [if_neg (by dsimp only;omega),if_neg (by rw [z];simp),if_neg (by dsimp only;rw [t];simp),if_neg (by rw [i];simp)]
 refine ⟨_,v,rfl,rfl,j,?_,?_,by simp,by dsimp only;omega⟩
 .unfold M5;rw [if_neg (by rw [j];simp),i];dsimp only;have M:=bV7 F.made;rw [bV6,ba0,cy6,cy6,if_neg (by omega)]
 .unfold U0;rw [cy5];exact λx e=>(h.good x e).2.2
theorem bj7 {a:Int} {b:List Ins} {c:List Int} (C:Checked a b c) {n:Int} (h:n<a\/n∈wr b):(n<a/\E5 a (wr b) n=n)\/(∃ m:Nat,(wr b)[m]? =some n/\E5 a (wr b) n=a+m):=by
 by_cases d:n<a
 .left;exact ⟨d,by unfold E5;rw [if_pos d]⟩
 .right;obtain ⟨m,hm⟩:=List.mem_iff_getElem?.1 (h.resolve_left d);exact ⟨m,hm,ap3 (D7.1 C.once) hm (by omega)⟩
theorem cu1 {a:Int} {b:List Ins} {c:List Int} (C:Checked a b c):(wr b).map (E5 a (wr b))=(List.range (wr b).length).map λj:Nat=>a+(j:Int):=by
 apply List.ext_getElem?;intro j;rw [cw8,cw8];by_cases d:j<(wr b).length
 .rw [cv5 d,List.getElem?_range d];simp only [Option.map_some,cv3];exact ap3 (D7.1 C.once) (cv5 d) (C.new _ (List.getElem_mem d))
 .rw [List.getElem?_eq_none (by omega),List.getElem?_eq_none (by simp;omega)];rfl
theorem cg4 {a:Int} {b:List Ins} {c:List Int} (C:Checked a b c):∀ x∈b,(∀ n∈x.to,n<a\/n∈wr b)/\(∀ n∈x.from_,n<a\/n∈wr b):=by
 intro x e;refine ⟨λn d=>.inr (aR0.2 ⟨x,e,d⟩),λn d=>?_⟩;obtain ⟨k,f,rfl⟩:=List.mem_iff_getElem.1 e;have h1:=C.there;have hg:b.getD k ins0=b[k]:=by rw [cw7,cv5 f];rfl
 rw [br8 f,hg] at h1;have h2:=M9 h1 n d;rw [List.nil_append] at h2;refine h2.imp id λh=>?_;obtain ⟨y,g,d⟩:=aR0.1 h;exact aR0.2 ⟨y,List.mem_of_mem_take g,d⟩
theorem bV8 {a:Int} {b:List Ins} {c:List Int} (C:Checked a b c) {n:Int} (h:n<a\/n∈wr b) (h0:0<=n):0<=E5 a (wr b) n/\E5 a (wr b) n<a+(wr b).length/\(n<a<->E5 a (wr b) n<a):=by
 have:=C.pos;rcases bj7 C h with ⟨h1,h2⟩|⟨m,h1,h2⟩
 .rw [h2];exact ⟨h0,by omega,Iff.rfl⟩
 .have d:=(cv8.1 h1).1;have e:=C.new n (List.mem_of_getElem? h1);rw [h2];exact ⟨by omega,by omega,by omega⟩
theorem aL8 {a:Int} (nm:Int->Int) (b:∀ n,n<a->nm n<a):∀ (l:List Ins) (W:List Int),D3 a W l=true->D3 a (W.map nm) (l.map λx=>⟨x.op,x.n,x.to.map nm,x.from_.map nm,x.body⟩)=true
 |[],W,_=>by simp [D3]
 |x::r,W,h=>by
  simp only [D3,cv6,cy5,Bool.or_eq_true,cx6,List.contains_iff_mem] at h;simp only [List.map_cons,D3,cv6,cy5,Bool.or_eq_true,cx6,List.contains_iff_mem];refine ⟨λy c=>?_,?_⟩
  .obtain ⟨n,d,rfl⟩:=List.mem_map.1 c;exact (h.1 n d).imp (b n) λe=>List.mem_map.2 ⟨n,e,rfl⟩
  .rw [<-List.map_append];exact aL8 nm b r (W++x.to) h.2
theorem ba1 {a:Int} {b:List Ins} {c:List Int} (M:Made a b c) (hl:b.length<=30):Made a (b.map (ae9 a (wr b))) (c.map (E5 a (wr b))):=by
 have C:=M.chk;have o:=bV7 M;have p:=M.par;have hr:=cg4 C;have f:=ba0 a (wr b) b;rw [cu1 C] at f;have i:∀ n,(n<a\/n∈wr b)->E5 a (wr b) n<a\/E5 a (wr b) n∈wr (b.map (ae9 a (wr b))):=by
  intro n d;rcases bj7 C d with ⟨h1,h2⟩|⟨m,h1,h2⟩
  .left;rw [h2];exact h1
  .right;rw [ba0];exact List.mem_map.2 ⟨n,List.mem_of_getElem? h1,rfl⟩
 refine ⟨⟨by rw [cy6];exact C.len,C.pos,C.few,?_,?_,?_,?_,?_,?_,?_⟩,M.par,?_,?_,?_,?_,?_⟩
 .intro y h;obtain ⟨n,d,rfl⟩:=List.mem_map.1 h;have:=bV8 C (C.outT n d) (C.outR n d).1;omega
 .intro x g y h;obtain ⟨z,e,rfl⟩:=List.mem_map.1 g;obtain ⟨n,d,rfl⟩:=List.mem_map.1 h;have:=bV8 C ((hr z e).1 n d) (C.toR z e n d).1;omega
 .intro x g y h;obtain ⟨z,e,rfl⟩:=List.mem_map.1 g;obtain ⟨n,d,rfl⟩:=List.mem_map.1 h;have:=bV8 C ((hr z e).2 n d) (C.fromR z e n d).1;omega
 .rw [D7,f];unfold List.Nodup;rw [List.pairwise_map];exact List.pairwise_lt_range.imp λk=>by omega
 .intro n d;rw [f] at d;obtain ⟨j,_,rfl⟩:=List.mem_map.1 d;omega
 .exact aL8 (E5 a (wr b)) (λn d=>by unfold E5;rw [if_pos d];exact d) b [] C.there
 .intro y h;obtain ⟨n,d,rfl⟩:=List.mem_map.1 h;exact i n (C.outT n d)
 .intro x g;obtain ⟨z,e,rfl⟩:=List.mem_map.1 g;show (z.from_.map _).length<=3;rw [cy6];exact M.froms z e
 .intro x g;obtain ⟨z,e,rfl⟩:=List.mem_map.1 g;show 1<=(z.to.map _).length/\(z.to.map _).length<=2;rw [cy6];exact M.tos z e
 .intro x g;obtain ⟨z,e,rfl⟩:=List.mem_map.1 g;exact M.bod z e
 .rw [cy6];exact M.out
 .intro n d;rw [f] at d;obtain ⟨j,l,rfl⟩:=List.mem_map.1 d;have:=List.mem_range.1 l;omega
theorem bI0 {a:Int} {b:List Ins} {c d:List Int} (C:Checked a b c):D0 ⟨a,b,c,d⟩=(⟨a,b.map (ae9 a (wr b)),c.map (E5 a (wr b)),[]⟩,0):=by unfold D0;rw [if_neg (by rw [ak9 C];simp)];rfl
structure Mono (φ:Int->Int) (a:Int):Prop where
 lt:∀ x y,φ x<φ y<->x<y
 par:∀ n,n<a->φ n=n
theorem Mono.eq {φ:Int->Int} {a:Int} (M:Mono φ a) {x y:Int}:φ x=φ y<->x=y:=by refine ⟨λh=>?_,λh=>by rw [h]⟩;have h1:=M.lt x y;have h2:=M.lt y x;omega
def mapK {β:Type} (φ:Int->Int) (m:List (Int×β)):List (Int×β):=m.map λp=>(φ p.1,p.2)
def mapV (φ:Int->Int) (m:Holds):Holds:=m.map λp=>(p.1,φ p.2)
def mapX (φ:Int->Int) (x:Ins):Ins:=⟨x.op,x.n,x.to.map φ,x.from_.map φ,x.body⟩
def mapH (φ:Int->Int) (x:Held):Held:=⟨x.slot,φ x.reg,x.next⟩
def mapA (φ:Int->Int) (s:AS):AS:=⟨mapV φ s.holds,mapK φ s.cells,s.ocells,s.code⟩
theorem beqφ {φ:Int->Int} {a:Int} (M:Mono φ a) (x y:Int):(φ x==φ y)=(x==y):=by rw [Bool.eq_iff_iff,beq_iff_eq,beq_iff_eq];exact M.eq
theorem aL9 {φ:Int->Int} {a:Int} (M:Mono φ a) (l:List Int) (n:Int):(l.map φ).contains (φ n)=l.contains n:=by rw [Bool.eq_iff_iff,List.contains_iff_mem,List.contains_iff_mem,List.mem_map];exact ⟨λ⟨x,b,h⟩=>M.eq.1 h▸b,λh=>⟨n,h,rfl⟩⟩
theorem at9 {φ:Int->Int} {a:Int} (M:Mono φ a) {β:Type} (m:List (Int×β)) (n:Int):mget eqI (mapK φ m) (φ n)=mget eqI m n:=by
 induction m with
 |nil=>rfl
 |cons x r ih=>show (bif φ x.1==φ n then some x.2 else mget eqI (mapK φ r) (φ n))=bif x.1==n then some x.2 else mget eqI r n;rw [beqφ M,ih]
theorem ab6 {φ:Int->Int} {a:Int} (M:Mono φ a) {β:Type} (m:List (Int×β)) (n:Int) (v:β):mput eqI (mapK φ m) (φ n) v=mapK φ (mput eqI m n v):=by
 induction m with
 |nil=>rfl
 |cons x r ih=>show (bif φ x.1==φ n then (φ n,v)::mapK φ r else (φ x.1,x.2)::mput eqI (mapK φ r) (φ n) v)=mapK φ (bif x.1==n then (n,v)::r else (x.1,x.2)::mput eqI r n v);rw [beqφ M,ih];cases x.1==n<;>rfl
theorem bj8 {φ:Int->Int} (m:Holds) (p:Place) (v:Int):mput eqP (mapV φ m) p (φ v)=mapV φ (mput eqP m p v):=by
 induction m with
 |nil=>rfl
 |cons x r ih=>show (bif eqP x.1 p then (p,φ v)::mapV φ r else (x.1,φ x.2)::mput eqP (mapV φ r) p (φ v))=mapV φ (bif eqP x.1 p then (p,v)::r else (x.1,x.2)::mput eqP r p v);rw [ih];cases eqP x.1 p<;>rfl
theorem bj9 {φ:Int->Int} (m:Holds) (p:Place):mget eqP (mapV φ m) p=(mget eqP m p).map φ:=by
 induction m with
 |nil=>rfl
 |cons x r ih=>show (bif eqP x.1 p then some (φ x.2) else mget eqP (mapV φ r) p)=(bif eqP x.1 p then some x.2 else mget eqP r p).map φ;rw [ih];cases eqP x.1 p<;>rfl
theorem bk0 {φ:Int->Int} {a:Int} (M:Mono φ a) (m:Spans) (n:Int):getS (mapK φ m) (φ n)=getS m n:=by unfold getS;rw [at9 M]
theorem aM0 {φ:Int->Int} {a:Int} (M:Mono φ a) (m:List (Int×Int)) (n:Int):getI (mapK φ m) (φ n)=getI m n:=by unfold getI;rw [at9 M]
theorem bk1 {φ:Int->Int} {a:Int} (M:Mono φ a) (m:Reads) (n:Int):getL (mapK φ m) (φ n)=getL m n:=by unfold getL;rw [at9 M]
theorem aS2 {φ:Int->Int} {a:Int} (M:Mono φ a) (l:List Int) (f:Int):∀ m,J6 (mapK φ m) (l.map φ) f=mapK φ (J6 m l f):=by
 induction l with
 |nil=>intro m;rfl
 |cons x r ih=>intro m;show J6 (mput eqI (mapK φ m) (φ x) _) _ _=_;rw [ab6 M,ih];rfl
theorem by7 {φ:Int->Int} {a:Int} (M:Mono φ a) (l:List Int) (f:Int):∀ m,uses (mapK φ m) (l.map φ) f=mapK φ (uses m l f):=by
 induction l with
 |nil=>intro m;rfl
 |cons x r ih=>intro m;show uses (mput eqI (mapK φ m) (φ x) ⟨(getS (mapK φ m) (φ x)).first,f⟩) _ _=_;rw [bk0 M,ab6 M,ih];rfl
theorem aS3 {φ:Int->Int} {a:Int} (M:Mono φ a):∀ (b:List Ins) (m:Spans) (i:Int),I8 (mapK φ m) (b.map (mapX φ)) i=mapK φ (I8 m b i)
 |[],m,i=>rfl
 |x::r,m,i=>by show I8 (J6 (uses (mapK φ m) (x.from_.map φ) i) (x.to.map φ) (i+1)) (r.map (mapX φ)) (i+1)=_;rw [by7 M,aS2 M,aS3 M r];rfl
theorem ce8 {φ:Int->Int} {a:Int} (M:Mono φ a) (n:Nat) (h:(n:Int)<=a):(upto n).map φ=upto n:=by unfold upto;rw [List.map_map];apply List.map_congr_left;intro k b;rw [List.mem_range] at b;exact M.par (k:Int) (by omega)
theorem bs0 {φ:Int->Int} {a:Int} (M:Mono φ a) (h0:0<=a) (b:List Ins) (c:List Int):A5 a (b.map (mapX φ)) (c.map φ)=mapK φ (A5 a b c):=by
 have h1:mapK φ (L0 a)=L0 a:=by unfold L0;rw [<-aS2 M,ce8 M _ (by omega)];rfl
 unfold A5 L6;rw [<-h1,aS3 M,cy6,by7 M,h1];unfold mapK;rw [List.map_map,List.map_map];rfl
theorem au0 {φ:Int->Int} {a:Int} (M:Mono φ a):∀ (l s:List Int),E4 (s.map φ) (l.map φ)=(E4 s l).map φ
 |[],s=>rfl
 |x::r,s=>by
  show (bif (s.map φ).contains (φ x) then E4 (s.map φ++[φ x]) (r.map φ) else φ x::E4 (s.map φ++[φ x]) (r.map φ))=(bif s.contains x then E4 (s++[x]) r else x::E4 (s++[x]) r).map φ;have:s.map φ++[φ x]=(s++[x]).map φ:=by simp
  rw [aL9 M,this,au0 M r];cases s.contains x<;>rfl
theorem aM1 {φ:Int->Int} {a:Int} (M:Mono φ a) (l:List Int):B0 (l.map φ)=(B0 l).map φ:=au0 M l []
theorem bk2 {φ:Int->Int} {a:Int} (M:Mono φ a) (l:List Int) (i:Int):∀ m,F8 (mapK φ m) (l.map φ) i=mapK φ (F8 m l i):=by
 induction l with
 |nil=>intro m;rfl
 |cons x r ih=>intro m;show F8 (mput eqI (mapK φ m) (φ x) (getL (mapK φ m) (φ x)++[i])) _ _=_;rw [bk1 M,ab6 M,ih];rfl
theorem aM2 {φ:Int->Int} {a:Int} (M:Mono φ a):∀ (b:List Ins) (i:Int) (m:Reads),M3 (b.map (mapX φ)) i (mapK φ m)=mapK φ (M3 b i m)
 |[],i,m=>rfl
 |x::r,i,m=>by show M3 (r.map (mapX φ)) (i+1) (F8 (mapK φ m) (B0 (x.from_.map φ)) i)=_;rw [aM1 M,bk2 M,aM2 M r];rfl
theorem bs1 {φ:Int->Int} {a:Int} (M:Mono φ a) (b:List Ins):I0 (b.map (mapX φ))=mapK φ (I0 b):=aM2 M b 0 []
theorem aS4 {φ:Int->Int} {a:Int} (M:Mono φ a):∀ n:Nat,(n:Int)<=a->mapK φ (Q3 n)=Q3 n
 |0,_=>rfl
 |n+1,h=>by
  have e:Q3 (n+1)=mput eqI (Q3 n) (n:Int) (n:Int):=by unfold Q3;rw [List.range_succ,List.foldl_append];rfl
  rw [e,<-ab6 M,aS4 M n (by omega),M.par _ (by omega)]
theorem bI1 {φ:Int->Int} {a:Int} (M:Mono φ a) (rd:Reads) (N r f:Int):ae8 (mapK φ rd) N (φ r) f=ae8 rd N r f:=by unfold ae8;rw [bk1 M]
theorem al0 {φ:Int->Int} {a:Int} (M:Mono φ a) (m:Holds) (ks r:Int):C0 (mapV φ m) ks (φ r)=C0 m ks r:=by
 have h:ab5 (mapV φ m) (φ r)=ab5 m r:=by
  funext s;unfold ab5;rw [bj9];congr 1;rw [eq_iff_iff];cases mget eqP m ⟨false,(s:Int)⟩ with
  |none=>simp
  |some v=>simp [M.eq]
 unfold C0;rw [h]
theorem bI2 {φ:Int->Int} {a:Int} (M:Mono φ a) (x y:Held):X5 (mapH φ x) (mapH φ y)=X5 x y:=by
 have h:=M.lt y.reg x.reg;have e:decide (φ x.reg >φ y.reg)=decide (x.reg >y.reg):=by rw [Bool.eq_iff_iff,cx6,cx6];exact h
 unfold X5 mapH;dsimp only;rw [e]
theorem bI3 {φ:Int->Int} {a:Int} (M:Mono φ a) {l:List Held} (h:l≠[]):J9 (l.map (mapH φ))=mapH φ (J9 l):=by
 obtain ⟨x,r,rfl⟩:=List.exists_cons_of_ne_nil h;show (r.map (mapH φ)).foldl G9 (mapH φ x)=mapH φ (r.foldl G9 x);clear h
 induction r generalizing x with
 |nil=>rfl
 |cons y r ih=>
  have:G9 (mapH φ x) (mapH φ y)=mapH φ (G9 x y):=by unfold G9;rw [bI2 M];cases X5 y x<;>rfl
  rw [List.map_cons,List.foldl_cons,List.foldl_cons,this,ih]
theorem ai5 {φ:Int->Int} {a:Int} (M:Mono φ a) (sp:Spans) (rd:Reads) (N:Int) (m:Holds) (pl:Int) (st:List Int):∀ (l:List Nat) (acc:List Held),
  C2 (mapK φ sp) (mapK φ rd) N (mapV φ m) pl (st.map φ) l (acc.map (mapH φ))=((C2 sp rd N m pl st l acc).1,(C2 sp rd N m pl st l acc).2.map (mapH φ))
 |[],acc=>rfl
 |s::r,acc=>by
  simp only [C2,bj9];cases mget eqP m ⟨false,(s:Int)⟩ with
  |none=>rfl
  |some n=>
   simp only [Option.map_some,aL9 M,bk0 M,bI1 M];cases st.contains n with
   |true=>exact ai5 M sp rd N m pl st r acc
   |false=>
    cases I6 (getS sp n).first (getS sp n).last pl with
    |true=>
     have e:acc.map (mapH φ)++([⟨(s:Int),φ n,ae8 rd N n pl⟩]:List Held)=(acc++([⟨(s:Int),n,ae8 rd N n pl⟩]:List Held)).map (mapH φ):=by simp [mapH]
     simp only [cond_true,cond_false,e];exact ai5 M sp rd N m pl st r _
    |false=>rfl
theorem bV9 {φ:Int->Int} {a:Int} (M:Mono φ a) (s:AS) (x:Held):af0 (mapA φ s) (mapH φ x)=mapA φ (af0 s x):=by unfold af0;show (bif (mget eqI (mapK φ s.cells) (φ x.reg)).isSome then _ else (⟨mapV φ s.holds,mput eqI (mapK φ s.cells) (φ x.reg) s.ocells,s.ocells+1,s.code++[⟨2,x.slot,s.ocells,ins0⟩]⟩:AS))=_;rw [at9 M,ab6 M];cases (mget eqI s.cells x.reg).isSome<;>rfl
theorem aS5 {φ:Int->Int} {a:Int} (M:Mono φ a) (sp:Spans) (rd:Reads) (ks N:Int) (s:AS) (pl:Int) (st:List Int) (b:U1 sp rd ks N s.holds pl st):
  F7 (mapK φ sp) (mapK φ rd) ks N (mapA φ s) pl (st.map φ)=((F7 sp rd ks N s pl st).1,mapA φ (F7 sp rd ks N s pl st).2):=by
 have h:H5 (mapK φ sp) (mapK φ rd) ks N (mapV φ s.holds) pl (st.map φ)=((H5 sp rd ks N s.holds pl st).1,(H5 sp rd ks N s.holds pl st).2.map (mapH φ)):=ai5 M sp rd N s.holds pl st _ [];unfold F7;show (match (H5 (mapK φ sp) (mapK φ rd) ks N (mapV φ s.holds) pl (st.map φ)).1 with
  |some i=>(i,mapA φ s)
  |none=>((J9 (H5 (mapK φ sp) (mapK φ rd) ks N (mapV φ s.holds) pl (st.map φ)).2).slot,af0 (mapA φ s) (J9 (H5 (mapK φ sp) (mapK φ rd) ks N (mapV φ s.holds) pl (st.map φ)).2)))=_
 rw [h];dsimp only;unfold U1 at b;cases hr:(H5 sp rd ks N s.holds pl st).1 with
 |some i=>rfl
 |none=>dsimp only;rw [bI3 M (b hr),bV9 M];rfl
theorem bk3 {φ:Int->Int} {a:Int} (M:Mono φ a) (sp:Spans) (rd:Reads) (ks N i:Int) (fr:List Int) (s:AS) (n:Int) (b:(C0 s.holds ks n).cell=true->U1 sp rd ks N s.holds i fr):
  F5 (mapK φ sp) (mapK φ rd) ks N i (fr.map φ) (mapA φ s) (φ n)=mapA φ (F5 sp rd ks N i fr s n):=by
 unfold F5;rw [show (mapA φ s).holds=mapV φ s.holds from rfl,al0 M];cases hc:(C0 s.holds ks n).cell with
 |false=>rfl
 |true=>rw [aS5 M sp rd ks N s i fr (b hc)];obtain ⟨q,t⟩:=F7 sp rd ks N s i fr;show (⟨mput eqP (mapV φ t.holds) ⟨false,q⟩ (φ n),mapK φ t.cells,t.ocells,t.code++[⟨1,q,getI (mapK φ t.cells) (φ n),ins0⟩]⟩:AS)=_;rw [bj8,aM0 M];rfl
theorem bI4 {φ:Int->Int} {a:Int} (M:Mono φ a) (sp:Spans) (rd:Reads) (ks N i:Int) (to:List Int) (s:AS) (n:Int) (b:U1 sp rd ks N s.holds (i+1) to):
  Q6 (mapK φ sp) (mapK φ rd) ks N i (to.map φ) (mapA φ s) (φ n)=mapA φ (Q6 sp rd ks N i to s n):=by
 unfold Q6;rw [aS5 M sp rd ks N s (i+1) to b];obtain ⟨q,t⟩:=F7 sp rd ks N s (i+1) to;show (⟨mput eqP (mapV φ t.holds) ⟨false,q⟩ (φ n),mapK φ t.cells,t.ocells,t.code⟩:AS)=_;rw [bj8];rfl
theorem aM3 {φ:Int->Int} {a:Int} (M:Mono φ a) (sp:Spans) (rd:Reads) (ks N i:Int) (fr:List Int) (s:AS) (l:List Int)
  (b:∀ k,k<l.length->(C0 (D4 sp rd ks N i fr s (l.take k)).holds ks (l.getD k 0)).cell=true->U1 sp rd ks N (D4 sp rd ks N i fr s (l.take k)).holds i fr):
  ∀ k,k<=l.length->D4 (mapK φ sp) (mapK φ rd) ks N i (fr.map φ) (mapA φ s) ((l.take k).map φ)=mapA φ (D4 sp rd ks N i fr s (l.take k))
 |0,_=>by simp [D4]
 |k+1,h=>by rw [A4 (by omega) 0,List.map_append,List.map_cons,List.map_nil,ah7,ah7,aM3 M sp rd ks N i fr s l b k (by omega),bk3 M _ _ _ _ _ _ _ _ (b k (by omega))]
theorem bk4 {φ:Int->Int} {a:Int} (M:Mono φ a) (sp:Spans) (rd:Reads) (ks N i:Int) (to:List Int) (s:AS) (l:List Int)
  (b:∀ k,k<l.length->U1 sp rd ks N (I2 sp rd ks N i to s (l.take k)).holds (i+1) to):
  ∀ k,k<=l.length->I2 (mapK φ sp) (mapK φ rd) ks N i (to.map φ) (mapA φ s) ((l.take k).map φ)=mapA φ (I2 sp rd ks N i to s (l.take k))
 |0,_=>by simp [I2]
 |k+1,h=>by rw [A4 (by omega) 0,List.map_append,List.map_cons,List.map_nil,ak7,ak7,bk4 M sp rd ks N i to s l b k (by omega),bI4 M _ _ _ _ _ _ _ _ (b k (by omega))]
theorem bk5 {φ:Int->Int} {a:Int} (M:Mono φ a) (m:Holds) (ks:Int) (l:List Int):H9 (mapV φ m) ks (l.map φ)=mapK φ (H9 m ks l):=by
 have h:∀ (l:List Int) (mm:List (Int×Int)),(l.map φ).foldl (λmm n=>mput eqI mm n (C0 (mapV φ m) ks n).n) (mapK φ mm)=mapK φ (l.foldl (λmm n=>mput eqI mm n (C0 m ks n).n) mm):=by
  intro l
  induction l with
  |nil=>intro mm;rfl
  |cons x r ih=>intro mm;rw [List.map_cons,List.foldl_cons,List.foldl_cons,al0 M,ab6 M,ih]
 exact h l []
theorem ce9 {φ:Int->Int} {a:Int} (M:Mono φ a) (sp:Spans) (rd:Reads) (ks N i:Int) (x:Ins) (s:AS) (b:doOk sp rd ks N i x s):
  doOf (mapK φ sp) (mapK φ rd) ks N i (mapX φ x) (mapA φ s)=mapA φ (doOf sp rd ks N i x s):=by
 have h1:=aM3 M sp rd ks N i (B0 x.from_) s (B0 x.from_) b.1 _ (Nat.le_refl _);rw [cy3] at h1;have h2:=bk4 M sp rd ks N i x.to (D4 sp rd ks N i (B0 x.from_) s (B0 x.from_)) x.to b.2 _ (Nat.le_refl _);rw [cy3] at h2;unfold doOf;show (match D4 (mapK φ sp) (mapK φ rd) ks N i (B0 (x.from_.map φ)) (mapA φ s) (B0 (x.from_.map φ)) with
  |s1=>match I2 (mapK φ sp) (mapK φ rd) ks N i (x.to.map φ) s1 (x.to.map φ) with
   |s2=>(⟨s2.holds,s2.cells,s2.ocells,s2.code++[⟨0,0,0,⟨x.op,x.n,(x.to.map φ).map (λn=>(C0 s2.holds ks n).n),(x.from_.map φ).map (getI (H9 s1.holds ks (B0 (x.from_.map φ)))),x.body⟩⟩]⟩:AS))=_
 dsimp only;rw [aM1 M,h1,h2];generalize D4 sp rd ks N i (B0 x.from_) s (B0 x.from_)=s1;generalize I2 sp rd ks N i x.to s1 x.to=s2;have c:(x.to.map φ).map (λn=>(C0 (mapV φ s2.holds) ks n).n)=x.to.map (λn=>(C0 s2.holds ks n).n):=by rw [List.map_map];apply List.map_congr_left;intro n _;show (C0 (mapV φ s2.holds) ks (φ n)).n=_;rw [al0 M]
 have d:(x.from_.map φ).map (getI (H9 (mapV φ s1.holds) ks ((B0 x.from_).map φ)))=x.from_.map (getI (H9 s1.holds ks (B0 x.from_))):=by rw [bk5 M,List.map_map];apply List.map_congr_left;intro n _;exact aM0 M _ n
 show (⟨mapV φ s2.holds,mapK φ s2.cells,s2.ocells,s2.code++[⟨0,0,0,⟨x.op,x.n,(x.to.map φ).map (λn=>(C0 (mapV φ s2.holds) ks n).n),(x.from_.map φ).map (getI (H9 (mapV φ s1.holds) ks ((B0 x.from_).map φ))),x.body⟩⟩]⟩:AS)=_;rw [c,d];rfl
theorem by8 {φ:Int->Int} {a:Int} (M:Mono φ a) {b:List Ins} {c:List Int} (C:Checked a b c) {ks:Int} (d:b.all (fewX ks)=true) (sp:Spans) (rd:Reads) (N:Int):∀ k,k<=b.length->
  runA (mapK φ sp) (mapK φ rd) ks N ((b.take k).map (mapX φ)) 0 (G4 a)=mapA φ (runA sp rd ks N (b.take k) 0 (G4 a))
 |0,_=>by have:=C.pos;show G4 a=mapA φ (G4 a);unfold mapA G4;dsimp only;rw [aS4 M _ (by omega)];rfl
 |k+1,h=>by
  rw [A4 (by omega) ins0,List.map_append,List.map_cons,List.map_nil,ah8,ah8,by8 M C d sp rd N k (by omega),cy6,ce9 M _ _ _ _ _ _ _ ?_];have h1:=(aK8 C d sp rd N k (by omega)).2 (by omega)
  rwa [cy4,Nat.min_eq_left (by omega)]
theorem cf0 {φ:Int->Int} {a:Int} (M:Mono φ a) (ks:Int) (x:Ins):fewX ks (mapX φ x)=fewX ks x:=by unfold fewX mapX;dsimp only;rw [aM1 M,cy6,cy6]
theorem bW0 {φ:Int->Int} (b:List Ins):wr (b.map (mapX φ))=(wr b).map φ:=by
 unfold wr
 induction b with
 |nil=>rfl
 |cons x r ih=>rw [List.map_cons,List.flatMap_cons,List.flatMap_cons,ih,List.map_append];rfl
theorem bk6 {φ:Int->Int} {a:Int} (M:Mono φ a):∀ (b:List Ins) (w:List Int),D3 a w b=true->D3 a (w.map φ) (b.map (mapX φ))=true
 |[],w,_=>rfl
 |x::r,w,h=>by
  simp only [D3,cv6] at h;have e:w.map φ++(mapX φ x).to=(w++x.to).map φ:=by simp [mapX]
  simp only [List.map_cons,D3,cv6];refine ⟨?_,by rw [e];exact bk6 M r _ h.2⟩;rw [cy5];intro n c;obtain ⟨m,hm,rfl⟩:=List.mem_map.1 c;have h1:=cy5.1 h.1 m hm;rw [Bool.or_eq_true,cx6] at h1 |-;rcases h1 with h1|h1
  .exact .inl (by rw [M.par m h1];exact h1)
  .exact .inr (by rw [aL9 M];exact h1)
theorem bs2 {φ:Int->Int} {a:Int} (M:Mono φ a) {b:List Ins} {c:List Int} (C:Checked a b c) (hr:∀ n,(n<a\/n∈wr b)->0<=n->0<=φ n/\φ n<=3999):Checked a (b.map (mapX φ)) (c.map φ):=by
 have e:=cg4 C;refine ⟨by rw [cy6];exact C.len,C.pos,C.few,?_,?_,?_,?_,?_,bk6 M b [] C.there,?_⟩
 .intro n d;obtain ⟨m,hm,rfl⟩:=List.mem_map.1 d;exact hr m (C.outT m hm) (C.outR m hm).1
 .intro x g n d;obtain ⟨y,f,rfl⟩:=List.mem_map.1 g;obtain ⟨m,hm,rfl⟩:=List.mem_map.1 d;exact hr m ((e y f).1 m hm) (C.toR y f m hm).1
 .intro x g n d;obtain ⟨y,f,rfl⟩:=List.mem_map.1 g;obtain ⟨m,hm,rfl⟩:=List.mem_map.1 d;exact hr m ((e y f).2 m hm) (C.fromR y f m hm).1
 .rw [bW0,D7];have:=D7.1 C.once;unfold List.Nodup at this |-;rw [List.pairwise_map];exact this.imp λh h2=>h (M.eq.1 h2)
 .intro n d;rw [bW0] at d;obtain ⟨m,hm,rfl⟩:=List.mem_map.1 d;have h1:=C.new m hm;have h2:=M.lt (a-1) m;have i:=M.par (a-1) (by omega);omega
 .intro n d;obtain ⟨m,hm,rfl⟩:=List.mem_map.1 d;rcases C.outT m hm with h|h
  .exact .inl (by rw [M.par m h];exact h)
  .exact .inr (by rw [bW0];exact List.mem_map.2 ⟨m,h,rfl⟩)
theorem by9 {f:VFun} {ks:Int} (hc:C1 f=0) (a:¬ (ks<1\/64<ks)) (hf:f.code.all (fewX ks)=true):B8 f ks=(⟨f.params,ks,(ap1 f ks).ocells,(ap1 f ks).code,f.out.map (outA (ap1 f ks) ks)⟩,0):=by unfold B8;rw [if_neg (by rw [hc];simp),if_neg a,if_neg (by rw [hf];simp)]
theorem bW1 {φ:Int->Int} {a:Int} (M:Mono φ a) {b:List Ins} {c d d':List Int} (C:Checked a b c) {ks:Int} (i:1<=ks) (j:ks<=64) (f:b.all (fewX ks)=true) (hr:∀ n,(n<a\/n∈wr b)->0<=n->0<=φ n/\φ n<=3999):
  B8 ⟨a,b.map (mapX φ),c.map φ,d'⟩ ks=B8 ⟨a,b,c,d⟩ ks:=by
 have C':=bs2 M C hr;have h:(b.map (mapX φ)).all (fewX ks)=true:=by rw [List.all_map];rw [<-f];congr 1;funext x;exact cf0 M ks x
 have g:=by8 M C f (A5 a b c) (I0 b) b.length b.length (Nat.le_refl _);rw [cy3] at g;have hl:ap1 ⟨a,b.map (mapX φ),c.map φ,d'⟩ ks=mapA φ (ap1 ⟨a,b,c,d⟩ ks):=by unfold ap1;dsimp only;rw [bs0 M C.pos,bs1 M,cy6];exact g
 rw [by9 (ak9 C) (by omega) f,by9 (ak9 C') (by omega) h,hl];have e:(c.map φ).map (outA (mapA φ (ap1 ⟨a,b,c,d⟩ ks)) ks)=c.map (outA (ap1 ⟨a,b,c,d⟩ ks) ks):=by rw [List.map_map];apply List.map_congr_left;intro n _;show (bif (C0 (mapV φ (ap1 ⟨a,b,c,d⟩ ks).holds) ks (φ n)).cell then (⟨true,getI (mapK φ (ap1 ⟨a,b,c,d⟩ ks).cells) (φ n)⟩:Place) else C0 (mapV φ (ap1 ⟨a,b,c,d⟩ ks).holds) ks (φ n))=_;rw [al0 M,aM0 M];rfl
 dsimp only;rw [e];rfl
def E1 (a n:Int):Int:=if n<a then n else 3*n+1
theorem bs3 {a:Int} (h:0<=a):Mono (E1 a) a:=by refine ⟨λx y=>?_,λn b=>by unfold E1;rw [if_pos b]⟩;unfold E1;split<;>split<;>omega
def cSpread:Con RU:=con [one,one] [i64,ints] [one] [ints] [false] (some λp=>p.2.1.length<=17592186044400/\∀ x∈p.2.1,0<=x/\x<4000) λp=>(p.2.1.map (E1 p.1),())
def bs4 (a:Int) (l:List Int):Nat->St RU->Ann RU:=λ_ _=>⟨[5],[.slot 6,.row 448],[i64,ints],λp=>0<=p.1/\p.1<=l.length/\p.2.1=(l.take p.1.toNat).map (E1 a),λp=>l.length-p.1.toNat,[]⟩
def N3 (l:List Int):VFun:=(D0 ⟨parB l,(B6 l 30).code,(B6 l 30).out,[]⟩).1
def bW2 (l:List Int):Nat->St RU->Ann RU:=λk s=>match k with
 |0=>⟨[],[.slot 8,.box 448 1],[i64,inss],λp=>0<=p.1/\p.1<=(N3 l).code.length/\p.2.1=((N3 l).code.take p.1.toNat).map (mapX (E1 (N3 l).params)),λp=>(N3 l).code.length-p.1.toNat,[(.cell 448 1,0,52,.user 0)]⟩
 |_=>⟨[],[.slot 16,.slot 15],[i64,.bool],λp=>0<=p.1/\p.1<=(N3 l).out.length/\p.2.1=true,λp=>(N3 l).out.length-p.1.toNat,[]⟩
theorem bW3 (a:Int) (l:List Int):vc (EV []) (bs4 a l) Go.Proofs.Tryd.f44 cSpread (a,l,())=(
 let c:Int:=(↑(List.length l):Int);
  Small RU (Sigma.mk (Ty.slice (3:Nat) (Ty.int IntKind.i64)) l)->
  (∃ (p:Int×List Int×Unit),a=a/\l=l/\(0:Int)=p.1/\[]=p.2.1/\(0:Int)<=p.1/\p.1<=c/\p.2.1=List.map (E1 a) (List.take (Int.toNat p.1) l))/\
  ∀ (p:Int×List Int×Unit),
 let e0_1:Bool:=decide (List.getD l (Int.toNat p.1) (0:Int)<a);
 let e:List Int:=[IntKind.i64.wrap (IntKind.i64.wrap ((3:Int)*List.getD l (Int.toNat p.1) (0:Int))+(1:Int))];
 let d:List Int:=p.2.1;
 let f:Bool:=decide (p.1<c);
 let b:Int:=p.1;
 let g:List Int:=[List.getD l (Int.toNat b) (0:Int)];
  (0:Int)<=b/\b<=c/\d=List.map (E1 a) (List.take (Int.toNat b) l)->
  (f=true->
  ((0:Int)<=b/\b<c)/\
  ((e0_1=true->((0:Int)<=b/\b<c)/\(List.length d+List.length g)*(8:Nat)<=(140737488355328:Nat))/\
  (e0_1=false->((0:Int)<=b/\b<c)/\(List.length d+List.length e)*(8:Nat)<=(140737488355328:Nat)))/\
  ∃ (p':Int×List Int×Unit),
  (bif e0_1 then a else a)=a/\
  (bif e0_1 then l else l)=l/\
  IntKind.i64.wrap ((bif e0_1 then b else b)+(1:Int))=p'.1/\
  (bif e0_1 then d++g else d++e)=p'.2.1/\
  ((0:Int)<=p'.1/\p'.1<=c/\p'.2.1=List.map (E1 a) (List.take (Int.toNat p'.1) l))/\List.length l-Int.toNat p'.1<List.length l-Int.toNat b)/\
  (f=false->(d,())=(List.map (E1 a) l,()))):=by kernel_rfl
theorem cf1 (l:List Int) (n:Int):vc (EV [(25,cBuilt),(27,cSlots),(15,cAlloc),(39,cPlain),(44,cSpread),(45,cSame),(14,cSlotted)]) (bW2 l) Go.Proofs.Tryd.f11 cLaw2 (l,n,())=(
 let a:RCode:=
  (B8
  (VFun.mk (D0 (VFun.mk (parB l) (B6 l (30:Int)).code (B6 l (30:Int)).out [])).1.params
  (D0 (VFun.mk (parB l) (B6 l (30:Int)).code (B6 l (30:Int)).out [])).1.code (D0 (VFun.mk (parB l) (B6 l (30:Int)).code (B6 l (30:Int)).out [])).1.out
  (D0 (VFun.mk (parB l) (B6 l (30:Int)).code (B6 l (30:Int)).out [])).1.at_)
  (ai3
  (VFun.mk (D0 (VFun.mk (parB l) (B6 l (30:Int)).code (B6 l (30:Int)).out [])).1.params
  (D0 (VFun.mk (parB l) (B6 l (30:Int)).code (B6 l (30:Int)).out [])).1.code (D0 (VFun.mk (parB l) (B6 l (30:Int)).code (B6 l (30:Int)).out [])).1.out
  (D0 (VFun.mk (parB l) (B6 l (30:Int)).code (B6 l (30:Int)).out [])).1.at_)
  n (5:Int))).1;
 let i:Int:=
  ai3
  (VFun.mk (D0 (VFun.mk (parB l) (B6 l (30:Int)).code (B6 l (30:Int)).out [])).1.params
  (D0 (VFun.mk (parB l) (B6 l (30:Int)).code (B6 l (30:Int)).out [])).1.code (D0 (VFun.mk (parB l) (B6 l (30:Int)).code (B6 l (30:Int)).out [])).1.out
  (D0 (VFun.mk (parB l) (B6 l (30:Int)).code (B6 l (30:Int)).out [])).1.at_)
  n (5:Int);
 let g:Bool:=
  (D0 (VFun.mk (parB l) (B6 l (30:Int)).code (B6 l (30:Int)).out [])).2 !=(0:Int)||
  decide ((↑(List.length (D0 (VFun.mk (parB l) (B6 l (30:Int)).code (B6 l (30:Int)).out [])).1.code):Int) >(30:Int));
 let j:List Int:=
  List.map (E1 (D0 (VFun.mk (parB l) (B6 l (30:Int)).code (B6 l (30:Int)).out [])).1.params)
  (D0 (VFun.mk (parB l) (B6 l (30:Int)).code (B6 l (30:Int)).out [])).1.out;
 let m:Int:=
  (B8
  (VFun.mk (D0 (VFun.mk (parB l) (B6 l (30:Int)).code (B6 l (30:Int)).out [])).1.params
  (D0 (VFun.mk (parB l) (B6 l (30:Int)).code (B6 l (30:Int)).out [])).1.code (D0 (VFun.mk (parB l) (B6 l (30:Int)).code (B6 l (30:Int)).out [])).1.out
  (D0 (VFun.mk (parB l) (B6 l (30:Int)).code (B6 l (30:Int)).out [])).1.at_)
  i).2;
 let b:List Ins:=(D0 (VFun.mk (parB l) (B6 l (30:Int)).code (B6 l (30:Int)).out [])).1.code;
 let c:Int:=(D0 (VFun.mk (parB l) (B6 l (30:Int)).code (B6 l (30:Int)).out [])).1.params;
 let e:List Int:=(D0 (VFun.mk (parB l) (B6 l (30:Int)).code (B6 l (30:Int)).out [])).1.at_;
 let f:List Int:=(D0 (VFun.mk (parB l) (B6 l (30:Int)).code (B6 l (30:Int)).out [])).1.out;
 let h:Int:=(D0 (VFun.mk (parB l) (B6 l (30:Int)).code (B6 l (30:Int)).out [])).2;
 let o:Int:=(↑(List.length b):Int);
 let d:Ins:=Ins.mk (0:Int) (0:Int) [] [] [];
 let k:Int:=(↑(List.length a.out):Int);
  Small RU (Sigma.mk (Ty.slice (3:Nat) (Ty.int IntKind.i64)) l)->
  (G6 (B6 l (30:Int)).code=true/\List.length (B6 l (30:Int)).out<=(17592186044416:Nat))/\
  (g=true->(false,())=(true,()))/\
  (g=false->
  (∃ (p:Int×List Ins×Unit),
  l=l/\
  n=n/\
  false=false/\
  h=h/\
  g=g/\
  (0:Int)=p.1/\
  c=c/\
  b=b/\
  f=f/\
  e=e/\
  c=c/\
  []=p.2.1/\
  f=f/\
  e=e/\
  (0:Int)<=p.1/\
  p.1<=(↑(List.length (N3 l).code):Int)/\p.2.1=List.map (mapX (E1 (N3 l).params)) (List.take (Int.toNat p.1) (N3 l).code))/\
  ∀ (p:Int×List Ins×Unit),
 let e0_1:Bool:=decide (p.1<o);
 let e1_1:List Ins:=p.2.1;
 let e2_1:List Ins:=
  [Ins.mk (List.getD b (Int.toNat p.1) d).op (List.getD b (Int.toNat p.1) d).n (List.map (E1 c) (List.getD b (Int.toNat p.1) d).to)
  (List.map (E1 c) (List.getD b (Int.toNat p.1) d).from_) (List.getD b (Int.toNat p.1) d).body];
 let e3_1:Int:=p.1;
 let e4_1:RCode:=(B8 (VFun.mk c e1_1 j e) i).1;
 let e5_1:List Ins:=[]++e1_1;
 let e6_1:Int:=(B8 (VFun.mk c e1_1 j e) i).2;
  (0:Int)<=e3_1/\e3_1<=(↑(List.length (N3 l).code):Int)/\e1_1=List.map (mapX (E1 (N3 l).params)) (List.take (Int.toNat e3_1) (N3 l).code)->
  (e0_1=true->
  ((0:Int)<=e3_1/\e3_1<o)/\
  (List.length (List.getD b (Int.toNat e3_1) d).to<=(17592186044400:Nat)/\∀ (x:Int),List.Mem x (List.getD b (Int.toNat e3_1) d).to->(0:Int)<=x/\x<(4000:Int))/\
  (List.length (List.getD b (Int.toNat e3_1) d).from_<=(17592186044400:Nat)/\
  ∀ (x:Int),List.Mem x (List.getD b (Int.toNat e3_1) d).from_->(0:Int)<=x/\x<(4000:Int))/\
  (List.length ([]:List Int)+List.length e1_1)*(88:Nat)<=(140737488355328:Nat)/\
  (List.length e5_1+List.length e2_1)*(88:Nat)<=(140737488355328:Nat)/\
  ∃ (p':Int×List Ins×Unit),
  l=l/\
  n=n/\
  false=false/\
  h=h/\
  g=g/\
  IntKind.i64.wrap (e3_1+(1:Int))=p'.1/\
  c=c/\
  b=b/\
  f=f/\
  e=e/\
  c=c/\
  e5_1++e2_1=p'.2.1/\
  f=f/\
  e=e/\
  ((0:Int)<=p'.1/\
  p'.1<=(↑(List.length (N3 l).code):Int)/\
  p'.2.1=List.map (mapX (E1 (N3 l).params)) (List.take (Int.toNat p'.1) (N3 l).code))/\
  List.length (N3 l).code-Int.toNat p'.1<List.length (N3 l).code-Int.toNat e3_1)/\
  (e0_1=false->
  (List.length f<=(17592186044400:Nat)/\∀ (x:Int),List.Mem x f->(0:Int)<=x/\x<(4000:Int))/\
  (M1 b=true/\(5:Int)<=(1000:Int))/\
  (M1 b=true/\G6 b=true/\List.length f<=(8796093022200:Nat))/\
  (M1 e1_1=true/\G6 e1_1=true/\List.length j<=(8796093022200:Nat))/\
  (∃ (p:Int×Bool×Unit),
  l=l/\
  n=n/\
  false=false/\
  h=h/\
  g=g/\
  e3_1=e3_1/\
  e0_1=e0_1/\
  i=i/\
  m=m/\
  e6_1=e6_1/\
  (0:Int)=p.1/\
  (m==(0:Int)&&e6_1==(0:Int)&&aN2 a.code e4_1.code&&a.cells==e4_1.cells&&k==(↑(List.length e4_1.out):Int))=p.2.1/\
  c=c/\
  b=b/\
  f=f/\
  e=e/\
  c=c/\
  e1_1=e1_1/\
  j=j/\
  e=e/\
  a.params=a.params/\
  a.slots=a.slots/\
  a.cells=a.cells/\
  a.code=a.code/\
  a.out=a.out/\
  e4_1.params=e4_1.params/\
  e4_1.slots=e4_1.slots/\
  e4_1.cells=e4_1.cells/\
  e4_1.code=e4_1.code/\
  e4_1.out=e4_1.out/\(0:Int)<=p.1/\p.1<=(↑(List.length (N3 l).out):Int)/\p.2.1=true)/\
  ∀ (p:Int×Bool×Unit),
 let e0_2:Bool:=p.2.1&&decide (p.1<k);
 let e1_2:Int:=p.1;
  (0:Int)<=e1_2/\e1_2<=(↑(List.length (N3 l).out):Int)/\p.2.1=true->
  (e0_2=true->
  ((0:Int)<=e1_2/\e1_2<k)/\
  ((0:Int)<=e1_2/\e1_2<(↑(List.length e4_1.out):Int))/\
  ∃ (p':Int×Bool×Unit),
  l=l/\
  n=n/\
  false=false/\
  h=h/\
  g=g/\
  e3_1=e3_1/\
  e0_1=e0_1/\
  i=i/\
  m=m/\
  e6_1=e6_1/\
  IntKind.i64.wrap (e1_2+(1:Int))=p'.1/\
  ((List.getD a.out (Int.toNat e1_2) (Place.mk false (0:Int))).cell==
  (List.getD e4_1.out (Int.toNat e1_2) (Place.mk false (0:Int))).cell&&
  ((List.getD a.out (Int.toNat e1_2) (Place.mk false (0:Int))).n==
  (List.getD e4_1.out (Int.toNat e1_2) (Place.mk false (0:Int))).n&&
  true))=
  p'.2.1/\
  c=c/\
  b=b/\
  f=f/\
  e=e/\
  c=c/\
  e1_1=e1_1/\
  j=j/\
  e=e/\
  a.params=a.params/\
  a.slots=a.slots/\
  a.cells=a.cells/\
  a.code=a.code/\
  a.out=a.out/\
  e4_1.params=e4_1.params/\
  e4_1.slots=e4_1.slots/\
  e4_1.cells=e4_1.cells/\
  e4_1.code=e4_1.code/\
  e4_1.out=e4_1.out/\
  ((0:Int)<=p'.1/\p'.1<=(↑(List.length (N3 l).out):Int)/\p'.2.1=true)/\
  List.length (N3 l).out-Int.toNat p'.1<List.length (N3 l).out-Int.toNat e1_2)/\
  (e0_2=false->(p.2.1&&true,())=(true,()))))):=by kernel_rfl
theorem bW4 (a:Int) (l:List Int) (g:l.length<=17592186044400/\∀ x∈l,0<=x/\x<4000):vc (EV []) (bs4 a l) Go.Proofs.Tryd.f44 cSpread (a,l,()):=by
 rw [bW3 a l];obtain ⟨hl,hr⟩:=g;simp only [Bool.cond_self,true_and];intro hs;refine ⟨⟨(0,[],()),rfl,rfl,Int.le_refl _,by dsimp only;omega,rfl⟩,?_⟩;rintro ⟨i,o,⟨⟩⟩;dsimp only;rintro ⟨j,k,rfl⟩;obtain ⟨i,rfl⟩:=cv9 j;simp only [cv7] at*
 refine ⟨λh=>?_,λh=>?_⟩
 .have h:=cw3 h;have e:i<l.length:=by omega
  have c:((l.take i).map (E1 a)).length=i:=by rw [cy6,cy4];omega
  have f:(0:Int)<=i/\(i:Int)<l.length:=⟨by omega,by omega⟩;have m:=hr _ (H4 e 0);have d:((l.take (i+1)).map (E1 a))=(l.take i).map (E1 a)++[E1 a (l.getD i 0)]:=by rw [A4 e 0,List.map_append];rfl
  refine ⟨f,⟨λ_=>⟨f,by rw [c];simp;omega⟩,λ_=>⟨f,by rw [c];simp;omega⟩⟩,((i+1:Nat),(l.take (i+1)).map (E1 a),()),B5 e (by omega),?_,⟨by dsimp only;omega,by dsimp only;omega,by dsimp only;rw [cv7]⟩,by dsimp only;omega⟩;dsimp only;rw [d];unfold E1;by_cases b:l.getD i 0<a
  .rw [decide_eq_true b,if_pos b];rfl
  .rw [decide_eq_false b,if_neg b,F9 (n:=3*_) (by omega) (by omega),F9 (by omega) (by omega)];rfl
 .have h:=cw2 h;rw [List.take_of_length_le (by omega)]
theorem bk7:C9 prog RG 44 cSpread:=E8 B9 (λp=>bs4 p.1 p.2.1) (by kernel_rfl) (by kernel_rfl) (by kernel_rfl) λ(a,l,()) b=>bW4 a l b
theorem bI5 (l:List RIns):aN2 l l=true:=by unfold aN2 V0;rw [decide_eq_true rfl,Bool.true_and,cy5];intro p b;obtain ⟨i,a⟩:=List.mem_iff_getElem?.1 (List.mem_of_mem_take b);rw [List.getElem?_zip_eq_some] at a;have h:p.1=p.2:=Option.some.inj (a.1.symm.trans a.2);rw [h];unfold bT7;cases c:p.2.kind==0<;>simp_all [aH7,bne]
theorem bW5 (φ:Int->Int) (x:Ins):al4 (mapX φ x)=al4 x:=by obtain ⟨o,n,t,f,bd⟩:=x;simp [mapX,al4]
theorem aS6 (φ:Int->Int):∀ b:List Ins,G6 (b.map (mapX φ))=G6 b
 |[]=>rfl
 |x::r=>by rw [List.map_cons];simp only [G6,bW5,aS6 φ r]
theorem bs5 (φ:Int->Int) (b:List Ins):M1 (b.map (mapX φ))=M1 b:=by unfold M1;rw [List.all_map];congr 1;funext x;simp [mapX,Function.comp]
theorem cf2 (l:List Int) (n:Int):vc (EV [(25,cBuilt),(27,cSlots),(15,cAlloc),(39,cPlain),(44,cSpread),(45,cSame),(14,cSlotted)]) (bW2 l) Go.Proofs.Tryd.f11 cLaw2 (l,n,()):=by
 rw [cf1 l n];obtain ⟨M0,u⟩:=made l (m:=30) (by omega);have v:(B6 l 30).code.length<=30:=by omega
 have y:=aZ9 M0;have K:=M0.out;have M:=ba1 M0 v;have o:=bI0 (d:=[]) M0.chk;have p:N3 l=(D0 ⟨parB l,(B6 l 30).code,(B6 l 30).out,[]⟩).1:=rfl;rw [o] at p;simp only [p,o];have f:((B6 l 30).code.map (ae9 (parB l) (wr (B6 l 30).code))).length<=30:=by rw [cy6];exact v
 obtain ⟨b,B⟩:∃ b,(B6 l 30).code.map (ae9 (parB l) (wr (B6 l 30).code))=b:=⟨_,rfl⟩;obtain ⟨c,hc⟩:∃ c,(B6 l 30).out.map (E5 (parB l) (wr (B6 l 30).code))=c:=⟨_,rfl⟩;obtain ⟨a,D⟩:∃ a,parB l=a:=⟨_,rfl⟩;rw [B] at f;simp only [B,hc] at M |-;rw [D] at M;simp only [D];clear p o B hc D;obtain ⟨F,L⟩:=bV5 (d:=[]) M f n (k:=5) (by omega) (by omega);have C:=M.chk;have E:=F.ks1;have G:=F.ks2;obtain ⟨c',h1,h2,R,S,T,U,N,V⟩:=bH9 (d:=[]) F;have q:=bs3 C.pos;have hr:∀ n,(n<a\/n∈wr b)->0<=n->0<=E1 a n/\E1 a n<=3999:=by
  intro n O h0;have J:=M.par;unfold E1;split
  .omega
  .have:=M.regs n (O.resolve_left (by omega));omega
 have r:=bW1 (d:=[]) (d':=[]) q C E G F.few hr;rw [h1] at r;have hM:=M.out;have e:=aZ9 M;have g:G6 (b.map (mapX (E1 a)))=true/\M1 (b.map (mapX (E1 a)))=true:=by rw [aS6,bs5];exact e
 obtain ⟨ks,H⟩:∃ ks,ai3 ⟨a,b,c,[]⟩ n 5=ks:=⟨_,rfl⟩;simp only [H] at*
 simp only [h1,r,true_and,and_true,List.nil_append];intro hs;have P:(⟨0,0,[],[],[]⟩:Ins)=ins0:=rfl;simp only [P];have I:decide ((b.length:Int) >30)=false:=decide_eq_false (by omega);refine ⟨⟨y.1,by omega⟩,λh=>(by rw [I] at h;simp at h),λ_=>⟨⟨(0,[],()),rfl,rfl,Int.le_refl _,by dsimp only;omega,rfl⟩,?_⟩⟩;rintro ⟨i,w,⟨⟩⟩;dsimp only;rintro ⟨Q,W,rfl⟩;obtain ⟨i,rfl⟩:=cv9 Q;simp only [cv7] at*
 refine ⟨λh=>?_,λh=>?_⟩
 .have h:=cw3 h;have z:i<b.length:=by omega
  have hm:=H4 z ins0;have hf:=M.froms _ hm;have X:=M.tos _ hm;have u:((b.take i).map (mapX (E1 a))).length<=30:=by rw [cy6,cy4];omega
  have s:(b.take (i+1)).map (mapX (E1 a))=(b.take i).map (mapX (E1 a))++[mapX (E1 a) (b.getD i ins0)]:=by rw [A4 z ins0,List.map_append];rfl
  refine ⟨⟨by omega,by omega⟩,⟨by omega,λx A=>?_⟩,⟨by omega,λx A=>?_⟩,by simp only [List.length_nil];omega,by simp only [cx8];omega,((i+1:Nat),(b.take (i+1)).map (mapX (E1 a)),()),B5 z (by omega),by rw [s];rfl,⟨by dsimp only;omega,by dsimp only;omega,by dsimp only;rw [cv7]⟩,by dsimp only;omega⟩
  .have:=C.toR _ hm x A;omega
  .have:=C.fromR _ hm x A;omega
 .have h:=cw2 h;have z:b.take i=b:=List.take_of_length_le (by omega);rw [z];simp only [r,bI5,N];refine ⟨⟨by omega,λx A=>?_⟩,⟨e.2,by omega⟩,⟨e.2,e.1,by omega⟩,⟨g.2,g.1,by rw [cy6];omega⟩,⟨(0,true,()),rfl,by simp,Int.le_refl _,by dsimp only;omega,rfl⟩,?_⟩
  .have:=C.outR x A;omega
  rintro ⟨j,t,⟨⟩⟩;dsimp only;rintro ⟨j0,Y,rfl⟩;obtain ⟨j,rfl⟩:=cv9 j0;simp only [cv7] at*
  refine ⟨λh=>?_,λ_=>rfl⟩;rw [Bool.true_and] at h;have h:=cw3 h;exact ⟨⟨by omega,by omega⟩,⟨by omega,by omega⟩,((j+1:Nat),true,()),B5 (m:=4) (by omega) (by omega),by simp,⟨by dsimp only;omega,by dsimp only;omega,rfl⟩,by dsimp only;omega⟩
theorem bW6:C9 prog RG 11 cLaw2:=E8 (A7 br3 (A7 br4 (A7 aL1 (A7 bq0 (A7 bk7 (A7 aR8 (A7 aZ6 B9))))))) (λp=>bW2 p.1) (by kernel_rfl) (by kernel_rfl) (by kernel_rfl) λ(l,n,()) _=>cf2 l n
end Go.Rg
end
section
namespace Go.Proofs.YtknhkhdbonjhgaaDoor
open Go.ChangeShapes Go.WideShapes Go.ChangeAt Go.RowKit Go.VT
abbrev aM4:List ArgT:=[(23,false,[Go.Rg.ints]),(3,false,[Go.Rg.i64])]
set_option maxRecDepth 100000 in
theorem bk8 (os:Os) (started:os.Started) (H:Type) (enc:TypeId×Value->H):
  ReturnsInHanded {} Tryd.checked os 11 .any (λw args=>(Rows.regsNamesSpec.pre enc Tryd.prog Tryd.f11 [] false w args/\laidMetH Tryd.prog bH3 w)/\sizedMet enc Tryd.prog Tryd.f11 (OpenSpec.ofChange Rows.regsNamesSpec) false w args)
   (Rows.regsNamesSpec.post enc Tryd.prog Tryd.f11 false true false false):=by
 refine returnsInHanded_of_change_and (C:=Tryd.checked) (X:=λw _=>laidMetH Tryd.prog bH3 w) (λ_ _ _ F h=>h.of_heap F) own started (by kernel_rfl) Tryd.func11
  (ChangeSpec.witness_shaped (enc:=enc) (C:=Tryd.checked) (os:=os) (X:=λw _=>laidMetH Tryd.prog bH3 w) false (World.doorLaid Tryd.prog 600 os) #[.slice none 0 0,.int .i64 0] 8 rfl (World.shaped_of_RefB (by kernel_rfl) (by kernel_rfl)) (by kernel_rfl) (by kernel_rfl) (by kernel_rfl) (cd5 os _)) ?_
 intro W base args ds gs am1 d z _ l G _;have i:∀ (j:Nat) t v,Tryd.f11.params[j]? =some t->args[j]? =some v->Value.okWide Tryd.prog W .any base t v:=d;have m:=z;obtain ⟨p,q,o,B,rfl,I,J⟩:=z;have s:DataW.TrodAll enc Tryd.prog W 0 (λ_=>true) true Tryd.f11.params.toList args.toList ds p:=o;have f:Tryd.f11.params.toList=aM4.map (·.1):=by rw [Tryd.params11];rfl
 obtain ⟨rfl,rfl⟩:gs=[]/\q=[]:=by
  cases gs with
  |nil=>exact ⟨rfl,B⟩
  |cons g r=>exact absurd B (by intro h;cases h)
 have c:∀ n∈DataW.weightsEach Tryd.prog Tryd.f11.params.toList ds,n<=reachBytes:=by intro n K;have h1:(DataW.weightsEach Tryd.prog (Tryd.f11.params.toList++[]) (ds++[])).all (·<=reachBytes)=true:=l;rw [List.append_nil,List.append_nil] at h1;simpa using cy5.1 h1 n K
 rw [f] at s c;obtain ⟨xs,us,hr,L⟩:=bw7 co9 (A:=aM4) (λa D=>by
  simp only [List.mem_cons,List.not_mem_nil,or_false] at D;rcases D with rfl|rfl
  .exact cd7
  .exact cp0) (λj t v E M=>i j t v (by rw [<-f] at E;simpa using E) (by simpa using M)) s c
 obtain ⟨u,x,rfl⟩:∃ u x,ds=[u,x]:=by
  have k:=aL3 s
  match ds,k with
  |[u,x],_=>exact ⟨_,_,rfl⟩
 have b:=bN7 (pre:=none) (A:=aM4) (w:=W) Go.Rg.bW6 (co8 G) hr L trivial;rw [Array.toArray_toList] at b;refine b.mono λe W' ⟨N,O⟩=>⟨_,N,cd8 rfl m O (by kernel_rfl) rfl (λt y=>?_)⟩;rw [f] at y;simp only [List.map_cons,List.map_nil,List.mem_cons,List.not_mem_nil,or_false] at y;rcases y with rfl|rfl<;>exact ⟨by kernel_rfl,cw3 (by kernel_rfl)⟩
theorem bs6:Rows.RegsNamesSaid:=
 OpenClaim.holds_of_wide 11 Tryd.f11 rfl rfl rfl rfl rfl rfl rfl ⟨rfl,rfl,rfl,rfl,rfl⟩ rfl rfl rfl rfl rfl (by kernel_rfl) Tryd.func11 (by kernel_rfl)
  (cw3 (by kernel_rfl)) (by unfold Func.isWrapper;first|(rw [if_pos (by decide+kernel)];kernel_rfl)|(rw [if_neg (by decide+kernel)];exact ⟨rfl,rfl⟩))
  (λos started H enc _=>bk8 os started H enc)
theorem names_card:Rows.RegsNamesCardSaid:=
 Claim7.holds_tied_plain_at .later [] [.data,.data] true (true,"168ab8e7f67d43304005f9eb622602b7a6af205c051abe541b21ac4f05ca28a5") false
  bs6 (λ_ h=>by cases h) (by kernel_rfl) (λ_ h=>by cases h) regsNames_row_tie rfl ⟨rfl,rfl⟩ (by kernel_rfl) rfl
  (λf fn hf b=>by
   obtain rfl:f=11:=Option.some.inj ((show Tryd.prog.funcNamed "sheafworks/sheafworkslaw23.RegsNames"=some 11 by kernel_rfl).symm.trans hf) |>.symm;obtain rfl:fn=Tryd.f11:=(Option.some.inj (Tryd.func11.symm.trans b)).symm;exact ⟨by kernel_rfl,λj t c=>by
    rw [Tryd.params11] at c;have hm:t∈[23,3]:=by simpa using Array.mem_of_getElem? c
    have a:([23,3].all λu=>!Tryd.prog.wantsStandIn u)=true:=by kernel_rfl
    exact (show Tryd.prog.wantsStandIn t=false by simpa using cy5.1 a t hm)⟩)
  (by kernel_rfl)
end Go.Proofs.YtknhkhdbonjhgaaDoor
end
