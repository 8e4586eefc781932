/-
What the last text of this claim uses: RgEq13, RgBf, RgBg, RgBh, RgEq14, RgBi, RgBj, RgEq15, RgBk, RgBl, RgBm, RgBn, RgEq16, RgBo, RgBp, RgRow, RgEq17, RgEq18, RgBq, RgBr, RgBs, RgBv, RgCa, RgCb, RgCc, RgCd, RgCe, RgIa, RgGa, RgGb, RgGc, RgHa, RgIb, RgId, RgIe, RgIf, RgEq28, RgEq27.
-/
import Derived.Test.YtknhkhdbonjhgaaDoorV4
import Derived.Test.YtknhkhdbonjhgaaDoorRows
import Derived.ProofKit
import Derived.LaidMore
import Derived.Stop.Joined
import Derived.ChangeSame
set_option linter.unusedVariables false
set_option linter.unusedSimpArgs false
set_option maxRecDepth 100000
noncomputable section
section
namespace Go.Rg
open Go Go.VT
theorem bU1 (a b c:Int) (code:List RIns) (out:List Place):vc (EV [(78,cAll 89 tysP objP [0] isP),(73,cCalledF)]) (bq7 a code out) Go.Proofs.Tryd.f58 cFollow (a,b,c,code,out,())=(
 let s:Int×List Ins×List Int×List Int×Bool×Unit:=
  ((C6 (RCode.mk a b c code out)).1.params,(C6 (RCode.mk a b c code out)).1.code,(C6 (RCode.mk a b c code out)).1.out,(C6 (RCode.mk a b c code out)).1.at_,
  (C6 (RCode.mk a b c code out)).2,());
 let f:Int:=(↑(List.length code):Int);
 let e:RIns:=RIns.mk (0:Int) (0:Int) (0:Int) ins0;
 let i:Int:=(↑(List.length out):Int);
 let h:Place:=Place.mk false (0:Int);
  Small RU (Sigma.mk (Ty.slice (55:Nat) (Ty.user (1:Nat))) code)->
  Small RU (Sigma.mk (Ty.slice (59:Nat) (Ty.user (2:Nat))) out)->
  (∃ (p:Int×List (Place×Int)×Unit),
  a=a/\
  b=b/\
  c=c/\
  code=code/\
  out=out/\
  false=false/\
  a=a/\
  (0:Int)=p.1/\
  a=a/\b=b/\c=c/\code=code/\out=out/\(0:Int)=(0:Int)/\[]=p.2.1/\(0:Int)<=p.1/\p.1<=a/\p.2.1=S4 (Int.toNat p.1))/\
  ∀ (p:Int×List (Place×Int)×Unit),
 let e0_1:Bool:=decide (p.1<a);
 let e1_1:Int:=p.1;
 let e2_1:List (Place×Int):=p.2.1;
  (0:Int)<=e1_1/\e1_1<=a/\e2_1=S4 (Int.toNat e1_1)->
  (e0_1=true->
  ∃ (p':Int×List (Place×Int)×Unit),
  a=a/\
  b=b/\
  c=c/\
  code=code/\
  out=out/\
  false=false/\
  a=a/\
  IntKind.i64.wrap (e1_1+(1:Int))=p'.1/\
  a=a/\
  b=b/\
  c=c/\
  code=code/\
  out=out/\
  (0:Int)=(0:Int)/\
  mput (F6 RU (Ty.user (2:Nat))) e2_1 (Place.mk true e1_1) e1_1=p'.2.1/\
  ((0:Int)<=p'.1/\p'.1<=a/\p'.2.1=S4 (Int.toNat p'.1))/\Int.toNat a-Int.toNat p'.1<Int.toNat a-Int.toNat e1_1)/\
  (e0_1=false->
  (∃ (p:Int×List (Place×Int)×Int×List Ins×Unit),
  a=a/\
  b=b/\
  c=c/\
  code=code/\
  out=out/\
  a=a/\
  e1_1=e1_1/\
  e0_1=e0_1/\
  code=code/\
  f=f/\
  (0:Int)=p.1/\
  a=a/\
  b=b/\
  c=c/\
  code=code/\
  out=out/\
  (0:Int)=(0:Int)/\
  e2_1=p.2.1/\
  a=a/\
  a=p.2.2.1/\
  []=p.2.2.2.1/\
  (0:Int)<=p.1/\
  p.1<=f/\J5 (List.take (Int.toNat p.1) code) (H0 a)=((p.2.1,p.2.2.2.1,p.2.2.1),true))/\
  ∀ (p:Int×List (Place×Int)×Int×List Ins×Unit),
 let e0_2:Bool:=(List.getD code (Int.toNat p.1) e).kind==(2:Int);
 let e1_2:List Ins:=
  [Ins.mk (bif e0_2 then (List.getD code (Int.toNat p.1) e).ins.op else (List.getD code (Int.toNat p.1) e).ins.op)
  (bif e0_2 then (List.getD code (Int.toNat p.1) e).ins.n else (List.getD code (Int.toNat p.1) e).ins.n)
  (G3 (bif e0_2 then p.2.2.1 else p.2.2.1) (bif e0_2 then p.2.1 else p.2.1)
  (bif e0_2 then (List.getD code (Int.toNat p.1) e).ins.to else (List.getD code (Int.toNat p.1) e).ins.to)).1
  (List.map (getF (bif e0_2 then p.2.1 else p.2.1)) (bif e0_2 then (List.getD code (Int.toNat p.1) e).ins.from_ else (List.getD code (Int.toNat p.1) e).ins.from_))
  (bif e0_2 then (List.getD code (Int.toNat p.1) e).ins.body else (List.getD code (Int.toNat p.1) e).ins.body)];
 let e2_2:List Ins:=bif e0_2 then p.2.2.2.1 else p.2.2.2.1;
 let e3_1:List (Place×Int):=bif e0_2 then p.2.1 else p.2.1;
 let e4_1:Int:=bif e0_2 then p.2.2.1 else p.2.2.1;
 let j:List Ins:=p.2.2.2.1;
 let k:List (Place×Int):=p.2.1;
 let l:Bool:=decide (p.1<f);
 let d:Int:=p.1;
 let m:Int:=p.2.2.1;
 let n:Bool:=
  !Option.isSome
  (mget (F6 RU (Ty.user (2:Nat))) e3_1
  (Place.mk (bif e0_2 then false else true) (bif e0_2 then (List.getD code (Int.toNat d) e).slot else (List.getD code (Int.toNat d) e).cell)));
 let o:Int×List (Place×Int):=(G3 e4_1 e3_1 (bif e0_2 then (List.getD code (Int.toNat d) e).ins.to else (List.getD code (Int.toNat d) e).ins.to)).2;
 let q:Bool:=!List.all (bif e0_2 then (List.getD code (Int.toNat d) e).ins.from_ else (List.getD code (Int.toNat d) e).ins.from_) (isP (e3_1,()));
 let r:Bool:=(bif e0_2 then (List.getD code (Int.toNat d) e).kind else (List.getD code (Int.toNat d) e).kind) !=(0:Int);
 let g:Ins:=(List.getD code (Int.toNat d) e).ins;
  (0:Int)<=d/\d<=f/\J5 (List.take (Int.toNat d) code) (H0 a)=((k,j,m),true)->
  (l=true->
  ((0:Int)<=d/\d<f)/\
  (r=true->
  (n=true->(bif e0_2 then a else a,e2_2,[],[],false,())=s)/\
  (n=false->
  ∃ (p':Int×List (Place×Int)×Int×List Ins×Unit),
  (bif e0_2 then a else a)=a/\
  (bif e0_2 then b else b)=b/\
  (bif e0_2 then c else c)=c/\
  (bif e0_2 then code else code)=code/\
  (bif e0_2 then out else out)=out/\
  (bif e0_2 then a else a)=a/\
  (bif e0_2 then e1_1 else e1_1)=e1_1/\
  (bif e0_2 then e0_1 else e0_1)=e0_1/\
  (bif e0_2 then code else code)=code/\
  (bif e0_2 then f else f)=f/\
  IntKind.i64.wrap ((bif e0_2 then d else d)+(1:Int))=p'.1/\
  (bif e0_2 then a else a)=a/\
  (bif e0_2 then b else b)=b/\
  (bif e0_2 then c else c)=c/\
  (bif e0_2 then code else code)=code/\
  (bif e0_2 then out else out)=out/\
  (bif e0_2 then (0:Int) else (0:Int))=(0:Int)/\
  mput (F6 RU (Ty.user (2:Nat))) e3_1
  (Place.mk (bif e0_2 then true else false)
  (bif e0_2 then (List.getD code (Int.toNat d) e).cell else (List.getD code (Int.toNat d) e).slot))
  (Option.getD
  (mget (F6 RU (Ty.user (2:Nat))) e3_1
  (Place.mk (bif e0_2 then false else true)
  (bif e0_2 then (List.getD code (Int.toNat d) e).slot else (List.getD code (Int.toNat d) e).cell)))
  (0:Int))=
  p'.2.1/\
  (bif e0_2 then a else a)=a/\
  e4_1=p'.2.2.1/\
  e2_2=p'.2.2.2.1/\
  ((0:Int)<=p'.1/\
  p'.1<=f/\
  J5 (List.take (Int.toNat p'.1) code) (H0 a)=((p'.2.1,p'.2.2.2.1,p'.2.2.1),true))/\
  List.length code-Int.toNat p'.1<List.length code-Int.toNat d))/\
  (r=false->
  (True/\e3_1=e3_1/\True)/\
  (q=true->(bif e0_2 then a else a,e2_2,[],[],false,())=s)/\
  (q=false->
  ((ah4 (bif e0_2 then g.to else g.to) (bif e0_2 then g.from_ else g.from_) (bif e0_2 then g.body else g.body)=true/\
  (0:Int)<=e4_1/\e4_1<=(2305843009213693952:Int))/\
  True)/\
  (List.length e2_2+List.length e1_2)*(88:Nat)<=(140737488355328:Nat)/\
  ∃ (p':Int×List (Place×Int)×Int×List Ins×Unit),
  (bif e0_2 then a else a)=a/\
  (bif e0_2 then b else b)=b/\
  (bif e0_2 then c else c)=c/\
  (bif e0_2 then code else code)=code/\
  (bif e0_2 then out else out)=out/\
  (bif e0_2 then a else a)=a/\
  (bif e0_2 then e1_1 else e1_1)=e1_1/\
  (bif e0_2 then e0_1 else e0_1)=e0_1/\
  (bif e0_2 then code else code)=code/\
  (bif e0_2 then f else f)=f/\
  IntKind.i64.wrap ((bif e0_2 then d else d)+(1:Int))=p'.1/\
  (bif e0_2 then a else a)=a/\
  (bif e0_2 then b else b)=b/\
  (bif e0_2 then c else c)=c/\
  (bif e0_2 then code else code)=code/\
  (bif e0_2 then out else out)=out/\
  (bif e0_2 then (0:Int) else (0:Int))=(0:Int)/\
  o.2=p'.2.1/\
  (bif e0_2 then a else a)=a/\
  o.1=p'.2.2.1/\
  e2_2++e1_2=p'.2.2.2.1/\
  ((0:Int)<=p'.1/\
  p'.1<=f/\
  J5 (List.take (Int.toNat p'.1) code) (H0 a)=
  ((p'.2.1,p'.2.2.2.1,p'.2.2.1),true))/\
  List.length code-Int.toNat p'.1<List.length code-Int.toNat d)))/\
  (l=false->
  (∃ (p:Int×List Int×Unit),
  a=a/\
  b=b/\
  c=c/\
  code=code/\
  out=out/\
  a=a/\
  e1_1=e1_1/\
  e0_1=e0_1/\
  code=code/\
  f=f/\
  d=d/\
  l=l/\
  out=out/\
  i=i/\
  (0:Int)=p.1/\
  a=a/\
  b=b/\
  c=c/\
  code=code/\
  out=out/\
  (0:Int)=(0:Int)/\
  k=k/\
  a=a/\
  m=m/\
  j=j/\
  []=p.2.1/\
  (0:Int)<=p.1/\
  p.1<=i/\T7 (J5 code (H0 a)).1.1 (List.take (Int.toNat p.1) out)=(p.2.1,true))/\
  ∀ (p:Int×List Int×Unit),
 let e0_3:List Int:=
  [Option.getD (mget (F6 RU (Ty.user (2:Nat))) k (Place.mk (List.getD out (Int.toNat p.1) h).cell (List.getD out (Int.toNat p.1) h).n)) (0:Int)];
 let e1_3:List Int:=p.2.1;
 let e:Bool:=!Option.isSome (mget (F6 RU (Ty.user (2:Nat))) k (Place.mk (List.getD out (Int.toNat p.1) h).cell (List.getD out (Int.toNat p.1) h).n));
 let e3_2:Bool:=decide (p.1<i);
 let h:Int:=p.1;
 let e5_1:List (Place×Int):=(J5 code (H0 a)).1.1;
  (0:Int)<=h/\h<=i/\T7 e5_1 (List.take (Int.toNat h) out)=(e1_3,true)->
  (e3_2=true->
  ((0:Int)<=h/\h<i)/\
  (e=true->(a,j,e1_3,[],false,())=s)/\
  (e=false->
  (List.length e1_3+List.length e0_3)*(8:Nat)<=(140737488355328:Nat)/\
  ∃ (p':Int×List Int×Unit),
  a=a/\
  b=b/\
  c=c/\
  code=code/\
  out=out/\
  a=a/\
  e1_1=e1_1/\
  e0_1=e0_1/\
  code=code/\
  f=f/\
  d=d/\
  l=l/\
  out=out/\
  i=i/\
  IntKind.i64.wrap (h+(1:Int))=p'.1/\
  a=a/\
  b=b/\
  c=c/\
  code=code/\
  out=out/\
  (0:Int)=(0:Int)/\
  k=k/\
  a=a/\
  m=m/\
  j=j/\
  e1_3++e0_3=p'.2.1/\
  ((0:Int)<=p'.1/\
  p'.1<=i/\T7 e5_1 (List.take (Int.toNat p'.1) out)=(p'.2.1,true))/\
  List.length out-Int.toNat p'.1<List.length out-Int.toNat h))/\
  (e3_2=false->(a,j,e1_3,[],true,())=s)))):=by kernel_rfl
theorem ce5 (a b c:Int) (code:List RIns) (out:List Place):vc (EV [(60,cShaped),(61,cContains),(58,cFollow)]) (bU0 code) Go.Proofs.Tryd.f22 cValid (a,b,c,code,out,())=(
 let f:Bool:=decide ((↑(List.length code):Int) >(16000:Int));
 let e:RIns:=RIns.mk (0:Int) (0:Int) (0:Int) ins0;
 let h:Int×Unit:=(O2 (RCode.mk a b c code out),());
 let d:Int:=(↑(List.length code):Int);
 let g:Bool:=!L3 (RCode.mk a b c code out);
  Small RU (Sigma.mk (Ty.slice (55:Nat) (Ty.user (1:Nat))) code)->
  Small RU (Sigma.mk (Ty.slice (59:Nat) (Ty.user (2:Nat))) out)->
  (f=true->((3:Int),())=h)/\
  (f=false->
  ((-9223372036854775808:Int)<=b/\b<(9223372036854775808:Int))/\
  (g=true->((2:Int),())=h)/\
  (g=false->
  (∃ (p:Int×Unit),
  a=a/\
  b=b/\
  c=c/\
  code=code/\
  out=out/\
  f=f/\
  g=g/\
  code=code/\
  d=d/\
  (0:Int)=p.1/\
  a=a/\
  b=b/\
  c=c/\
  code=code/\
  out=out/\
  (0:Int)<=p.1/\p.1<=d/\(List.all (List.take (Int.toNat p.1) code) λ(x:RIns)=>x.kind !=(0:Int)||D8 x.ins.to)=true)/\
  ∀ (p:Int×Unit),
 let e0_1:Bool:=decide (p.1<d);
 let e1_1:Int:=(↑(List.length (List.getD code (Int.toNat p.1) e).ins.to):Int);
 let e2_1:Ins:=(List.getD code (Int.toNat p.1) e).ins;
 let e3_1:Nat:=List.length (List.getD code (Int.toNat p.1) rins0).ins.to;
 let e4_1:Int:=(List.getD code (Int.toNat p.1) e).kind;
  (0:Int)<=p.1/\p.1<=d/\(List.all (List.take (Int.toNat p.1) code) λ(x:RIns)=>x.kind !=(0:Int)||D8 x.ins.to)=true->
  (e0_1=true->
  ((0:Int)<=p.1/\p.1<d)/\
  (∃ (p_1:Int×Unit),
  a=a/\
  b=b/\
  c=c/\
  code=code/\
  out=out/\
  f=f/\
  g=g/\
  code=code/\
  d=d/\
  p.1=p.1/\
  e0_1=e0_1/\
  e2_1.to=e2_1.to/\
  e1_1=e1_1/\
  (0:Int)=p_1.1/\
  a=a/\
  b=b/\
  c=c/\
  code=code/\
  out=out/\
  e4_1=e4_1/\
  (List.getD code (Int.toNat p.1) e).slot=(List.getD code (Int.toNat p.1) e).slot/\
  (List.getD code (Int.toNat p.1) e).cell=(List.getD code (Int.toNat p.1) e).cell/\
  e2_1.op=e2_1.op/\
  e2_1.n=e2_1.n/\
  e2_1.to=e2_1.to/\
  e2_1.from_=e2_1.from_/\
  e2_1.body=e2_1.body/\
  (0:Int)<=p_1.1/\
  p_1.1<=(↑e3_1:Int)/\
  ((List.getD code (Int.toNat p.1) rins0).kind≠(0:Int)\/
  D8 (List.take (Int.toNat p_1.1) (List.getD code (Int.toNat p.1) rins0).ins.to)=true))/\
  ∀ (p_1:Int×Unit),
 let e0_2:Bool:=e4_1==(0:Int)&&List.contains (List.take (Int.toNat p_1.1) e2_1.to) (List.getD e2_1.to (Int.toNat p_1.1) (0:Int));
 let e1_2:Bool:=decide (p_1.1<e1_1);
  (0:Int)<=p_1.1/\
  p_1.1<=(↑e3_1:Int)/\
  ((List.getD code (Int.toNat p.1) rins0).kind≠(0:Int)\/D8 (List.take (Int.toNat p_1.1) (List.getD code (Int.toNat p.1) rins0).ins.to)=true)->
  (e1_2=true->
  ((0:Int)<=p_1.1/\p_1.1<e1_1)/\
  ((e4_1==(0:Int))=true->(0:Int)<=p_1.1/\p_1.1<=e1_1)/\
  (e0_2=true->((5:Int),())=h)/\
  (e0_2=false->
  ∃ (p':Int×Unit),
  a=a/\
  b=b/\
  c=c/\
  code=code/\
  out=out/\
  f=f/\
  g=g/\
  code=code/\
  d=d/\
  p.1=p.1/\
  e0_1=e0_1/\
  e2_1.to=e2_1.to/\
  e1_1=e1_1/\
  IntKind.i64.wrap (p_1.1+(1:Int))=p'.1/\
  a=a/\
  b=b/\
  c=c/\
  code=code/\
  out=out/\
  e4_1=e4_1/\
  (List.getD code (Int.toNat p.1) e).slot=(List.getD code (Int.toNat p.1) e).slot/\
  (List.getD code (Int.toNat p.1) e).cell=(List.getD code (Int.toNat p.1) e).cell/\
  e2_1.op=e2_1.op/\
  e2_1.n=e2_1.n/\
  e2_1.to=e2_1.to/\
  e2_1.from_=e2_1.from_/\
  e2_1.body=e2_1.body/\
  ((0:Int)<=p'.1/\
  p'.1<=(↑e3_1:Int)/\
  ((List.getD code (Int.toNat p.1) rins0).kind≠(0:Int)\/
  D8 (List.take (Int.toNat p'.1) (List.getD code (Int.toNat p.1) rins0).ins.to)=
  true))/\
  e3_1-Int.toNat p'.1<e3_1-Int.toNat p_1.1))/\
  (e1_2=false->
  ∃ (p':Int×Unit),
  a=a/\
  b=b/\
  c=c/\
  code=code/\
  out=out/\
  f=f/\
  g=g/\
  code=code/\
  d=d/\
  IntKind.i64.wrap (p.1+(1:Int))=p'.1/\
  a=a/\
  b=b/\
  c=c/\
  code=code/\
  out=out/\
  ((0:Int)<=p'.1/\
  p'.1<=d/\
  (List.all (List.take (Int.toNat p'.1) code) λ(x:RIns)=>x.kind !=(0:Int)||D8 x.ins.to)=true)/\
  List.length code-Int.toNat p'.1<List.length code-Int.toNat p.1))/\
  (e0_1=false->
  ((0:Int)<=a/\a<=(4000:Int)/\List.length code<=(16000:Nat)/\W7 code=true/\List.length out<=(17592186044400:Nat))/\
  ((!(C6 (RCode.mk a b c code out)).2)=true->((4:Int),())=h)/\((!(C6 (RCode.mk a b c code out)).2)=false->((0:Int),())=h))))):=by kernel_rfl
theorem cp4 (a b c:Int) (code:List RIns) (out:List Place):vc (EV [(22,cValid),(58,cFollow)]) (cp3 a (C6 ⟨a,b,c,code,out⟩).1.code) Go.Proofs.Tryd.f20 cBack (a,b,c,code,out,())=(
 let k:Int×List Ins×List Int×List Int×Int×Unit:=
  ((N4 (RCode.mk a b c code out)).1.params,(N4 (RCode.mk a b c code out)).1.code,(N4 (RCode.mk a b c code out)).1.out,(N4 (RCode.mk a b c code out)).1.at_,
  (N4 (RCode.mk a b c code out)).2,());
 let e:Int:=(↑(List.length (C6 (RCode.mk a b c code out)).1.code):Int);
 let d:List Ins:=(C6 (RCode.mk a b c code out)).1.code;
 let f:Bool:=O2 (RCode.mk a b c code out) !=(0:Int);
 let g:Int:=(C6 (RCode.mk a b c code out)).1.params;
 let h:List Int:=(C6 (RCode.mk a b c code out)).1.at_;
 let i:List Int:=(C6 (RCode.mk a b c code out)).1.out;
 let j:Int:=O2 (RCode.mk a b c code out);
  Small RU (Sigma.mk (Ty.slice (55:Nat) (Ty.user (1:Nat))) code)->
  Small RU (Sigma.mk (Ty.slice (59:Nat) (Ty.user (2:Nat))) out)->
  ((-9223372036854775808:Int)<=b/\b<(9223372036854775808:Int)/\W7 code=true/\List.length out<=(17592186044400:Nat))/\
  (f=true->((0:Int),[],[],[],j,())=k)/\
  (f=false->
  ((0:Int)<=a/\a<=(4000:Int)/\List.length code<=(16000:Nat)/\W7 code=true/\List.length out<=(17592186044400:Nat))/\
  (∃ (p:Int×Int×Unit),
  a=a/\
  b=b/\
  c=c/\
  code=code/\
  out=out/\
  (0:Int)=(0:Int)/\
  j=j/\
  f=f/\
  d=d/\
  e=e/\
  (0:Int)=p.1/\
  g=p.2.1/\
  a=a/\
  b=b/\
  c=c/\
  code=code/\
  out=out/\
  (0:Int)=(0:Int)/\
  g=g/\d=d/\i=i/\h=h/\(0:Int)<=p.1/\p.1<=e/\p.2.1=J3 a (List.take (Int.toNat p.1) d))/\
  ∀ (p:Int×Int×Unit),
 let e0_1:Bool:=decide (p.2.1 >(4000:Int))||decide (e >(4000:Int));
 let e1_1:Bool:=decide (p.1<e);
 let e2_1:Int:=p.1;
  (0:Int)<=e2_1/\e2_1<=e/\p.2.1=J3 a (List.take (Int.toNat e2_1) d)->
  (e1_1=true->
  ((0:Int)<=e2_1/\e2_1<e)/\
  ∃ (p':Int×Int×Unit),
  a=a/\
  b=b/\
  c=c/\
  code=code/\
  out=out/\
  (0:Int)=(0:Int)/\
  j=j/\
  f=f/\
  d=d/\
  e=e/\
  IntKind.i64.wrap (e2_1+(1:Int))=p'.1/\
  IntKind.i64.wrap (p.2.1+(↑(List.length (List.getD d (Int.toNat e2_1) (Ins.mk (0:Int) (0:Int) [] [] [])).to):Int))=p'.2.1/\
  a=a/\
  b=b/\
  c=c/\
  code=code/\
  out=out/\
  (0:Int)=(0:Int)/\
  g=g/\
  d=d/\
  i=i/\
  h=h/\
  ((0:Int)<=p'.1/\p'.1<=e/\p'.2.1=J3 a (List.take (Int.toNat p'.1) d))/\
  List.length d-Int.toNat p'.1<List.length d-Int.toNat e2_1)/\
  (e1_1=false->(e0_1=true->((0:Int),[],[],[],(9:Int),())=k)/\(e0_1=false->(g,d,i,h,(0:Int),())=k)))):=by kernel_rfl
theorem bh8 {s:SF} {x:RIns} (h:(L7 s x).2=false):L7 s x=(s,false):=by
 revert h;unfold L7;cases x.kind==0 with
 |true=>
  simp only [cond_true];cases x.ins.from_.all (isP (s.1,())) with
  |true=>intro h;cases h
  |false=>intro _;rfl
 |false=>
  simp only [cond_false];cases mget eqP s.1 (bif x.kind==2 then ⟨false,x.slot⟩ else ⟨true,x.cell⟩) with
  |none=>intro _;rfl
  |some n=>intro h;cases h
theorem bU2 (s:SF) (x:RIns):J5 [x] s=L7 s x:=by
 simp only [J5];cases h:(L7 s x).2 with
 |true=>simp only [cond_true];rw [<-h]
 |false=>simp only [cond_false];exact (bh8 h).symm
theorem aK6 (r:List RIns):∀ (l:List RIns) (s:SF),J5 (l++r) s=bif (J5 l s).2 then J5 r (J5 l s).1 else J5 l s
 |[],s=>rfl
 |x::l,s=>by
  simp only [List.cons_append,J5];cases (L7 s x).2 with
  |true=>simp only [cond_true];exact aK6 r l _
  |false=>rfl
theorem aR7 {l:List RIns} {k:Nat} {s s':SF} (a:k<l.length) (h:J5 (l.take k) s=(s',true)):J5 (l.take (k+1)) s=L7 s' (l.getD k rins0):=by rw [A4 a rins0,aK6,h];exact bU2 _ _
theorem bG6 {l:List RIns} {k:Nat} {s s':SF} (a:k<l.length) (h:J5 (l.take k) s=(s',true)) (h2:(L7 s' (l.getD k rins0)).2=false):J5 l s=(s',false):=by
 have hs:=aR7 a h;rw [bh8 h2] at hs
 conv=>lhs;rw [<-List.take_append_drop (k+1) l]
 rw [aK6,hs];rfl
theorem bG7 (s:SF) (x:RIns) (a:x.ins.to.length<=17592186044416):(L7 s x).1.2.1.length<=s.2.1.length+1/\s.2.2<=(L7 s x).1.2.2/\(L7 s x).1.2.2<=s.2.2+17592186044416:=by
 unfold L7;cases x.kind==0 with
 |true=>
  simp only [cond_true];cases x.ins.from_.all (isP (s.1,())) with
  |true=>have:=(ad5 s.2.2 s.1 x.ins.to).2;simp only [cond_true,cz8,cz3,List.length_nil];omega
  |false=>simp only [cond_false];omega
 |false=>
  simp only [cond_false];cases mget eqP s.1 (bif x.kind==2 then ⟨false,x.slot⟩ else ⟨true,x.cell⟩) with
  |none=>simp only;omega
  |some n=>simp only;omega
theorem aK7:∀ (l:List RIns) (s:SF),W7 l=true->(J5 l s).1.2.1.length<=s.2.1.length+l.length/\s.2.2<=(J5 l s).1.2.2/\(J5 l s).1.2.2<=s.2.2+l.length*17592186044416
 |[],s,_=>by simp [J5]
 |x::r,s,h=>by
  simp only [W7,List.all_cons,cx9] at h;have h1:=bG7 s x ((W4 _).1 h.1).1.1;have h2:=aK7 r (L7 s x).1 h.2;simp only [J5];cases hs:(L7 s x).2 with
  |true=>simp only [cond_true,cz3];omega
  |false=>simp only [cond_false,cz3];omega
theorem aK8 (m:Holds) (r:List Place):∀ (l:List Place),T7 m (l++r)=bif (T7 m l).2 then ((T7 m l).1++(T7 m r).1,(T7 m r).2) else T7 m l
 |[]=>rfl
 |p::l=>by
  simp only [List.cons_append,T7];cases mget eqP m p with
  |none=>rfl
  |some n=>
   simp only [aK8 m r l];cases h:(T7 m l).2 with
   |true=>rfl
   |false=>simp only [cond_false,h]
theorem bh9 (m:Holds):∀ (l:List Place),(T7 m l).1.length<=l.length
 |[]=>by simp [T7]
 |p::l=>by
  simp only [T7];split
  .simp
  .have:=bh9 m l;simp only [cz3];omega
theorem aY1 (n:Nat):S4 (n+1)=mput eqP (S4 n) ⟨true,n⟩ n:=by simp [S4,List.range_succ]
theorem bU3 (a b c:Int) (code:List RIns) (out:List Place) (S:0<=a/\a<=4000/\code.length<=16000/\W7 code=true/\out.length<=17592186044400):vc (EV [(78,cAll 89 tysP objP [0] isP),(73,cCalledF)]) (bq7 a code out) Go.Proofs.Tryd.f58 cFollow (a,b,c,code,out,()):=by
 rw [bU1 a b c code out];intro D T Q U V W X;obtain ⟨H,Y,Z,z,hp5⟩:=S;have hd:Q=rins0:=rfl;have E:∀ s:SF,J5 code (H0 a)=(s,false)->D=(a,s.2.1,[],[],false,()):=by
  intro s hs;have:C6 ⟨a,b,c,code,out⟩=(⟨a,s.2.1,[],[]⟩,false):=by simp only [C6,hs];rfl
  simp only [D,this]
 have e:∀ s:SF,J5 code (H0 a)=(s,true)->D=(a,s.2.1,(T7 s.1 out).1,[],(T7 s.1 out).2,()):=by
  intro s hs;have:C6 ⟨a,b,c,code,out⟩=(⟨a,s.2.1,(T7 s.1 out).1,[]⟩,(T7 s.1 out).2):=by simp only [C6,hs];rfl
  simp only [D,this]
 clear_value D
 rw [hd]
 clear_value Q
 dsimp only [T,U,V];simp only [true_and,and_true,Bool.cond_self];refine ⟨⟨(0,[],()),rfl,rfl,Int.le_refl _,H,rfl⟩,?_⟩;rintro ⟨i,m,⟨⟩⟩ ⟨h0,h1,h2⟩;dsimp only at h0 h1 h2 |-;obtain ⟨k,rfl⟩:=cy3 h0;simp only [cy0] at h2 |-;subst h2;refine ⟨λd=>?_,λg=>?_⟩
 .have d:(k:Int)<a:=cy7 d;refine ⟨((k+1:Nat),S4 (k+1),()),?_,aY1 k |>.symm,⟨by omega,by dsimp only;omega,by dsimp only;rw [cy0]⟩,by dsimp only;omega⟩;rw [M1 (by omega) (by omega)];rfl
 have hk:a.toNat=k:=by have:¬ (k:Int)<a:=cy6 g;omega
 have I:H0 a=(S4 k,[],a):=by unfold H0;rw [hk]
 clear h0 h1 g;refine ⟨⟨(0,_,a,[],()),rfl,rfl,rfl,rfl,Int.le_refl _,by dsimp only;omega,by simp only [Int.toNat_zero,List.take_zero,J5,I];rfl⟩,?_⟩;rintro ⟨i,m,nx,cd,⟨⟩⟩ ⟨h0,h1,h2⟩;dsimp only at h0 h1 h2 |-;obtain ⟨j,rfl⟩:=cy3 h0;simp only [cy0,Bool.cond_self] at h2 |-;have J:j<=code.length:=by omega
 have R:=aK7 (code.take j) (H0 a) (by
  unfold W7 at z |-;exact cA7.2 λx K=>cA7.1 z x (List.mem_of_mem_take K))
 rw [h2] at R;simp only [H0,List.length_nil,cA6] at R;refine ⟨λd=>?_,λg=>?_⟩
 .have d:(j:Int)<code.length:=cy7 d;have f:j<code.length:=by omega
  have o:=λh=>E _ (bG6 f h2 h);have r:=aR7 f h2;have F:aI8 (code.getD j rins0).ins=true:=cA7.1 z _ (F7 f _);have next:∀ s:SF,L7 (m,cd,nx) (code.getD j rins0)=(s,true)->∃ p':Int×List (Place×Int)×Int×List Ins×Unit,IntKind.i64.wrap ((j:Int)+1)=p'.1/\s.1=p'.2.1/\s.2.2=p'.2.2.1/\s.2.1=p'.2.2.2.1/\
    (0<=p'.1/\p'.1<=(code.length:Int)/\J5 (code.take p'.1.toNat) (H0 a)=((p'.2.1,p'.2.2.2.1,p'.2.2.1),true))/\code.length-p'.1.toNat<code.length-j:=λs hs=>
   ⟨((j+1:Nat),s.1,s.2.2,s.2.1,()),B3 f (by omega),rfl,rfl,rfl,⟨by omega,by dsimp only;omega,by dsimp only;rw [cy0,r,hs]⟩,by dsimp only;omega⟩
  generalize code.getD j rins0=x at o r F next |-
  refine ⟨⟨h0,d⟩,λp=>?_,λp=>?_⟩
  .have p:(x.kind==0)=false:=by simpa [bne] using p
   have L:(Place.mk (bif x.kind==2 then false else true) (bif x.kind==2 then x.slot else x.cell))=(bif x.kind==2 then ⟨false,x.slot⟩ else ⟨true,x.cell⟩):=by cases x.kind==2<;>rfl
   have G:(Place.mk (bif x.kind==2 then true else false) (bif x.kind==2 then x.cell else x.slot))=(bif x.kind==2 then ⟨true,x.cell⟩ else ⟨false,x.slot⟩):=by cases x.kind==2<;>rfl
   rw [L,G];have t:L7 (m,cd,nx) x=match mget eqP m (bif x.kind==2 then ⟨false,x.slot⟩ else ⟨true,x.cell⟩) with
     |none=>((m,cd,nx),false)
     |some n=>((mput eqP m (bif x.kind==2 then ⟨true,x.cell⟩ else ⟨false,x.slot⟩) n,cd,nx),true):=by
    simp only [L7,p,cond_false]
    try rfl
   generalize (bif x.kind==2 then (⟨false,x.slot⟩:Place) else ⟨true,x.cell⟩)=q at t |-;generalize (bif x.kind==2 then (⟨true,x.cell⟩:Place) else ⟨false,x.slot⟩)=q2 at t |-;show ((!(mget eqP m q).isSome)=true->_)/\((!(mget eqP m q).isSome)=false->_);cases u:mget eqP m q with
   |none=>rw [u] at t;refine ⟨λ_=>?_,λh=>(by cases h)⟩;exact (o (by rw [t])).symm
   |some v=>
    rw [u] at t;refine ⟨λh=>(by cases h),λ_=>?_⟩;have A:mget (F6 RU (Ty.user 2)) m q=some v:=u;obtain ⟨p',M,B,N,O,P⟩:=next _ t
    exact ⟨p',M,by rw [A];exact B,N,O,P⟩
  .have p:(x.kind==0)=true:=by simpa [bne] using p
   have t:L7 (m,cd,nx) x=bif x.ins.from_.all (isP (m,())) then (((G3 nx m x.ins.to).2.2,cd++[⟨x.ins.op,x.ins.n,(G3 nx m x.ins.to).1,x.ins.from_.map (getF m),x.ins.body⟩],(G3 nx m x.ins.to).2.1),true) else ((m,cd,nx),false):=by simp only [L7,p,cond_true]
   cases u:x.ins.from_.all (isP (m,())) with
   |false=>rw [u] at t;refine ⟨λ_=>(o (by rw [t];rfl)).symm,λh=>(by cases h)⟩
   |true=>
    rw [u] at t;refine ⟨λh=>(by cases h),λ_=>⟨⟨ak9.2 ((W4 _).1 F),by omega,?_⟩,?_,?_⟩⟩
    .omega
    .simp only [cz3,List.length_nil];omega
    .obtain ⟨p',M,B,N,O,P⟩:=next _ t
     exact ⟨p',M,B,N,O,P⟩
 have C:j=code.length:=by have:¬ (j:Int)<code.length:=cy6 g;omega
 subst C;rw [cA5] at h2;rw [h2];have e:=e _ h2;dsimp only at e |-;clear h0 h1 g E h2;refine ⟨⟨(0,[],()),rfl,rfl,Int.le_refl _,by dsimp only;omega,rfl⟩,?_⟩;rintro ⟨i,l,⟨⟩⟩ ⟨h0,h1,h2⟩;dsimp only at h0 h1 h2 |-;obtain ⟨j,rfl⟩:=cy3 h0;simp only [cy0] at h2 |-;have J:j<=out.length:=by omega
 have w:=bh9 m (out.take j);rw [h2,cA6] at w;refine ⟨λd=>?_,λg=>?_⟩
 .have d:(j:Int)<out.length:=cy7 d;have f:j<out.length:=by omega
  have y:out=out.take j++(out.getD j ⟨false,0⟩::out.drop (j+1)):=by
   conv=>lhs;rw [<-List.take_append_drop (j+1) out,A4 f ⟨false,0⟩]
   simp
  generalize K:out.getD j ⟨false,0⟩=x at y |-;obtain ⟨xc,xn⟩:=x;refine ⟨⟨h0,d⟩,?_⟩;show ((!(mget eqP m ⟨xc,xn⟩).isSome)=true->_)/\((!(mget eqP m ⟨xc,xn⟩).isSome)=false->_);cases u:mget eqP m ⟨xc,xn⟩ with
  |none=>
   refine ⟨λ_=>?_,λh=>(by cases h)⟩;have:T7 m out=(l,false):=by rw [y,aK8,h2];simp only [cond_true,T7,u,List.append_nil]
   rw [e,this]
  |some v=>
   refine ⟨λh=>(by cases h),λ_=>⟨by simp only [cz3,List.length_nil] at w |-;omega,((j+1:Nat),l++[v],()),B3 f (by omega),?_,⟨by omega,by dsimp only;omega,?_⟩,by dsimp only;omega⟩⟩
   .have A:mget (F6 RU (Ty.user 2)) m ⟨xc,xn⟩=some v:=u;rw [A];rfl
   .dsimp only;rw [cy0,A4 f ⟨false,0⟩,K,aK8,h2];simp only [cond_true,T7,u]
 .have C:j=out.length:=by have:¬ (j:Int)<out.length:=cy6 g;omega
  subst C;rw [cA5] at h2;rw [e,h2]
theorem az8:D0 prog RG 58 cFollow:=E5 (A5 bE8 (A5 aY0 C0)) (λp=>bq7 p.1 p.2.2.2.1 p.2.2.2.2.1) (by kernel_rfl) (by kernel_rfl) (by kernel_rfl) λ(a,b,c,code,out,()) d=>bU3 a b c code out d
theorem aw1 (a:Int) (l r:List Ins):J3 a (l++r)=J3 (J3 a l) r:=by simp [J3]
theorem aK9:∀ (l:List Ins) (a:Int),a<=J3 a l
 |[],a=>Int.le_refl _
 |x::r,a=>by have:=aK9 r (a+x.to.length);simp only [J3,List.foldl_cons] at this |-;omega
theorem bq8 (l:List Ins) (k:Nat) (a:Int):J3 a (l.take k)<=J3 a l:=by
 conv=>rhs;rw [<-List.take_append_drop k l]
 rw [aw1];exact aK9 _ _
theorem bq9 {a:Int} {s:SF} (h:s.2.2=J3 a s.2.1) (x:RIns):(L7 s x).1.2.2=J3 a (L7 s x).1.2.1:=by
 unfold L7;cases x.kind==0 with
 |true=>
  simp only [cond_true];cases x.ins.from_.all (isP (s.1,())) with
  |true=>have:=ad5 s.2.2 s.1 x.ins.to;simp only [cond_true,aw1,<-h];simp only [J3,List.foldl_cons,List.foldl_nil];rw [this.2,this.1]
  |false=>exact h
 |false=>
  simp only [cond_false];cases mget eqP s.1 (bif x.kind==2 then ⟨false,x.slot⟩ else ⟨true,x.cell⟩) with
  |none=>exact h
  |some n=>exact h
theorem aR8 {a:Int}:∀ (l:List RIns) {s:SF},s.2.2=J3 a s.2.1->(J5 l s).1.2.2=J3 a (J5 l s).1.2.1
 |[],s,h=>h
 |x::r,s,h=>by
  simp only [J5];cases (L7 s x).2 with
  |true=>exact aR8 r (bq9 h x)
  |false=>exact h
theorem at1 (c:RCode):(C6 c).1.params=c.params/\(C6 c).1.code=(J5 c.code (H0 c.params)).1.2.1:=by unfold C6;cases (J5 c.code (H0 c.params)).2<;>exact ⟨rfl,rfl⟩
theorem aY2 {c:RCode} (h0:0<=c.params/\c.params<=4000) (hl:c.code.length<=16000) (b:W7 c.code=true):(C6 c).1.code.length<=16000/\J3 c.params (C6 c).1.code<=281474976714656000/\((C6 c).2=true->J3 c.params (C6 c).1.code=(J5 c.code (H0 c.params)).1.2.2):=by rw [(at1 c).2];have h1:=aK7 c.code (H0 c.params) b;have h2:=aR8 c.code (a:=c.params) (s:=H0 c.params) rfl;simp only [H0,List.length_nil] at h1 h2 |-;rw [<-h2];refine ⟨by omega,by omega,λ_=>rfl⟩
theorem aY3 (l:List Int) (x:Int):D8 (l++[x])=(D8 l&&!l.contains x):=by rw [Bool.eq_iff_iff,G2,cx9,G2,List.nodup_append];simp;intro _;exact ⟨λh b=>h x b rfl,λh a c e=>h (e▸c)⟩
theorem bi0 {l r:List Int} (h:D8 l=false):D8 (l++r)=false:=by rw [Bool.eq_false_iff] at h |-;intro a;exact h (G2.2 (List.nodup_append.1 (G2.1 a)).1)
theorem ce6 (a b c:Int) (code:List RIns) (out:List Place) (I:-9223372036854775808<=b/\b<9223372036854775808/\W7 code=true/\out.length<=17592186044400):vc (EV [(60,cShaped),(61,cContains),(58,cFollow)]) (bU0 code) Go.Proofs.Tryd.f22 cValid (a,b,c,code,out,()):=by
 rw [ce5 a b c code out];intro E F y J G K L;obtain ⟨z,A,p,B⟩:=I;have M:F=rins0:=rfl;have d:y=(O2 ⟨a,b,c,code,out⟩,()):=rfl;have s:G=!L3 ⟨a,b,c,code,out⟩:=rfl;have l:E=decide ((16000:Int)<(code.length:Int)):=rfl;simp only [O2] at d
 clear_value E F y G
 subst M;dsimp only [J];simp only [true_and,and_true];have t:∀ k,k<code.length->aI8 (code.getD k rins0).ins=true:=λk n=>cA7.1 p _ (F7 n _);refine ⟨λh=>?_,λh=>⟨⟨z,A⟩,λh2=>?_,λh2=>?_⟩⟩
 .rw [l] at h;have h:(16000:Int)<code.length:=cy7 h;rw [d,if_pos (by omega)]
 .rw [l] at h;have h:¬ (16000:Int)<code.length:=cy6 h;rw [s,Bool.not_eq_true'] at h2;rw [d,if_neg (by omega),if_pos h2]
 rw [l] at h;have h:¬ (16000:Int)<code.length:=cy6 h;rw [s,Bool.not_eq_false'] at h2;rw [if_neg (by omega),h2,if_neg (by simp)] at d;refine ⟨⟨(0,()),rfl,Int.le_refl _,by dsimp only;omega,by simp⟩,?_⟩;rintro ⟨i,⟨⟩⟩ ⟨h0,h1,h3⟩;dsimp only at h0 h1 h3 |-;obtain ⟨k,rfl⟩:=cy3 h0;simp only [cy0] at h3 |-;refine ⟨λm=>?_,λC=>?_⟩
 .have m:(k:Int)<code.length:=cy7 m;have e:k<code.length:=by omega
  have H:=(W4 _).1 (t k e);have no:(code.getD k rins0).kind=0->D8 (code.getD k rins0).ins.to=false->((5:Int),())=y:=λN O=>by have:(code.all λx=>x.kind !=0||D8 x.ins.to)=false:=aX8 rins0 e (by rw [N,O];rfl);rw [d,this,if_pos rfl]
  have yes:((code.getD k rins0).kind≠0\/D8 (code.getD k rins0).ins.to=true)->∃ p':Int×Unit,IntKind.i64.wrap ((k:Int)+1)=p'.1/\(0<=p'.1/\p'.1<=(code.length:Int)/\((code.take p'.1.toNat).all λx=>x.kind !=0||D8 x.ins.to)=true)/\code.length-p'.1.toNat<code.length-k:=λq=>
   ⟨((k+1:Nat),()),B3 e (by omega),⟨by omega,by dsimp only;omega,by
    dsimp only;rw [cy0];refine at0 rins0 e h3 ?_;rcases q with q|q
    .exact (Bool.or_eq_true_iff ..).2 (.inl (bne_iff_ne.2 q))
    .rw [q];simp⟩,by dsimp only;omega⟩
  obtain ⟨x,D⟩:∃ x,code.getD k rins0=x:=⟨_,rfl⟩;simp only [D] at H no yes |-;refine ⟨⟨h0,m⟩,⟨(0,()),rfl,Int.le_refl _,by dsimp only;omega,.inr (by simp [D8])⟩,?_⟩;rintro ⟨i,⟨⟩⟩ ⟨w,P,f⟩;dsimp only at w P f |-;obtain ⟨j,rfl⟩:=cy3 w;simp only [cy0] at f |-;refine ⟨λglt=>?_,λgge=>?_⟩
  .have glt:(j:Int)<x.ins.to.length:=cy7 glt;have u:j<x.ins.to.length:=by omega
   have g:=aY3 (x.ins.to.take j) (x.ins.to.getD j 0);rw [<-A4 u] at g;refine ⟨⟨w,glt⟩,λ_=>⟨w,by omega⟩,λo=>?_,λo=>?_⟩
   .simp only [cx9,beq_iff_eq] at o;refine no o.1 ?_;rw [o.2] at g;have Q:D8 (x.ins.to.take (j+1))=false:=by rw [g];simp
    have:=bi0 (r:=x.ins.to.drop (j+1)) Q
    rwa [List.take_append_drop] at this
   .refine ⟨((j+1:Nat),()),B3 u (by have:=H.1.1;omega),⟨by omega,by dsimp only;omega,?_⟩,by dsimp only;omega⟩;dsimp only;rw [cy0];rcases f with f|f
    .exact .inl f
    .by_cases n:x.kind=0
     .right;simp only [n,beq_self_eq_true,Bool.true_and] at o;rw [g,f,o];rfl
     .exact .inl n
  .have R:j=x.ins.to.length:=by have:¬ (j:Int)<x.ins.to.length:=cy6 gge;omega
   subst R;rw [cA5] at f;exact yes f
 .have n:k=code.length:=by have:¬ (k:Int)<code.length:=cy6 C;omega
  subst n;rw [cA5] at h3;rw [h3,if_neg (by simp)] at d;have v:0<=a/\a<=4000:=by simp only [L3,H2,cx9,List.all_cons,List.all_nil,cz9] at h2;omega
  refine ⟨⟨v.1,v.2,by omega,p,B⟩,λq=>?_,λq=>?_⟩
  .rw [Bool.not_eq_true'] at q;rw [d,if_pos q]
  .rw [Bool.not_eq_false'] at q;rw [d,q,if_neg (by simp)]
theorem aL0:D0 prog RG 22 cValid:=E5 (A5 bh7 (A5 N8 (A5 az8 C0))) (λp=>bU0 p.2.2.2.1) (by kernel_rfl) (by kernel_rfl) (by kernel_rfl) λ(a,b,c,code,out,()) d=>ce6 a b c code out d
theorem bi1 {c:RCode} (h:O2 c=0):c.code.length<=16000/\L3 c=true/\(c.code.all λx=>x.kind !=0||D8 x.ins.to)=true/\(C6 c).2=true:=by
 unfold O2 at h;split at h
 .cases h
 .split at h
  .cases h
  .split at h
   .cases h
   .split at h
    .cases h
    .rename_i h1 h2 h3 h4;exact ⟨by omega,(Bool.not_eq_false _▸h2),(Bool.not_eq_false _▸h3),(Bool.not_eq_false _▸h4)⟩
theorem aY4 {c:RCode} (h:L3 c=true):0<=c.params/\c.params<=4000:=by simp only [L3,H2,cx9,List.all_cons,List.all_nil,cz9] at h;omega
theorem cp5 (a b c:Int) (code:List RIns) (out:List Place) (r:-9223372036854775808<=b/\b<9223372036854775808/\W7 code=true/\out.length<=17592186044400):vc (EV [(22,cValid),(58,cFollow)]) (cp3 a (C6 ⟨a,b,c,code,out⟩).1.code) Go.Proofs.Tryd.f20 cBack (a,b,c,code,out,()):=by
 rw [cp4 a b c code out];intro w A B x C D E y F G;have e:w=((N4 ⟨a,b,c,code,out⟩).1.params,(N4 ⟨a,b,c,code,out⟩).1.code,(N4 ⟨a,b,c,code,out⟩).1.out,(N4 ⟨a,b,c,code,out⟩).1.at_,(N4 ⟨a,b,c,code,out⟩).2,()):=rfl;have g:y=O2 ⟨a,b,c,code,out⟩:=rfl;have m:x=(y !=0):=rfl
 clear_value w x
 dsimp only [A,B,C,D,E];simp only [true_and,and_true];refine ⟨r,λh=>?_,λh=>?_⟩
 .have s:O2 ⟨a,b,c,code,out⟩≠0:=by
   rw [<-g];rw [m] at h;simpa using h
  have:N4 ⟨a,b,c,code,out⟩=(bP0,O2 ⟨a,b,c,code,out⟩):=by simp only [N4,if_pos s]
  rw [e,this,g];rfl
 have z:O2 ⟨a,b,c,code,out⟩=0:=by rw [<-g];rw [m] at h;simpa using h
 obtain ⟨h1,h2,h3,h4⟩:=bi1 z;have d:=aY4 h2;have hm:=aY2 d h1 r.2.2.1;have hB:N4 ⟨a,b,c,code,out⟩=if 4000<J3 a (C6 ⟨a,b,c,code,out⟩).1.code\/4000<(C6 ⟨a,b,c,code,out⟩).1.code.length then (bP0,9) else ((C6 ⟨a,b,c,code,out⟩).1,0):=by simp only [N4,z,ne_eq,not_true_eq_false,if_false]
 have j:=(at1 ⟨a,b,c,code,out⟩).1;rw [hB] at e;obtain ⟨f,hf⟩:∃ f,C6 ⟨a,b,c,code,out⟩=f:=⟨_,rfl⟩;simp only [hf] at e hm h4 j |-;obtain ⟨⟨fa,fc,fo,ft⟩,fb⟩:=f;dsimp only at e hm h4 j |-;subst j;refine ⟨⟨d.1,d.2,h1,r.2.2.1,r.2.2.2⟩,⟨(0,fa,()),rfl,rfl,Int.le_refl _,by dsimp only;omega,by simp [J3]⟩,?_⟩;rintro ⟨i,n,⟨⟩⟩ ⟨t,H,u⟩;dsimp only at t H u |-;obtain ⟨k,rfl⟩:=cy3 t;simp only [cy0] at u |-;subst u;refine ⟨λl=>?_,λo=>?_⟩
 .have l:(k:Int)<fc.length:=cy7 l;have p:k<fc.length:=by omega
  have hs:J3 fa (fc.take (k+1))=J3 fa (fc.take k)+((fc.getD k ins0).to.length:Int):=by rw [A4 p ins0,aw1];rfl
  have I:=bq8 fc (k+1) fa;have o:=aK9 (fc.take k) fa;have v:0<=fa:=d.1;refine ⟨⟨t,l⟩,((k+1:Nat),J3 fa (fc.take (k+1)),()),B3 p (by omega),?_,⟨by omega,by dsimp only;omega,by dsimp only;rw [cy0]⟩,by dsimp only;omega⟩;show IntKind.i64.wrap (J3 fa (fc.take k)+((fc.getD k ins0).to.length:Int))=_;rw [<-hs,M1 (by omega) (by omega)]
 .have J:k=fc.length:=by have:¬ (k:Int)<fc.length:=cy6 o;omega
  subst J;rw [cA5];refine ⟨λq=>?_,λq=>?_⟩
  .simp only [Bool.or_eq_true,cz9] at q;have:4000<J3 fa fc\/4000<fc.length:=by omega
   rw [if_pos this] at e;exact e.symm
  .simp only [Bool.or_eq_false_iff,decide_eq_false_iff_not] at q;have:¬ (4000<J3 fa fc\/4000<fc.length):=by omega
   rw [if_neg this] at e;exact e.symm
theorem bG8:D0 prog RG 20 cBack:=E5 (A5 aL0 (A5 az8 C0)) (λp=>cp3 p.1 (C6 ⟨p.1,p.2.1,p.2.2.1,p.2.2.2.1,p.2.2.2.2.1⟩).1.code) (by kernel_rfl) (by kernel_rfl) (by kernel_rfl) λ(a,b,c,code,out,()) d=>cp5 a b c code out d
abbrev Reads:=List (Int×List Int)
abbrev mapR:Ty:=.map i64 ints
def getL (r:Reads) (n:Int):List Int:=(mget eqI r n).getD []
def I2 (rd:Reads) (N reg from_:Int):Int:=((getL rd reg).find? (λx=>decide (from_<=x))).getD N
def bU4:Place:=⟨true,-1⟩
def am5 (m:Holds) (reg:Int) (s:Nat):Bool:=decide (mget eqP m ⟨false,(s:Int)⟩=some reg)
def C3 (m:Holds) (ks reg:Int):Place:=match (List.range ks.toNat).find? (am5 m reg) with
 |some s=>⟨false,(s:Int)⟩
 |none=>bU4
def held0:Held:=⟨0,0,0⟩
def Z5 (x y:Held):Bool:=decide (x.next >y.next)||(x.next==y.next&&decide (x.reg >y.reg))
def F4 (x y:Held):Held:=bif Z5 y x then y else x
def H4 (l:List Held):Held:=l.tail.foldl F4 (l.headD held0)
structure AS where
 holds:Holds
 cells:List (Int×Int)
 ocells:Int
 code:List RIns
def C1 (sp:Spans) (rd:Reads) (N:Int) (m:Holds) (place:Int) (stay:List Int):List Nat->List Held->Option Int×List Held
 |[],acc=>(none,acc)
 |s::r,acc=>match mget eqP m ⟨false,(s:Int)⟩ with
  |none=>(some (s:Int),acc)
  |some n=>bif stay.contains n then C1 sp rd N m place stay r acc else bif I1 (getS sp n).first (getS sp n).last place then C1 sp rd N m place stay r (acc++[⟨(s:Int),n,I2 rd N n place⟩]) else (some (s:Int),acc)
def H8 (sp:Spans) (rd:Reads) (ks N:Int) (m:Holds) (place:Int) (stay:List Int):Option Int×List Held:=C1 sp rd N m place stay (List.range ks.toNat) []
def W8 (sp:Spans) (rd:Reads) (ks N:Int) (m:Holds) (place:Int) (stay:List Int):Prop:=(H8 sp rd ks N m place stay).1=none->(H8 sp rd ks N m place stay).2≠[]
def aw2 (s:AS) (x:Held):AS:=bif (mget eqI s.cells x.reg).isSome then s else ⟨s.holds,mput eqI s.cells x.reg s.ocells,s.ocells+1,s.code++[⟨2,x.slot,s.ocells,ins0⟩]⟩
def D4 (sp:Spans) (rd:Reads) (ks N:Int) (s:AS) (place:Int) (stay:List Int):Int×AS:=
 match (H8 sp rd ks N s.holds place stay).1 with
 |some i=>(i,s)
 |none=>((H4 (H8 sp rd ks N s.holds place stay).2).slot,aw2 s (H4 (H8 sp rd ks N s.holds place stay).2))
def D5:List Int->List Int->List Int
 |_,[]=>[]
 |seen,x::r=>bif seen.contains x then D5 (seen++[x]) r else x::D5 (seen++[x]) r
def B0 (l:List Int):List Int:=D5 [] l
def G9 (sp:Spans) (rd:Reads) (ks N i:Int) (fr:List Int) (s:AS) (n:Int):AS:=
 bif (C3 s.holds ks n).cell then
  (match D4 sp rd ks N s i fr with
  |(q,t)=>⟨mput eqP t.holds ⟨false,q⟩ n,t.cells,t.ocells,t.code++[⟨1,q,getI t.cells n,ins0⟩]⟩)
 else s
def ah5 (sp:Spans) (rd:Reads) (ks N i:Int) (to:List Int) (s:AS) (n:Int):AS:=
 match D4 sp rd ks N s (i+1) to with
 |(q,t)=>⟨mput eqP t.holds ⟨false,q⟩ n,t.cells,t.ocells,t.code⟩
def C4 (sp:Spans) (rd:Reads) (ks N i:Int) (fr:List Int) (s:AS) (l:List Int):AS:=l.foldl (G9 sp rd ks N i fr) s
def L4 (sp:Spans) (rd:Reads) (ks N i:Int) (to:List Int) (s:AS) (l:List Int):AS:=l.foldl (ah5 sp rd ks N i to) s
def S5 (m:Holds) (ks:Int) (l:List Int):List (Int×Int):=l.foldl (λmm n=>mput eqI mm n (C3 m ks n).n) []
def doOf (sp:Spans) (rd:Reads) (ks N i:Int) (x:Ins) (s:AS):AS:=
 match C4 sp rd ks N i (B0 x.from_) s (B0 x.from_) with
 |s1=>match L4 sp rd ks N i x.to s1 x.to with
  |s2=>⟨s2.holds,s2.cells,s2.ocells,s2.code++[⟨0,0,0,⟨x.op,x.n,x.to.map (λn=>(C3 s2.holds ks n).n),x.from_.map (getI (S5 s1.holds ks (B0 x.from_))),x.body⟩⟩]⟩
def doOk (sp:Spans) (rd:Reads) (ks N i:Int) (x:Ins) (s:AS):Prop:=
 (∀ k,k<(B0 x.from_).length->(C3 (C4 sp rd ks N i (B0 x.from_) s ((B0 x.from_).take k)).holds ks ((B0 x.from_).getD k 0)).cell=true->W8 sp rd ks N (C4 sp rd ks N i (B0 x.from_) s ((B0 x.from_).take k)).holds i (B0 x.from_))/\
 (∀ k,k<x.to.length->W8 sp rd ks N (L4 sp rd ks N i x.to (C4 sp rd ks N i (B0 x.from_) s (B0 x.from_)) (x.to.take k)).holds (i+1) x.to)
def ah6 (rd:Reads):Prop:=∀ n,(getL rd n).Pairwise (·<=·)
abbrev tysA:List Ty:=[i64,inss,ints,ints,mapS,mapR,mapP,mapI,i64,i64,i64,al6,ae5]
abbrev objA (j b:Nat):List OPat:=[.box 86 [.d b,.d (b+1),.d (b+2),.d (b+3),.map (j+1),.map (j+2),.map (j+3),.map (j+4),.d (b+8),.d (b+9),.d (b+10),.row (j+5),.row (j+6)],.map (b+4),.map (b+5),.map (b+6),.map (b+7),.row (b+11),.row (b+12)]
def cIsNaN:Con RU:=con [one] [i64] [one] [.bool] [false] none λp=>(false,())
def cLess:Con RU:=con [one,one] [i64,i64] [one] [.bool] [false] none λp=>(decide (p.1<p.2.1),())
def cBin:Con RU:=⟨[one,one],[ints,i64],[.d 0,.d 1],[],some λp=>p.1.Pairwise (·<=·),none,[one,one],[i64],[.d 0,.un],[],λp=>(((p.1.takeWhile (λx=>decide (x<p.2.1))).length:Int),()),[],[],[]⟩
def lBin (l:List Int) (t:Int):Nat->St RU->Ann RU:=λ_ _=>⟨[],[.slot 7,.slot 8],[i64,i64],λp=>0<=p.1/\p.1<=p.2.1/\p.2.1<=l.length/\(∀ x∈l.take p.1.toNat,x<t)/\(∀ x∈l.drop p.2.1.toNat,t<=x),λp=>(p.2.1-p.1).toNat,[]⟩
def cSlot:Con RU:=⟨[one,one],i64::tysA,[.ptr 0 0,.d 0],objA 0 1,some λp=>p.2.2.2.2.2.2.2.2.2.2.1<=64,none,[(true,2)],.bool::i64::tysA,[.d 0,.d 1],objA 0 2,λp=>((C3 p.2.2.2.2.2.2.2.1 p.2.2.2.2.2.2.2.2.2.2.1 p.1).cell,(C3 p.2.2.2.2.2.2.2.1 p.2.2.2.2.2.2.2.2.2.2.1 p.1).n,p.2),[],[],[]⟩
def cp6 (ho:Holds) (ks reg:Int):Nat->St RU->Ann RU:=λ_ _=>⟨[],[.slot 14],[i64],λp=>0<=p.1/\(p.1<=ks\/p.1=0)/\∀ s∈List.range p.1.toNat,am5 ho reg s=false,λp=>ks.toNat-p.1.toNat,[]⟩
def cPutA:Con RU:=⟨[one,(true,8)],[i64,i64,i64,i64,i64,ints,ints,inss]++tysA,[.ptr 0 0,.d 0,.d 1,.d 2,.d 3,.d 4,.d 5,.d 6,.d 7],objA 0 8,some λp=>p.2.2.2.2.2.2.2.2.2.2.2.2.2.2.2.2.2.2.2.1.length<=1000000000,none,[],tysA,[],objA 0 0,
 λp=>match p with
  |(k,s,c,o,n,t,f,b,a0,a1,a2,a3,sp,rd,ho,ce,op,ks,oc,cd,ou,())=>(a0,a1,a2,a3,sp,rd,ho,ce,op,ks,oc,cd++[⟨k,s,c,⟨o,n,t,f,b⟩⟩],ou,()),[],[],[]⟩
def cNext:Con RU:=⟨[one,one,one],i64::i64::tysA,[.ptr 0 0,.d 0,.d 1],objA 0 2,some λp=>ah6 p.2.2.2.2.2.2.2.1,none,[one],i64::tysA,[.d 0],objA 0 1,λp=>(I2 p.2.2.2.2.2.2.2.1 p.2.2.2.1.length p.1 p.2.1,p.2.2),[],[],[]⟩
def cBetter:Con RU:=con [(true,3),(true,3)] [i64,i64,i64,i64,i64,i64] [one] [.bool] [false] none λp=>(Z5 ⟨p.1,p.2.1,p.2.2.1⟩ ⟨p.2.2.2.1,p.2.2.2.2.1,p.2.2.2.2.2.1⟩,())
def cBest:Con RU:=⟨[(true,1),one],[cu2],[.fn 102,.d 0],[],some λp=>p.1≠[],none,[(true,3)],[i64,i64,i64],[.d 0,.d 1,.d 2],[],λp=>((H4 p.1).slot,(H4 p.1).reg,(H4 p.1).next,()),[],[],[]⟩
def cp7 (l:List Held):Nat->St RU->Ann RU:=λ_ _=>⟨[],[.slot 14,.box 320 0,.box 320 1,.box 320 2],[i64,i64,i64,i64],λp=>0<=p.1/\p.1<=l.tail.length/\(⟨p.2.1,p.2.2.1,p.2.2.2.1⟩:Held)=(l.tail.take p.1.toNat).foldl F4 (l.headD held0),λp=>l.tail.length-p.1.toNat,[]⟩
theorem ce7 (a:Int):vc (EV []) noL Go.Proofs.Tryd.f110 cIsNaN (a,())=((a !=a,())=(false,())):=by kernel_rfl
theorem bU5 (a:Int):vc (EV []) noL Go.Proofs.Tryd.f111 cIsNaN (a,())=((a !=a,())=(false,())):=by kernel_rfl
theorem cp8 (a b:Int):vc (EV [(111,cIsNaN)]) noL Go.Proofs.Tryd.f109 cLess (a,b,())=(
 let c:Bool:=decide (a<b);
  (false&&!false||c,())=(c,())):=by kernel_rfl
theorem cv7 (l:List Int) (t:Int):vc (EV [(109,cLess),(110,cIsNaN)]) (lBin l t) Go.Proofs.Tryd.f107 cBin (l,t,())=(
 let a:Int:=(↑(List.length l):Int);
 let c:Int:=(2:Int) ^ (1:Nat);
  Small RU (Sigma.mk (Ty.slice (3:Nat) (Ty.int IntKind.i64)) l)->
  (∃ (p:Int×Int×Unit),
  l=l/\
  t=t/\
  (0:Int)=(0:Int)/\
  false=false/\
  a=a/\
  (0:Int)=p.1/\
  a=p.2.1/\
  (0:Int)<=p.1/\
  p.1<=p.2.1/\p.2.1<=a/\(∀ (x:Int),List.Mem x (List.take (Int.toNat p.1) l)->x<t)/\∀ (x:Int),List.Mem x (List.drop (Int.toNat p.2.1) l)->t<=x)/\
  ∀ (p:Int×Int×Unit),
 let e0_1:Bool:=decide (List.getD l (Int.toNat (IntKind.i64.wrap (Int.fdiv (IntKind.wrap IntKind.u64 (IntKind.i64.wrap (p.1+p.2.1))) c))) (0:Int)<t);
 let c:Int:=IntKind.i64.wrap (Int.fdiv (IntKind.wrap IntKind.u64 (IntKind.i64.wrap (p.1+p.2.1))) c);
 let e:Bool:=decide (p.1<p.2.1);
 let d:Int:=p.2.1;
 let b:Int:=p.1;
  ((0:Int)<=b/\b<=d/\d<=a/\(∀ (x:Int),List.Mem x (List.take (Int.toNat b) l)->x<t)/\∀ (x:Int),List.Mem x (List.drop (Int.toNat d) l)->t<=x)->
  (e=true->
  (0:Int)<=(1:Int)/\
  ((0:Int)<=c/\c<a)/\
  ∃ (p':Int×Int×Unit),
  (bif e0_1 then l else l)=l/\
  (bif e0_1 then t else t)=t/\
  (bif e0_1 then (0:Int) else (0:Int))=(0:Int)/\
  (bif e0_1 then false else false)=false/\
  (bif e0_1 then a else a)=a/\
  (bif e0_1 then IntKind.i64.wrap (c+(1:Int)) else b)=p'.1/\
  (bif e0_1 then d else c)=p'.2.1/\
  ((0:Int)<=p'.1/\
  p'.1<=p'.2.1/\
  p'.2.1<=a/\(∀ (x:Int),List.Mem x (List.take (Int.toNat p'.1) l)->x<t)/\∀ (x:Int),List.Mem x (List.drop (Int.toNat p'.2.1) l)->t<=x)/\
  Int.toNat (p'.2.1-p'.1)<Int.toNat (d-b))/\
  (e=false->
  (decide (b<a)=true->(0:Int)<=b/\b<a)/\
  (decide (b<a)=true->(List.getD l (Int.toNat b) (0:Int)==t)=false->(0:Int)<=b/\b<a)/\
  (b,())=((↑(List.length (List.takeWhile (λ(x:den RU.T i64)=>decide (x<t)) l)):Int),()))):=by kernel_rfl
theorem cp9 (reg e:Int) (b:List Ins) (c d:List Int) (sp:Spans) (rd:Reads) (a:Holds) (ce:List (Int×Int)) (op ks oc:Int) (cd:List RIns) (ou:List Place):vc (EV []) (cp6 a ks reg) Go.Proofs.Tryd.f54 cSlot (reg,e,b,c,d,sp,rd,a,ce,op,ks,oc,cd,ou,())=(
 let f:Int×List Ins×List Int×List Int×List (Int×Span)×List (Int×List Int)×List (Place×Int)×List (Int×Int)×Int×Int×Int×List RIns×List Place×Unit:=
  (e,b,c,d,sp,rd,a,ce,op,ks,oc,cd,ou,());
 let g:Bool×Int×Int×List Ins×List Int×List Int×List (Int×Span)×List (Int×List Int)×List (Place×Int)×List (Int×Int)×Int×Int×Int×List RIns×List Place×Unit:=
  ((C3 a ks reg).cell,(C3 a ks reg).n,f);
  Small RU (Sigma.mk (Ty.slice (52:Nat) (Ty.user (0:Nat))) b)->
  Small RU (Sigma.mk (Ty.slice (3:Nat) (Ty.int IntKind.i64)) c)->
  Small RU (Sigma.mk (Ty.slice (3:Nat) (Ty.int IntKind.i64)) d)->
  Small RU (Sigma.mk (Ty.slice (55:Nat) (Ty.user (1:Nat))) cd)->
  Small RU (Sigma.mk (Ty.slice (59:Nat) (Ty.user (2:Nat))) ou)->
  (∃ (p:Int×Unit),
  reg=reg/\
  ks=ks/\
  (0:Int)=p.1/\
  e=e/\
  b=b/\
  c=c/\
  d=d/\
  op=op/\
  ks=ks/\
  oc=oc/\
  sp=sp/\
  rd=rd/\
  a=a/\
  ce=ce/\
  cd=cd/\
  ou=ou/\
  false=false/\
  (0:Int)=(0:Int)/\
  (0:Int)<=p.1/\(p.1<=ks\/p.1=(0:Int))/\∀ (s:Nat),List.Mem s (List.range (Int.toNat p.1))->am5 a reg s=false)/\
  ∀ (p:Int×Unit),
 let e0_1:Bool:=
  Option.isSome (mget (F6 RU (Ty.user (2:Nat))) a (Place.mk false p.1))&&Option.getD (mget (F6 RU (Ty.user (2:Nat))) a (Place.mk false p.1)) (0:Int)==reg;
 let e1_1:Bool:=decide (p.1<ks);
  ((0:Int)<=p.1/\(p.1<=ks\/p.1=(0:Int))/\∀ (s:Nat),List.Mem s (List.range (Int.toNat p.1))->am5 a reg s=false)->
  (e1_1=true->
  (e0_1=true->(false,p.1,f)=g)/\
  (e0_1=false->
  ∃ (p':Int×Unit),
  reg=reg/\
  ks=ks/\
  IntKind.i64.wrap (p.1+(1:Int))=p'.1/\
  e=e/\
  b=b/\
  c=c/\
  d=d/\
  op=op/\
  ks=ks/\
  oc=oc/\
  sp=sp/\
  rd=rd/\
  a=a/\
  ce=ce/\
  cd=cd/\
  ou=ou/\
  false=false/\
  (0:Int)=(0:Int)/\
  ((0:Int)<=p'.1/\
  (p'.1<=ks\/p'.1=(0:Int))/\∀ (s:Nat),List.Mem s (List.range (Int.toNat p'.1))->am5 a reg s=false)/\
  Int.toNat ks-Int.toNat p'.1<Int.toNat ks-Int.toNat p.1))/\
  (e1_1=false->(true,(-1:Int),f)=g)):=by kernel_rfl
theorem cq0 (k s c o n:Int) (t f:List Int) (b:List Ins) (g:Int) (a:List Ins) (d e:List Int) (sp:Spans) (rd:Reads) (h:Holds) (ce:List (Int×Int)) (op ks oc:Int) (cd:List RIns) (ou:List Place):vc (EV []) noL Go.Proofs.Tryd.f85 cPutA (k,s,c,o,n,t,f,b,g,a,d,e,sp,rd,h,ce,op,ks,oc,cd,ou,())=(
 let i:List RIns:=[RIns.mk k s c (Ins.mk o n t f b)];
  Small RU (Sigma.mk (Ty.slice (3:Nat) (Ty.int IntKind.i64)) t)->
  Small RU (Sigma.mk (Ty.slice (3:Nat) (Ty.int IntKind.i64)) f)->
  Small RU (Sigma.mk (Ty.slice (52:Nat) (Ty.user (0:Nat))) b)->
  Small RU (Sigma.mk (Ty.slice (52:Nat) (Ty.user (0:Nat))) a)->
  Small RU (Sigma.mk (Ty.slice (3:Nat) (Ty.int IntKind.i64)) d)->
  Small RU (Sigma.mk (Ty.slice (3:Nat) (Ty.int IntKind.i64)) e)->
  Small RU (Sigma.mk (Ty.slice (55:Nat) (Ty.user (1:Nat))) cd)->
  Small RU (Sigma.mk (Ty.slice (59:Nat) (Ty.user (2:Nat))) ou)->
  (List.length cd+List.length i)*(112:Nat)<=(140737488355328:Nat)/\
  (g,a,d,e,sp,rd,h,ce,op,ks,oc,cd++i,ou,())=(g,a,d,e,sp,rd,h,ce,op,ks,oc,cd++i,ou,())):=by kernel_rfl
theorem cq1 (reg fr g:Int) (a:List Ins) (d e:List Int) (sp:Spans) (rd:Reads) (h:Holds) (ce:List (Int×Int)) (op ks oc:Int) (cd:List RIns) (ou:List Place):vc (EV [(107,cBin)]) noL Go.Proofs.Tryd.f100 cNext (reg,fr,g,a,d,e,sp,rd,h,ce,op,ks,oc,cd,ou,())=(
 let b:Int:=(↑(List.length (List.takeWhile (λ(x:den RU.T i64)=>decide (x<fr)) (Option.getD (mget (λ(x y:Int)=>x==y) rd reg) []))):Int);
 let f:Int×List Ins×List Int×List Int×List (Int×Span)×List (Int×List Int)×List (Place×Int)×List (Int×Int)×Int×Int×Int×List RIns×List Place×Unit:=
  (g,a,d,e,sp,rd,h,ce,op,ks,oc,cd,ou,());
 let i:Int×Int×List Ins×List Int×List Int×List (Int×Span)×List (Int×List Int)×List (Place×Int)×List (Int×Int)×Int×Int×Int×List RIns×List Place×Unit:=
  (I2 rd (↑(List.length a):Int) reg fr,f);
 let c:List Int:=Option.getD (mget (λ(x y:Int)=>x==y) rd reg) [];
  Small RU (Sigma.mk (Ty.slice (52:Nat) (Ty.user (0:Nat))) a)->
  Small RU (Sigma.mk (Ty.slice (3:Nat) (Ty.int IntKind.i64)) d)->
  Small RU (Sigma.mk (Ty.slice (3:Nat) (Ty.int IntKind.i64)) e)->
  Small RU (Sigma.mk (Ty.slice (55:Nat) (Ty.user (1:Nat))) cd)->
  Small RU (Sigma.mk (Ty.slice (59:Nat) (Ty.user (2:Nat))) ou)->
  List.Pairwise (λ(j k:den RU.T i64)=>j<=k) c/\
  ((b==(↑(List.length c):Int))=true->((↑(List.length a):Int),f)=i)/\
  ((b==(↑(List.length c):Int))=false->((0:Int)<=b/\b<(↑(List.length c):Int))/\(List.getD c (Int.toNat b) (0:Int),f)=i)):=by kernel_rfl
theorem bU6 (a b c d e f:Int):vc (EV []) noL Go.Proofs.Tryd.f102 cBetter (a,b,c,d,e,f,())=((decide (c >f)||c==f&&decide (b >e),())=(Z5 (Held.mk a b c) (Held.mk d e f),())):=by kernel_rfl
theorem cq2 (l:List Held):vc (EV [(102,cBetter)]) (cp7 l) Go.Proofs.Tryd.f101 cBest (l,())=(
 let c:Int:=(↑(List.length (List.drop (1:Nat) l)):Int);
 let d:Held:=List.getD l (0:Nat) (Held.mk (0:Int) (0:Int) (0:Int));
 let a:List Held:=List.drop (1:Nat) l;
 let b:Value:=Value.func (Fn.func (102:Nat)) #[] #[];
  Small RU (Sigma.mk (Ty.slice (131:Nat) (Ty.user (4:Nat))) l)->
  ((0:Int)<=(0:Int)/\(0:Int)<(↑(List.length l):Int))/\
  ((0:Int)<=(1:Int)/\(1:Int)<=(↑(List.length l):Int))/\
  (∃ (p:Int×Int×Int×Int×Unit),
  b=b/\
  l=l/\
  a=a/\
  c=c/\
  (0:Int)=p.1/\
  b=b/\
  (0:Int)=(0:Int)/\
  (0:Int)=(0:Int)/\
  (0:Int)=(0:Int)/\
  d.slot=p.2.1/\
  d.reg=p.2.2.1/\
  d.next=p.2.2.2.1/\
  (0:Int)<=p.1/\
  p.1<=(↑(List.length (List.tail l)):Int)/\
  Held.mk p.2.1 p.2.2.1 p.2.2.2.1=List.foldl F4 (List.headD l held0) (List.take (Int.toNat p.1) (List.tail l)))/\
  ∀ (p:Int×Int×Int×Int×Unit),
 let e0_1:Bool:=
  Z5
  (Held.mk (List.getD a (Int.toNat p.1) (Held.mk (0:Int) (0:Int) (0:Int))).slot (List.getD a (Int.toNat p.1) (Held.mk (0:Int) (0:Int) (0:Int))).reg
  (List.getD a (Int.toNat p.1) (Held.mk (0:Int) (0:Int) (0:Int))).next)
  (Held.mk p.2.1 p.2.2.1 p.2.2.2.1);
 let d:Held:=List.getD a (Int.toNat p.1) (Held.mk (0:Int) (0:Int) (0:Int));
 let e2_1:Int:=p.1;
 let e3_1:Int:=p.2.2.2.1;
 let e:Int:=p.2.2.1;
 let f:Int:=p.2.1;
 let g:Bool:=decide (e2_1<c);
  (0:Int)<=e2_1/\e2_1<=(↑(List.length (List.tail l)):Int)/\Held.mk f e e3_1=List.foldl F4 (List.headD l held0) (List.take (Int.toNat e2_1) (List.tail l))->
  (g=true->
  ((0:Int)<=e2_1/\e2_1<c)/\
  ∃ (p':Int×Int×Int×Int×Unit),
  b=b/\
  (bif e0_1 then l else l)=l/\
  (bif e0_1 then a else a)=a/\
  (bif e0_1 then c else c)=c/\
  IntKind.i64.wrap ((bif e0_1 then e2_1 else e2_1)+(1:Int))=p'.1/\
  b=b/\
  (bif e0_1 then (0:Int) else (0:Int))=(0:Int)/\
  (bif e0_1 then (0:Int) else (0:Int))=(0:Int)/\
  (bif e0_1 then (0:Int) else (0:Int))=(0:Int)/\
  (bif e0_1 then d.slot else f)=p'.2.1/\
  (bif e0_1 then d.reg else e)=p'.2.2.1/\
  (bif e0_1 then d.next else e3_1)=p'.2.2.2.1/\
  ((0:Int)<=p'.1/\
  p'.1<=(↑(List.length (List.tail l)):Int)/\
  Held.mk p'.2.1 p'.2.2.1 p'.2.2.2.1=List.foldl F4 (List.headD l held0) (List.take (Int.toNat p'.1) (List.tail l)))/\
  List.length (List.tail l)-Int.toNat p'.1<List.length (List.tail l)-Int.toNat e2_1)/\
  (g=false->(f,e,e3_1,())=((H4 l).slot,(H4 l).reg,(H4 l).next,()))):=by kernel_rfl
theorem br0:D0 prog RG 110 cIsNaN:=E5 C0 (λ_=>noL) (by kernel_rfl) (by kernel_rfl) (by kernel_rfl) λ(a,()) _=>(ce7 a).mpr (by rw [bne_self_eq_false])
theorem bi2:D0 prog RG 111 cIsNaN:=E5 C0 (λ_=>noL) (by kernel_rfl) (by kernel_rfl) (by kernel_rfl) λ(a,()) _=>(bU5 a).mpr (by rw [bne_self_eq_false])
theorem bG9:D0 prog RG 109 cLess:=E5 (A5 bi2 C0) (λ_=>noL) (by kernel_rfl) (by kernel_rfl) (by kernel_rfl) λ(a,b,()) _=>(cp8 a b).mpr (by dsimp only;rw [Bool.false_and,Bool.false_or])
theorem aY5 {l:List Int} {t:Int} {k:Nat} (b:k<=l.length) (h1:∀ x∈l.take k,x<t) (h2:∀ x∈l.drop k,t<=x):l.takeWhile (λx=>decide (x<t))=l.take k:=by
 induction l generalizing k with
 |nil=>simp
 |cons x r ih=>
  cases k with
  |zero=>have:=h2 x (by simp);rw [List.takeWhile_cons_of_neg (by simp;omega)];rfl
  |succ k=>have c:=h1 x (by simp);rw [List.takeWhile_cons_of_pos (by simpa using c),List.take_succ_cons,ih (by simpa using b) (λy a=>h1 y (by simp [a])) (λy a=>h2 y (by simpa using a))]
theorem bi3 {l:List Int} (h:l.Pairwise (·<=·)) {i j:Nat} (a:i<=j) (b:j<l.length):l.getD i 0<=l.getD j 0:=by
 rw [cz1,cz1,cx8 (by omega),cx8 b];rcases Nat.lt_or_eq_of_le a with h1|h1
 .exact List.pairwise_iff_getElem.1 h i j (by omega) b h1
 .subst h1;exact Int.le_refl _
theorem aY6 {l:List Int} {k:Nat} {x:Int} (h:x∈l.take k):∃ i,i<k/\i<l.length/\x=l.getD i 0:=by obtain ⟨i,a,rfl⟩:=List.mem_iff_getElem.1 h;rw [cA6] at a;exact ⟨i,by omega,by omega,by rw [List.getElem_take,cz1,cx8 (by omega)];rfl⟩
theorem aY7 {l:List Int} {k:Nat} {x:Int} (h:x∈l.drop k):∃ i,k<=i/\i<l.length/\x=l.getD i 0:=by obtain ⟨i,a,rfl⟩:=List.mem_iff_getElem.1 h;rw [List.length_drop] at a;exact ⟨k+i,by omega,by omega,by rw [List.getElem_drop,cz1,cx8 (by omega)];rfl⟩
theorem cv8 (l:List Int) (t:Int) (o:l.Pairwise (·<=·)):vc (EV [(109,cLess),(110,cIsNaN)]) (lBin l t) Go.Proofs.Tryd.f107 cBin (l,t,()):=by
 rw [cv7 l t];intro r p hs;have hl:l.length<=140737488355328:=hs.len;have e:p=2:=rfl;dsimp only [r];simp only [true_and,and_true,Bool.cond_self,e]
 clear_value p
 refine ⟨⟨(0,(l.length:Int),()),rfl,rfl,Int.le_refl _,by dsimp only;omega,Int.le_refl _,λx a=>?_,λx a=>?_⟩,?_⟩
 .change x∈l.take 0 at a;simp at a
 .dsimp only at a;change x∈l.drop (l.length:Int).toNat at a;simp at a
 rintro ⟨i,j,⟨⟩⟩ ⟨h0,h1,h2,h3,h4⟩;dsimp only at h0 h1 h2 h3 h4 |-;have h3:∀ x∈l.take i.toNat,x<t:=h3;have h4:∀ x∈l.drop j.toNat,t<=x:=h4;obtain ⟨i,rfl⟩:=cy3 h0;obtain ⟨j,rfl⟩:=cy3 (Int.le_trans h0 h1);simp only [cy0] at h3 h4 |-;refine ⟨λb=>?_,λf=>?_⟩
 .have b:(i:Int)<j:=cy7 b;have hm:IntKind.i64.wrap (Int.fdiv (IntKind.u64.wrap (IntKind.i64.wrap ((i:Int)+j))) 2)=((i+j) / 2:Nat):=by
   rw [M1 (n:=(i:Int)+j) (by omega) (by omega)];have s:IntKind.u64.wrap ((i:Int)+j)=(i:Int)+j:=by simp only [IntKind.wrap,IntKind.bits,IntKind.signed,Bool.false_and,Bool.false_eq_true,if_false];omega
   rw [s,Int.fdiv_eq_ediv_of_nonneg _ (by omega),M1 (by omega) (by omega)];omega
  rw [hm];have c:i<=(i+j) / 2/\(i+j) / 2<j:=by omega
  generalize (i+j) / 2=m at c |-;simp only [cy0];refine ⟨by omega,⟨by omega,by omega⟩,?_⟩;cases d:decide (l.getD m 0<t) with
  |true=>have d:l.getD m 0<t:=cy7 d;simp only [cond_true];refine ⟨((m+1:Nat),(j:Int),()),B3 (m:=l.length) (by omega) hl,rfl,⟨by omega,by dsimp only;omega,by dsimp only;omega,λx a=>?_,λx a=>h4 x a⟩,by dsimp only;omega⟩;have a:x∈l.take ((m+1:Nat):Int).toNat:=a;rw [cy0] at a;obtain ⟨q,g,h,rfl⟩:=aY6 a;have:=bi3 o (i:=q) (j:=m) (by omega) (by omega);omega
  |false=>have d:¬ l.getD m 0<t:=cy6 d;simp only [cond_false];refine ⟨((i:Int),(m:Int),()),rfl,rfl,⟨by omega,by dsimp only;omega,by dsimp only;omega,λx a=>h3 x a,λx a=>?_⟩,by dsimp only;omega⟩;have a:x∈l.drop ((m:Nat):Int).toNat:=a;rw [cy0] at a;obtain ⟨q,g,h,rfl⟩:=aY7 a;have:=bi3 o (i:=m) (j:=q) (by omega) (by omega);omega
 .have k:i=j:=by have:¬ (i:Int)<j:=cy6 f;omega
  subst k;refine ⟨λq=>⟨h0,cy7 q⟩,λq _=>⟨h0,cy7 q⟩,?_⟩;have:=aY5 (by omega) h3 h4;have u:(List.takeWhile (λ(x:den RU.T i64)=>decide (x<t)) l).length=i:=by show (List.takeWhile (λ(x:Int)=>decide (x<t)) l).length=i;rw [this,cA6];omega
  rw [u]
theorem bU7:D0 prog RG 107 cBin:=E5 (A5 bG9 (A5 br0 C0)) (λp=>lBin p.1 p.2.1) (by kernel_rfl) (by kernel_rfl) (by kernel_rfl) λ(l,t,()) a=>cv8 l t a
theorem aw3 {m:Holds} {reg:Int} {s:Nat}:am5 m reg s=true<->mget eqP m ⟨false,(s:Int)⟩=some reg:=by simp [am5]
theorem bH0 {p:Nat->Bool} {n s:Nat} (h1:∀ x∈List.range s,p x=false) (hs:s<n) (h2:p s=true):(List.range n).find? p=some s:=by rw [List.find?_range_eq_some];exact ⟨h2,by simpa using hs,λj a=>by have:=h1 j (by simpa using a);simp [this]⟩
theorem aL1 {p:Nat->Bool} {n:Nat} (h1:∀ x∈List.range n,p x=false):(List.range n).find? p=none:=by rw [List.find?_eq_none];intro x a;rw [h1 x a];simp
theorem cq3 (reg e:Int) (f:List Ins) (g h:List Int) (sp:Spans) (rd:Reads) (a:Holds) (ce:List (Int×Int)) (op ks oc:Int) (cd:List RIns) (ou:List Place) (o:ks<=64):vc (EV []) (cp6 a ks reg) Go.Proofs.Tryd.f54 cSlot (reg,e,f,g,h,sp,rd,a,ce,op,ks,oc,cd,ou,()):=by
 rw [cp9 reg e f g h sp rd a ce op ks oc cd ou];intro j k _ _ _ _ _;have b:k=((C3 a ks reg).cell,(C3 a ks reg).n,j):=rfl
 clear_value k j
 simp only [true_and,and_true];refine ⟨⟨(0,()),rfl,Int.le_refl _,.inr rfl,λs hs=>?_⟩,?_⟩
 .change s∈List.range 0 at hs;simp at hs
 rintro ⟨i,⟨⟩⟩ ⟨h0,h1,h2⟩;dsimp only at h0 h1 h2 |-;have h2:∀ s∈List.range i.toNat,am5 a reg s=false:=h2;obtain ⟨i,rfl⟩:=cy3 h0;simp only [cy0] at h2 |-;have l:((mget (F6 RU (Ty.user 2)) a ⟨false,(i:Int)⟩).isSome&&(mget (F6 RU (Ty.user 2)) a ⟨false,(i:Int)⟩).getD 0==reg)=am5 a reg i:=by
  show ((mget eqP a ⟨false,(i:Int)⟩).isSome&&(mget eqP a ⟨false,(i:Int)⟩).getD 0==reg)=decide (mget eqP a ⟨false,(i:Int)⟩=some reg);cases mget eqP a ⟨false,(i:Int)⟩ with
  |none=>rfl
  |some v=>rw [Bool.eq_iff_iff];simp
 rw [l];refine ⟨λc=>?_,λd=>?_⟩
 .have c:(i:Int)<ks:=cy7 c;refine ⟨λq=>?_,λq=>?_⟩
  .rw [b,show C3 a ks reg=⟨false,(i:Int)⟩ by unfold C3;rw [bH0 h2 (by omega) q]]
  .refine ⟨((i+1:Nat),()),?_,⟨by omega,.inl (by dsimp only;omega),λs hs=>?_⟩,by dsimp only;omega⟩
   .rw [M1 (by omega) (by omega)];rfl
   .have hs:s∈List.range ((i+1:Nat):Int).toNat:=hs;rw [cy0,List.range_succ,cA4] at hs;rcases hs with hs|hs
    .exact h2 s hs
    .simp only [cy8] at hs;rw [hs];exact q
 .have d:¬ (i:Int)<ks:=cy6 d;have p:List.range ks.toNat=List.range (min i ks.toNat):=by congr 1;omega
  have m:(List.range ks.toNat).find? (am5 a reg)=none:=aL1 (λx n=>h2 x (by simp at n |-;omega));rw [b,show C3 a ks reg=bU4 by unfold C3;rw [m]];rfl
theorem aw4:D0 prog RG 54 cSlot:=E5 C0 (λp=>cp6 p.2.2.2.2.2.2.2.1 p.2.2.2.2.2.2.2.2.2.2.1 p.1) (by kernel_rfl) (by kernel_rfl) (by kernel_rfl) λ(reg,a,b,c,d,sp,rd,e,ce,op,ks,oc,cd,ou,()) f=>cq3 reg a b c d sp rd e ce op ks oc cd ou f
theorem aR9:D0 prog RG 85 cPutA:=E5 C0 (λ_=>noL) (by kernel_rfl) (by kernel_rfl) (by kernel_rfl) λ(k,s,c,o,n,t,f,b,d,e,g,h,sp,rd,i,ce,op,ks,oc,cd,ou,()) a=>(cq0 k s c o n t f b d e g h sp rd i ce op ks oc cd ou).mpr (by
 have a:cd.length<=1000000000:=a;intro j _ _ _ _ _ _ _ _;exact ⟨by show (cd.length+1)*112<=_;omega,rfl⟩)
theorem bi4 {t:Int}:∀ (l:List Int),l.find? (λx=>decide (t<=x))=l[(l.takeWhile (λx=>decide (x<t))).length]?
 |[]=>rfl
 |x::r=>by
  by_cases h:x<t
  .rw [List.find?_cons_of_neg (by simpa using h),List.takeWhile_cons_of_pos (by simpa using h)];simp only [cz3,List.getElem?_cons_succ];exact bi4 r
  .rw [List.find?_cons_of_pos (by simp;omega),List.takeWhile_cons_of_neg (by simpa using h)];rfl
theorem bH1:D0 prog RG 100 cNext:=E5 (A5 bU7 C0) (λ_=>noL) (by kernel_rfl) (by kernel_rfl) (by kernel_rfl) λ(reg,fr,h,d,i,j,sp,rd,k,ce,op,ks,oc,cd,ou,()) e=>(cq1 reg fr h d i j sp rd k ce op ks oc cd ou).mpr (by
 have e:ah6 rd:=e;intro l f g a _ _ _ _ _;have m:a=getL rd reg:=rfl;have c:l=((a.takeWhile (λx=>decide (x<fr))).length:Int):=rfl;have b:g=(I2 rd d.length reg fr,f):=rfl;have n:I2 rd d.length reg fr=(a[(a.takeWhile (λx=>decide (x<fr))).length]?).getD d.length:=by rw [<-bi4];rfl
 have o:(a.takeWhile (λx=>decide (x<fr))).length<=a.length:=(List.takeWhile_prefix _).length_le;rw [n] at b
 clear_value g f
 refine ⟨e reg,λq=>?_,λq=>?_⟩
 .rw [c] at q;have q:(a.takeWhile (λx=>decide (x<fr))).length=a.length:=by have:=eq_of_beq q;omega
  rw [b,List.getElem?_eq_none (by omega)];rfl
 .rw [c] at q |-;have q:¬ (a.takeWhile (λx=>decide (x<fr))).length=a.length:=by have:=beq_eq_false_iff_ne.1 q;omega
  refine ⟨by omega,?_⟩;rw [b,cy0,cz1,cx8 (by omega)];rfl)
theorem bi5:D0 prog RG 102 cBetter:=E5 C0 (λ_=>noL) (by kernel_rfl) (by kernel_rfl) (by kernel_rfl) λ(a,b,c,d,e,f,()) _=>(bU6 a b c d e f).mpr rfl
theorem cq4 (l:List Held) (r:l≠[]):vc (EV [(102,cBetter)]) (cp7 l) Go.Proofs.Tryd.f101 cBest (l,()):=by
 rw [cq2 l];intro n o e s hs;have hl:l.length<=140737488355328:=hs.len;have p:0<l.length:=by cases l with|nil=>exact absurd rfl r|cons=>simp
 have f:e=l.tail:=List.drop_one;have t:l.tail.length=l.length-1:=by simp
 have g:o=l.headD held0:=by show l.getD 0 held0=_;cases l<;>rfl
 have h:n=(e.length:Int):=rfl
 clear_value n o e
 subst h g f;dsimp only [s];simp only [true_and,and_true,Bool.cond_self];have u:(⟨0,0,0⟩:Held)=held0:=rfl;rw [u];refine ⟨by omega,by omega,⟨(0,(l.headD held0).slot,(l.headD held0).reg,(l.headD held0).next,()),rfl,rfl,rfl,rfl,Int.le_refl _,by dsimp only;omega,rfl⟩,?_⟩;rintro ⟨i,a,b,c,⟨⟩⟩ ⟨h0,h1,h2⟩;dsimp only at h0 h1 h2 |-;obtain ⟨k,rfl⟩:=cy3 h0;simp only [cy0] at h2 |-;refine ⟨λd=>?_,λj=>?_⟩
 .have d:(k:Int)<l.tail.length:=cy7 d;have q:(l.tail.take (k+1)).foldl F4 (l.headD held0)=F4 ⟨a,b,c⟩ (l.tail.getD k held0):=by
   rw [A4 (by omega) held0,List.foldl_append,<-h2];rfl
  generalize l.tail.getD k held0=y at q |-;refine ⟨⟨h0,d⟩,((k+1:Nat),(F4 ⟨a,b,c⟩ y).slot,(F4 ⟨a,b,c⟩ y).reg,(F4 ⟨a,b,c⟩ y).next,()),B3 (m:=l.length) (by omega) hl,?_,?_,?_,⟨by omega,by dsimp only;omega,by dsimp only;rw [cy0,q]⟩,by dsimp only;omega⟩
  all_goals
   show (bif Z5 ⟨y.slot,y.reg,y.next⟩ ⟨a,b,c⟩ then _ else _)=_;dsimp only [F4];rw [show (⟨y.slot,y.reg,y.next⟩:Held)=y from rfl];cases Z5 y ⟨a,b,c⟩<;>rfl
 .have v:k=l.tail.length:=by have:¬ (k:Int)<l.tail.length:=cy6 j;omega
  subst v;rw [cA5] at h2;rw [H4,<-h2]
theorem bH2:D0 prog RG 101 cBest:=E5 (A5 bi5 C0) (λp=>cp7 p.1) (by kernel_rfl) (by kernel_rfl) (by kernel_rfl) λ(l,()) a=>cq4 l a
def cRoom:Con RU:=⟨[one,one,one],i64::ints::tysA,[.ptr 0 0,.d 0,.d 1],objA 0 2,some λp=>match p with
  |(pl,st,a0,a1,a2,a3,sp,rd,ho,ce,op,ks,oc,cd,ou,())=>ah6 rd/\W8 sp rd ks a1.length ho pl st/\ks<=64/\0<=oc/\oc<=1000000000/\cd.length<=1000000000,
 none,[one],i64::tysA,[.d 0],objA 0 1,λp=>match p with
  |(pl,st,a0,a1,a2,a3,sp,rd,ho,ce,op,ks,oc,cd,ou,())=>((D4 sp rd ks a1.length ⟨ho,ce,oc,cd⟩ pl st).1,a0,a1,a2,a3,sp,rd,(D4 sp rd ks a1.length ⟨ho,ce,oc,cd⟩ pl st).2.holds,(D4 sp rd ks a1.length ⟨ho,ce,oc,cd⟩ pl st).2.cells,op,ks,(D4 sp rd ks a1.length ⟨ho,ce,oc,cd⟩ pl st).2.ocells,(D4 sp rd ks a1.length ⟨ho,ce,oc,cd⟩ pl st).2.code,ou,()),[],[],[]⟩
def cq5 (sp:Spans) (rd:Reads) (ks N:Int) (ho:Holds) (pl:Int) (st:List Int):Nat->St RU->Ann RU:=λ_ _=>⟨[8],[.slot 22,.row 900001],[i64,cu2],λp=>0<=p.1/\(p.1<=ks\/p.1=0)/\C1 sp rd N ho pl st (List.range p.1.toNat) []=(none,p.2.1),λp=>ks.toNat-p.1.toNat,[(.slot 8,900001,131,.user 4)]⟩
def cGetA:Con RU:=⟨[one,one],i64::tysA,[.d 0,.ptr 0 0],.box 79 [.ptr 1 0]::objA 1 1,some λp=>p.2.2.2.2.2.2.2.2.2.2.1<=64,none,[one],i64::tysA,[.d 0],.box 79 [.ptr 1 0]::objA 1 1,λp=>((C3 p.2.2.2.2.2.2.2.1 p.2.2.2.2.2.2.2.2.2.2.1 p.1).n,p.2),[0],[],[]⟩
def cCalledA:Con RU:=⟨[(true,5),one,one],aI9++tysA++[mapI],[.d 0,.d 1,.d 2,.d 3,.d 4,.clo 86 [0],.clo 87 [8]],.box 79 [.ptr 1 0]::objA 1 5++[.box 84 [.map 9],.map 18],some λp=>match p with
  |(x1,x2,x3,x4,x5,a0,a1,a2,a3,sp,rd,ho,ce,op,ks,oc,cd,ou,sl,())=>ah4 x3 x4 x5=true/\ks<=64,none,
 [(true,5)],aI9++tysA++[mapI],[.d 0,.d 1,.d 2,.d 3,.d 4],.box 79 [.ptr 1 0]::objA 1 5++[.box 84 [.map 9],.map 18],
 λp=>match p with
  |(x1,x2,x3,x4,x5,a0,a1,a2,a3,sp,rd,ho,ce,op,ks,oc,cd,ou,sl,())=>(x1,x2,x3.map (λn=>(C3 ho ks n).n),x4.map (getI sl),x5,a0,a1,a2,a3,sp,rd,ho,ce,op,ks,oc,cd,ou,sl,()),[0,8],[],[]⟩
def aY8 (x1 x2:Int) (x3 x4:List Int) (x5:List Ins) (ho:Holds) (ks:Int) (sl:List (Int×Int)):Nat->St RU->Ann RU:=λk s=>match k with
 |0=>⟨[],[.slot 20,.row 896],[i64,inss],λp=>0<=p.1/\p.1<=x4.length/\p.2.1=[⟨x1,x2,x3,(x4.take p.1.toNat).map (getI sl)++x4.drop p.1.toNat,x5⟩],λp=>x4.length-p.1.toNat,[]⟩
 |_=>⟨[],[.slot 36,.row 896],[i64,inss],λp=>0<=p.1/\p.1<=x3.length/\p.2.1=[⟨x1,x2,(x3.take p.1.toNat).map (λn=>(C3 ho ks n).n)++x3.drop p.1.toNat,x4.map (getI sl),x5⟩],λp=>x3.length-p.1.toNat,[]⟩
def cReads:Con RU:=⟨[(true,5)],aI9,[.d 0,.d 1,.d 2,.d 3,.d 4],[],none,none,[one],aI9,[.clo 83 [0]],[.box 52 [.d 0,.d 1,.d 2,.d 3,.d 4]],λp=>p,[],[],[]⟩
def at2:Con RU:=⟨[one,one],[i64,i64,ints],[.d 0,.yld 0],[.loop 1,.box 23 [.row 2],.row 2],some λp=>p.2.1=0/\p.2.2.1.length<=17592186044400,none,[one],[.bool,i64,ints],[.d 0],[.loop 1,.box 23 [.row 2],.row 2],λp=>(true,0,p.2.2.1++[p.1],()),[],[(0,0),(1,1)],[(1,1000001)]⟩
def aY9:Con RU:=⟨[one,one],[i64,ints,i64,i64,ints,ints,inss],[.yld 0,.ptr 3 0],[.loop 0,.box 23 [.row 2],.row 1,.box 52 [.d 2,.d 3,.d 4,.d 5,.d 6]],some λp=>p.1=0/\p.2.1.length+p.2.2.2.2.2.1.length<=17592186044400,none,[],[i64,ints],[],[.loop 0,.box 23 [.row 2],.row 1,.box 52 [.un,.un,.un,.un,.un]],
 λp=>(0,p.2.1++B0 p.2.2.2.2.2.1,()),[],[(0,0),(1,1)],[(1,384)]⟩
def itDo:FuncId->List (Con RU×Con RU×List (Nat×Nat)):=λf=>bif Nat.beq f 83 then [(aY9,at2,[(0,0),(1,1),(2,2)])] else []
def br1 (fr:List Int) (r0:List Int):Nat->St RU->Ann RU:=λ_ _=>⟨[],[.slot 8,.row 1000000,.row 1000002],[i64,i64,ints],λp=>0<=p.1/\p.1<=fr.length/\p.2.1=0/\p.2.2.1=r0++B0 (fr.take p.1.toNat),λp=>fr.length-p.1.toNat,[]⟩
def cDo:Con RU:=⟨[one,one,(true,5)],i64::aI9++tysA,[.ptr 0 0,.d 0,.d 1,.d 2,.d 3,.d 4,.d 5],objA 0 6,some λp=>match p with
  |(i,x1,x2,x3,x4,x5,a0,a1,a2,a3,sp,rd,ho,ce,op,ks,oc,cd,ou,())=>ah4 x3 x4 x5=true/\x4.length<=17592186044400/\(B0 x4).length<=64/\x3.length<=64/\ah6 rd/\doOk sp rd ks a1.length i ⟨x1,x2,x3,x4,x5⟩ ⟨ho,ce,oc,cd⟩/\ks<=64/\0<=i/\i<=1000000/\0<=oc/\oc<=100000000/\cd.length<=100000000,
 none,[],tysA,[],objA 0 0,λp=>match p with
  |(i,x1,x2,x3,x4,x5,a0,a1,a2,a3,sp,rd,ho,ce,op,ks,oc,cd,ou,())=>(a0,a1,a2,a3,sp,rd,(doOf sp rd ks a1.length i ⟨x1,x2,x3,x4,x5⟩ ⟨ho,ce,oc,cd⟩).holds,(doOf sp rd ks a1.length i ⟨x1,x2,x3,x4,x5⟩ ⟨ho,ce,oc,cd⟩).cells,op,ks,(doOf sp rd ks a1.length i ⟨x1,x2,x3,x4,x5⟩ ⟨ho,ce,oc,cd⟩).ocells,(doOf sp rd ks a1.length i ⟨x1,x2,x3,x4,x5⟩ ⟨ho,ce,oc,cd⟩).code,ou,()),[],[],[]⟩
def lDo (sp:Spans) (rd:Reads) (ks N i:Int) (x3 x4:List Int) (s0:AS):Nat->St RU->Ann RU:=λk s=>match k with
 |0=>⟨[],[],[],λ_=>False,λ_=>0,[(.box 384 0,900001,3,i64)]⟩
 |1=>⟨[],[.slot 27,.row 1000003,.row 1000004,.box 1000000 10,.row 1000005],[i64,mapP,mapI,i64,al6],λp=>0<=p.1/\p.1<=(B0 x4).length/\C4 sp rd ks N i (B0 x4) s0 ((B0 x4).take p.1.toNat)=⟨p.2.1,p.2.2.1,p.2.2.2.1,p.2.2.2.2.1⟩,λp=>(B0 x4).length-p.1.toNat,[(.cell 384 0,0,3,i64),(.row 25,0,3,i64)]⟩
 |2=>⟨[],[.slot 61,.row 3712],[i64,mapI],λp=>0<=p.1/\p.1<=(B0 x4).length/\p.2.1=S5 (C4 sp rd ks N i (B0 x4) s0 (B0 x4)).holds ks ((B0 x4).take p.1.toNat),λp=>(B0 x4).length-p.1.toNat,[]⟩
 |_=>⟨[],[.slot 75,.row 1000003,.row 1000004,.box 1000000 10,.row 1000005],[i64,mapP,mapI,i64,al6],λp=>0<=p.1/\p.1<=x3.length/\L4 sp rd ks N i x3 (C4 sp rd ks N i (B0 x4) s0 (B0 x4)) (x3.take p.1.toNat)=⟨p.2.1,p.2.2.1,p.2.2.2.1,p.2.2.2.2.1⟩,λp=>x3.length-p.1.toNat,[]⟩
theorem cq6 (pl:Int) (st:List Int) (f:Int) (b:List Ins) (d e:List Int) (sp:Spans) (rd:Reads) (a:Holds) (ce:List (Int×Int)) (op ks oc:Int) (cd:List RIns) (ou:List Place):vc (EV [(100,cNext),(61,cContains),(69,cAt),(101,cBest),(85,cPutA)]) (cq5 sp rd ks b.length a pl st) Go.Proofs.Tryd.f84 cRoom (pl,st,f,b,d,e,sp,rd,a,ce,op,ks,oc,cd,ou,())=(
 let h:Int×Int×List Ins×List Int×List Int×List (Int×Span)×List (Int×List Int)×List (Place×Int)×List (Int×Int)×Int×Int×Int×List RIns×List Place×Unit:=
  ((D4 sp rd ks (↑(List.length b):Int) (AS.mk a ce oc cd) pl st).1,f,b,d,e,sp,rd,(D4 sp rd ks (↑(List.length b):Int) (AS.mk a ce oc cd) pl st).2.holds,
  (D4 sp rd ks (↑(List.length b):Int) (AS.mk a ce oc cd) pl st).2.cells,op,ks,(D4 sp rd ks (↑(List.length b):Int) (AS.mk a ce oc cd) pl st).2.ocells,
  (D4 sp rd ks (↑(List.length b):Int) (AS.mk a ce oc cd) pl st).2.code,ou,());
 let i:Int×List Ins×List Int×List Int×List (Int×Span)×List (Int×List Int)×List (Place×Int)×List (Int×Int)×Int×Int×Int×List RIns×List Place×Unit:=
  (f,b,d,e,sp,rd,a,ce,op,ks,oc,cd,ou,());
  Small RU (Sigma.mk (Ty.slice (3:Nat) (Ty.int IntKind.i64)) st)->
  Small RU (Sigma.mk (Ty.slice (52:Nat) (Ty.user (0:Nat))) b)->
  Small RU (Sigma.mk (Ty.slice (3:Nat) (Ty.int IntKind.i64)) d)->
  Small RU (Sigma.mk (Ty.slice (3:Nat) (Ty.int IntKind.i64)) e)->
  Small RU (Sigma.mk (Ty.slice (55:Nat) (Ty.user (1:Nat))) cd)->
  Small RU (Sigma.mk (Ty.slice (59:Nat) (Ty.user (2:Nat))) ou)->
  (∃ (p:Int×List Held×Unit),
  pl=pl/\
  st=st/\
  ks=ks/\
  (0:Int)=p.1/\
  f=f/\
  b=b/\
  d=d/\
  e=e/\
  op=op/\
  ks=ks/\
  oc=oc/\
  sp=sp/\
  rd=rd/\
  a=a/\
  ce=ce/\
  cd=cd/\
  ou=ou/\
  []=p.2.1/\
  (0:Int)<=p.1/\
  (p.1<=ks\/p.1=(0:Int))/\C1 sp rd (↑(List.length b):Int) a pl st (List.range (Int.toNat p.1)) []=(none,p.2.1))/\
  ∀ (p:Int×List Held×Unit),
 let e0_1:Bool:=!Option.isSome (mget (λ(x y:Int)=>x==y) ce (H4 p.2.1).reg);
 let e1_1:Bool:=
  !I1
  (Option.getD (mget (λ(x y:Int)=>x==y) sp (Option.getD (mget (F6 RU (Ty.user (2:Nat))) a (Place.mk false p.1)) (0:Int))) (Span.mk (0:Int) (0:Int))).first
  (Option.getD (mget (λ(x y:Int)=>x==y) sp (Option.getD (mget (F6 RU (Ty.user (2:Nat))) a (Place.mk false p.1)) (0:Int))) (Span.mk (0:Int) (0:Int))).last pl;
 let g:List Held:=p.2.1;
 let j:List Held:=
  [Held.mk p.1 (Option.getD (mget (F6 RU (Ty.user (2:Nat))) a (Place.mk false p.1)) (0:Int))
  (I2 rd (↑(List.length b):Int) (Option.getD (mget (F6 RU (Ty.user (2:Nat))) a (Place.mk false p.1)) (0:Int)) pl)];
 let c:Int:=p.1;
 let k:Bool:=List.contains st (Option.getD (mget (F6 RU (Ty.user (2:Nat))) a (Place.mk false c)) (0:Int));
 let l:Bool:=decide (c<ks);
 let m:Bool:=!Option.isSome (mget (F6 RU (Ty.user (2:Nat))) a (Place.mk false c));
  (0:Int)<=c/\(c<=ks\/c=(0:Int))/\C1 sp rd (↑(List.length b):Int) a pl st (List.range (Int.toNat c)) []=(none,g)->
  (l=true->
  (m=true->(c,i)=h)/\
  (m=false->
  (k=true->
  ∃ (p':Int×List Held×Unit),
  pl=pl/\
  st=st/\
  ks=ks/\
  IntKind.i64.wrap (c+(1:Int))=p'.1/\
  f=f/\
  b=b/\
  d=d/\
  e=e/\
  op=op/\
  ks=ks/\
  oc=oc/\
  sp=sp/\
  rd=rd/\
  a=a/\
  ce=ce/\
  cd=cd/\
  ou=ou/\
  g=p'.2.1/\
  ((0:Int)<=p'.1/\
  (p'.1<=ks\/p'.1=(0:Int))/\
  C1 sp rd (↑(List.length b):Int) a pl st (List.range (Int.toNat p'.1)) []=(none,p'.2.1))/\
  Int.toNat ks-Int.toNat p'.1<Int.toNat ks-Int.toNat c)/\
  (k=false->
  (e1_1=true->(c,i)=h)/\
  (e1_1=false->
  (∀ (n:Int),List.Pairwise (λ(o q:Int)=>o<=q) (getL rd n))/\
  (List.length g+List.length j)*(24:Nat)<=(140737488355328:Nat)/\
  ∃ (p':Int×List Held×Unit),
  pl=pl/\
  st=st/\
  ks=ks/\
  IntKind.i64.wrap (c+(1:Int))=p'.1/\
  f=f/\
  b=b/\
  d=d/\
  e=e/\
  op=op/\
  ks=ks/\
  oc=oc/\
  sp=sp/\
  rd=rd/\
  a=a/\
  ce=ce/\
  cd=cd/\
  ou=ou/\
  g++j=p'.2.1/\
  ((0:Int)<=p'.1/\
  (p'.1<=ks\/p'.1=(0:Int))/\
  C1 sp rd (↑(List.length b):Int) a pl st (List.range (Int.toNat p'.1)) []=(none,p'.2.1))/\
  Int.toNat ks-Int.toNat p'.1<Int.toNat ks-Int.toNat c))))/\
  (l=false->
  g≠[]/\
  (e0_1=true->List.length cd<=(1000000000:Nat))/\
  (bif e0_1 then (H4 g).slot else (H4 g).slot,bif e0_1 then f else f,bif e0_1 then b else b,bif e0_1 then d else d,bif e0_1 then e else e,
  bif e0_1 then sp else sp,bif e0_1 then rd else rd,bif e0_1 then a else a,bif e0_1 then mput (λ(x y:Int)=>x==y) ce (H4 g).reg oc else ce,
  bif e0_1 then op else op,bif e0_1 then ks else ks,bif e0_1 then IntKind.i64.wrap (oc+(1:Int)) else oc,
  bif e0_1 then cd++[RIns.mk (2:Int) (H4 g).slot oc (Ins.mk (0:Int) (0:Int) [] [] [])] else cd,bif e0_1 then ou else ou,())=
  h)):=by kernel_rfl
theorem cq7 (n e:Int) (a:List Ins) (b c:List Int) (sp:Spans) (rd:Reads) (d:Holds) (ce:List (Int×Int)) (op ks oc:Int) (cd:List RIns) (ou:List Place):vc (EV [(54,cSlot)]) noL Go.Proofs.Tryd.f86 cGetA (n,e,a,b,c,sp,rd,d,ce,op,ks,oc,cd,ou,())=(
 let f:Int×Int×List Ins×List Int×List Int×List (Int×Span)×List (Int×List Int)×List (Place×Int)×List (Int×Int)×Int×Int×Int×List RIns×List Place×Unit:=
  ((C3 d ks n).n,e,a,b,c,sp,rd,d,ce,op,ks,oc,cd,ou,());
  Small RU (Sigma.mk (Ty.slice (52:Nat) (Ty.user (0:Nat))) a)->
  Small RU (Sigma.mk (Ty.slice (3:Nat) (Ty.int IntKind.i64)) b)->
  Small RU (Sigma.mk (Ty.slice (3:Nat) (Ty.int IntKind.i64)) c)->
  Small RU (Sigma.mk (Ty.slice (55:Nat) (Ty.user (1:Nat))) cd)->Small RU (Sigma.mk (Ty.slice (59:Nat) (Ty.user (2:Nat))) ou)->ks<=(64:Int)/\f=f):=by kernel_rfl
theorem cq8 (n:Int) (m:List (Int×Int)):vc (EV []) noL Go.Proofs.Tryd.f87 cOld (n,m,())=((Option.getD (mget (λ(x y:Int)=>x==y) m n) (0:Int),m,())=(getI m n,m,())):=by kernel_rfl
theorem bH3 (a b:Int) (c e:List Int) (d:List Ins) (m:Int) (j:List Ins) (k l:List Int) (sp:Spans) (rd:Reads) (f:Holds) (ce:List (Int×Int)) (op ks oc:Int) (cd:List RIns) (ou:List Place) (sl:List (Int×Int)):vc (EV [(96,cBody),(86,cGetA),(87,cOld)]) (aY8 a b c e d f ks sl) Go.Proofs.Tryd.f73 cCalledA (a,b,c,e,d,m,j,k,l,sp,rd,f,ce,op,ks,oc,cd,ou,sl,())=(
 let q:
  List Ins×
  Int×List Ins×List Int×List Int×List (Int×Span)×List (Int×List Int)×List (Place×Int)×List (Int×Int)×Int×Int×Int×List RIns×List Place×List (Int×Int)×Unit:=
  (d,m,j,k,l,sp,rd,f,ce,op,ks,oc,cd,ou,sl,());
 let g:Ins:=Ins.mk (0:Int) (0:Int) [] [] [];
 let h:List Ins:=[Ins.mk a b c e d];
 let i:Int:=(↑(List.length e):Int);
  Small RU (Sigma.mk (Ty.slice (3:Nat) (Ty.int IntKind.i64)) c)->
  Small RU (Sigma.mk (Ty.slice (3:Nat) (Ty.int IntKind.i64)) e)->
  Small RU (Sigma.mk (Ty.slice (52:Nat) (Ty.user (0:Nat))) d)->
  Small RU (Sigma.mk (Ty.slice (52:Nat) (Ty.user (0:Nat))) j)->
  Small RU (Sigma.mk (Ty.slice (3:Nat) (Ty.int IntKind.i64)) k)->
  Small RU (Sigma.mk (Ty.slice (3:Nat) (Ty.int IntKind.i64)) l)->
  Small RU (Sigma.mk (Ty.slice (55:Nat) (Ty.user (1:Nat))) cd)->
  Small RU (Sigma.mk (Ty.slice (59:Nat) (Ty.user (2:Nat))) ou)->
  (List.length h<=(1599289640354:Nat)/\K0 h=true)/\
  ((0:Int)<=(0:Int)/\(0:Int)<(↑(List.length h):Int))/\
  (∃ (p:Int×List Ins×Unit),
  a=a/\
  b=b/\
  c=c/\
  e=e/\
  d=d/\
  (0:Int)=(0:Int)/\
  i=i/\
  (0:Int)=p.1/\
  m=m/\
  j=j/\
  k=k/\
  l=l/\
  op=op/\
  ks=ks/\
  oc=oc/\
  sp=sp/\
  rd=rd/\
  f=f/\
  ce=ce/\
  cd=cd/\
  ou=ou/\
  sl=sl/\
  a=a/\
  b=b/\
  c=c/\
  e=e/\
  d=d/\
  (0:Int)=(0:Int)/\
  (0:Int)=(0:Int)/\
  h=h/\
  h=p.2.1/\
  a=a/\
  b=b/\
  (0:Int)=(0:Int)/\
  (0:Int)=(0:Int)/\
  d=d/\
  (0:Int)<=p.1/\
  p.1<=i/\
  p.2.1=
  [Ins.mk a b c
  (List.map (getI sl) (List.take (Int.toNat p.1) e)++List.drop (Int.toNat p.1) e) d])/\
  ∀ (p:Int×List Ins×Unit),
 let e0_1:Ins:=List.getD p.2.1 (0:Nat) g;
 let e1_1:Bool:=decide (p.1<i);
 let e2_1:Int:=p.1;
 let e3_1:List Ins:=p.2.1;
 let o:Int:=(↑(List.length e0_1.to):Int);
  (0:Int)<=e2_1/\e2_1<=i/\e3_1=[Ins.mk a b c (List.map (getI sl) (List.take (Int.toNat e2_1) e)++List.drop (Int.toNat e2_1) e) d]->
  (e1_1=true->
  ((0:Int)<=e2_1/\e2_1<(↑(List.length e0_1.from_):Int))/\
  (True/\sl=sl/\True)/\
  ((0:Int)<=e2_1/\e2_1<(↑(List.length e0_1.from_):Int))/\
  ∃ (p':Int×List Ins×Unit),
  a=a/\
  b=b/\
  c=c/\
  e=e/\
  d=d/\
  (0:Int)=(0:Int)/\
  i=i/\
  IntKind.i64.wrap (e2_1+(1:Int))=p'.1/\
  m=m/\
  j=j/\
  k=k/\
  l=l/\
  op=op/\
  ks=ks/\
  oc=oc/\
  sp=sp/\
  rd=rd/\
  f=f/\
  ce=ce/\
  cd=cd/\
  ou=ou/\
  sl=sl/\
  a=a/\
  b=b/\
  c=c/\
  e=e/\
  d=d/\
  (0:Int)=(0:Int)/\
  (0:Int)=(0:Int)/\
  h=h/\
  List.set e3_1 (0:Nat)
  (Ins.mk e0_1.op e0_1.n e0_1.to
  (List.set e0_1.from_ (Int.toNat e2_1)
  (getI sl (List.getD e0_1.from_ (Int.toNat e2_1) (0:Int))))
  e0_1.body)=
  p'.2.1/\
  a=a/\
  b=b/\
  (0:Int)=(0:Int)/\
  (0:Int)=(0:Int)/\
  d=d/\
  ((0:Int)<=p'.1/\
  p'.1<=i/\
  p'.2.1=
  [Ins.mk a b c
  (List.map (getI sl) (List.take (Int.toNat p'.1) e)++
  List.drop (Int.toNat p'.1) e)
  d])/\
  List.length e-Int.toNat p'.1<List.length e-Int.toNat e2_1)/\
  (e1_1=false->
  (∃ (p:Int×List Ins×Unit),
  a=a/\
  b=b/\
  c=c/\
  e=e/\
  d=d/\
  (0:Int)=(0:Int)/\
  i=i/\
  e2_1=e2_1/\
  e1_1=e1_1/\
  (0:Int)=(0:Int)/\
  o=o/\
  (0:Int)=p.1/\
  m=m/\
  j=j/\
  k=k/\
  l=l/\
  op=op/\
  ks=ks/\
  oc=oc/\
  sp=sp/\
  rd=rd/\
  f=f/\
  ce=ce/\
  cd=cd/\
  ou=ou/\
  sl=sl/\
  a=a/\
  b=b/\
  c=c/\
  e=e/\
  d=d/\
  (0:Int)=(0:Int)/\
  (0:Int)=(0:Int)/\
  h=h/\
  e3_1=p.2.1/\
  a=a/\
  b=b/\
  (0:Int)=(0:Int)/\
  (0:Int)=(0:Int)/\
  d=d/\
  (0:Int)<=p.1/\
  p.1<=(↑(List.length c):Int)/\
  p.2.1=
  [Ins.mk a b
  (List.map (λ(n:Int)=>(C3 f ks n).n)
  (List.take (Int.toNat p.1) c)++
  List.drop (Int.toNat p.1) c)
  (List.map (getI sl) e) d])/\
  ∀ (p:Int×List Ins×Unit),
 let e0_2:Ins:=List.getD p.2.1 (0:Nat) g;
 let g:Int:=p.1;
 let e2_2:Bool:=decide (g<o);
 let e3_2:List Ins:=p.2.1;
  (0:Int)<=g/\
  g<=(↑(List.length c):Int)/\
  e3_2=[Ins.mk a b (List.map (λ(n:Int)=>(C3 f ks n).n) (List.take (Int.toNat g) c)++List.drop (Int.toNat g) c) (List.map (getI sl) e) d]->
  (e2_2=true->
  ((0:Int)<=g/\g<(↑(List.length e0_2.to):Int))/\
  (ks<=(64:Int)/\True)/\
  ((0:Int)<=g/\g<(↑(List.length e0_2.to):Int))/\
  ∃ (p':Int×List Ins×Unit),
  a=a/\
  b=b/\
  c=c/\
  e=e/\
  d=d/\
  (0:Int)=(0:Int)/\
  i=i/\
  e2_1=e2_1/\
  e1_1=e1_1/\
  (0:Int)=(0:Int)/\
  o=o/\
  IntKind.i64.wrap (g+(1:Int))=p'.1/\
  m=m/\
  j=j/\
  k=k/\
  l=l/\
  op=op/\
  ks=ks/\
  oc=oc/\
  sp=sp/\
  rd=rd/\
  f=f/\
  ce=ce/\
  cd=cd/\
  ou=ou/\
  sl=sl/\
  a=a/\
  b=b/\
  c=c/\
  e=e/\
  d=d/\
  (0:Int)=(0:Int)/\
  (0:Int)=(0:Int)/\
  h=h/\
  List.set e3_2 (0:Nat)
  (Ins.mk e0_2.op e0_2.n
  (List.set e0_2.to (Int.toNat g)
  (C3 f ks (List.getD e0_2.to (Int.toNat g) (0:Int))).n)
  e0_2.from_ e0_2.body)=
  p'.2.1/\
  a=a/\
  b=b/\
  (0:Int)=(0:Int)/\
  (0:Int)=(0:Int)/\
  d=d/\
  ((0:Int)<=p'.1/\
  p'.1<=(↑(List.length c):Int)/\
  p'.2.1=
  [Ins.mk a b
  (List.map (λ(n:Int)=>(C3 f ks n).n)
  (List.take (Int.toNat p'.1) c)++
  List.drop (Int.toNat p'.1) c)
  (List.map (getI sl) e) d])/\
  List.length c-Int.toNat p'.1<List.length c-Int.toNat g)/\
  (e2_2=false->(a,b,e0_2.to,e0_2.from_,q)=(a,b,List.map (λ(n:Int)=>(C3 f ks n).n) c,List.map (getI sl) e,q)))):=by kernel_rfl
theorem ce8 (d e:Int) (a b:List Int) (c:List Ins):vc (EV []) noL Go.Proofs.Tryd.f52 cReads (d,e,a,b,c,())=(
 let f:Int×Int×List Int×List Int×List Ins×Unit:=(d,e,a,b,c,());
  Small RU (Sigma.mk (Ty.slice (3:Nat) (Ty.int IntKind.i64)) a)->
  Small RU (Sigma.mk (Ty.slice (3:Nat) (Ty.int IntKind.i64)) b)->Small RU (Sigma.mk (Ty.slice (52:Nat) (Ty.user (0:Nat))) c)->f=f):=by kernel_rfl
theorem bU8 (st:Int) (d:List Int) (g h:Int) (e a:List Int) (f:List Ins):vc (EVy [(0,0),(1,1)] (some at2) [(61,cContains)]) (br1 a d) Go.Proofs.Tryd.f83 aY9 (st,d,g,h,e,a,f,())=(
 let j:Int×List Int×Unit:=((0:Int),d++B0 a,());
 let b:Int:=(↑(List.length a):Int);
  Small RU (Sigma.mk (Ty.slice (3:Nat) (Ty.int IntKind.i64)) d)->
  Small RU (Sigma.mk (Ty.slice (3:Nat) (Ty.int IntKind.i64)) e)->
  Small RU (Sigma.mk (Ty.slice (3:Nat) (Ty.int IntKind.i64)) a)->
  Small RU (Sigma.mk (Ty.slice (52:Nat) (Ty.user (0:Nat))) f)->
  (∃ (p:Int×Int×List Int×Unit),
  a=a/\
  b=b/\
  (0:Int)=p.1/\
  st=p.2.1/\
  d=p.2.2.1/\
  g=g/\h=h/\e=e/\a=a/\f=f/\(0:Int)<=p.1/\p.1<=b/\p.2.1=(0:Int)/\p.2.2.1=d++B0 (List.take (Int.toNat p.1) a))/\
  ∀ (p:Int×Int×List Int×Unit),
 let e0_1:List Int:=p.2.2.1;
 let e1_1:List Int:=e0_1++[List.getD a (Int.toNat p.1) (0:Int)];
 let k:Bool:=List.contains (List.take (Int.toNat p.1) a) (List.getD a (Int.toNat p.1) (0:Int));
 let c:Int:=p.1;
 let i:Int:=p.2.1;
 let l:Bool:=decide (c<b);
  (0:Int)<=c/\c<=b/\i=(0:Int)/\e0_1=d++B0 (List.take (Int.toNat c) a)->
  (l=true->
  ((0:Int)<=c/\c<b)/\
  ((0:Int)<=c/\c<=b)/\
  (k=true->
  ∃ (p':Int×Int×List Int×Unit),
  a=a/\
  b=b/\
  IntKind.i64.wrap (c+(1:Int))=p'.1/\
  i=p'.2.1/\
  e0_1=p'.2.2.1/\
  g=g/\
  h=h/\
  e=e/\
  a=a/\
  f=f/\
  ((0:Int)<=p'.1/\p'.1<=b/\p'.2.1=(0:Int)/\p'.2.2.1=d++B0 (List.take (Int.toNat p'.1) a))/\
  List.length a-Int.toNat p'.1<List.length a-Int.toNat c)/\
  (k=false->
  (i=(0:Int)/\List.length e0_1<=(17592186044400:Nat))/\
  ((!true)=true->((0:Int),e1_1,())=j)/\
  ((!true)=false->
  ∃ (p':Int×Int×List Int×Unit),
  a=a/\
  b=b/\
  IntKind.i64.wrap (c+(1:Int))=p'.1/\
  (0:Int)=p'.2.1/\
  e1_1=p'.2.2.1/\
  g=g/\
  h=h/\
  e=e/\
  a=a/\
  f=f/\
  ((0:Int)<=p'.1/\p'.1<=b/\p'.2.1=(0:Int)/\p'.2.2.1=d++B0 (List.take (Int.toNat p'.1) a))/\
  List.length a-Int.toNat p'.1<List.length a-Int.toNat c)))/\
  (l=false->(i,e0_1,())=j)):=by kernel_rfl
theorem cx4 (i d e:Int) (c b:List Int) (f:List Ins) (l:Int) (h:List Ins) (j k:List Int) (sp:Spans) (rd:Reads) (o:Holds) (ce:List (Int×Int)) (op ks oc:Int) (cd:List RIns) (ou:List Place):vc (EVd [] itDo [(52,cReads),(54,cSlot),(84,cRoom),(85,cPutA),(73,cCalledA)]) (lDo sp rd ks h.length i c b ⟨o,ce,oc,cd⟩) Go.Proofs.Tryd.f53 cDo (i,d,e,c,b,f,l,h,j,k,sp,rd,o,ce,op,ks,oc,cd,ou,())=(
 let g:Int:=(↑(List.length ([]++B0 b)):Int);
 let a:List Int:=[]++B0 b;
 let t:AS:=doOf sp rd ks (↑(List.length h):Int) i (Ins.mk d e c b f) (AS.mk o ce oc cd);
 let m:Int:=(↑(List.length h):Int);
 let u:Int:=IntKind.i64.wrap (i+(1:Int));
 let q:Int:=(↑(List.length c):Int);
 let r:AS:=C4 sp rd ks m i (B0 b) (AS.mk o ce oc cd) (B0 b);
  Small RU (Sigma.mk (Ty.slice (3:Nat) (Ty.int IntKind.i64)) c)->
  Small RU (Sigma.mk (Ty.slice (3:Nat) (Ty.int IntKind.i64)) b)->
  Small RU (Sigma.mk (Ty.slice (52:Nat) (Ty.user (0:Nat))) f)->
  Small RU (Sigma.mk (Ty.slice (52:Nat) (Ty.user (0:Nat))) h)->
  Small RU (Sigma.mk (Ty.slice (3:Nat) (Ty.int IntKind.i64)) j)->
  Small RU (Sigma.mk (Ty.slice (3:Nat) (Ty.int IntKind.i64)) k)->
  Small RU (Sigma.mk (Ty.slice (55:Nat) (Ty.user (1:Nat))) cd)->
  Small RU (Sigma.mk (Ty.slice (59:Nat) (Ty.user (2:Nat))) ou)->
  (∀ (xs:Int×Int×List Int×Unit),
 let g:List Int:=xs.2.2.1;
  xs.2.1=(0:Int)/\List.length g<=(17592186044400:Nat)->
  Small RU (Sigma.mk (Ty.slice (3:Nat) (Ty.int IntKind.i64)) g)->
  xs.2.1=(0:Int)/\(List.length g+List.length [xs.1])*(8:Nat)<=(140737488355328:Nat)/\(true,(0:Int),g++[xs.1],())=at2.fn xs)/\
  ((0:Int)=(0:Int)/\List.length ([]:List Int)+List.length b<=(17592186044400:Nat))/\
  (0:Int)=(0:Int)/\
  (∃ (p:Int×List (Place×Int)×List (Int×Int)×Int×List RIns×Unit),
  i=i/\
  d=d/\
  e=e/\
  c=c/\
  b=b/\
  f=f/\
  a=a/\
  g=g/\
  (0:Int)=p.1/\
  l=l/\
  h=h/\
  j=j/\
  k=k/\
  op=op/\
  ks=ks/\
  oc=p.2.2.2.1/\
  sp=sp/\
  rd=rd/\
  o=p.2.1/\
  ce=p.2.2.1/\
  cd=p.2.2.2.2.1/\
  ou=ou/\
  d=d/\
  e=e/\
  c=c/\
  b=b/\
  f=f/\
  a=a/\
  a=a/\
  (0:Int)<=p.1/\
  p.1<=(↑(List.length (B0 b)):Int)/\
  C4 sp rd ks m i (B0 b) (AS.mk o ce oc cd) (List.take (Int.toNat p.1) (B0 b))=
  AS.mk p.2.1 p.2.2.1 p.2.2.2.1 p.2.2.2.2.1)/\
  ∀ (p:Int×List (Place×Int)×List (Int×Int)×Int×List RIns×Unit),
 let e0_1:AS:=(D4 sp rd ks m (AS.mk p.2.1 p.2.2.1 p.2.2.2.1 p.2.2.2.2.1) i a).2;
 let e1_1:Int:=p.2.2.2.1;
 let e2_1:List RIns:=p.2.2.2.2.1;
 let e3_1:List (Place×Int):=p.2.1;
 let e4_1:List (Int×Int):=p.2.2.1;
 let e5_1:Bool:=decide (p.1<g);
 let e6_1:Int:=p.1;
 let v:Bool:=
  !((C3 e3_1 ks (List.getD a (Int.toNat e6_1) (0:Int))).cell==true&&((C3 e3_1 ks (List.getD a (Int.toNat e6_1) (0:Int))).n==(-1:Int)&&true));
 let w:Int:=(D4 sp rd ks m (AS.mk e3_1 e4_1 e1_1 e2_1) i a).1;
 let s:Int:=(↑(List.length (B0 b)):Int);
  (0:Int)<=e6_1/\e6_1<=s/\C4 sp rd ks m i (B0 b) (AS.mk o ce oc cd) (List.take (Int.toNat e6_1) (B0 b))=AS.mk e3_1 e4_1 e1_1 e2_1->
  (e5_1=true->
  ((0:Int)<=e6_1/\e6_1<g)/\
  ks<=(64:Int)/\
  (v=true->
  ∃ (p':Int×List (Place×Int)×List (Int×Int)×Int×List RIns×Unit),
  i=i/\
  d=d/\
  e=e/\
  c=c/\
  b=b/\
  f=f/\
  a=a/\
  g=g/\
  IntKind.i64.wrap (e6_1+(1:Int))=p'.1/\
  l=l/\
  h=h/\
  j=j/\
  k=k/\
  op=op/\
  ks=ks/\
  e1_1=p'.2.2.2.1/\
  sp=sp/\
  rd=rd/\
  e3_1=p'.2.1/\
  e4_1=p'.2.2.1/\
  e2_1=p'.2.2.2.2.1/\
  ou=ou/\
  d=d/\
  e=e/\
  c=c/\
  b=b/\
  f=f/\
  a=a/\
  a=a/\
  ((0:Int)<=p'.1/\
  p'.1<=s/\
  C4 sp rd ks m i (B0 b) (AS.mk o ce oc cd)
  (List.take (Int.toNat p'.1) (B0 b))=
  AS.mk p'.2.1 p'.2.2.1 p'.2.2.2.1 p'.2.2.2.2.1)/\
  List.length (B0 b)-Int.toNat p'.1<List.length (B0 b)-Int.toNat e6_1)/\
  (v=false->
  ((∀ (n:Int),List.Pairwise (λ(d e:Int)=>d<=e) (getL rd n))/\
  ((H8 sp rd ks m e3_1 i a).1=none->(H8 sp rd ks m e3_1 i a).2≠[])/\
  ks<=(64:Int)/\(0:Int)<=e1_1/\e1_1<=(1000000000:Int)/\List.length e2_1<=(1000000000:Nat))/\
  List.length e0_1.code<=(1000000000:Nat)/\
  ∃ (p':Int×List (Place×Int)×List (Int×Int)×Int×List RIns×Unit),
  i=i/\
  d=d/\
  e=e/\
  c=c/\
  b=b/\
  f=f/\
  a=a/\
  g=g/\
  IntKind.i64.wrap (e6_1+(1:Int))=p'.1/\
  l=l/\
  h=h/\
  j=j/\
  k=k/\
  op=op/\
  ks=ks/\
  e0_1.ocells=p'.2.2.2.1/\
  sp=sp/\
  rd=rd/\
  mput (F6 RU (Ty.user (2:Nat))) e0_1.holds (Place.mk false w) (List.getD a (Int.toNat e6_1) (0:Int))=
  p'.2.1/\
  e0_1.cells=p'.2.2.1/\
  e0_1.code++
  [RIns.mk (1:Int) w
  (Option.getD (mget (λ(x y:Int)=>x==y) e0_1.cells (List.getD a (Int.toNat e6_1) (0:Int)))
  (0:Int))
  (Ins.mk (0:Int) (0:Int) [] [] [])]=
  p'.2.2.2.2.1/\
  ou=ou/\
  d=d/\
  e=e/\
  c=c/\
  b=b/\
  f=f/\
  a=a/\
  a=a/\
  ((0:Int)<=p'.1/\
  p'.1<=s/\
  C4 sp rd ks m i (B0 b) (AS.mk o ce oc cd)
  (List.take (Int.toNat p'.1) (B0 b))=
  AS.mk p'.2.1 p'.2.2.1 p'.2.2.2.1 p'.2.2.2.2.1)/\
  List.length (B0 b)-Int.toNat p'.1<List.length (B0 b)-Int.toNat e6_1))/\
  (e5_1=false->
  (∃ (p:Int×List (Int×Int)×Unit),
  i=i/\
  d=d/\
  e=e/\
  c=c/\
  b=b/\
  f=f/\
  a=a/\
  g=g/\
  e6_1=e6_1/\
  e5_1=e5_1/\
  a=a/\
  g=g/\
  (0:Int)=p.1/\
  l=l/\
  h=h/\
  j=j/\
  k=k/\
  op=op/\
  ks=ks/\
  e1_1=e1_1/\
  sp=sp/\
  rd=rd/\
  e3_1=e3_1/\
  e4_1=e4_1/\
  e2_1=e2_1/\
  ou=ou/\
  d=d/\
  e=e/\
  c=c/\
  b=b/\
  f=f/\
  a=a/\
  a=a/\
  []=p.2.1/\
  (0:Int)<=p.1/\
  p.1<=s/\p.2.1=S5 r.holds ks (List.take (Int.toNat p.1) (B0 b)))/\
  ∀ (p:Int×List (Int×Int)×Unit),
 let e0_2:Bool:=decide (p.1<g);
 let e1_2:List (Int×Int):=p.2.1;
 let e2_2:Int:=p.1;
  (0:Int)<=e2_2/\e2_2<=s/\e1_2=S5 r.holds ks (List.take (Int.toNat e2_2) (B0 b))->
  (e0_2=true->
  ((0:Int)<=e2_2/\e2_2<g)/\
  ks<=(64:Int)/\
  ∃ (p':Int×List (Int×Int)×Unit),
  i=i/\
  d=d/\
  e=e/\
  c=c/\
  b=b/\
  f=f/\
  a=a/\
  g=g/\
  e6_1=e6_1/\
  e5_1=e5_1/\
  a=a/\
  g=g/\
  IntKind.i64.wrap (e2_2+(1:Int))=p'.1/\
  l=l/\
  h=h/\
  j=j/\
  k=k/\
  op=op/\
  ks=ks/\
  e1_1=e1_1/\
  sp=sp/\
  rd=rd/\
  e3_1=e3_1/\
  e4_1=e4_1/\
  e2_1=e2_1/\
  ou=ou/\
  d=d/\
  e=e/\
  c=c/\
  b=b/\
  f=f/\
  a=a/\
  a=a/\
  mput (λ(x y:Int)=>x==y) e1_2 (List.getD a (Int.toNat e2_2) (0:Int))
  (C3 e3_1 ks (List.getD a (Int.toNat e2_2) (0:Int))).n=
  p'.2.1/\
  ((0:Int)<=p'.1/\
  p'.1<=s/\
  p'.2.1=S5 r.holds ks (List.take (Int.toNat p'.1) (B0 b)))/\
  List.length (B0 b)-Int.toNat p'.1<
  List.length (B0 b)-Int.toNat e2_2)/\
  (e0_2=false->
  (∃ (p:Int×List (Place×Int)×List (Int×Int)×Int×List RIns×Unit),
  i=i/\
  d=d/\
  e=e/\
  c=c/\
  b=b/\
  f=f/\
  a=a/\
  g=g/\
  e6_1=e6_1/\
  e5_1=e5_1/\
  a=a/\
  g=g/\
  e2_2=e2_2/\
  e0_2=e0_2/\
  c=c/\
  q=q/\
  (0:Int)=p.1/\
  l=l/\
  h=h/\
  j=j/\
  k=k/\
  op=op/\
  ks=ks/\
  e1_1=p.2.2.2.1/\
  sp=sp/\
  rd=rd/\
  e3_1=p.2.1/\
  e4_1=p.2.2.1/\
  e2_1=p.2.2.2.2.1/\
  ou=ou/\
  d=d/\
  e=e/\
  c=c/\
  b=b/\
  f=f/\
  a=a/\
  a=a/\
  e1_2=e1_2/\
  (0:Int)<=p.1/\
  p.1<=q/\
  L4 sp rd ks m i c r (List.take (Int.toNat p.1) c)=
  AS.mk p.2.1 p.2.2.1 p.2.2.2.1 p.2.2.2.2.1)/\
  ∀ (p:Int×List (Place×Int)×List (Int×Int)×Int×List RIns×Unit),
 let e0_3:AS:=(D4 sp rd ks m (AS.mk p.2.1 p.2.2.1 p.2.2.2.1 p.2.2.2.2.1) u c).2;
 let e1_3:AS:=AS.mk p.2.1 p.2.2.1 p.2.2.2.1 p.2.2.2.2.1;
 let e2_3:Int:=p.2.2.2.1;
 let e3_2:List RIns:=p.2.2.2.2.1;
 let e4_2:List (Place×Int):=p.2.1;
 let e5_2:Int:=p.1;
 let e6_2:Bool:=decide (e5_2<q);
  (0:Int)<=e5_2/\e5_2<=q/\L4 sp rd ks m i c r (List.take (Int.toNat e5_2) c)=e1_3->
  (e6_2=true->
  ((0:Int)<=e5_2/\e5_2<q)/\
  ((∀ (n:Int),List.Pairwise (λ(d e:Int)=>d<=e) (getL rd n))/\
  ((H8 sp rd ks m e4_2 u c).1=none->(H8 sp rd ks m e4_2 u c).2≠[])/\
  ks<=(64:Int)/\(0:Int)<=e2_3/\e2_3<=(1000000000:Int)/\List.length e3_2<=(1000000000:Nat))/\
  ∃ (p':Int×List (Place×Int)×List (Int×Int)×Int×List RIns×Unit),
  i=i/\
  d=d/\
  e=e/\
  c=c/\
  b=b/\
  f=f/\
  a=a/\
  g=g/\
  e6_1=e6_1/\
  e5_1=e5_1/\
  a=a/\
  g=g/\
  e2_2=e2_2/\
  e0_2=e0_2/\
  c=c/\
  q=q/\
  IntKind.i64.wrap (e5_2+(1:Int))=p'.1/\
  l=l/\
  h=h/\
  j=j/\
  k=k/\
  op=op/\
  ks=ks/\
  e0_3.ocells=p'.2.2.2.1/\
  sp=sp/\
  rd=rd/\
  mput (F6 RU (Ty.user (2:Nat))) e0_3.holds
  (Place.mk false (D4 sp rd ks m e1_3 u c).1)
  (List.getD c (Int.toNat e5_2) (0:Int))=
  p'.2.1/\
  e0_3.cells=p'.2.2.1/\
  e0_3.code=p'.2.2.2.2.1/\
  ou=ou/\
  d=d/\
  e=e/\
  c=c/\
  b=b/\
  f=f/\
  a=a/\
  a=a/\
  e1_2=e1_2/\
  ((0:Int)<=p'.1/\
  p'.1<=q/\
  L4 sp rd ks m i c r
  (List.take (Int.toNat p'.1) c)=
  AS.mk p'.2.1 p'.2.2.1 p'.2.2.2.1
  p'.2.2.2.2.1)/\
  List.length c-Int.toNat p'.1<
  List.length c-Int.toNat e5_2)/\
  (e6_2=false->
  (((ah4 c b f=true/\ks<=(64:Int))/\True)/\True)/\
  List.length e3_2<=(1000000000:Nat)/\
  (l,h,j,k,sp,rd,e4_2,p.2.2.1,op,ks,e2_3,
  e3_2++
  [RIns.mk (0:Int) (0:Int) (0:Int) (Ins.mk d e (List.map (λ(n:Int)=>(C3 e4_2 ks n).n) c) (List.map (getI e1_2) b) f)],
  ou,())=
  (l,h,j,k,sp,rd,t.holds,t.cells,op,ks,t.ocells,t.code,ou,()))))):=by kernel_rfl
theorem Z0 (sp:Spans) (rd:Reads) (N:Int) (m:Holds) (pl:Int) (st:List Int) (r:List Nat):∀ (l:List Nat) (acc:List Held),C1 sp rd N m pl st (l++r) acc=match C1 sp rd N m pl st l acc with
  |(none,acc')=>C1 sp rd N m pl st r acc'
  |x=>x
 |[],acc=>rfl
 |s::l,acc=>by
  simp only [List.cons_append,C1];cases mget eqP m ⟨false,(s:Int)⟩ with
  |none=>rfl
  |some n=>
   simp only;cases st.contains n with
   |true=>exact Z0 sp rd N m pl st r l acc
   |false=>
    simp only [cond_false];cases I1 (getS sp n).first (getS sp n).last pl with
    |true=>exact Z0 sp rd N m pl st r l _
    |false=>rfl
theorem ah7 (sp:Spans) (rd:Reads) (N:Int) (m:Holds) (pl:Int) (st:List Int):∀ (l:List Nat) (acc:List Held),(C1 sp rd N m pl st l acc).2.length<=acc.length+l.length
 |[],acc=>by simp [C1]
 |s::l,acc=>by
  simp only [C1];cases mget eqP m ⟨false,(s:Int)⟩ with
  |none=>simp
  |some n=>
   simp only;cases st.contains n with
   |true=>have:=ah7 sp rd N m pl st l acc;simp only [cond_true,cz3];omega
   |false=>
    simp only [cond_false];cases I1 (getS sp n).first (getS sp n).last pl with
    |true=>have:=ah7 sp rd N m pl st l (acc++[⟨(s:Int),n,I2 rd N n pl⟩]);simp only [cond_true,cz3,cz8,List.length_nil] at this |-;omega
    |false=>simp
theorem at3 {sp:Spans} {rd:Reads} {N:Int} {m:Holds} {pl:Int} {st:List Int} {k:Nat} {acc:List Held} (h:C1 sp rd N m pl st (List.range k) []=(none,acc)):C1 sp rd N m pl st (List.range (k+1)) []=C1 sp rd N m pl st [k] acc:=by rw [List.range_succ,Z0,h]
theorem aZ0 {sp:Spans} {rd:Reads} {N:Int} {m:Holds} {pl:Int} {st:List Int} {k n:Nat} {acc:List Held} (a:k<n) (h:C1 sp rd N m pl st (List.range k) []=(none,acc)) {i:Int} (h2:C1 sp rd N m pl st [k] acc=(some i,acc)):C1 sp rd N m pl st (List.range n) []=(some i,acc):=by
 have:List.range n=List.range (k+1)++(List.range (n-(k+1))).map ((k+1)+·):=by rw [<-List.range_add];congr 1;omega
 rw [this,Z0,at3 h,h2]
theorem cq9 (pl:Int) (st:List Int) (m:Int) (b:List Ins) (o p:List Int) (sp:Spans) (rd:Reads) (a:Holds) (ce:List (Int×Int)) (op ks oc:Int) (cd:List RIns) (ou:List Place)
  (x:ah6 rd/\W8 sp rd ks b.length a pl st/\ks<=64/\0<=oc/\oc<=1000000000/\cd.length<=1000000000):vc (EV [(100,cNext),(61,cContains),(69,cAt),(101,cBest),(85,cPutA)]) (cq5 sp rd ks b.length a pl st) Go.Proofs.Tryd.f84 cRoom (pl,st,m,b,o,p,sp,rd,a,ce,op,ks,oc,cd,ou,()):=by
 rw [cq6 pl st m b o p sp rd a ce op ks oc cd ou];intro q r _ _ _ _ _ _;obtain ⟨s,e,y,z,A,t⟩:=x;have c:q=((D4 sp rd ks b.length ⟨a,ce,oc,cd⟩ pl st).1,m,b,o,p,sp,rd,(D4 sp rd ks b.length ⟨a,ce,oc,cd⟩ pl st).2.holds,(D4 sp rd ks b.length ⟨a,ce,oc,cd⟩ pl st).2.cells,op,ks,(D4 sp rd ks b.length ⟨a,ce,oc,cd⟩ pl st).2.ocells,(D4 sp rd ks b.length ⟨a,ce,oc,cd⟩ pl st).2.code,ou,()):=rfl;have u:r=(m,b,o,p,sp,rd,a,ce,op,ks,oc,cd,ou,()):=rfl
 clear_value q r
 generalize (b.length:Int)=N at e c |-;simp only [true_and,and_true,Bool.cond_self];refine ⟨⟨(0,[],()),rfl,rfl,Int.le_refl _,.inr rfl,rfl⟩,?_⟩;rintro ⟨i,l,⟨⟩⟩ ⟨h0,h1,h2⟩;dsimp only at h0 h1 h2 |-;obtain ⟨k,rfl⟩:=cy3 h0;simp only [cy0] at h2 |-;have d:=ah7 sp rd N a pl st (List.range k) [];rw [h2] at d;simp only [List.length_nil,List.length_range,Nat.zero_add] at d;refine ⟨λf=>?_,λg=>?_⟩
 .have f:(k:Int)<ks:=cy7 f;have stop:C1 sp rd N a pl st [k] l=(some (k:Int),l)->((k:Int),r)=q:=λh=>by
   have hr:(H8 sp rd ks N a pl st)=(some (k:Int),l):=aZ0 (by omega) h2 h;have:D4 sp rd ks N ⟨a,ce,oc,cd⟩ pl st=((k:Int),⟨a,ce,oc,cd⟩):=by simp only [D4,hr]
   rw [c,this,u]
  have next:∀ l',C1 sp rd N a pl st [k] l=(none,l')->∃ p':Int×List Held×Unit,IntKind.i64.wrap ((k:Int)+1)=p'.1/\l'=p'.2.1/\(0<=p'.1/\(p'.1<=ks\/p'.1=0)/\C1 sp rd N a pl st (List.range p'.1.toNat) []=(none,p'.2.1))/\ks.toNat-p'.1.toNat<ks.toNat-k:=λl' h=>
   ⟨((k+1:Nat),l',()),by rw [M1 (by omega) (by omega)];rfl,rfl,⟨by omega,.inl (by dsimp only;omega),by dsimp only;rw [cy0,at3 h2,h]⟩,by dsimp only;omega⟩
  show ((!(mget eqP a ⟨false,(k:Int)⟩).isSome)=true->_)/\((!(mget eqP a ⟨false,(k:Int)⟩).isSome)=false->_);cases j:mget eqP a ⟨false,(k:Int)⟩ with
  |none=>refine ⟨λ_=>stop ?_,λh=>(by cases h)⟩;simp only [C1,j]
  |some n=>
   refine ⟨λh=>(by cases h),λ_=>?_⟩;have v:mget (F6 RU (Ty.user 2)) a ⟨false,(k:Int)⟩=some n:=j;simp only [v,Option.getD_some];refine ⟨λh=>?_,λh=>⟨λh3=>stop ?_,λh3=>⟨s,?_,?_⟩⟩⟩
   .exact next l (by simp only [C1,j,h,cond_true])
   .have h3:I1 (getS sp n).first (getS sp n).last pl=false:=by simpa [getS] using h3
    simp only [C1,j,h,h3,cond_false]
   .simp only [cz3,List.length_nil];omega
   .have h3:I1 (getS sp n).first (getS sp n).last pl=true:=by simpa [getS] using h3
    exact next _ (by simp only [C1,j,h,h3,cond_false,cond_true])
 .have g:¬ (k:Int)<ks:=cy6 g;have hr:H8 sp rd ks N a pl st=(none,l):=by
   rw [<-h2];show C1 sp rd N a pl st (List.range ks.toNat) []=_;congr 2;omega
  have w:l≠[]:=by have:=e;unfold W8 at this;rw [hr] at this;exact this rfl
  have B:D4 sp rd ks N ⟨a,ce,oc,cd⟩ pl st=((H4 l).slot,aw2 ⟨a,ce,oc,cd⟩ (H4 l)):=by simp only [D4,hr]
  rw [B] at c;refine ⟨w,λ_=>t,?_⟩;rw [c];dsimp only [aw2];show (_,_,_,_,_,_,_,_,(bif !(mget eqI ce (H4 l).reg).isSome then mput eqI ce (H4 l).reg oc else ce),_,_,(bif !(mget eqI ce (H4 l).reg).isSome then IntKind.i64.wrap (oc+1) else oc),(bif !(mget eqI ce (H4 l).reg).isSome then cd++[⟨2,(H4 l).slot,oc,ins0⟩] else cd),_,_)=_;rw [M1 (by omega) (by omega)];cases (mget eqI ce (H4 l).reg).isSome<;>rfl
theorem bH4:D0 prog RG 84 cRoom:=E5 (A5 bH1 (A5 N8 (A5 by2 (A5 bH2 (A5 aR9 C0))))) (λ(pl,st,c,a,d,e,sp,rd,b,ce,op,ks,oc,cd,ou,())=>cq5 sp rd ks a.length b pl st) (by kernel_rfl) (by kernel_rfl) (by kernel_rfl) λ(pl,st,c,a,d,e,sp,rd,b,ce,op,ks,oc,cd,ou,()) f=>cq9 pl st c a d e sp rd b ce op ks oc cd ou f
theorem bH5:D0 prog RG 86 cGetA:=E5 (A5 aw4 C0) (λ_=>noL) (by kernel_rfl) (by kernel_rfl) (by kernel_rfl) λ(n,b,c,d,e,sp,rd,f,ce,op,ks,oc,cd,ou,()) a=>(cq7 n b c d e sp rd f ce op ks oc cd ou).mpr (by
 have a:ks<=64:=a;intros;simp only [true_and,and_true];exact a)
theorem bH6:D0 prog RG 87 cOld:=E5 C0 (λ_=>noL) (by kernel_rfl) (by kernel_rfl) (by kernel_rfl) λ(n,m,()) _=>(cq8 n m).mpr rfl
theorem bH7 (g h:Int) (b c:List Int) (f:List Ins) (s:Int) (t:List Ins) (u v:List Int) (sp:Spans) (rd:Reads) (j:Holds) (ce:List (Int×Int)) (op ks oc:Int) (cd:List RIns) (ou:List Place) (sl:List (Int×Int)) (w:ah4 b c f=true/\ks<=64):
  vc (EV [(96,cBody),(86,cGetA),(87,cOld)]) (aY8 g h b c f j ks sl) Go.Proofs.Tryd.f73 cCalledA (g,h,b,c,f,s,t,u,v,sp,rd,j,ce,op,ks,oc,cd,ou,sl,()):=by
 rw [bH3 g h b c f s t u v sp rd j ce op ks oc cd ou sl];intro x y z A m o _ _ _ _ _ _;have p:b.length<=140737488355328:=m.len;have q:c.length<=140737488355328:=o.len
 clear_value x
 dsimp only [y,z,A];simp only [true_and,and_true];refine ⟨⟨by simp,?_⟩,⟨by omega,by simp⟩,⟨(0,_,()),rfl,rfl,Int.le_refl _,by dsimp only;omega,by simp⟩,?_⟩
 .simp only [K0,Bool.and_true];exact (W4 _).2 (ak9.1 w.1)
 rintro ⟨i,l,⟨⟩⟩ ⟨h0,h1,h2⟩;dsimp only at h0 h1 h2 |-;subst h2;obtain ⟨k,rfl⟩:=cy3 h0;simp only [cy0,List.getD_cons_zero,List.set_cons_zero];have e:((c.take k).map (getI sl)).length=k:=by simp;omega
 refine ⟨λa=>?_,λd=>?_⟩
 .have a:(k:Int)<c.length:=cy7 a;rw [ak8 e (by omega),aX6 e (by omega),aX7 e (by omega)];refine ⟨⟨h0,a⟩,⟨h0,a⟩,((k+1:Nat),[⟨g,h,b,(c.take (k+1)).map (getI sl)++c.drop (k+1),f⟩],()),B3 (by omega) q,?_,⟨by omega,by dsimp only;omega,by dsimp only;rw [cy0]⟩,by dsimp only;omega⟩;dsimp only;rw [A4 (by omega) 0,List.map_append];rfl
 have r:k=c.length:=by have:¬ (k:Int)<c.length:=cy6 d;omega
 subst r;simp only [cA5,List.drop_length,List.append_nil];clear h0 h1 d e;refine ⟨⟨(0,_,()),rfl,rfl,Int.le_refl _,by dsimp only;omega,by simp⟩,?_⟩;rintro ⟨i,l,⟨⟩⟩ ⟨h0,h1,h2⟩;dsimp only at h0 h1 h2 |-;subst h2;obtain ⟨k,rfl⟩:=cy3 h0;simp only [cy0,List.getD_cons_zero,List.set_cons_zero];have e:((b.take k).map (λn=>(C3 j ks n).n)).length=k:=by simp;omega
 refine ⟨λa=>?_,λd=>?_⟩
 .have a:(k:Int)<b.length:=cy7 a;rw [ak8 e (by omega),aX6 e (by omega),aX7 e (by omega)];refine ⟨⟨h0,a⟩,w.2,⟨h0,a⟩,((k+1:Nat),[⟨g,h,(b.take (k+1)).map (λn=>(C3 j ks n).n)++b.drop (k+1),c.map (getI sl),f⟩],()),B3 (by omega) p,?_,⟨by omega,by dsimp only;omega,by dsimp only;rw [cy0]⟩,by dsimp only;omega⟩;dsimp only;rw [A4 (by omega) 0,List.map_append];rfl
 .have r:k=b.length:=by have:¬ (k:Int)<b.length:=cy6 d;omega
  subst r;simp only [cA5,List.drop_length,List.append_nil]
theorem aZ1:D0 prog RG 73 cCalledA:=E5 (A5 aQ8 (A5 bH5 (A5 bH6 C0))) (λ(a,b,c,d,e,g,h,i,j,sp,rd,f,ce,op,ks,oc,cd,ou,sl,())=>aY8 a b c d e f ks sl) (by kernel_rfl) (by kernel_rfl) (by kernel_rfl) λ(a,b,c,d,e,g,h,i,j,sp,rd,f,ce,op,ks,oc,cd,ou,sl,()) k=>bH7 a b c d e g h i j sp rd f ce op ks oc cd ou sl k
theorem am6 (x:Int):∀ (l seen:List Int),D5 seen (l++[x])=D5 seen l++bif (seen++l).contains x then [] else [x]
 |[],seen=>by simp only [List.nil_append,D5,List.append_nil]
 |y::l,seen=>by have ih:=am6 x l (seen++[y]);rw [cA3,List.singleton_append] at ih;simp only [List.cons_append,D5,ih];cases seen.contains y<;>rfl
theorem al0 (l:List Int) (x:Int):B0 (l++[x])=bif l.contains x then B0 l else B0 l++[x]:=by unfold B0;rw [am6,List.nil_append];cases l.contains x<;>simp
theorem ah8 (l:List Int):(B0 l).length<=l.length:=by
 have key:∀ (l seen:List Int),(D5 seen l).length<=l.length:=by
  intro l
  induction l with
  |nil=>intro seen;simp [D5]
  |cons x r ih=>
   intro seen;have:=ih (seen++[x]);simp only [D5];cases seen.contains x with
   |true=>simp only [cond_true,cz3];omega
   |false=>simp only [cond_false,cz3];omega
 exact key l []
theorem aL2:D0 prog RG 52 cReads:=E5 C0 (λ_=>noL) (by kernel_rfl) (by kernel_rfl) (by kernel_rfl) λ(a,b,c,d,e,()) _=>(ce8 a b c d e).mpr (by intros;rfl)
theorem bU9 (s0:Int) (c:List Int) (j m:Int) (n a:List Int) (o:List Ins) (r:s0=0/\c.length+a.length<=17592186044400):vc (EVy [(0,0),(1,1)] (some at2) [(61,cContains)]) (br1 a c) Go.Proofs.Tryd.f83 aY9 (s0,c,j,m,n,a,o,()):=by
 rw [bU8 s0 c j m n a o];intro p s _ _ e _;have d:a.length<=140737488355328:=e.len;have f:p=(0,c++B0 a,()):=rfl
 clear_value p
 dsimp only [s];simp only [true_and,and_true];refine ⟨⟨(0,0,c,()),rfl,r.1,rfl,Int.le_refl _,by dsimp only;omega,rfl,by simp [B0,D5]⟩,?_⟩;rintro ⟨i,st,l,⟨⟩⟩ ⟨h0,h1,h2,h3⟩;dsimp only at h0 h1 h2 h3 |-;subst h2;obtain ⟨k,rfl⟩:=cy3 h0;simp only [cy0] at h3 |-;subst h3;refine ⟨λb=>?_,λg=>?_⟩
 .have b:(k:Int)<a.length:=cy7 b;have hs:=al0 (a.take k) (a.getD k 0);rw [<-A4 (by omega)] at hs;have hl:=ah8 (a.take k);rw [cA6] at hl;refine ⟨⟨h0,b⟩,⟨h0,by omega⟩,λq=>?_,λq=>⟨⟨trivial,by rw [cz8];omega⟩,λh=>(by cases h),λ_=>?_⟩⟩
  .rw [q] at hs;exact ⟨((k+1:Nat),0,_,()),B3 (by omega) d,rfl,rfl,⟨by omega,by dsimp only;omega,rfl,by dsimp only;rw [cy0,hs];rfl⟩,by dsimp only;omega⟩
  .rw [q] at hs;exact ⟨((k+1:Nat),0,_,()),B3 (by omega) d,rfl,rfl,⟨by omega,by dsimp only;omega,rfl,by dsimp only;rw [cy0,hs,cA3];rfl⟩,by dsimp only;omega⟩
 .have t:k=a.length:=by have:¬ (k:Int)<a.length:=cy6 g;omega
  subst t;rw [f,cA5]
theorem cr0:ItOk itDo:=by
 intro f k kY mp h Y' b;unfold itDo at h;cases hf:Nat.beq f 83 with
 |false=>rw [hf] at h;cases h
 |true=>
  have hf:=cx7 hf;subst hf;simp only [Nat.beq_refl,cond_true,List.mem_cons,List.not_mem_nil,or_false,cy9] at h;obtain ⟨rfl,rfl,rfl⟩:=h;exact ak4 (E:=EVy [(0,0),(1,1)] (some at2) [(61,cContains)]) (cb2 _ _ _) ⟨Y7 (λx a=>by rcases List.mem_cons.1 a with rfl|a;exact N8 _;cases a),λ_ _ _ _ _ h=>(by cases h),λ_ _ _ h=>(by cases h),λk c=>by cases c;exact b,λ_ _ _ _ h=>(by cases h)⟩ bo1 Go.Proofs.Tryd.func83 (by kernel_rfl)
    (λp=>br1 p.2.2.2.2.2.1 p.2.1) (λ(st,d,e,g,i,j,l,()) m=>bU9 st d e g i j l m) (by kernel_rfl) rfl
theorem bV0 (s:AS) (x:Held):(aw2 s x).code.length<=s.code.length+1/\s.ocells<=(aw2 s x).ocells/\(aw2 s x).ocells<=s.ocells+1:=by
 unfold aw2;cases (mget eqI s.cells x.reg).isSome with
 |true=>simp only [cond_true];omega
 |false=>simp only [cond_false,cz8,cz3,List.length_nil];omega
theorem aw5 (sp:Spans) (rd:Reads) (ks N:Int) (s:AS) (pl:Int) (st:List Int):(D4 sp rd ks N s pl st).2.code.length<=s.code.length+1/\s.ocells<=(D4 sp rd ks N s pl st).2.ocells/\(D4 sp rd ks N s pl st).2.ocells<=s.ocells+1:=by
 unfold D4;split
 .simp only;omega
 .exact bV0 _ _
theorem bi6 (sp:Spans) (rd:Reads) (ks N i:Int) (fr:List Int) (s:AS) (n:Int):(G9 sp rd ks N i fr s n).code.length<=s.code.length+2/\s.ocells<=(G9 sp rd ks N i fr s n).ocells/\(G9 sp rd ks N i fr s n).ocells<=s.ocells+1:=by
 unfold G9;have:=aw5 sp rd ks N s i fr;cases (C3 s.holds ks n).cell with
 |true=>simp only [cond_true,cz8,cz3,List.length_nil];omega
 |false=>simp only [cond_false];omega
theorem ad6 (sp:Spans) (rd:Reads) (ks N i:Int) (fr:List Int):∀ (l:List Int) (s:AS),(C4 sp rd ks N i fr s l).code.length<=s.code.length+2*l.length/\s.ocells<=(C4 sp rd ks N i fr s l).ocells/\(C4 sp rd ks N i fr s l).ocells<=s.ocells+l.length
 |[],s=>by simp [C4]
 |x::r,s=>by have h1:=ad6 sp rd ks N i fr r (G9 sp rd ks N i fr s x);have h2:=bi6 sp rd ks N i fr s x;simp only [C4,List.foldl_cons,cz3] at h1 |-;omega
theorem bH8 (sp:Spans) (rd:Reads) (ks N i:Int) (to:List Int) (s:AS) (n:Int):(ah5 sp rd ks N i to s n).code.length<=s.code.length+1/\s.ocells<=(ah5 sp rd ks N i to s n).ocells/\(ah5 sp rd ks N i to s n).ocells<=s.ocells+1:=by have:=aw5 sp rd ks N s (i+1) to;exact this
theorem aL3 (sp:Spans) (rd:Reads) (ks N i:Int) (to:List Int):∀ (l:List Int) (s:AS),(L4 sp rd ks N i to s l).code.length<=s.code.length+l.length/\s.ocells<=(L4 sp rd ks N i to s l).ocells/\(L4 sp rd ks N i to s l).ocells<=s.ocells+l.length
 |[],s=>by simp [L4]
 |x::r,s=>by have h1:=aL3 sp rd ks N i to r (ah5 sp rd ks N i to s x);have h2:=bH8 sp rd ks N i to s x;simp only [L4,List.foldl_cons,cz3] at h1 |-;omega
theorem ah9 (sp:Spans) (rd:Reads) (ks N i:Int) (fr:List Int) (s:AS) (l:List Int) (x:Int):C4 sp rd ks N i fr s (l++[x])=G9 sp rd ks N i fr (C4 sp rd ks N i fr s l) x:=by simp [C4]
theorem aw6 (sp:Spans) (rd:Reads) (ks N i:Int) (to:List Int) (s:AS) (l:List Int) (x:Int):L4 sp rd ks N i to s (l++[x])=ah5 sp rd ks N i to (L4 sp rd ks N i to s l) x:=by simp [L4]
theorem bi7 (m:Holds) (ks n:Int):((C3 m ks n).cell==true&&((C3 m ks n).n==(-1:Int)))=(C3 m ks n).cell:=by
 unfold C3;split
 .rfl
 .rfl
theorem cx5 (i x y:Int) (b a:List Int) (w:List Ins) (K:Int) (C:List Ins) (L M:List Int) (sp:Spans) (rd:Reads) (p:Holds) (ce:List (Int×Int)) (op ks oc:Int) (cd:List RIns) (ou:List Place)
  (S:ah4 b a w=true/\a.length<=17592186044400/\(B0 a).length<=64/\b.length<=64/\ah6 rd/\doOk sp rd ks C.length i ⟨x,y,b,a,w⟩ ⟨p,ce,oc,cd⟩/\ks<=64/\0<=i/\i<=1000000/\0<=oc/\oc<=100000000/\cd.length<=100000000):
  vc (EVd [] itDo [(52,cReads),(54,cSlot),(84,cRoom),(85,cPutA),(73,cCalledA)]) (lDo sp rd ks C.length i b a ⟨p,ce,oc,cd⟩) Go.Proofs.Tryd.f53 cDo (i,x,y,b,a,w,K,C,L,M,sp,rd,p,ce,op,ks,oc,cd,ou,()):=by
 rw [cx4 i x y b a w K C L M sp rd p ce op ks oc cd ou];obtain ⟨D,T,U,V,z,E,r,W,X,N,O,P⟩:=S;intro Y Z F g Q e5 u _ G _ _ _ _ _ _;have hl4:a.length<=140737488355328:=G.len;have hdl:=ah8 a;have he2:F=doOf sp rd ks g i ⟨x,y,b,a,w⟩ ⟨p,ce,oc,cd⟩:=rfl;have H:Q=i+1:=M1 (by omega) (by omega);have v:u=C4 sp rd ks g i (B0 a) ⟨p,ce,oc,cd⟩ (B0 a):=rfl;have A:=ad6 sp rd ks g i (B0 a) (B0 a) ⟨p,ce,oc,cd⟩;rw [<-v] at A;have I:F=⟨(L4 sp rd ks g i b u b).holds,(L4 sp rd ks g i b u b).cells,(L4 sp rd ks g i b u b).ocells,(L4 sp rd ks g i b u b).code++[⟨0,0,0,⟨x,y,b.map (λn=>(C3 (L4 sp rd ks g i b u b).holds ks n).n),a.map (getI (S5 u.holds ks (B0 a))),w⟩⟩]⟩:=rfl;obtain ⟨s,t⟩:=E;change ∀ k,k<(B0 a).length->(C3 (C4 sp rd ks g i (B0 a) ⟨p,ce,oc,cd⟩ ((B0 a).take k)).holds ks ((B0 a).getD k 0)).cell=true->W8 sp rd ks g (C4 sp rd ks g i (B0 a) ⟨p,ce,oc,cd⟩ ((B0 a).take k)).holds i (B0 a) at s;change ∀ k,k<b.length->W8 sp rd ks g (L4 sp rd ks g i b u (b.take k)).holds (i+1) b at t
 clear_value F Q u g
 subst H;dsimp only [Y,Z,e5];simp only [true_and,and_true,List.nil_append,Bool.and_true,bi7];refine ⟨?_,?_,⟨(0,p,ce,oc,cd,()),rfl,rfl,rfl,rfl,rfl,Int.le_refl _,by dsimp only;omega,rfl⟩,?_⟩
 .rintro ⟨n,st,l,⟨⟩⟩ ⟨h1,h2⟩ _;dsimp only at h1 h2 |-;exact ⟨h1,by simp only [cz3,List.length_nil];omega,rfl⟩
 .simp only [List.length_nil];omega
 rintro ⟨j,m,cc,c,q,⟨⟩⟩ ⟨h0,h1,h2⟩;dsimp only at h0 h1 h2 |-;obtain ⟨k,rfl⟩:=cy3 h0;simp only [cy0] at h2 |-;have J:=ad6 sp rd ks g i (B0 a) ((B0 a).take k) ⟨p,ce,oc,cd⟩;rw [h2,cA6] at J;dsimp only at J;refine ⟨λd=>?_,λh=>?_⟩
 .have d:(k:Int)<(B0 a).length:=cy7 d;have e:k<(B0 a).length:=by omega
  have o:=s k e;rw [h2] at o;have f:C4 sp rd ks g i (B0 a) ⟨p,ce,oc,cd⟩ ((B0 a).take (k+1))=G9 sp rd ks g i (B0 a) ⟨m,cc,c,q⟩ ((B0 a).getD k 0):=by rw [A4 e 0,ah9,h2]
  generalize (B0 a).getD k 0=n at o f |-;dsimp only at o;refine ⟨⟨h0,d⟩,r,λhc=>?_,λhc=>?_⟩
  .have hc:(C3 m ks n).cell=false:=by simpa using hc
   have hS:G9 sp rd ks g i (B0 a) ⟨m,cc,c,q⟩ n=⟨m,cc,c,q⟩:=by simp only [G9,hc,cond_false]
   exact ⟨((k+1:Nat),m,cc,c,q,()),B3 (m:=(B0 a).length) e (by omega),rfl,rfl,rfl,rfl,⟨by omega,by dsimp only;omega,by dsimp only;rw [cy0,f,hS]⟩,by dsimp only;omega⟩
  .have hc:(C3 m ks n).cell=true:=by simpa using hc
   have hR:=aw5 sp rd ks g ⟨m,cc,c,q⟩ i (B0 a);dsimp only at hR;refine ⟨⟨z,o hc,r,by omega,by omega,by omega⟩,by omega,((k+1:Nat),_,_,_,_,()),B3 (m:=(B0 a).length) e (by omega),rfl,rfl,rfl,rfl,⟨by omega,by dsimp only;omega,?_⟩,by dsimp only;omega⟩;dsimp only;rw [cy0,f];simp only [G9,hc,cond_true];rfl
 have B:k=(B0 a).length:=by have:¬ (k:Int)<(B0 a).length:=cy6 h;omega
 subst B;rw [cA5,<-v] at h2;clear v s h0 h1 h J;subst h2;dsimp only at A I t |-;refine ⟨⟨(0,[],()),rfl,rfl,Int.le_refl _,by dsimp only;omega,rfl⟩,?_⟩;rintro ⟨j,sl,⟨⟩⟩ ⟨h0,h1,h2⟩;dsimp only at h0 h1 h2 |-;obtain ⟨k,rfl⟩:=cy3 h0;simp only [cy0] at h2 |-;refine ⟨λd=>?_,λh=>?_⟩
 .have d:(k:Int)<(B0 a).length:=cy7 d;have e:k<(B0 a).length:=by omega
  refine ⟨⟨h0,d⟩,r,((k+1:Nat),_,()),B3 (m:=(B0 a).length) e (by omega),rfl,⟨by omega,by dsimp only;omega,?_⟩,by dsimp only;omega⟩;dsimp only;rw [cy0,A4 e 0,h2];simp only [S5,List.foldl_append,List.foldl_cons,List.foldl_nil]
 have B:k=(B0 a).length:=by have:¬ (k:Int)<(B0 a).length:=cy6 h;omega
 subst B;rw [cA5] at h2;subst h2;clear h0 h1 h;refine ⟨⟨(0,m,cc,c,q,()),rfl,rfl,rfl,rfl,rfl,Int.le_refl _,by dsimp only;omega,rfl⟩,?_⟩;rintro ⟨j,m2,cc2,c2,q2,⟨⟩⟩ ⟨h0,h1,h2⟩;dsimp only at h0 h1 h2 |-;obtain ⟨k,rfl⟩:=cy3 h0;simp only [cy0] at h2 |-;have R:=aL3 sp rd ks g i b (b.take k) ⟨m,cc,c,q⟩;rw [h2,cA6] at R;dsimp only at R;refine ⟨λd=>?_,λh=>?_⟩
 .have d:(k:Int)<b.length:=cy7 d;have e:k<b.length:=by omega
  have o:=t k e;rw [h2] at o;have f:L4 sp rd ks g i b ⟨m,cc,c,q⟩ (b.take (k+1))=ah5 sp rd ks g i b ⟨m2,cc2,c2,q2⟩ (b.getD k 0):=by rw [A4 e 0,aw6,h2]
  refine ⟨⟨h0,d⟩,⟨z,o,r,by omega,by omega,by omega⟩,((k+1:Nat),_,_,_,_,()),B3 (m:=b.length) e (by omega),rfl,rfl,rfl,rfl,⟨by omega,by dsimp only;omega,?_⟩,by dsimp only;omega⟩;dsimp only;rw [cy0,f];rfl
 .have B:k=b.length:=by have:¬ (k:Int)<b.length:=cy6 h;omega
  subst B;rw [cA5] at h2;rw [h2] at I;refine ⟨⟨D,r⟩,by omega,?_⟩;rw [I]
theorem ce9:D0 prog RG 53 cDo:=bx9 cr0 (A5 aL2 (A5 aw4 (A5 bH4 (A5 aR9 (A5 aZ1 C0))))) (λ(i,e,f,a,b,g,h,c,j,k,sp,rd,d,ce,op,ks,oc,cd,ou,())=>lDo sp rd ks c.length i a b ⟨d,ce,oc,cd⟩) (by kernel_rfl) (by kernel_rfl) (by kernel_rfl) λ(i,e,f,a,b,g,h,c,j,k,sp,rd,d,ce,op,ks,oc,cd,ou,()) l=>cx5 i e f a b g h c j k sp rd d ce op ks oc cd ou l
def G0 (m:Reads) (l:List Int) (i:Int):Reads:=l.foldl (λm n=>mput eqI m n (getL m n++[i])) m
def N5:List Ins->Int->Reads->Reads
 |[],_,m=>m
 |x::r,i,m=>N5 r (i+1) (G0 m (B0 x.from_) i)
def E6 (code:List Ins):Reads:=N5 code 0 []
def Q3 (a:Nat):List (Int×Int):=(List.range a).foldl (λ(m:List (Int×Int)) (k:Nat)=>mput eqI m (k:Int) (k:Int)) []
def I3 (a:Int):AS:=⟨[],Q3 a.toNat,a,[]⟩
def runA (sp:Spans) (rd:Reads) (ks N:Int):List Ins->Int->AS->AS
 |[],_,s=>s
 |x::r,i,s=>runA sp rd ks N r (i+1) (doOf sp rd ks N i x s)
def fewX (ks:Int) (x:Ins):Bool:=decide (((B0 x.from_).length:Int)<=ks)&&decide ((x.to.length:Int)<=ks)
def outA (s:AS) (ks n:Int):Place:=bif (C3 s.holds ks n).cell then ⟨true,getI s.cells n⟩ else C3 s.holds ks n
def br2 (f:VFun) (ks:Int):AS:=runA (A7 f.params f.code f.out) (E6 f.code) ks f.code.length f.code 0 (I3 f.params)
def B4 (f:VFun) (ks:Int):RCode×Int:=
 if D7 f≠0 then (aI5,D7 f) else if ks<1\/64<ks then (aI5,2) else if f.code.all (fewX ks)=false then (aI5,9)
 else (⟨f.params,ks,(br2 f ks).ocells,(br2 f ks).code,f.out.map (outA (br2 f ks) ks)⟩,0)
theorem bz2 (sp:Spans) (rd:Reads) (ks N:Int) (r:List Ins):∀ (l:List Ins) (i:Int) (s:AS),runA sp rd ks N (l++r) i s=runA sp rd ks N r (i+l.length) (runA sp rd ks N l i s)
 |[],i,s=>by simp [runA]
 |x::l,i,s=>by simp only [List.cons_append,runA,bz2 sp rd ks N r l,cz3];congr 1;omega
theorem aL4 (sp:Spans) (rd:Reads) (ks N:Int) (l:List Ins) (x:Ins) (s:AS):runA sp rd ks N (l++[x]) 0 s=doOf sp rd ks N l.length x (runA sp rd ks N l 0 s):=by rw [bz2];simp [runA]
theorem ai0 {p q:Place}:eqP p q=true<->p=q:=by obtain ⟨c,n⟩:=p;obtain ⟨c',n'⟩:=q;show ((c==c')&&((n==n')&&true))=true<->_;simp
theorem aS0 {β:Type} (m:List (Place×β)) (k:Place) (v:β) (n:Place):mget eqP (mput eqP m k v) n=if k=n then some v else mget eqP m n:=by
 induction m with
 |nil=>
  show (bif eqP k n then some v else none)=_;by_cases h:k=n
  .rw [if_pos h,ai0.2 h];rfl
  .have:eqP k n=false:=by rw [Bool.eq_false_iff];exact λh2=>h (ai0.1 h2)
   rw [if_neg h,this];rfl
 |cons x r ih=>
  obtain ⟨k',v'⟩:=x;show mget eqP (bif eqP k' k then (k,v)::r else (k',v')::mput eqP r k v) n=if k=n then some v else bif eqP k' n then some v' else mget eqP r n;by_cases h:k'=k
  .subst h;rw [ai0.2 rfl];show (bif eqP k' n then some v else mget eqP r n)=_;by_cases h1:k'=n
   .rw [if_pos h1,ai0.2 h1];rfl
   .have:eqP k' n=false:=by rw [Bool.eq_false_iff];exact λh2=>h1 (ai0.1 h2)
    rw [if_neg h1,this];rfl
  .have h2:eqP k' k=false:=by rw [Bool.eq_false_iff];exact λh2=>h (ai0.1 h2)
   rw [h2];show (bif eqP k' n then some v' else mget eqP (mput eqP r k v) n)=_;rw [ih];by_cases h1:k'=n
   .subst h1;rw [show eqP k' k'=true from ai0.2 rfl,cond_true,cond_true,if_neg (λe=>h e.symm)]
   .have:eqP k' n=false:=by rw [Bool.eq_false_iff];exact λh2=>h1 (ai0.1 h2)
    rw [this];rfl
def bV1 (m:Holds) (ks n:Int):Prop:=∀ a:Nat,a<ks.toNat->mget eqP m ⟨false,(a:Int)⟩≠some n
structure Fine (P:Int->Prop) (ks:Int) (m:Holds):Prop where
 inj:∀ a b:Nat,a<ks.toNat->b<ks.toNat->∀ r,mget eqP m ⟨false,(a:Int)⟩=some r->mget eqP m ⟨false,(b:Int)⟩=some r->a=b
 reg:∀ a:Nat,a<ks.toNat->∀ r,mget eqP m ⟨false,(a:Int)⟩=some r->P r
theorem W9 {m:Holds} {ks n:Int}:(C3 m ks n).cell=true<->bV1 m ks n:=by
 unfold C3 bV1;constructor
 .intro h a c hm;split at h
  .cases h
  .rename_i b;rw [List.find?_eq_none] at b;exact b a (by simpa using c) (aw3.2 hm)
 .intro h;split
  .rename_i s hs;have h1:=List.find?_some hs;have h2:=List.mem_of_find?_eq_some hs;exact (h s (by simpa using h2) (aw3.1 h1)).elim
  .rfl
theorem at4 {m:Holds} {ks n:Int} (h:(C3 m ks n).cell=false):∃ a:Nat,a<ks.toNat/\C3 m ks n=⟨false,(a:Int)⟩/\mget eqP m ⟨false,(a:Int)⟩=some n:=by
 unfold C3 at h |-;split at h
 .rename_i s hs;have h1:=List.find?_some hs;have h2:=List.mem_of_find?_eq_some hs;exact ⟨s,by simpa using h2,rfl,aw3.1 h1⟩
 .cases h
theorem aC7:∀ (l m:List Int),l.Nodup->(∀ x∈l,x∈m)->l.length<=m.length
 |[],_,_,_=>Nat.zero_le _
 |x::r,m,h,hs=>by obtain ⟨h1,h2⟩:=List.nodup_cons.1 h;have a:=hs x (by simp);have:=aC7 r (m.erase x) h2 (λy b=>(List.mem_erase_of_ne (λe=>by subst e;exact h1 b)).2 (hs y (by simp [b])));rw [List.length_erase_of_mem a] at this;have:=List.length_pos_of_mem a;simp only [cz3];omega
theorem aw7 (sp:Spans) (rd:Reads) (N:Int) (m:Holds) (pl:Int) (st:List Int):∀ (l:List Nat) (acc:List Held),C1 sp rd N m pl st l acc=(none,[])->acc=[]/\∀ s∈l,∃ n∈st,mget eqP m ⟨false,(s:Int)⟩=some n
 |[],acc,h=>by simp only [C1,cy9,true_and] at h;exact ⟨h,by simp⟩
 |s::r,acc,h=>by
  simp only [C1] at h;cases hm:mget eqP m ⟨false,(s:Int)⟩ with
  |none=>rw [hm] at h;simp at h
  |some n=>
   rw [hm] at h;simp only at h;cases hc:st.contains n with
   |true=>
    rw [hc] at h;obtain ⟨h1,h2⟩:=aw7 sp rd N m pl st r acc h;refine ⟨h1,λx a=>?_⟩;rcases List.mem_cons.1 a with rfl|a
    .exact ⟨n,by simpa [List.contains_iff_mem] using hc,hm⟩
    .exact h2 x a
   |false=>
    rw [hc] at h;simp only [cond_false] at h;cases hs:I1 (getS sp n).first (getS sp n).last pl with
    |true=>rw [hs] at h;have:=(aw7 sp rd N m pl st r _ h).1;simp at this
    |false=>rw [hs] at h;simp at h
theorem bi8 {P:Int->Prop} {ks:Int} {m:Holds} (F:Fine P ks m) {n:Int} (p:bV1 m ks n) {st:List Int} (hs:n∈st) (hl:(st.length:Int)<=ks) (sp:Spans) (rd:Reads) (N pl:Int):W8 sp rd ks N m pl st:=by
 intro h1 h2;have h3:C1 sp rd N m pl st (List.range ks.toNat) []=(none,[]):=Prod.ext h1 h2;obtain ⟨_,h4⟩:=aw7 sp rd N m pl st _ _ h3
 let f:Nat->Int:=λs=>(mget eqP m ⟨false,(s:Int)⟩).getD 0
 have hf:∀ s,s<ks.toNat->f s∈st/\mget eqP m ⟨false,(s:Int)⟩=some (f s):=by
  intro s hs;obtain ⟨r,g,d⟩:=h4 s (by simpa using hs);have:f s=r:=by simp only [f,d,Option.getD_some]
  rw [this];exact ⟨g,d⟩
 have h:((List.range ks.toNat).map f).Nodup:=by rw [List.nodup_iff_pairwise_ne,List.pairwise_map];refine List.Pairwise.imp_of_mem ?_ (List.nodup_iff_pairwise_ne.1 List.nodup_range);intro a b l o i j;refine i (F.inj a b (by simpa using l) (by simpa using o) (f a) (hf a (by simpa using l)).2 ?_);rw [j];exact (hf b (by simpa using o)).2
 have k:=aC7 _ (st.erase n) h (λx q=>by
  obtain ⟨s,c,rfl⟩:=List.mem_map.1 q;have c:s<ks.toNat:=by simpa using c
  exact (List.mem_erase_of_ne (λe=>p s c (by rw [(hf s c).2,e]))).2 (hf s c).1)
 rw [List.length_erase_of_mem hs,cA8,List.length_range] at k;have:=List.length_pos_of_mem hs;omega
theorem Fine.put {P P':Int->Prop} {ks:Int} {m:Holds} (F:Fine P ks m) (f:∀ r,P r->P' r) {n:Int} (d:bV1 m ks n) (g:P' n) (q:Int):Fine P' ks (mput eqP m ⟨false,q⟩ n):=by
 have hg:∀ (a:Nat),mget eqP (mput eqP m ⟨false,q⟩ n) ⟨false,(a:Int)⟩=if q=a then some n else mget eqP m ⟨false,(a:Int)⟩:=by intro a;rw [aS0];simp
 refine ⟨λa b c e r h1 h2=>?_,λa c r h1=>?_⟩
 .rw [hg] at h1 h2;by_cases h3:q=a<;>by_cases h4:q=b
  .omega
  .rw [if_pos h3] at h1;rw [if_neg h4] at h2;simp only [cx6] at h1;subst h1;exact (d b e h2).elim
  .rw [if_neg h3] at h1;rw [if_pos h4] at h2;simp only [cx6] at h2;subst h2;exact (d a c h1).elim
  .rw [if_neg h3] at h1;rw [if_neg h4] at h2;exact F.inj a b c e r h1 h2
 .rw [hg] at h1;by_cases h3:q=a
  .rw [if_pos h3] at h1;simp only [cx6] at h1;subst h1;exact g
  .rw [if_neg h3] at h1;exact f r (F.reg a c r h1)
theorem Fine.mono {P P':Int->Prop} {ks:Int} {m:Holds} (F:Fine P ks m) (b:∀ r,P r->P' r):Fine P' ks m:=⟨F.inj,λa c r h=>b r (F.reg a c r h)⟩
theorem br3 (s:AS) (x:Held):(aw2 s x).holds=s.holds:=by unfold aw2;cases (mget eqI s.cells x.reg).isSome<;>rfl
theorem O8 (sp:Spans) (rd:Reads) (ks N:Int) (s:AS) (pl:Int) (st:List Int):(D4 sp rd ks N s pl st).2.holds=s.holds:=by
 unfold D4;split
 .rfl
 .exact br3 _ _
theorem aN2 (sp:Spans) (rd:Reads) (ks N i:Int) (fr:List Int) (s:AS) (n:Int):((C3 s.holds ks n).cell=true/\(G9 sp rd ks N i fr s n).holds=mput eqP s.holds ⟨false,(D4 sp rd ks N s i fr).1⟩ n)\/((C3 s.holds ks n).cell=false/\G9 sp rd ks N i fr s n=s):=by
 unfold G9;have:=O8 sp rd ks N s i fr;cases h:(C3 s.holds ks n).cell with
 |true=>exact .inl ⟨rfl,by simp only [cond_true];rw [this]⟩
 |false=>exact .inr ⟨rfl,rfl⟩
theorem V5 {P:Int->Prop} {sp:Spans} {rd:Reads} {ks N i:Int} {fr:List Int}:∀ (l:List Int) {s:AS},Fine P ks s.holds->(∀ n∈l,P n)->Fine P ks (C4 sp rd ks N i fr s l).holds
 |[],s,F,_=>F
 |n::r,s,F,h=>by
  refine V5 r (s:=G9 sp rd ks N i fr s n) ?_ (λx a=>h x (by simp [a]));rcases aN2 sp rd ks N i fr s n with ⟨h1,h2⟩|⟨h1,h2⟩
  .rw [h2];exact F.put (λ_ h=>h) (W9.1 h1) (h n (by simp)) _
  .rw [h2];exact F
theorem bi9 (sp:Spans) (rd:Reads) (ks N i:Int) (to:List Int) (s:AS) (n:Int):(ah5 sp rd ks N i to s n).holds=mput eqP s.holds ⟨false,(D4 sp rd ks N s (i+1) to).1⟩ n:=by have:=O8 sp rd ks N s (i+1) to;show mput eqP (D4 sp rd ks N s (i+1) to).2.holds ⟨false,(D4 sp rd ks N s (i+1) to).1⟩ n=_;rw [this]
theorem aC8 {P:Int->Prop} {sp:Spans} {rd:Reads} {ks N i:Int} {to:List Int} {s:AS} (F:Fine P ks s.holds) (l:to.Nodup) (f:∀ n∈to,¬ P n):∀ (k:Nat),k<=to.length->Fine (λr=>P r\/r∈to.take k) ks (L4 sp rd ks N i to s (to.take k)).holds/\(∀ n,k<to.length->n=to.getD k 0->bV1 (L4 sp rd ks N i to s (to.take k)).holds ks n):=by
 intro k
 induction k with
 |zero=>intro _;refine ⟨F.mono λr h=>.inl h,λn g b a e hm=>?_⟩;have:=F.reg a e n hm;exact f n (by rw [b];exact F7 g 0) this
 |succ k ih=>
  intro g;obtain ⟨h1,h2⟩:=ih (by omega);have j:Fine (λr=>P r\/r∈to.take (k+1)) ks (L4 sp rd ks N i to s (to.take (k+1))).holds:=by
   rw [A4 (by omega) 0,aw6,bi9];refine h1.put (λr h=>?_) (h2 _ (by omega) rfl) (.inr (by simp)) _;rcases h with h|h
   .exact .inl h
   .exact .inr (by simp [h])
  refine ⟨j,λn c b a e hm=>?_⟩;rcases j.reg a e n hm with h3|h3
  .exact f n (by rw [b];exact F7 c 0) h3
  .have d:=l;rw [<-List.take_append_drop (k+1) to,List.nodup_append] at d;refine d.2.2 n h3 n ?_ rfl;rw [b,cz1,cx8 c];exact List.mem_iff_getElem.2 ⟨0,by rw [List.length_drop];omega,by simp⟩
theorem K4 {l:List Int} {n:Int}:n∈B0 l<->n∈l:=by
 have key:∀ (l seen:List Int),(n∈D5 seen l->n∈l)/\(n∈l->n∈D5 seen l\/n∈seen):=by
  intro l
  induction l with
  |nil=>intro seen;simp [D5]
  |cons x r ih=>
   intro seen;obtain ⟨h1,h2⟩:=ih (seen++[x]);simp only [D5];cases hc:seen.contains x with
   |true=>
    have hc:x∈seen:=by simpa [List.contains_iff_mem] using hc
    refine ⟨λh=>by simp [h1 h],λh=>?_⟩;simp only [List.mem_cons] at h;rcases h with rfl|h
    .exact .inr hc
    .rcases h2 h with h3|h3
     .exact .inl h3
     .simp only [cA4,cy8] at h3;rcases h3 with h3|rfl
      .exact .inr h3
      .exact .inr hc
   |false=>
    simp only [cond_false,List.mem_cons];refine ⟨λh=>?_,λh=>?_⟩
    .rcases h with h|h
     .exact .inl h
     .exact .inr (h1 h)
    .rcases h with rfl|h
     .exact .inl (.inl rfl)
     .rcases h2 h with h3|h3
      .exact .inl (.inr h3)
      .simp only [cA4,cy8] at h3;rcases h3 with h3|rfl
       .exact .inr h3
       .exact .inl (.inl rfl)
 obtain ⟨h1,h2⟩:=key l [];exact ⟨h1,λh=>(h2 h).resolve_right (by simp)⟩
theorem bV2 {P:Int->Prop} {sp:Spans} {rd:Reads} {ks N i:Int} {x:Ins} {s:AS} (F:Fine P ks s.holds) (a:fewX ks x=true) (hf:∀ n∈x.from_,P n) (b:x.to.Nodup) (d:∀ n∈x.to,¬ P n):
  doOk sp rd ks N i x s/\Fine (λr=>P r\/r∈x.to) ks (doOf sp rd ks N i x s).holds:=by
 simp only [fewX,cx9,cz9] at a;have e:∀ n∈B0 x.from_,P n:=λn b=>hf n (K4.1 b);have F1:=V5 (sp:=sp) (rd:=rd) (N:=N) (i:=i) (fr:=B0 x.from_) (B0 x.from_) F e;refine ⟨⟨λk c hc=>?_,λk c=>?_⟩,?_⟩
 .have Fk:=V5 (sp:=sp) (rd:=rd) (N:=N) (i:=i) (fr:=B0 x.from_) ((B0 x.from_).take k) F (λn b=>e n (List.mem_of_mem_take b));exact bi8 Fk (W9.1 hc) (F7 c 0) a.1 sp rd N i
 .obtain ⟨h1,h2⟩:=aC8 (sp:=sp) (rd:=rd) (N:=N) (i:=i) F1 b d k (by omega);exact bi8 h1 (h2 _ c rfl) (F7 c 0) a.2 sp rd N (i+1)
 .have:=(aC8 (sp:=sp) (rd:=rd) (N:=N) (i:=i) F1 b d x.to.length (Nat.le_refl _)).1;rw [cA5] at this;exact this
theorem bj0 {a:Int} {b:List Ins} {c:List Int} (C:Checked a b c) {ks:Int} (g:b.all (fewX ks)=true) (sp:Spans) (rd:Reads) (N:Int):∀ k,k<=b.length->Fine (λr=>r<a\/r∈wr (b.take k)) ks (runA sp rd ks N (b.take k) 0 (I3 a)).holds/\(k<b.length->doOk sp rd ks N k (b.getD k ins0) (runA sp rd ks N (b.take k) 0 (I3 a))):=by
 have step:∀ k,k<b.length->Fine (λr=>r<a\/r∈wr (b.take k)) ks (runA sp rd ks N (b.take k) 0 (I3 a)).holds->doOk sp rd ks N k (b.getD k ins0) (runA sp rd ks N (b.take k) 0 (I3 a))/\Fine (λr=>(r<a\/r∈wr (b.take k))\/r∈(b.getD k ins0).to) ks (doOf sp rd ks N k (b.getD k ins0) (runA sp rd ks N (b.take k) 0 (I3 a))).holds:=by
  intro k f F;have j:b=b.take k++b.getD k ins0::b.drop (k+1):=by
   conv=>lhs;rw [<-List.take_append_drop (k+1) b,A4 f ins0]
   simp
  have e:=F7 f ins0;refine bV2 F (cA7.1 g _ e) (λn i=>?_) ?_ (λn i=>?_)
  .have:=C.there;rw [j] at this;simpa using O7 this n i
  .have d:=G2.1 C.once;rw [j,I8,ah2] at d;exact (List.nodup_append.1 (List.nodup_append.1 d).2.1).1
  .rintro (h|h)
   .have:=C.new n (ci2.2 ⟨_,e,i⟩);omega
   .have d:=G2.1 C.once;rw [j,I8,ah2] at d;exact (List.nodup_append.1 d).2.2 n h n (List.mem_append_left _ i) rfl
 intro k
 induction k with
 |zero=>intro _;have F0:Fine (λr=>r<a\/r∈wr (b.take 0)) ks (runA sp rd ks N (b.take 0) 0 (I3 a)).holds:=⟨λx y _ _ r h=>by simp [runA,I3,mget] at h,λx _ r h=>by simp [runA,I3,mget] at h⟩;exact ⟨F0,λf=>(step 0 f F0).1⟩
 |succ k ih=>
  intro f;obtain ⟨F,_⟩:=ih (by omega);have F1:=(step k (by omega) F).2;have F2:Fine (λr=>r<a\/r∈wr (b.take (k+1))) ks (runA sp rd ks N (b.take (k+1)) 0 (I3 a)).holds:=by
   rw [A4 (by omega) ins0,aL4,cA6,Nat.min_eq_left (by omega)];refine F1.mono λr h=>?_;rw [I8,cA4];rcases h with (h|h)|h
   .exact .inl h
   .exact .inr (.inl h)
   .exact .inr (.inr (by simpa [wr] using h))
  exact ⟨F2,λf=>(step (k+1) f F2).1⟩
theorem cf0 (sp:Spans) (rd:Reads) (ks N i:Int) (x:Ins) (s:AS):(doOf sp rd ks N i x s).code.length<=s.code.length+2*(B0 x.from_).length+x.to.length+1/\s.ocells<=(doOf sp rd ks N i x s).ocells/\(doOf sp rd ks N i x s).ocells<=s.ocells+(B0 x.from_).length+x.to.length:=by
 have h1:=ad6 sp rd ks N i (B0 x.from_) (B0 x.from_) s;have h2:=aL3 sp rd ks N i x.to x.to (C4 sp rd ks N i (B0 x.from_) s (B0 x.from_));have hc:(doOf sp rd ks N i x s).code.length=(L4 sp rd ks N i x.to (C4 sp rd ks N i (B0 x.from_) s (B0 x.from_)) x.to).code.length+1:=by simp only [doOf,cz8,cz3,List.length_nil]
 have a:(doOf sp rd ks N i x s).ocells=(L4 sp rd ks N i x.to (C4 sp rd ks N i (B0 x.from_) s (B0 x.from_)) x.to).ocells:=rfl;rw [hc,a];omega
theorem bz3 {ks:Int} (a:ks<=64) (sp:Spans) (rd:Reads) (N:Int):∀ (l:List Ins) (i:Int) (s:AS),l.all (fewX ks)=true->(runA sp rd ks N l i s).code.length<=s.code.length+193*l.length/\s.ocells<=(runA sp rd ks N l i s).ocells/\(runA sp rd ks N l i s).ocells<=s.ocells+128*l.length
 |[],i,s,_=>by simp [runA]
 |x::r,i,s,h=>by simp only [List.all_cons,cx9] at h;have h1:=h.1;simp only [fewX,cx9,cz9] at h1;have h2:=cf0 sp rd ks N i x s;have h3:=bz3 a sp rd N r (i+1) (doOf sp rd ks N i x s) h.2;simp only [runA,cz3];omega
theorem aL5 (m:Reads) (k:Int) (l:List Int) (n:Int):getL (mput eqI m k l) n=if k=n then l else getL m n:=by unfold getL;rw [ag8];split<;>rfl
theorem ai1 (i:Int):∀ (l:List Int) (m:Reads),(∀ n,(getL m n).Pairwise (·<=·)/\∀ x∈getL m n,x<=i)->∀ n,(getL (G0 m l i) n).Pairwise (·<=·)/\∀ x∈getL (G0 m l i) n,x<=i
 |[],m,h,n=>h n
 |y::r,m,h,n=>by
  refine ai1 i r (mput eqI m y (getL m y++[i])) (λk=>?_) n;rw [aL5];split
  .rename_i e;subst e;refine ⟨List.pairwise_append.2 ⟨(h y).1,by simp,λa f b d=>?_⟩,λx c=>?_⟩
   .simp only [cy8] at d;subst d;exact (h y).2 a f
   .simp only [cA4,cy8] at c;rcases c with c|rfl
    .exact (h y).2 x c
    .exact Int.le_refl _
  .exact h k
theorem am7:∀ (l:List Ins) (i:Int) (m:Reads),(∀ n,(getL m n).Pairwise (·<=·)/\∀ x∈getL m n,x<=i)->ah6 (N5 l i m)
 |[],i,m,h=>λn=>(h n).1
 |x::r,i,m,h=>by refine am7 r (i+1) _ (λn=>?_);obtain ⟨h1,h2⟩:=ai1 i (B0 x.from_) m h n;exact ⟨h1,λy a=>by have:=h2 y a;omega⟩
theorem am8 (code:List Ins):ah6 (E6 code):=am7 code 0 [] (λn=>by simp [getL,mget])
theorem ai2 (x:Ins):∀ (l:List Ins) (i:Int) (m:Reads),N5 (l++[x]) i m=G0 (N5 l i m) (B0 x.from_) (i+l.length)
 |[],i,m=>by simp [N5]
 |y::l,i,m=>by simp only [List.cons_append,N5,ai2 x l,cz3];congr 1;omega
theorem aL6 (k:Nat):Q3 (k+1)=mput eqI (Q3 k) k k:=by simp [Q3,List.range_succ]
abbrev tysR:List Ty:=[i64,inss,ints,ints,mapS,mapR,mapP,mapI,i64,i64,i64,i64,i64]
abbrev objR (b:Nat):List OPat:=[.box 79 [.ptr 2 0],.box 86 [.d b,.d (b+1),.d (b+2),.d (b+3),.map 4,.ms 3,.map 5,.map 6,.d (b+8),.d (b+9),.d (b+10),.nil,.nil],.ms (b+5),.map (b+4),.map (b+6),.map (b+7),.box 3 [.d (b+11)],.box 3 [.d (b+12)]]
abbrev ylR:List (Nat×Nat):=[(0,0),(1,1),(2,2),(4,4),(5,5),(6,6),(7,7),(8,8)]
def at5:Con RU:=⟨[one,one],i64::i64::tysR,[.d 0,.yld 0],.loop 1::objR 2,some λp=>match p with
  |(n,st,a0,a1,a2,a3,sp,rd,ho,ce,op,ks,oc,i,many,())=>st=0/\(∀ n,(getL rd n).length<=1000001)/\0<=many/\many<=140737488356000,
 none,[one],.bool::i64::tysR,[.d 0],.loop 1::objR 2,λp=>match p with
  |(n,st,a0,a1,a2,a3,sp,rd,ho,ce,op,ks,oc,i,many,())=>(true,0,a0,a1,a2,a3,sp,mput eqI rd n (getL rd n++[i]),ho,ce,op,ks,oc,i,many+1,()),[],ylR,[(1,1000001),(7,1000007),(8,1000008)]⟩
def aZ2:Con RU:=⟨[one,one],i64::tysR++aI9,[.yld 0,.ptr 9 0],.loop 0::objR 1++[.box 52 [.d 14,.d 15,.d 16,.d 17,.d 18]],some λp=>match p with
  |(st,a0,a1,a2,a3,sp,rd,ho,ce,op,ks,oc,i,many,x1,x2,x3,x4,x5,())=>st=0/\(∀ n,(getL rd n).length<=1000000)/\many=0,
 none,[],i64::tysR,[],.loop 0::objR 1++[.box 52 [.un,.un,.un,.un,.un]],λp=>match p with
  |(st,a0,a1,a2,a3,sp,rd,ho,ce,op,ks,oc,i,many,x1,x2,x3,x4,x5,())=>(0,a0,a1,a2,a3,sp,G0 rd (B0 x4) i,ho,ce,op,ks,oc,i,many+(B0 x4).length,()),[],ylR,[(1,448),(7,512),(8,640)]⟩
def itAlloc:FuncId->List (Con RU×Con RU×List (Nat×Nat)):=λf=>bif Nat.beq f 83 then [(aZ2,at5,[(0,0),(1,1),(2,2),(3,3),(4,4),(5,5),(6,6),(7,7),(8,8)])] else []
def br4 (fr:List Int) (rd:Reads) (i many:Int):Nat->St RU->Ann RU:=λ_ _=>⟨[],[.slot 8,.row 1000000,.row 1000003,.box 1000008 0],[i64,i64,mapR,i64],λp=>0<=p.1/\p.1<=fr.length/\p.2.1=0/\p.2.2.1=G0 rd (B0 (fr.take p.1.toNat)) i/\p.2.2.2.1=many+(B0 (fr.take p.1.toNat)).length,λp=>fr.length-p.1.toNat,[]⟩
def cAlloc:Con RU:=con [(true,4),one] [i64,inss,ints,ints,i64] [(true,5),one] [i64,i64,i64,al6,ae5,i64] [false,false,false,false,false,false] (some λp=>ad3 p.2.1=true/\K0 p.2.1=true/\p.2.2.1.length<=8796093022200) λp=>
 ((B4 ⟨p.1,p.2.1,p.2.2.1,p.2.2.2.1⟩ p.2.2.2.2.1).1.params,(B4 ⟨p.1,p.2.1,p.2.2.1,p.2.2.2.1⟩ p.2.2.2.2.1).1.slots,(B4 ⟨p.1,p.2.1,p.2.2.1,p.2.2.2.1⟩ p.2.2.2.2.1).1.cells,(B4 ⟨p.1,p.2.1,p.2.2.1,p.2.2.2.1⟩ p.2.2.2.2.1).1.code,(B4 ⟨p.1,p.2.1,p.2.2.1,p.2.2.2.1⟩ p.2.2.2.2.1).1.out,(B4 ⟨p.1,p.2.1,p.2.2.1,p.2.2.2.1⟩ p.2.2.2.2.1).2,())
def bV3 (a:Int) (b:List Ins) (c:List Int) (ks:Int):Nat->St RU->Ann RU:=λk s=>match k with
 |0=>⟨[],[.slot 48,.row 2176],[i64,mapR],λp=>0<=p.1/\p.1<=b.length/\p.2.1=N5 (b.take p.1.toNat) 0 []/\(b.take p.1.toNat).all (fewX ks)=true,λp=>b.length-p.1.toNat,[(.seen 2176,0,0,.bool)]⟩
 |1=>⟨[],[],[],λ_=>False,λ_=>0,[]⟩
 |2=>⟨[],[.slot 86,.row 2304],[i64,mapI],λp=>0<=p.1/\p.1<=a/\p.2.1=Q3 p.1.toNat,λp=>a.toNat-p.1.toNat,[(.seen 2176,0,0,.bool)]⟩
 |3=>⟨[],[.slot 99,.row 2240,.row 2304,.box 2816 10,.row 900001],[i64,mapP,mapI,i64,al6],λp=>0<=p.1/\p.1<=b.length/\runA (A7 a b c) (E6 b) ks b.length (b.take p.1.toNat) 0 (I3 a)=⟨p.2.1,p.2.2.1,p.2.2.2.1,p.2.2.2.2.1⟩,λp=>b.length-p.1.toNat,[(.box 2816 11,900001,55,.user 1),(.box 2816 12,900002,59,.user 2)]⟩
 |_=>⟨[],[.slot 112,.row 900002],[i64,ae5],λp=>0<=p.1/\p.1<=c.length/\p.2.1=(c.take p.1.toNat).map (outA (runA (A7 a b c) (E6 b) ks b.length b 0 (I3 a)) ks),λp=>c.length-p.1.toNat,[]⟩
theorem bV4 (st g:Int) (d:List Ins) (e f:List Int) (sp:Spans) (rd:Reads) (h:Holds) (ce:List (Int×Int)) (op ks oc i many l m:Int) (j a:List Int) (k:List Ins):vc (EVy ylR (some at5) [(61,cContains)]) (br4 a rd i many) Go.Proofs.Tryd.f83 aZ2 (st,g,d,e,f,sp,rd,h,ce,op,ks,oc,i,many,l,m,j,a,k,())=(
 let q:Int×Int×List Ins×List Int×List Int×List (Int×Span)×List (Int×List Int)×List (Place×Int)×List (Int×Int)×Int×Int×Int×Int×Int×Unit:=
  ((0:Int),g,d,e,f,sp,G0 rd (B0 a) i,h,ce,op,ks,oc,i,many+(↑(List.length (B0 a)):Int),());
 let c:Int:=(↑(List.length a):Int);
  Small RU (Sigma.mk (Ty.slice (52:Nat) (Ty.user (0:Nat))) d)->
  Small RU (Sigma.mk (Ty.slice (3:Nat) (Ty.int IntKind.i64)) e)->
  Small RU (Sigma.mk (Ty.slice (3:Nat) (Ty.int IntKind.i64)) f)->
  Small RU (Sigma.mk (Ty.slice (3:Nat) (Ty.int IntKind.i64)) j)->
  Small RU (Sigma.mk (Ty.slice (3:Nat) (Ty.int IntKind.i64)) a)->
  Small RU (Sigma.mk (Ty.slice (52:Nat) (Ty.user (0:Nat))) k)->
  (∃ (p:Int×Int×List (Int×List Int)×Int×Unit),
  a=a/\
  c=c/\
  (0:Int)=p.1/\
  st=p.2.1/\
  g=g/\
  d=d/\
  e=e/\
  f=f/\
  op=op/\
  ks=ks/\
  oc=oc/\
  rd=p.2.2.1/\
  sp=sp/\
  h=h/\
  ce=ce/\
  i=i/\
  many=p.2.2.2.1/\
  l=l/\
  m=m/\
  j=j/\
  a=a/\
  k=k/\
  (0:Int)<=p.1/\
  p.1<=c/\
  p.2.1=(0:Int)/\
  p.2.2.1=G0 rd (B0 (List.take (Int.toNat p.1) a)) i/\
  p.2.2.2.1=many+(↑(List.length (B0 (List.take (Int.toNat p.1) a))):Int))/\
  ∀ (p:Int×Int×List (Int×List Int)×Int×Unit),
 let e0_1:Int:=p.2.2.2.1;
 let e1_1:List (Int×List Int):=p.2.2.1;
 let r:List (Int×List Int):=mput eqI e1_1 (List.getD a (Int.toNat p.1) (0:Int)) (getL e1_1 (List.getD a (Int.toNat p.1) (0:Int))++[i]);
 let b:Int:=p.1;
 let o:Int:=p.2.1;
 let s:Bool:=decide (b<c);
 let t:Bool:=List.contains (List.take (Int.toNat b) a) (List.getD a (Int.toNat b) (0:Int));
 let u:Int:=e0_1+(1:Int);
  (0:Int)<=b/\b<=c/\o=(0:Int)/\e1_1=G0 rd (B0 (List.take (Int.toNat b) a)) i/\e0_1=many+(↑(List.length (B0 (List.take (Int.toNat b) a))):Int)->
  (s=true->
  ((0:Int)<=b/\b<c)/\
  ((0:Int)<=b/\b<=c)/\
  (t=true->
  ∃ (p':Int×Int×List (Int×List Int)×Int×Unit),
  a=a/\
  c=c/\
  IntKind.i64.wrap (b+(1:Int))=p'.1/\
  o=p'.2.1/\
  g=g/\
  d=d/\
  e=e/\
  f=f/\
  op=op/\
  ks=ks/\
  oc=oc/\
  e1_1=p'.2.2.1/\
  sp=sp/\
  h=h/\
  ce=ce/\
  i=i/\
  e0_1=p'.2.2.2.1/\
  l=l/\
  m=m/\
  j=j/\
  a=a/\
  k=k/\
  ((0:Int)<=p'.1/\
  p'.1<=c/\
  p'.2.1=(0:Int)/\
  p'.2.2.1=G0 rd (B0 (List.take (Int.toNat p'.1) a)) i/\
  p'.2.2.2.1=many+(↑(List.length (B0 (List.take (Int.toNat p'.1) a))):Int))/\
  List.length a-Int.toNat p'.1<List.length a-Int.toNat b)/\
  (t=false->
  (o=(0:Int)/\(∀ (n:Int),List.length (getL e1_1 n)<=(1000001:Nat))/\(0:Int)<=e0_1/\e0_1<=(140737488356000:Int))/\
  ((!true)=true->((0:Int),g,d,e,f,sp,r,h,ce,op,ks,oc,i,u,())=q)/\
  ((!true)=false->
  ∃ (p':Int×Int×List (Int×List Int)×Int×Unit),
  a=a/\
  c=c/\
  IntKind.i64.wrap (b+(1:Int))=p'.1/\
  (0:Int)=p'.2.1/\
  g=g/\
  d=d/\
  e=e/\
  f=f/\
  op=op/\
  ks=ks/\
  oc=oc/\
  r=p'.2.2.1/\
  sp=sp/\
  h=h/\
  ce=ce/\
  i=i/\
  u=p'.2.2.2.1/\
  l=l/\
  m=m/\
  j=j/\
  a=a/\
  k=k/\
  ((0:Int)<=p'.1/\
  p'.1<=c/\
  p'.2.1=(0:Int)/\
  p'.2.2.1=G0 rd (B0 (List.take (Int.toNat p'.1) a)) i/\
  p'.2.2.2.1=many+(↑(List.length (B0 (List.take (Int.toNat p'.1) a))):Int))/\
  List.length a-Int.toNat p'.1<List.length a-Int.toNat b)))/\
  (s=false->(o,g,d,e,f,sp,e1_1,h,ce,op,ks,oc,i,e0_1,())=q)):=by kernel_rfl
theorem cf1 (a:Int) (b:List Ins) (c d:List Int) (ks:Int):vc (EVd [] itAlloc [(41,cCheck),(51,cSpans),(52,cReads),(53,cDo),(54,cSlot)]) (bV3 a b c ks) Go.Proofs.Tryd.f15 cAlloc (a,b,c,d,ks,())=(
 let j:Int×Int×Int×List RIns×List Place×Int×Unit:=
  ((B4 (VFun.mk a b c d) ks).1.params,(B4 (VFun.mk a b c d) ks).1.slots,(B4 (VFun.mk a b c d) ks).1.cells,(B4 (VFun.mk a b c d) ks).1.code,
  (B4 (VFun.mk a b c d) ks).1.out,(B4 (VFun.mk a b c d) ks).2,());
 let g:Bool:=decide (ks<(1:Int))||decide (ks >(64:Int));
 let e:Int:=(↑(List.length b):Int);
 let f:Ins:=Ins.mk (0:Int) (0:Int) [] [] [];
 let h:Bool:=D7 (VFun.mk a b c d) !=(0:Int);
 let l:Int:=(↑(List.length c):Int);
 let i:Int:=D7 (VFun.mk a b c d);
  Small RU (Sigma.mk (Ty.slice (52:Nat) (Ty.user (0:Nat))) b)->
  Small RU (Sigma.mk (Ty.slice (3:Nat) (Ty.int IntKind.i64)) c)->
  Small RU (Sigma.mk (Ty.slice (3:Nat) (Ty.int IntKind.i64)) d)->
  (h=true->((0:Int),(0:Int),(0:Int),[],[],i,())=j)/\
  (h=false->
  (g=true->((0:Int),(0:Int),(0:Int),[],[],(2:Int),())=j)/\
  (g=false->
  a<=(4000:Int)/\
  (∃ (p:Int×List (Int×List Int)×Unit),
  a=a/\
  b=b/\
  c=c/\
  d=d/\
  ks=ks/\
  i=i/\
  h=h/\
  g=g/\
  a=a/\
  b=b/\
  c=c/\
  d=d/\
  b=b/\
  e=e/\
  (0:Int)=p.1/\
  a=a/\
  b=b/\
  c=c/\
  d=d/\
  (0:Int)=(0:Int)/\
  (0:Int)=(0:Int)/\
  (0:Int)=(0:Int)/\
  A7 a b c=A7 a b c/\
  []=p.2.1/\
  ([]:List (Place×Int))=[]/\
  ([]:List (Int×Int))=[]/\
  a=a/\
  b=b/\
  c=c/\
  d=d/\
  a=a/\
  ks=ks/\
  a=a/\
  (0:Int)<=p.1/\
  p.1<=e/\
  p.2.1=N5 (List.take (Int.toNat p.1) b) (0:Int) []/\
  List.all (List.take (Int.toNat p.1) b) (fewX ks)=true)/\
  ∀ (p:Int×List (Int×List Int)×Unit),
 let e0_1:Bool:=
  decide ((0:Int)+(↑(List.length (B0 (List.getD b (Int.toNat p.1) f).from_)):Int) >ks)||decide ((↑(List.length (List.getD b (Int.toNat p.1) f).to):Int) >ks);
 let e1_1:List (Int×List Int):=p.2.1;
 let e2_1:Bool:=decide (p.1<e);
 let e3_1:Int:=p.1;
  (0:Int)<=e3_1/\e3_1<=e/\e1_1=N5 (List.take (Int.toNat e3_1) b) (0:Int) []/\List.all (List.take (Int.toNat e3_1) b) (fewX ks)=true->
  (e2_1=true->
  ((0:Int)<=e3_1/\e3_1<e)/\
  (∀
  (xs:
  Int×
  Int×
  Int×List Ins×List Int×List Int×List (Int×Span)×List (Int×List Int)×List (Place×Int)×List (Int×Int)×Int×Int×Int×Int×Int×Unit),
 let j:Int:=xs.2.2.2.2.2.2.2.2.2.2.2.2.2.1;
 let g:Int×Int×Int×Unit:=xs.2.2.2.2.2.2.2.2.2.2.2.2;
 let e:List Int:=Option.getD (mget (λ(x y:Int)=>x==y) xs.2.2.2.2.2.2.2.1 xs.1) [];
 let f:Int×Int×Int×Int×Int×Unit:=xs.2.2.2.2.2.2.2.2.2.2;
 let h:List (Place×Int)×List (Int×Int)×Int×Int×Int×Int×Int×Unit:=xs.2.2.2.2.2.2.2.2;
 let l:List (Int×Span)×List (Int×List Int)×List (Place×Int)×List (Int×Int)×Int×Int×Int×Int×Int×Unit:=xs.2.2.2.2.2.2;
 let i:List Int:=xs.2.2.2.2.2.1;
 let q:List Int:=xs.2.2.2.2.1;
 let m:List Ins:=xs.2.2.2.1;
 let r:Int:=xs.1;
 let o:
  Int×
  Int×List Ins×List Int×List Int×List (Int×Span)×List (Int×List Int)×List (Place×Int)×List (Int×Int)×Int×Int×Int×Int×Int×Unit:=
  xs.2;
  xs.2.1=(0:Int)/\
  (∀ (n:Int),List.length (getL xs.2.2.2.2.2.2.2.1 n)<=(1000001:Nat))/\
  (0:Int)<=xs.2.2.2.2.2.2.2.2.2.2.2.2.2.2.1/\xs.2.2.2.2.2.2.2.2.2.2.2.2.2.2.1<=(140737488356000:Int)->
  Small RU (Sigma.mk (Ty.slice (52:Nat) (Ty.user (0:Nat))) m)->
  Small RU (Sigma.mk (Ty.slice (3:Nat) (Ty.int IntKind.i64)) q)->
  Small RU (Sigma.mk (Ty.slice (3:Nat) (Ty.int IntKind.i64)) i)->
  o.1=(0:Int)/\
  (List.length e+List.length [j])*(8:Nat)<=(140737488355328:Nat)/\
  r=r/\
  (true,(0:Int),o.2.1,m,q,i,l.1,mput (λ(x y:Int)=>x==y) l.2.1 r (e++[j]),h.1,h.2.1,f.1,f.2.1,
  g.1,j,IntKind.i64.wrap (g.2.2.1+(1:Int)),())=
  at5.fn xs)/\
  ((0:Int)=(0:Int)/\(∀ (n:Int),List.length (getL e1_1 n)<=(1000000:Nat))/\(0:Int)=(0:Int))/\
  (0:Int)=(0:Int)/\
  (e0_1=true->((0:Int),(0:Int),(0:Int),[],[],(9:Int),())=j)/\
  (e0_1=false->
  ∃ (p':Int×List (Int×List Int)×Unit),
  a=a/\
  b=b/\
  c=c/\
  d=d/\
  ks=ks/\
  i=i/\
  h=h/\
  g=g/\
  a=a/\
  b=b/\
  c=c/\
  d=d/\
  b=b/\
  e=e/\
  IntKind.i64.wrap (e3_1+(1:Int))=p'.1/\
  a=a/\
  b=b/\
  c=c/\
  d=d/\
  (0:Int)=(0:Int)/\
  (0:Int)=(0:Int)/\
  (0:Int)=(0:Int)/\
  A7 a b c=A7 a b c/\
  G0 e1_1 (B0 (List.getD b (Int.toNat e3_1) f).from_) e3_1=p'.2.1/\
  ([]:List (Place×Int))=[]/\
  ([]:List (Int×Int))=[]/\
  a=a/\
  b=b/\
  c=c/\
  d=d/\
  a=a/\
  ks=ks/\
  a=a/\
  ((0:Int)<=p'.1/\
  p'.1<=e/\
  p'.2.1=N5 (List.take (Int.toNat p'.1) b) (0:Int) []/\
  List.all (List.take (Int.toNat p'.1) b) (fewX ks)=true)/\
  List.length b-Int.toNat p'.1<List.length b-Int.toNat e3_1))/\
  (e2_1=false->
  (∃ (p:Int×List (Int×Int)×Unit),
  a=a/\
  b=b/\
  c=c/\
  d=d/\
  ks=ks/\
  i=i/\
  h=h/\
  g=g/\
  a=a/\
  b=b/\
  c=c/\
  d=d/\
  b=b/\
  e=e/\
  e3_1=e3_1/\
  e2_1=e2_1/\
  a=a/\
  (0:Int)=p.1/\
  a=a/\
  b=b/\
  c=c/\
  d=d/\
  (0:Int)=(0:Int)/\
  (0:Int)=(0:Int)/\
  (0:Int)=(0:Int)/\
  A7 a b c=A7 a b c/\
  e1_1=e1_1/\
  ([]:List (Place×Int))=[]/\
  []=p.2.1/\
  a=a/\
  b=b/\
  c=c/\
  d=d/\a=a/\ks=ks/\a=a/\(0:Int)<=p.1/\p.1<=a/\p.2.1=Q3 (Int.toNat p.1))/\
  ∀ (p:Int×List (Int×Int)×Unit),
 let e0_2:Bool:=decide (p.1<a);
 let e1_2:Int:=p.1;
 let e2_2:List (Int×Int):=p.2.1;
  (0:Int)<=e1_2/\e1_2<=a/\e2_2=Q3 (Int.toNat e1_2)->
  (e0_2=true->
  ∃ (p':Int×List (Int×Int)×Unit),
  a=a/\
  b=b/\
  c=c/\
  d=d/\
  ks=ks/\
  i=i/\
  h=h/\
  g=g/\
  a=a/\
  b=b/\
  c=c/\
  d=d/\
  b=b/\
  e=e/\
  e3_1=e3_1/\
  e2_1=e2_1/\
  a=a/\
  IntKind.i64.wrap (e1_2+(1:Int))=p'.1/\
  a=a/\
  b=b/\
  c=c/\
  d=d/\
  (0:Int)=(0:Int)/\
  (0:Int)=(0:Int)/\
  (0:Int)=(0:Int)/\
  A7 a b c=A7 a b c/\
  e1_1=e1_1/\
  ([]:List (Place×Int))=[]/\
  mput (λ(x y:Int)=>x==y) e2_2 e1_2 e1_2=p'.2.1/\
  a=a/\
  b=b/\
  c=c/\
  d=d/\
  a=a/\
  ks=ks/\
  a=a/\
  ((0:Int)<=p'.1/\p'.1<=a/\p'.2.1=Q3 (Int.toNat p'.1))/\
  Int.toNat a-Int.toNat p'.1<Int.toNat a-Int.toNat e1_2)/\
  (e0_2=false->
  (∃ (p:Int×List (Place×Int)×List (Int×Int)×Int×List RIns×Unit),
  a=a/\
  b=b/\
  c=c/\
  d=d/\
  ks=ks/\
  i=i/\
  h=h/\
  g=g/\
  a=a/\
  b=b/\
  c=c/\
  d=d/\
  b=b/\
  e=e/\
  e3_1=e3_1/\
  e2_1=e2_1/\
  a=a/\
  e1_2=e1_2/\
  e0_2=e0_2/\
  b=b/\
  e=e/\
  (0:Int)=p.1/\
  a=a/\
  b=b/\
  c=c/\
  d=d/\
  (0:Int)=(0:Int)/\
  (0:Int)=(0:Int)/\
  (0:Int)=(0:Int)/\
  A7 a b c=A7 a b c/\
  e1_1=e1_1/\
  []=p.2.1/\
  e2_2=p.2.2.1/\
  a=a/\
  b=b/\
  c=c/\
  d=d/\
  a=a/\
  ks=ks/\
  a=p.2.2.2.1/\
  []=p.2.2.2.2.1/\
  ([]:List Place)=[]/\
  (0:Int)<=p.1/\
  p.1<=e/\
  runA (A7 a b c) (E6 b) ks e (List.take (Int.toNat p.1) b)
  (0:Int) (I3 a)=
  AS.mk p.2.1 p.2.2.1 p.2.2.2.1
  p.2.2.2.2.1)/\
  ∀ (p:Int×List (Place×Int)×List (Int×Int)×Int×List RIns×Unit),
 let e0_3:AS:=AS.mk p.2.1 p.2.2.1 p.2.2.2.1 p.2.2.2.2.1;
 let e1_3:Int:=p.2.2.2.1;
 let e2_3:AS:=
  doOf (A7 a b c) e1_1 ks e p.1
  (Ins.mk (List.getD b (Int.toNat p.1) f).op (List.getD b (Int.toNat p.1) f).n (List.getD b (Int.toNat p.1) f).to
  (List.getD b (Int.toNat p.1) f).from_ (List.getD b (Int.toNat p.1) f).body)
  e0_3;
 let e3_2:List RIns:=p.2.2.2.2.1;
 let e4_1:Int:=p.1;
 let e5_1:List (Int×Int):=p.2.2.1;
 let e6_1:List (Place×Int):=p.2.1;
 let q:Bool:=decide (e4_1<e);
 let m:List Int:=B0 (List.getD b (Int.toNat e4_1) f).from_;
 let r:List Int:=(List.getD b (Int.toNat e4_1) f).to;
 let o:Int:=e4_1+(1:Int);
  (0:Int)<=e4_1/\e4_1<=e/\runA (A7 a b c) (E6 b) ks e (List.take (Int.toNat e4_1) b) (0:Int) (I3 a)=e0_3->
  (q=true->
  ((0:Int)<=e4_1/\e4_1<e)/\
  (ah4 r (List.getD b (Int.toNat e4_1) f).from_ (List.getD b (Int.toNat e4_1) f).body=true/\
  List.length (List.getD b (Int.toNat e4_1) f).from_<=(17592186044400:Nat)/\
  List.length m<=(64:Nat)/\
  List.length r<=(64:Nat)/\
  (∀ (n:Int),List.Pairwise (λ(s t:Int)=>s<=t) (getL e1_1 n))/\
  ((∀ (k:Nat),
 let j:Option Int×List Held:=
  H8 (A7 a b c) e1_1 ks e (C4 (A7 a b c) e1_1 ks e e4_1 m e0_3 (List.take k m)).holds e4_1 m;
  k<List.length m->
  (C3 (C4 (A7 a b c) e1_1 ks e e4_1 m e0_3 (List.take k m)).holds ks (List.getD m k (0:Int))).cell=true->
  j.1=none->j.2≠[])/\
  ∀ (k:Nat),
 let j:Option Int×List Held:=
  H8 (A7 a b c) e1_1 ks e
  (L4 (A7 a b c) e1_1 ks e e4_1 r (C4 (A7 a b c) e1_1 ks e e4_1 m e0_3 m) (List.take k r)).holds o r;
  k<List.length r->j.1=none->j.2≠[])/\
  ks<=(64:Int)/\
  (0:Int)<=e4_1/\e4_1<=(1000000:Int)/\(0:Int)<=e1_3/\e1_3<=(100000000:Int)/\List.length e3_2<=(100000000:Nat))/\
  ∃ (p':Int×List (Place×Int)×List (Int×Int)×Int×List RIns×Unit),
  a=a/\
  b=b/\
  c=c/\
  d=d/\
  ks=ks/\
  i=i/\
  h=h/\
  g=g/\
  a=a/\
  b=b/\
  c=c/\
  d=d/\
  b=b/\
  e=e/\
  e3_1=e3_1/\
  e2_1=e2_1/\
  a=a/\
  e1_2=e1_2/\
  e0_2=e0_2/\
  b=b/\
  e=e/\
  IntKind.i64.wrap o=p'.1/\
  a=a/\
  b=b/\
  c=c/\
  d=d/\
  (0:Int)=(0:Int)/\
  (0:Int)=(0:Int)/\
  (0:Int)=(0:Int)/\
  A7 a b c=A7 a b c/\
  e1_1=e1_1/\
  e2_3.holds=p'.2.1/\
  e2_3.cells=p'.2.2.1/\
  a=a/\
  b=b/\
  c=c/\
  d=d/\
  a=a/\
  ks=ks/\
  e2_3.ocells=p'.2.2.2.1/\
  e2_3.code=p'.2.2.2.2.1/\
  ([]:List Place)=[]/\
  ((0:Int)<=p'.1/\
  p'.1<=e/\
  runA (A7 a b c) (E6 b) ks e
  (List.take (Int.toNat p'.1) b) (0:Int)
  (I3 a)=
  AS.mk p'.2.1 p'.2.2.1 p'.2.2.2.1
  p'.2.2.2.2.1)/\
  List.length b-Int.toNat p'.1<
  List.length b-Int.toNat e4_1)/\
  (q=false->
  (∃ (p:Int×List Place×Unit),
  a=a/\
  b=b/\
  c=c/\
  d=d/\
  ks=ks/\
  i=i/\
  h=h/\
  g=g/\
  a=a/\
  b=b/\
  c=c/\
  d=d/\
  b=b/\
  e=e/\
  e3_1=e3_1/\
  e2_1=e2_1/\
  a=a/\
  e1_2=e1_2/\
  e0_2=e0_2/\
  b=b/\
  e=e/\
  e4_1=e4_1/\
  q=q/\
  c=c/\
  l=l/\
  (0:Int)=p.1/\
  a=a/\
  b=b/\
  c=c/\
  d=d/\
  (0:Int)=(0:Int)/\
  (0:Int)=(0:Int)/\
  (0:Int)=(0:Int)/\
  A7 a b c=A7 a b c/\
  e1_1=e1_1/\
  e6_1=e6_1/\
  e5_1=e5_1/\
  a=a/\
  b=b/\
  c=c/\
  d=d/\
  a=a/\
  ks=ks/\
  e1_3=e1_3/\
  e3_2=e3_2/\
  []=p.2.1/\
  (0:Int)<=p.1/\
  p.1<=l/\
  p.2.1=
  List.map
  (outA
  (runA (A7 a b c) (E6 b) ks e b
  (0:Int) (I3 a))
  ks)
  (List.take (Int.toNat p.1) c))/\
  ∀ (p:Int×List Place×Unit),
 let e0_4:Bool:=
  (C3 e6_1 ks (List.getD c (Int.toNat p.1) (0:Int))).cell==true&&
  ((C3 e6_1 ks (List.getD c (Int.toNat p.1) (0:Int))).n==(-1:Int)&&true);
 let e1_4:List Place:=
  [Place.mk (bif e0_4 then true else (C3 e6_1 ks (List.getD c (Int.toNat p.1) (0:Int))).cell)
  (bif e0_4 then Option.getD (mget (λ(x y:Int)=>x==y) e5_1 (List.getD c (Int.toNat p.1) (0:Int))) (0:Int)
  else (C3 e6_1 ks (List.getD c (Int.toNat p.1) (0:Int))).n)];
 let e2_4:List Place:=p.2.1;
 let f:Int:=p.1;
 let e4_2:Bool:=decide (f<l);
  (0:Int)<=f/\f<=l/\e2_4=List.map (outA (runA (A7 a b c) (E6 b) ks e b (0:Int) (I3 a)) ks) (List.take (Int.toNat f) c)->
  (e4_2=true->
  ((0:Int)<=f/\f<l)/\
  ks<=(64:Int)/\
  (List.length (bif e0_4 then e2_4 else e2_4)+List.length e1_4)*(16:Nat)<=(140737488355328:Nat)/\
  ∃ (p':Int×List Place×Unit),
  (bif e0_4 then a else a)=a/\
  (bif e0_4 then b else b)=b/\
  (bif e0_4 then c else c)=c/\
  (bif e0_4 then d else d)=d/\
  (bif e0_4 then ks else ks)=ks/\
  (bif e0_4 then i else i)=i/\
  (bif e0_4 then h else h)=h/\
  (bif e0_4 then g else g)=g/\
  (bif e0_4 then a else a)=a/\
  (bif e0_4 then b else b)=b/\
  (bif e0_4 then c else c)=c/\
  (bif e0_4 then d else d)=d/\
  (bif e0_4 then b else b)=b/\
  (bif e0_4 then e else e)=e/\
  (bif e0_4 then e3_1 else e3_1)=e3_1/\
  (bif e0_4 then e2_1 else e2_1)=e2_1/\
  (bif e0_4 then a else a)=a/\
  (bif e0_4 then e1_2 else e1_2)=e1_2/\
  (bif e0_4 then e0_2 else e0_2)=e0_2/\
  (bif e0_4 then b else b)=b/\
  (bif e0_4 then e else e)=e/\
  (bif e0_4 then e4_1 else e4_1)=e4_1/\
  (bif e0_4 then q else q)=q/\
  (bif e0_4 then c else c)=c/\
  (bif e0_4 then l else l)=l/\
  IntKind.i64.wrap ((bif e0_4 then f else f)+(1:Int))=p'.1/\
  (bif e0_4 then a else a)=a/\
  (bif e0_4 then b else b)=b/\
  (bif e0_4 then c else c)=c/\
  (bif e0_4 then d else d)=d/\
  (bif e0_4 then (0:Int) else (0:Int))=(0:Int)/\
  (bif e0_4 then (0:Int) else (0:Int))=(0:Int)/\
  (bif e0_4 then (0:Int) else (0:Int))=(0:Int)/\
  (bif e0_4 then A7 a b c else A7 a b c)=A7 a b c/\
  (bif e0_4 then e1_1 else e1_1)=e1_1/\
  (bif e0_4 then e6_1 else e6_1)=e6_1/\
  (bif e0_4 then e5_1 else e5_1)=e5_1/\
  (bif e0_4 then a else a)=a/\
  (bif e0_4 then b else b)=b/\
  (bif e0_4 then c else c)=c/\
  (bif e0_4 then d else d)=d/\
  (bif e0_4 then a else a)=a/\
  (bif e0_4 then ks else ks)=ks/\
  (bif e0_4 then e1_3 else e1_3)=e1_3/\
  (bif e0_4 then e3_2 else e3_2)=e3_2/\
  (bif e0_4 then e2_4 else e2_4)++e1_4=
  p'.2.1/\
  ((0:Int)<=p'.1/\
  p'.1<=l/\
  p'.2.1=
  List.map
  (outA
  (runA (A7 a b c)
  (E6 b) ks e b (0:Int)
  (I3 a))
  ks)
  (List.take (Int.toNat p'.1)
  c))/\
  List.length c-Int.toNat p'.1<
  List.length c-Int.toNat f)/\
  (e4_2=false->(a,ks,e1_3,e3_2,e2_4,(0:Int),())=j))))))):=by kernel_rfl
theorem S0 (l:List Int):(B0 l).Nodup:=by
 have key:∀ (l seen:List Int),(D5 seen l).Nodup/\∀ x∈D5 seen l,x∉seen:=by
  intro l
  induction l with
  |nil=>intro seen;simp [D5]
  |cons y r ih=>
   intro seen;obtain ⟨h1,h2⟩:=ih (seen++[y]);simp only [D5];cases hc:seen.contains y with
   |true=>exact ⟨h1,λx a h=>h2 x a (by simp [h])⟩
   |false=>
    have hc:y∉seen:=by rw [Bool.eq_false_iff,ne_eq,List.contains_iff_mem] at hc;exact hc
    simp only [cond_false];refine ⟨List.nodup_cons.2 ⟨λh=>h2 y h (by simp),h1⟩,λx a h=>?_⟩;rcases List.mem_cons.1 a with rfl|a
    .exact hc h
    .exact h2 x a (by simp [h])
 exact (key l []).1
theorem aZ3 (m:Reads) (l:List Int) (x i:Int):G0 m (l++[x]) i=mput eqI (G0 m l i) x (getL (G0 m l i) x++[i]):=by simp [G0]
theorem ai3 (i n:Int):∀ (l:List Int) (m:Reads),l.Nodup->(getL (G0 m l i) n).length<=(getL m n).length+(if n∈l then 1 else 0)
 |[],m,_=>by simp [G0]
 |y::r,m,h=>by
  obtain ⟨h1,h2⟩:=List.nodup_cons.1 h;have:=ai3 i n r (mput eqI m y (getL m y++[i])) h2;rw [aL5] at this;show (getL (G0 (mput eqI m y (getL m y++[i])) r i) n).length<=_;by_cases a:y=n
  .subst a;rw [if_pos rfl,if_neg h1] at this;simp only [cz8,cz3,List.length_nil] at this;rw [if_pos (by simp)];omega
  .rw [if_neg a] at this;have b:(n∈y::r)<->n∈r:=by simp [Ne.symm a]
   simp only [b];exact this
theorem aL7 (n:Int):∀ (l:List Ins) (i:Int) (m:Reads),(getL (N5 l i m) n).length<=(getL m n).length+l.length
 |[],i,m=>by simp [N5]
 |x::r,i,m=>by have h1:=aL7 n r (i+1) (G0 m (B0 x.from_) i);have h2:=ai3 i n (B0 x.from_) m (S0 _);simp only [N5,cz3];split at h2<;>omega
theorem bV5 (st d:Int) (e:List Ins) (f g:List Int) (sp:Spans) (rd:Reads) (l:Holds) (ce:List (Int×Int)) (op ks oc i many s t:Int) (u a:List Int) (v:List Ins) (w:st=0/\(∀ n,(getL rd n).length<=1000000)/\many=0):
  vc (EVy ylR (some at5) [(61,cContains)]) (br4 a rd i many) Go.Proofs.Tryd.f83 aZ2 (st,d,e,f,g,sp,rd,l,ce,op,ks,oc,i,many,s,t,u,a,v,()):=by
 rw [bV4 st d e f g sp rd l ce op ks oc i many s t u a v];intro x y _ _ _ _ o _;have c:a.length<=140737488355328:=o.len;have p:x=(0,d,e,f,g,sp,G0 rd (B0 a) i,l,ce,op,ks,oc,i,many+(B0 a).length,()):=rfl
 clear_value x
 dsimp only [y];simp only [true_and,and_true];refine ⟨⟨(0,0,rd,many,()),rfl,w.1,rfl,rfl,Int.le_refl _,by dsimp only;omega,rfl,rfl,by simp [B0,D5]⟩,?_⟩;rintro ⟨j,s0,m,mm,⟨⟩⟩ ⟨h0,h1,h2,h3,h4⟩;dsimp only at h0 h1 h2 h3 h4 |-;obtain ⟨k,rfl⟩:=cy3 h0;simp only [cy0] at h3 h4 |-;subst h2;refine ⟨λb=>?_,λr=>?_⟩
 .have b:(k:Int)<a.length:=cy7 b;have hs:=al0 (a.take k) (a.getD k 0);rw [<-A4 (by omega)] at hs;have hl:=ah8 (a.take k);rw [cA6] at hl;refine ⟨⟨h0,b⟩,⟨h0,by omega⟩,λq=>?_,λq=>⟨⟨rfl,λn=>?_,by omega,by omega⟩,λh=>(by cases h),λ_=>?_⟩⟩
  .rw [q] at hs;exact ⟨((k+1:Nat),0,m,mm,()),B3 (by omega) c,rfl,rfl,rfl,⟨by omega,by dsimp only;omega,rfl,by dsimp only;rw [cy0,hs];exact h3,by dsimp only;rw [cy0,hs];exact h4⟩,by dsimp only;omega⟩
  .have z:=ai3 i n (B0 (a.take k)) rd (S0 _);have B:=w.2.1 n;rw [h3];split at z<;>omega
  .rw [q,cond_false] at hs;refine ⟨((k+1:Nat),0,_,_,()),B3 (by omega) c,rfl,rfl,rfl,⟨by omega,by dsimp only;omega,rfl,?_,?_⟩,by dsimp only;omega⟩
   .dsimp only;rw [cy0,hs,aZ3,<-h3]
   .dsimp only;rw [cy0,hs,cz8,h4];simp only [cz3,List.length_nil];omega
 .have A:k=a.length:=by have:¬ (k:Int)<a.length:=cy6 r;omega
  subst A;rw [cA5] at h3 h4;rw [p,h3,h4]
theorem bH9:ItOk itAlloc:=by
 intro f k kY mp h Y' p;unfold itAlloc at h;cases hf:Nat.beq f 83 with
 |false=>rw [hf] at h;cases h
 |true=>
  have hf:=cx7 hf;subst hf;simp only [Nat.beq_refl,cond_true,List.mem_cons,List.not_mem_nil,or_false,cy9] at h;obtain ⟨rfl,rfl,rfl⟩:=h;exact ak4 (E:=EVy ylR (some at5) [(61,cContains)]) (cb2 _ _ _) ⟨Y7 (λx a=>by rcases List.mem_cons.1 a with rfl|a;exact N8 _;cases a),λ_ _ _ _ _ h=>(by cases h),λ_ _ _ h=>(by cases h),λk q=>by cases q;exact p,λ_ _ _ _ h=>(by cases h)⟩ bo1 Go.Proofs.Tryd.func83 (by kernel_rfl)
    (λ(st,c,d,e,g,sp,rd,j,ce,op,ks,oc,i,many,l,m,n,b,o,())=>br4 b rd i many) (λ(st,c,d,e,g,sp,rd,j,ce,op,ks,oc,i,many,l,m,n,b,o,()) r=>bV5 st c d e g sp rd j ce op ks oc i many l m n b o r) (by kernel_rfl) rfl
theorem aS1:∀ {l:List Ins},K0 l=true->∀ x∈l,aI8 x=true
 |[],_,x,a=>by simp at a
 |y::r,h,x,a=>by
  simp only [K0,cx9] at h;rcases List.mem_cons.1 a with rfl|a
  .exact h.1
  .exact aS1 h.2 x a
theorem cf2 (a:Int) (b:List Ins) (c d:List Int) (ks:Int) (hp:ad3 b=true/\K0 b=true/\c.length<=8796093022200):vc (EVd [] itAlloc [(41,cCheck),(51,cSpans),(52,cReads),(53,cDo),(54,cSlot)]) (bV3 a b c ks) Go.Proofs.Tryd.f15 cAlloc (a,b,c,d,ks,()):=by
 rw [cf1 a b c d ks];intro O Y e2 Z P e5 N _ _ _;obtain ⟨Q,R,hp3⟩:=hp;have o:O=((B4 ⟨a,b,c,d⟩ ks).1.params,(B4 ⟨a,b,c,d⟩ ks).1.slots,(B4 ⟨a,b,c,d⟩ ks).1.cells,(B4 ⟨a,b,c,d⟩ ks).1.code,(B4 ⟨a,b,c,d⟩ ks).1.out,(B4 ⟨a,b,c,d⟩ ks).2,()):=rfl;have s:N=D7 ⟨a,b,c,d⟩:=rfl;have y:P=(N !=0):=rfl;have z:Y=(decide (ks<1)||decide (ks >64)):=rfl;have S:Z=ins0:=rfl;have hA:B4 ⟨a,b,c,d⟩ ks=if D7 ⟨a,b,c,d⟩≠0 then (aI5,D7 ⟨a,b,c,d⟩) else if ks<1\/64<ks then (aI5,2) else if b.all (fewX ks)=false then (aI5,9)
   else (⟨a,ks,(runA (A7 a b c) (E6 b) ks b.length b 0 (I3 a)).ocells,(runA (A7 a b c) (E6 b) ks b.length b 0 (I3 a)).code,c.map (outA (runA (A7 a b c) (E6 b) ks b.length b 0 (I3 a)) ks)⟩,0):=rfl
 rw [hA] at o;clear hA
 clear_value O Y Z P
 subst S;have D:P=true->((0:Int),(0:Int),(0:Int),([]:List RIns),([]:List Place),N,())=O:=λh=>by
  have:D7 ⟨a,b,c,d⟩≠0:=by rw [y] at h;simpa [s] using h
  rw [o,if_pos this,<-s];rfl
 refine ⟨D,λh4=>⟨λh=>?_,λh=>?_⟩⟩
 .have E:¬ D7 ⟨a,b,c,d⟩≠0:=by rw [y] at h4;simpa [s] using h4
  have F:ks<1\/64<ks:=by rw [z] at h;simp only [Bool.or_eq_true,cz9] at h;omega
  rw [o,if_neg E,if_pos F];rfl
 have E:D7 ⟨a,b,c,d⟩=0:=by rw [y] at h4;simpa [s] using h4
 have F:1<=ks/\ks<=64:=by rw [z] at h;simp only [Bool.or_eq_false_iff,decide_eq_false_iff_not] at h;omega
 have C:=aX3 E;rw [if_neg (by rw [E];simp),if_neg (by omega)] at o;clear D E s
 clear_value N
 clear y z h4 h;have hlen:=C.len;have G:=C.pos;have hfew:=C.few;dsimp only [e2,e5];simp only [true_and,and_true,Bool.cond_self,Bool.and_true,bi7];refine ⟨C.few,⟨(0,[],()),rfl,rfl,Int.le_refl _,by dsimp only;omega,rfl,rfl⟩,?_⟩;rintro ⟨j,rd,⟨⟩⟩ ⟨h0,h1,h2,h3⟩;dsimp only at h0 h1 h2 h3 |-;obtain ⟨k,rfl⟩:=cy3 h0;simp only [cy0] at h2 h3 |-;refine ⟨λe=>?_,λg=>?_⟩
 .have e:(k:Int)<b.length:=cy7 e;have f:k<b.length:=by omega
  have hb:∀ x:Bool,fewX ks (b.getD k ins0)=x->b.all (fewX ks)=true->x=true:=λx h1 h2=>by rw [<-h1];exact cA7.1 h2 _ (F7 f _)
  have p:N5 (b.take (k+1)) 0 []=G0 rd (B0 (b.getD k ins0).from_) k:=by rw [A4 f ins0,ai2,cA6,Nat.min_eq_left (by omega),<-h2];simp
  have r:fewX ks (b.getD k ins0)=true->(b.take (k+1)).all (fewX ks)=true:=λh=>at0 ins0 f h3 h;have t:fewX ks (b.getD k ins0)=false->b.all (fewX ks)=false:=λh=>aX8 ins0 f h;obtain ⟨x,T⟩:∃ x,b.getD k ins0=x:=⟨_,rfl⟩;simp only [T] at hb p r t |-;have H:(decide ((0:Int)+((B0 x.from_).length:Int) >ks)||decide ((x.to.length:Int) >ks))=!fewX ks x:=by unfold fewX;rw [Bool.eq_iff_iff];simp only [Bool.or_eq_true,cz9,Bool.not_eq_true',Bool.and_eq_false_iff,decide_eq_false_iff_not];omega
  rw [H];refine ⟨⟨h0,e⟩,?_,?_,λq=>?_,λq=>?_⟩
  .rintro ⟨n,st,a0,a1,a2,a3,sp,rd2,ho,ce,op,ks2,oc,i,many,⟨⟩⟩ ⟨q1,q2,q3,q4⟩ _ _ _;dsimp only at q1 q2 q3 q4 |-;have q5:=q2 n;refine ⟨q1,?_,?_⟩
   .show ((getL rd2 n).length+1)*8<=_;omega
   .rw [M1 (by omega) (by omega)];rfl
  .intro n;have:=aL7 n (b.take k) 0 [];rw [<-h2,cA6] at this;have hg:(getL ([]:Reads) n).length=0:=rfl;omega
  .have q:fewX ks x=false:=by simpa using q
   rw [o,if_pos (t q)];rfl
  .have q:fewX ks x=true:=by simpa using q
   exact ⟨((k+1:Nat),_,()),B3 f (by omega),rfl,⟨by omega,by dsimp only;omega,by dsimp only;rw [cy0,p];rfl,by dsimp only;rw [cy0];exact r q⟩,by dsimp only;omega⟩
 have I:k=b.length:=by have:¬ (k:Int)<b.length:=cy6 g;omega
 subst I;rw [cA5] at h2 h3;have U:rd=E6 b:=h2;subst U;clear h2 h0 h1 g;rw [if_neg (by rw [h3];simp)] at o;refine ⟨⟨(0,[],()),rfl,rfl,Int.le_refl _,G,rfl⟩,?_⟩;rintro ⟨j,ce,⟨⟩⟩ ⟨h0,h1,h2⟩;dsimp only at h0 h1 h2 |-;obtain ⟨k,rfl⟩:=cy3 h0;simp only [cy0] at h2 |-;subst h2;refine ⟨λe=>?_,λg=>?_⟩
 .have e:(k:Int)<a:=cy7 e;refine ⟨((k+1:Nat),Q3 (k+1),()),?_,(aL6 k).symm,⟨by omega,by dsimp only;omega,by dsimp only;rw [cy0]⟩,by dsimp only;omega⟩;rw [M1 (by omega) (by omega)];rfl
 have I:(k:Int)=a:=by have:¬ (k:Int)<a:=cy6 g;omega
 have V:I3 a=⟨[],Q3 k,a,[]⟩:=by
  have:a.toNat=k:=by omega
  simp only [I3,this]
 clear h0 h1 g;refine ⟨⟨(0,[],Q3 k,a,[],()),rfl,rfl,rfl,rfl,rfl,Int.le_refl _,by dsimp only;omega,by simp only [Int.toNat_zero,List.take_zero,runA];exact V⟩,?_⟩;rintro ⟨j,m,cc,oc,q,⟨⟩⟩ ⟨h0,h1,h2⟩;dsimp only at h0 h1 h2 |-;obtain ⟨u,rfl⟩:=cy3 h0;simp only [cy0] at h2 |-;have W:=bz3 F.2 (A7 a b c) (E6 b) b.length (b.take u) 0 (I3 a) (cA7.2 λx hx=>cA7.1 h3 x (List.mem_of_mem_take hx));rw [h2,cA6] at W;simp only [I3,List.length_nil] at W;refine ⟨λe=>?_,λg=>?_⟩
 .have e:(u:Int)<b.length:=cy7 e;have f:u<b.length:=by omega
  have X:=(bj0 C h3 (A7 a b c) (E6 b) b.length u (by omega)).2 f;rw [h2] at X;have v:runA (A7 a b c) (E6 b) ks b.length (b.take (u+1)) 0 (I3 a)=doOf (A7 a b c) (E6 b) ks b.length u (b.getD u ins0) ⟨m,cc,oc,q⟩:=by rw [A4 f ins0,aL4,cA6,Nat.min_eq_left (by omega),h2]
  have w:=F7 f ins0;have J:=aS1 R _ w;have A:=cA7.1 Q _ w;have K:=cA7.1 h3 _ w;generalize b.getD u ins0=x at X v J A K |-;simp only [cx9,cz9] at A;simp only [fewX,cx9,cz9] at K;refine ⟨⟨h0,e⟩,⟨ak9.2 ((W4 x).1 J),A.1,by omega,by omega,am8 b,X,F.2,by omega,by omega,by omega,by omega,by omega⟩,((u+1:Nat),_,_,_,_,()),B3 f (by omega),rfl,rfl,rfl,rfl,⟨by omega,by dsimp only;omega,?_⟩,by dsimp only;omega⟩;dsimp only;rw [cy0,v];rfl
 have L:u=b.length:=by have:¬ (u:Int)<b.length:=cy6 g;omega
 subst L;rw [cA5] at h2;rw [h2] at o |-;clear h0 h1 g W;dsimp only at o;refine ⟨⟨(0,[],()),rfl,rfl,Int.le_refl _,by dsimp only;omega,rfl⟩,?_⟩;rintro ⟨j,l,⟨⟩⟩ ⟨h0,h1,h4⟩;dsimp only at h0 h1 h4 |-;obtain ⟨B,rfl⟩:=cy3 h0;simp only [cy0] at h4 |-;subst h4;refine ⟨λe=>?_,λg=>?_⟩
 .have e:(B:Int)<c.length:=cy7 e;have f:B<c.length:=by omega
  refine ⟨⟨h0,e⟩,F.2,?_,((B+1:Nat),_,()),B3 f (by omega),rfl,⟨by omega,by dsimp only;omega,?_⟩,by dsimp only;omega⟩
  .rw [cA8,cA6];simp only [cz3,List.length_nil];omega
  .dsimp only;rw [cy0,A4 f 0,List.map_append];congr 1;show _=[outA _ ks (c.getD B 0)];generalize c.getD B 0=n;unfold outA;dsimp only;cases hc:(C3 m ks n).cell with
   |true=>rfl
   |false=>simp only [cond_false];rw [<-hc]
 .have M:B=c.length:=by have:¬ (B:Int)<c.length:=cy6 g;omega
  subst M;rw [cA5,o]
theorem aL8:D0 prog RG 15 cAlloc:=bx9 bH9 (A5 ap2 (A5 aK2 (A5 aL2 (A5 ce9 (A5 aw4 C0))))) (λp=>bV3 p.1 p.2.1 p.2.2.1 p.2.2.2.2.1) (by kernel_rfl) (by kernel_rfl) (by kernel_rfl) λ(a,b,c,d,ks,()) e=>cf2 a b c d ks e
def bigX (x:Ins):Bool:=decide (60<x.to.length)||decide (60<x.from_.length)
def bigF (f:VFun):Bool:=decide (60<f.code.length)||decide (60<f.out.length)||decide (100<f.params)
def ap3 (f:VFun):Bool:=bigF f||f.code.any bigX
def cGreat:Con RU:=con [(true,4)] ag6 [one] [.bool] [false] none λp=>(ap3 ⟨p.1,p.2.1,p.2.2.1,p.2.2.2.1⟩,())
def bV6 (a:Int) (b:List Ins) (c d:List Int):Nat->St RU->Ann RU:=λ_ _=>⟨[],[.slot 3,.slot 4],[.bool,i64],λp=>0<=p.2.1/\p.2.1<=b.length/\p.1=(bigF ⟨a,b,c,d⟩||(b.take p.2.1.toNat).any bigX),λp=>b.length-p.2.1.toNat,[]⟩
def insI (to:Int) (fr:List Int):Ins:=⟨1,0,[to],fr,[]⟩
def I9:VFun:=⟨2,[insI 2 [0,1],insI 3 [2,0],insI 4 [3,1],insI 5 [4,2]],[5],[]⟩
def cIns:Con RU:=con [one,one] [i64,ints] [(true,5)] aI9 [false,false,false,false,false] none λp=>(1,0,[p.1],p.2.1,[],())
def cFour:Con RU:=con [] [] [(true,4)] ag6 [false,false,false,false] none λ_=>(2,I9.code,[5],[],())
abbrev bV7:List Ty:=[i64,i64,i64,i64,i64,ints,ints,inss]
abbrev own8:List Bool:=[false,false,false,false,false,false,false,false]
def cLoadI:Con RU:=con [one,one] [i64,i64] [(true,8)] bV7 own8 none λp=>(1,p.1,p.2.1,0,0,[],[],[],())
def cStoreI:Con RU:=con [one,one] [i64,i64] [(true,8)] bV7 own8 none λp=>(2,p.1,p.2.1,0,0,[],[],[],())
def cDoI:Con RU:=con [one,one] [i64,ints] [(true,8)] bV7 own8 none λp=>(0,0,0,1,0,[p.1],p.2.1,[],())
def cf3 (x y:RIns):Bool:=(x.kind==y.kind)&&((x.kind==0)&&insB x.ins y.ins||((x.kind !=0)&&(x.slot==y.slot)&&(x.cell==y.cell)))
def X0 (l m:List RIns) (k:Nat):Bool:=(decide (l.length=m.length))&&((l.zip m).take k).all λp=>cf3 p.1 p.2
def br5 (l m:List RIns):Bool:=X0 l m l.length
def cSame:Con RU:=con [one,one] [al6,al6] [one] [.bool] [false] none λp=>(br5 p.1 p.2.1,())
def cr1 (l m:List RIns):Nat->St RU->Ann RU:=λ_ _=>⟨[],[.slot 5,.slot 6],[.bool,i64],λp=>0<=p.2.1/\p.2.1<=l.length/\p.1=X0 l m p.2.1.toNat,λp=>l.length-p.2.1.toNat,[]⟩
def cSlotted:Con RU:=con [] [] [one] [.bool] [false] none λ_=>(true,())
def bz4 (b:List Ins) (c:List Int):Prop:=K0 b=true/\ad3 b=true/\c.length<=17592186044400
end Go.Rg
end
section
namespace Go.Proofs.YtknhkhdbonjhgaaDoor
open Go.ChangeShapes Go.WideShapes Go.ChangeAt Go.RowKit Go.VT
theorem own:ownKnob Tryd.prog.godebug=none:=by kernel_rfl
theorem cr2:laidOutB Tryd.prog=true:=by kernel_rfl
theorem cv9:Tryd.prog.globalNamed "sheafworks/regs.never"=some 1:=by kernel_rfl
theorem cf4:Tryd.prog.globalNamed "sheafworks/regs.nowhere"=some 0:=by kernel_rfl
theorem cw0:(Tryd.prog.globals[1]?).map (·.type)=some 107:=by kernel_rfl
theorem cf5:(Tryd.prog.globals[0]?).map (·.type)=some 59:=by kernel_rfl
abbrev bI0:List (String×DataW Unit):=[("sheafworks/regs.never",Rows.laid_sheafworks_regs_never),("sheafworks/regs.nowhere",Rows.laid_sheafworks_regs_nowhere)]
theorem cf6 (os:Os) (args:Array Value):laidMetH Tryd.prog bI0 ((World.doorLaid Tryd.prog 600 os).forCall (λ_ _=>0) ⟨#[],args,[]⟩).memory:=
 laidMetH_of_parts3 (fuel:=8) (laidMet_of_run' 8 (by kernel_rfl) (by kernel_rfl)) (by kernel_rfl) (by kernel_rfl)
theorem az9:Tryd.prog.cellsOf 3=1:=by kernel_rfl
theorem cw1:Tryd.prog.cellsOf 4=1:=by kernel_rfl
theorem bV8:Tryd.prog.cellsOf 22=1:=by kernel_rfl
theorem aZ4:Tryd.prog.cellsOf 23=1:=by kernel_rfl
theorem cr3:Tryd.prog.cellsOf 25=4:=by kernel_rfl
theorem br6:Tryd.prog.cellsOf 52=5:=by kernel_rfl
theorem cr4:Tryd.prog.cellsOf 59=2:=by kernel_rfl
theorem cf7:Tryd.prog.cellsOf 107=2:=by kernel_rfl
theorem ci5:Tryd.prog.bytesOf 3=8:=by kernel_rfl
theorem bV9:Tryd.prog.bytesOf 52=88:=by kernel_rfl
theorem aS2 {W:World} {g i:Nat} {v:Value} (h:W.cell? ⟨g,i,none⟩=some v):g<W.heap.size:=by
 unfold World.cell? at h;cases a:W.heap[g]? with
 |none=>simp [a] at h
 |some ob=>exact (cz5.1 a).1
theorem cr5 {W:World} (h:laidMetH Tryd.prog bI0 W):∀ g fs,(g,fs)∈Go.Rg.RG->g<W.heap.size/\∀ i f,fs.cell i=some f->W.cell? ⟨g,i,none⟩=some f:=by
 obtain ⟨ps,⟨H,I,cs1,fuel1,J,K,a,q,e,r,⟨L,t0,cs0,fuel0,p0,M,b,s,k,t,_⟩,_⟩,_⟩:laidMet Tryd.prog bI0 W:=h;obtain rfl:=Option.some.inj (cv9.symm.trans a);obtain rfl:=Option.some.inj (cf4.symm.trans b);obtain rfl:=Option.some.inj (cw0.symm.trans q);obtain rfl:=Option.some.inj (cf5.symm.trans s);obtain ⟨N,O,n,p,hl,c,d⟩:=trod_struct2 Tryd.underlying107 r;obtain ⟨P,Q,m,kx,kl,ky1,ky2⟩:=trod_struct2 Tryd.underlying59 t;rw [cf7] at hl;rw [cr4] at kl;obtain ⟨R,eu1,u⟩:=aQ3 (cs:=cs1.toList) (j:=0) (by omega);obtain ⟨S,eu2,v⟩:=aQ3 (cs:=cs1.toList) (j:=1) (by omega);obtain ⟨w1,ew1,w⟩:=aQ3 (cs:=cs0.toList) (j:=0) (by omega);obtain ⟨T,ew2,x⟩:=aQ3 (cs:=cs0.toList) (j:=1) (by omega);dsimp only at c d ky1 ky2;rw [az9,u] at c;rw [az9,v] at d;rw [cw1,w] at ky1;rw [az9,x] at ky2;obtain ⟨U,A,E,_⟩:=DataW.trod_int Tryd.underlying3 c;obtain ⟨V,B,F,_⟩:=DataW.trod_int Tryd.underlying3 d;obtain ⟨X,C,f3⟩:=DataW.trod_bool Tryd.underlying4 ky1;obtain ⟨Y,D,G,_⟩:=DataW.trod_int Tryd.underlying3 ky2;rw [E,F] at p;rw [f3,G] at kx;simp only [Rows.laid_sheafworks_regs_never,cy9,DataW.agg.injEq,List.cons.injEq,DataW.lit.injEq,Lit.int.injEq,true_and,and_true] at p;simp only [Rows.laid_sheafworks_regs_nowhere,cy9,DataW.agg.injEq,List.cons.injEq,DataW.lit.injEq,Lit.int.injEq,Lit.bool.injEq,true_and,and_true] at kx;simp only [List.cons.injEq,and_true] at A B C D;rw [A,<-p.1.1] at eu1;rw [B,<-p.1.2] at eu2;rw [C,<-kx.1.1] at ew1;rw [D,<-kx.1.2] at ew2;have l:W.cell? ⟨1,0,none⟩=some (.int .i64 0):=by rw [World.var?_cell a e 0];simpa using eu1
 have y:W.cell? ⟨1,1,none⟩=some (.int .i64 (-1)):=by rw [World.var?_cell a e 1];simpa using eu2
 have o:W.cell? ⟨0,0,none⟩=some (.bool true):=by rw [World.var?_cell b k 0];simpa using ew1
 have z:W.cell? ⟨0,1,none⟩=some (.int .i64 (-1)):=by rw [World.var?_cell b k 1];simpa using ew2
 intro g fs hm;simp only [Go.Rg.RG,List.mem_cons,List.not_mem_nil,or_false,cy9] at hm;rcases hm with ⟨rfl,rfl⟩|⟨rfl,rfl⟩
 .refine ⟨aS2 o,λi f hf=>?_⟩
  match i,hf with
  |0,hf=>cases hf;exact o
  |1,hf=>cases hf;exact z
  |_+2,hf=>simp [Glob.cell] at hf
 .refine ⟨aS2 l,λi f hf=>?_⟩
  match i,hf with
  |0,hf=>cases hf;exact l
  |1,hf=>cases hf;exact y
  |_+2,hf=>simp [Glob.cell] at hf
def readL:List (TypeId×Ty):=[(3,Go.Rg.i64),(4,.bool),(52,.user 0),(23,Go.Rg.ints),(22,Go.Rg.inss)]
theorem cr6:bx6 Tryd.prog Go.Rg.RU readL:=by
 intro t ty hm;simp only [readL,List.mem_cons,cy9,List.not_mem_nil,or_false] at hm;rcases hm with ⟨rfl,rfl⟩|⟨rfl,rfl⟩|⟨rfl,rfl⟩|⟨rfl,rfl⟩|⟨rfl,rfl⟩
 .exact Tryd.underlying3
 .exact Tryd.underlying4
 .refine ⟨_,Tryd.underlying52,br6,λj ty' a=>?_⟩
  match j,a with
  |0,a=>cases a;exact ⟨0,_,Go.Rg.i64,rfl,by simp [readL],Nat.le_refl _,az9,by decide,rfl⟩
  |1,a=>cases a;exact ⟨1,_,Go.Rg.i64,rfl,by simp [readL],Nat.le_refl _,az9,by decide,rfl⟩
  |2,a=>cases a;exact ⟨2,_,Go.Rg.ints,rfl,by simp [readL],Nat.le_refl _,aZ4,by decide,rfl⟩
  |3,a=>cases a;exact ⟨3,_,Go.Rg.ints,rfl,by simp [readL],Nat.le_refl _,aZ4,by decide,rfl⟩
  |4,a=>cases a;exact ⟨4,_,Go.Rg.inss,rfl,by simp [readL],Nat.le_refl _,bV8,by decide,rfl⟩
  |j+5,a=>simp [Go.Rg.RU] at a
 .exact ⟨Tryd.underlying23,az9,by rw [az9];decide,by rw [ci5];decide,by simp [readL]⟩
 .exact ⟨Tryd.underlying22,br6,by rw [br6];decide,by rw [bV9];decide,by simp [readL]⟩
theorem cr7:cb1 Tryd.prog Go.Rg.RU readL 3 false [Go.Rg.i64]:=.inl ⟨rfl,_,rfl,rfl,by simp [readL]⟩
theorem cr8:cb1 Tryd.prog Go.Rg.RU readL 25 true [Go.Rg.i64,Go.Rg.inss,Go.Rg.ints,Go.Rg.ints]:=by
 refine .inr (.inl ⟨rfl,_,Tryd.underlying25,cr3,rfl,λj f ty' hf a=>?_⟩)
 match j,hf,a with
 |0,hf,a=>cases hf;cases a;exact ⟨rfl,az9,rfl,by simp [readL]⟩
 |1,hf,a=>cases hf;cases a;exact ⟨rfl,bV8,rfl,by simp [readL]⟩
 |2,hf,a=>cases hf;cases a;exact ⟨rfl,aZ4,rfl,by simp [readL]⟩
 |3,hf,a=>cases hf;cases a;exact ⟨rfl,aZ4,rfl,by simp [readL]⟩
 |j+4,hf,a=>simp at a
theorem aa8 {l:List Int} (h:Light Tryd.prog (U:=Go.Rg.RU) ⟨Go.Rg.ints,l⟩):l.length<=17592186043904:=by
 cases h with
 |slice e t l h hr=>rw [ci5] at h;simp only [reachBytes] at h;omega
theorem aS3 {l:List Go.Rg.Ins} (h:Light Tryd.prog (U:=Go.Rg.RU) ⟨Go.Rg.inss,l⟩):l.length<=1599289640354/\∀ x∈l,Light Tryd.prog (U:=Go.Rg.RU) ⟨Go.Rg.ints,x.to⟩/\Light Tryd.prog (U:=Go.Rg.RU) ⟨Go.Rg.ints,x.from_⟩/\Light Tryd.prog (U:=Go.Rg.RU) ⟨Go.Rg.inss,x.body⟩:=by
 cases h with
 |slice e t l h hr=>
  rw [bV9] at h;simp only [reachBytes] at h;have hl:(l:List Go.Rg.Ins).length<=1599289640354:=by have h':(l:List Go.Rg.Ins).length*88<=140737488351232:=h;omega
  refine ⟨hl,λx a=>⟨?_,?_,?_⟩⟩
  .exact hr x a _ (.tail _ (.tail _ (.head _)))
  .exact hr x a _ (.tail _ (.tail _ (.tail _ (.head _))))
  .exact hr x a _ (.tail _ (.tail _ (.tail _ (.tail _ (.head _)))))
mutual
theorem br7:∀ (x:Go.Rg.Ins),Light Tryd.prog (U:=Go.Rg.RU) ⟨Go.Rg.ints,x.to⟩->Light Tryd.prog (U:=Go.Rg.RU) ⟨Go.Rg.ints,x.from_⟩->Light Tryd.prog (U:=Go.Rg.RU) ⟨Go.Rg.inss,x.body⟩->Go.Rg.aI8 x=true
 |⟨o,n,t,f,b⟩,h1,h2,h3=>by have h5:t.length<=_:=aa8 h1;have h6:f.length<=_:=aa8 h2;have h4:=aS3 h3;simp only [Go.Rg.aI8,cx9,cz9];exact ⟨⟨⟨by omega,by omega⟩,h4.1⟩,ai4 b h4.2⟩
theorem ai4:∀ (l:List Go.Rg.Ins),(∀ x∈l,Light Tryd.prog (U:=Go.Rg.RU) ⟨Go.Rg.ints,x.to⟩/\Light Tryd.prog (U:=Go.Rg.RU) ⟨Go.Rg.ints,x.from_⟩/\Light Tryd.prog (U:=Go.Rg.RU) ⟨Go.Rg.inss,x.body⟩)->Go.Rg.K0 l=true
 |[],_=>by simp [Go.Rg.K0]
 |x::r,h=>by simp only [Go.Rg.K0,cx9];have hx:=h x (by simp);exact ⟨br7 x hx.1 hx.2.1 hx.2.2,ai4 r (λy hy=>h y (by simp [hy]))⟩
end
theorem cf8 {b:List Go.Rg.Ins} {c:List Int} (e:Light Tryd.prog (U:=Go.Rg.RU) ⟨Go.Rg.inss,b⟩) (hc:Light Tryd.prog (U:=Go.Rg.RU) ⟨Go.Rg.ints,c⟩):Go.Rg.bz4 b c:=by have a:=aS3 e;refine ⟨ai4 b a.2,?_,by have:=aa8 hc;omega⟩;unfold Go.Rg.ad3;rw [cA7];intro x d;have h1:=aa8 (a.2 x d).1;have h2:=aa8 (a.2 x d).2.1;rw [cx9,cz9,cz9];omega
theorem bI1 {W:World} {a k:Int} {b:List Go.Rg.Ins} {c d:List Int} {us:List Value} (h:Reps Tryd.prog Go.Rg.RU W (A8 Go.Rg.RU [Go.Rg.i64,Go.Rg.inss,Go.Rg.ints,Go.Rg.ints,Go.Rg.i64] (a,b,c,d,k,())) us):Go.Rg.bz4 b c:=
 cf8 (h.light _ (by simp [A8])) (h.light _ (by simp [A8]))
theorem at6 {H:Type} {enc:TypeId×Value->H} {W W':World} (f:Below W.heap.size W W'):∀ {ts:List TypeId} {vs:List Value} {ds:List (DataW H)} {ps:List MemPlace},(∀ t∈ts,Tryd.prog.readableRec t=true/\t<Tryd.prog.types.size)->
  DataW.TrodAll enc Tryd.prog W 0 (λ_=>true) true ts vs ds ps->(∀ x∈ps,x.block<W.heap.size)->DataW.TrodAll enc Tryd.prog W' 0 (λb=>decide (b<W.heap.size)) true ts vs ds ps
 |[],[],[],ps,_,h,_=>h
 |[],_::_,_,_,_,h,_=>h.elim
 |[],[],_::_,_,_,h,_=>h.elim
 |_::_,[],_,_,_,h,_=>h.elim
 |_::_,_::_,[],_,_,h,_=>h.elim
 |t::ts,v::vs,d::ds,ps,c,h,a=>by obtain ⟨p,q,h1,h2,rfl⟩:=h;exact ⟨p,q,Below.trod cr2 (c t (by simp)).1 (c t (by simp)).2 h1 f (λx e=>a x (by simp [e])),at6 f (λt' h'=>c t' (by simp [h'])) h2 (λx e=>a x (by simp [e])),rfl⟩
theorem cf9 {H:Type} {enc:TypeId×Value->H} {fn:Func} {s:ChangeSpec} (hs:s.vars=[]) {W W':World} {args:Array Value} {ds gs:List (DataW H)} {az3:List MemPlace}
  (e:DataW.Whole enc Tryd.prog fn.params.toList s.vars false W args.toList ds gs az3) (f:Below W.heap.size W W') (b:fn.resultTypes=#[4])
  (a:s.fn H ds={ results:=[.lit (.bool true)],args:=ds }) (i:∀ t∈fn.params.toList,Tryd.prog.readableRec t=true/\t<Tryd.prog.types.size):
  s.post enc Tryd.prog fn false true false false W args (.bool true) W':=by
 have c:=e;obtain ⟨p,q,j,d,rfl,k,l⟩:=e;rw [hs] at d;obtain ⟨rfl,rfl⟩:gs=[]/\q=[]:=by
  cases gs with
  |nil=>exact ⟨rfl,d⟩
  |cons g r=>exact absurd d (by intro h;cases h)
 refine ⟨ds,[],p++[],[],p,[],c,?_,?_,?_,f.frame _,λh=>by cases h⟩
 .rw [List.append_nil,a,b];exact trodAll_mk1 (shut_bool Tryd.underlying4 true)
 .rw [List.append_nil,a];exact at6 f i j (λx m=>c.lt x (by simp [m]))
 .rw [List.append_nil,a,hs];rfl
theorem aL9 {H:Type} {enc:TypeId×Value->H} {P:Program} {w:World} {base:Nat} {sp:Nat->Bool} {held:Bool}:∀ {ts:List TypeId} {vs:List Value} {ds:List (DataW H)} {ps:List MemPlace},DataW.TrodAll enc P w base sp held ts vs ds ps->ds.length=ts.length
 |[],[],[],_,_=>rfl
 |[],_::_,_,_,h=>h.elim
 |[],[],_::_,_,h=>h.elim
 |_::_,[],_,_,h=>h.elim
 |_::_,_::_,[],_,h=>h.elim
 |t::ts,v::vs,d::ds,ps,h=>by obtain ⟨p,q,_,h2,_⟩:=h;simp [aL9 h2]
end Go.Proofs.YtknhkhdbonjhgaaDoor
end
section
namespace Go.Rg
open Go Go.VT
theorem cg0 (a:Int) (b:List Ins) (c d:List Int):vc (EV []) (bV6 a b c d) Go.Proofs.Tryd.f13 cGreat (a,b,c,d,())=(
 let f:Int:=(↑(List.length b):Int);
 let g:Ins:=Ins.mk (0:Int) (0:Int) [] [] [];
  Small RU (Sigma.mk (Ty.slice (52:Nat) (Ty.user (0:Nat))) b)->
  Small RU (Sigma.mk (Ty.slice (3:Nat) (Ty.int IntKind.i64)) c)->
  Small RU (Sigma.mk (Ty.slice (3:Nat) (Ty.int IntKind.i64)) d)->
  (∃ (p:Bool×Int×Unit),
  a=a/\
  b=b/\
  c=c/\
  d=d/\
  false=false/\
  (decide (f >(60:Int))||decide ((↑(List.length c):Int) >(60:Int))||decide (a >(100:Int)))=p.1/\
  (0:Int)=p.2.1/\
  a=a/\b=b/\c=c/\d=d/\(0:Int)<=p.2.1/\p.2.1<=f/\p.1=(bigF (VFun.mk a b c d)||List.any (List.take (Int.toNat p.2.1) b) bigX))/\
  ∀ (p:Bool×Int×Unit),
 let e0_1:Bool:=decide ((↑(List.length (List.getD b (Int.toNat p.2.1) g).to):Int) >(60:Int));
 let e1_1:Bool:=decide (p.2.1<f)&&!p.1;
 let e:Int:=p.2.1;
  (0:Int)<=e/\e<=f/\p.1=(bigF (VFun.mk a b c d)||List.any (List.take (Int.toNat e) b) bigX)->
  (e1_1=true->
  ((0:Int)<=e/\e<f)/\
  (e0_1=false->(0:Int)<=e/\e<f)/\
  ∃ (p':Bool×Int×Unit),
  a=a/\
  b=b/\
  c=c/\
  d=d/\
  false=false/\
  (e0_1||decide ((↑(List.length (List.getD b (Int.toNat e) g).from_):Int) >(60:Int)))=p'.1/\
  IntKind.i64.wrap (e+(1:Int))=p'.2.1/\
  a=a/\
  b=b/\
  c=c/\
  d=d/\
  ((0:Int)<=p'.2.1/\p'.2.1<=f/\p'.1=(bigF (VFun.mk a b c d)||List.any (List.take (Int.toNat p'.2.1) b) bigX))/\
  List.length b-Int.toNat p'.2.1<List.length b-Int.toNat e)/\
  (e1_1=false->(p.1,())=(ap3 (VFun.mk a b c d),()))):=by kernel_rfl
theorem cw2 (a:Int) (b:List Int):vc (EV []) noL Go.Proofs.Tryd.f46 cIns (a,b,())=(
 let c:Int×Int×List Int×List Int×List Ins×Unit:=((1:Int),(0:Int),[a],b,[],());
  Small RU (Sigma.mk (Ty.slice (3:Nat) (Ty.int IntKind.i64)) b)->c=c):=by kernel_rfl
theorem cg1 (a b:Int):vc (EV []) noL Go.Proofs.Tryd.f47 cLoadI (a,b,())=(
 let c:Int×Int×Int×Int×Int×List Int×List Int×List Ins×Unit:=((1:Int),a,b,(0:Int),(0:Int),[],[],[],());
  c=c):=by kernel_rfl
theorem bW0 (a b:Int):vc (EV []) noL Go.Proofs.Tryd.f48 cStoreI (a,b,())=(
 let c:Int×Int×Int×Int×Int×List Int×List Int×List Ins×Unit:=((2:Int),a,b,(0:Int),(0:Int),[],[],[],());
  c=c):=by kernel_rfl
theorem cw3 (a:Int) (b:List Int):vc (EV [(46,cIns)]) noL Go.Proofs.Tryd.f49 cDoI (a,b,())=(
 let c:Int×Int×Int×Int×Int×List Int×List Int×List Ins×Unit:=((0:Int),(0:Int),(0:Int),(1:Int),(0:Int),[a],b,[],());
  Small RU (Sigma.mk (Ty.slice (3:Nat) (Ty.int IntKind.i64)) b)->c=c):=by kernel_rfl
theorem cr9 (l m:List RIns):vc (EV [(57,cSameIns)]) (cr1 l m) Go.Proofs.Tryd.f45 cSame (l,m,())=(
 let b:RIns:=RIns.mk (0:Int) (0:Int) (0:Int) ins0;
 let c:Int:=(↑(List.length l):Int);
 let e:Int:=(↑(List.length m):Int);
  Small RU (Sigma.mk (Ty.slice (55:Nat) (Ty.user (1:Nat))) l)->
  Small RU (Sigma.mk (Ty.slice (55:Nat) (Ty.user (1:Nat))) m)->
  (∃ (p:Bool×Int×Unit),l=l/\m=m/\false=false/\(c==e)=p.1/\(0:Int)=p.2.1/\(0:Int)<=p.2.1/\p.2.1<=c/\p.1=X0 l m (Int.toNat p.2.1))/\
  ∀ (p:Bool×Int×Unit),
 let e0_1:Bool:=
  (List.getD l (Int.toNat p.2.1) b).kind==(0:Int)&&
  insB
  (Ins.mk (List.getD l (Int.toNat p.2.1) b).ins.op (List.getD l (Int.toNat p.2.1) b).ins.n (List.getD l (Int.toNat p.2.1) b).ins.to
  (List.getD l (Int.toNat p.2.1) b).ins.from_ (List.getD l (Int.toNat p.2.1) b).ins.body)
  (Ins.mk (List.getD m (Int.toNat p.2.1) b).ins.op (List.getD m (Int.toNat p.2.1) b).ins.n (List.getD m (Int.toNat p.2.1) b).ins.to
  (List.getD m (Int.toNat p.2.1) b).ins.from_ (List.getD m (Int.toNat p.2.1) b).ins.body);
 let e1_1:Bool:=(List.getD l (Int.toNat p.2.1) b).kind !=(0:Int)&&(List.getD l (Int.toNat p.2.1) b).slot==(List.getD m (Int.toNat p.2.1) b).slot;
 let e2_1:Bool:=p.1&&decide (p.2.1<c);
 let a:Int:=p.2.1;
 let d:Bool:=(List.getD l (Int.toNat a) b).kind==(List.getD m (Int.toNat a) b).kind;
  (0:Int)<=a/\a<=c/\p.1=X0 l m (Int.toNat a)->
  (e2_1=true->
  ((0:Int)<=a/\a<c)/\
  ((0:Int)<=a/\a<e)/\
  (d=true->(0:Int)<=a/\a<c)/\
  (d=true->((List.getD l (Int.toNat a) b).kind==(0:Int))=true->(0:Int)<=a/\a<c)/\
  (d=true->((List.getD l (Int.toNat a) b).kind==(0:Int))=true->(0:Int)<=a/\a<e)/\
  (d=true->e0_1=false->(0:Int)<=a/\a<c)/\
  (d=true->e0_1=false->((List.getD l (Int.toNat a) b).kind !=(0:Int))=true->(0:Int)<=a/\a<c)/\
  (d=true->e0_1=false->((List.getD l (Int.toNat a) b).kind !=(0:Int))=true->(0:Int)<=a/\a<e)/\
  (d=true->e0_1=false->e1_1=true->(0:Int)<=a/\a<c)/\
  (d=true->e0_1=false->e1_1=true->(0:Int)<=a/\a<e)/\
  ∃ (p':Bool×Int×Unit),
  l=l/\
  m=m/\
  false=false/\
  (d&&(e0_1||e1_1&&(List.getD l (Int.toNat a) b).cell==(List.getD m (Int.toNat a) b).cell))=p'.1/\
  IntKind.i64.wrap (a+(1:Int))=p'.2.1/\
  ((0:Int)<=p'.2.1/\p'.2.1<=c/\p'.1=X0 l m (Int.toNat p'.2.1))/\
  List.length l-Int.toNat p'.2.1<List.length l-Int.toNat a)/\
  (e2_1=false->(p.1,())=(br5 l m,()))):=by kernel_rfl
theorem cs3:vc (EV [(46,cIns)]) noL Go.Proofs.Tryd.f50 cFour ()=(
 let a:List Int×List Int×Unit:=([(5:Int)],[],());
  ((2:Int),
  [Ins.mk (1:Int) (0:Int) [(2:Int)] [(0:Int),(1:Int)] [],Ins.mk (1:Int) (0:Int) [(3:Int)] [(2:Int),(0:Int)] [],
  Ins.mk (1:Int) (0:Int) [(4:Int)] [(3:Int),(1:Int)] [],Ins.mk (1:Int) (0:Int) [(5:Int)] [(4:Int),(2:Int)] []],
  a)=
  ((2:Int),I9.code,a)):=by kernel_rfl
theorem bI2:vc (EV [(50,cFour),(33,cLive),(29,cPress),(15,cAlloc),(20,cBack),(17,cCount),(41,cCheck),(22,cValid),(47,cLoadI),(48,cStoreI),(49,cDoI),(45,cSame),(43,cEqualLists),(24,cSameVec)]) noL Go.Proofs.Tryd.f14 cSlotted ()=(
 let c:VFun:=
  (N4
  (RCode.mk (B4 (VFun.mk (2:Int) I9.code [(5:Int)] []) (2:Int)).1.params (B4 (VFun.mk (2:Int) I9.code [(5:Int)] []) (2:Int)).1.slots
  (B4 (VFun.mk (2:Int) I9.code [(5:Int)] []) (2:Int)).1.cells (B4 (VFun.mk (2:Int) I9.code [(5:Int)] []) (2:Int)).1.code
  (B4 (VFun.mk (2:Int) I9.code [(5:Int)] []) (2:Int)).1.out)).1;
 let e:Bool:=
  (Q2 (VFun.mk (2:Int) I9.code [(5:Int)] [])).2 !=(0:Int)||(W3 (VFun.mk (2:Int) I9.code [(5:Int)] [])).2 !=(0:Int)||
  (B4 (VFun.mk (2:Int) I9.code [(5:Int)] []) (3:Int)).2 !=(0:Int)||
  (B4 (VFun.mk (2:Int) I9.code [(5:Int)] []) (2:Int)).2 !=(0:Int)||
  (B4 (VFun.mk (2:Int) I9.code [(5:Int)] []) (1:Int)).2 !=(9:Int)||
  (N4
  (RCode.mk (B4 (VFun.mk (2:Int) I9.code [(5:Int)] []) (2:Int)).1.params (B4 (VFun.mk (2:Int) I9.code [(5:Int)] []) (2:Int)).1.slots
  (B4 (VFun.mk (2:Int) I9.code [(5:Int)] []) (2:Int)).1.cells (B4 (VFun.mk (2:Int) I9.code [(5:Int)] []) (2:Int)).1.code
  (B4 (VFun.mk (2:Int) I9.code [(5:Int)] []) (2:Int)).1.out)).2 !=
  (0:Int)||
  D7 (VFun.mk (2:Int) I9.code [(5:Int)] []) !=(0:Int)||
  O2
  (RCode.mk (B4 (VFun.mk (2:Int) I9.code [(5:Int)] []) (3:Int)).1.params (B4 (VFun.mk (2:Int) I9.code [(5:Int)] []) (3:Int)).1.slots
  (B4 (VFun.mk (2:Int) I9.code [(5:Int)] []) (3:Int)).1.cells (B4 (VFun.mk (2:Int) I9.code [(5:Int)] []) (3:Int)).1.code
  (B4 (VFun.mk (2:Int) I9.code [(5:Int)] []) (3:Int)).1.out) !=
  (0:Int);
 let f:Bool:=
  decide
  ((Q2 (VFun.mk (2:Int) I9.code [(5:Int)] [])).1=
  [[(0:Int),(1:Int)],[(0:Int),(1:Int),(2:Int)],[(1:Int),(2:Int),(3:Int)],[(2:Int),(4:Int)],[(5:Int)]])&&
  (W3 (VFun.mk (2:Int) I9.code [(5:Int)] [])).1==(3:Int)&&
  br5 (B4 (VFun.mk (2:Int) I9.code [(5:Int)] []) (3:Int)).1.code
  [RIns.mk (1:Int) (0:Int) (0:Int) (Ins.mk (0:Int) (0:Int) [] [] []),RIns.mk (1:Int) (1:Int) (1:Int) (Ins.mk (0:Int) (0:Int) [] [] []),
  RIns.mk (0:Int) (0:Int) (0:Int) (Ins.mk (1:Int) (0:Int) [(2:Int)] [(0:Int),(1:Int)] []),
  RIns.mk (0:Int) (0:Int) (0:Int) (Ins.mk (1:Int) (0:Int) [(0:Int)] [(2:Int),(0:Int)] []),
  RIns.mk (0:Int) (0:Int) (0:Int) (Ins.mk (1:Int) (0:Int) [(0:Int)] [(0:Int),(1:Int)] []),
  RIns.mk (0:Int) (0:Int) (0:Int) (Ins.mk (1:Int) (0:Int) [(0:Int)] [(0:Int),(2:Int)] [])]&&
  br5 (B4 (VFun.mk (2:Int) I9.code [(5:Int)] []) (2:Int)).1.code
  [RIns.mk (1:Int) (0:Int) (0:Int) (Ins.mk (0:Int) (0:Int) [] [] []),RIns.mk (1:Int) (1:Int) (1:Int) (Ins.mk (0:Int) (0:Int) [] [] []),
  RIns.mk (0:Int) (0:Int) (0:Int) (Ins.mk (1:Int) (0:Int) [(1:Int)] [(0:Int),(1:Int)] []),
  RIns.mk (0:Int) (0:Int) (0:Int) (Ins.mk (1:Int) (0:Int) [(0:Int)] [(1:Int),(0:Int)] []),RIns.mk (2:Int) (1:Int) (2:Int) (Ins.mk (0:Int) (0:Int) [] [] []),
  RIns.mk (1:Int) (1:Int) (1:Int) (Ins.mk (0:Int) (0:Int) [] [] []),RIns.mk (0:Int) (0:Int) (0:Int) (Ins.mk (1:Int) (0:Int) [(0:Int)] [(0:Int),(1:Int)] []),
  RIns.mk (1:Int) (1:Int) (2:Int) (Ins.mk (0:Int) (0:Int) [] [] []),RIns.mk (0:Int) (0:Int) (0:Int) (Ins.mk (1:Int) (0:Int) [(0:Int)] [(0:Int),(1:Int)] [])]&&
  (B4 (VFun.mk (2:Int) I9.code [(5:Int)] []) (2:Int)).1.slots==(2:Int)&&
  (B4 (VFun.mk (2:Int) I9.code [(5:Int)] []) (2:Int)).1.cells==(3:Int)&&
  (↑(List.length (B4 (VFun.mk (2:Int) I9.code [(5:Int)] []) (2:Int)).1.out):Int)==(1:Int);
 let g:Int×Int:=
  ad1
  (RCode.mk (B4 (VFun.mk (2:Int) I9.code [(5:Int)] []) (2:Int)).1.params (B4 (VFun.mk (2:Int) I9.code [(5:Int)] []) (2:Int)).1.slots
  (B4 (VFun.mk (2:Int) I9.code [(5:Int)] []) (2:Int)).1.cells (B4 (VFun.mk (2:Int) I9.code [(5:Int)] []) (2:Int)).1.code
  (B4 (VFun.mk (2:Int) I9.code [(5:Int)] []) (2:Int)).1.out);
 let a:RCode:=(B4 (VFun.mk (2:Int) I9.code [(5:Int)] []) (2:Int)).1;
 let b:VFun:=VFun.mk (2:Int) I9.code [(5:Int)] [];
 let d:RCode:=(B4 b (3:Int)).1;
  (ad3 I9.code=true/\K0 I9.code=true/\List.length [(5:Int)]<=(8796093022200:Nat))/\
  (ad3 I9.code=true/\K0 I9.code=true/\List.length [(5:Int)]<=(8796093022200:Nat))/\
  (ad3 I9.code=true/\K0 I9.code=true/\List.length [(5:Int)]<=(8796093022200:Nat))/\
  ((-9223372036854775808:Int)<=a.slots/\a.slots<(9223372036854775808:Int)/\W7 a.code=true/\List.length a.out<=(17592186044400:Nat))/\
  (((Q2 b).2 !=(0:Int)||(W3 b).2 !=(0:Int)||(B4 b (3:Int)).2 !=(0:Int)||(B4 b (2:Int)).2 !=(0:Int)||
  (B4 b (1:Int)).2 !=(9:Int)||
  (N4 (RCode.mk a.params a.slots a.cells a.code a.out)).2 !=(0:Int)||
  D7 b !=(0:Int))=
  false->
  (-9223372036854775808:Int)<=d.slots/\d.slots<(9223372036854775808:Int)/\W7 d.code=true/\List.length d.out<=(17592186044400:Nat))/\
  (e=true->(false,())=(true,()))/\
  (e=false->
  (f=true->(0:Int)<=(0:Int)/\(0:Int)<(↑(List.length a.out):Int))/\
  (f&&(false==false&&((↑(0:Nat):Int)==(0:Int)&&true))&&g.1==(4:Int)&&g.2==(1:Int)&&
  (decide (c.params=(2:Int))&&X3 c.code I9.code&&decide (c.out=[(5:Int)])&&decide (c.at_=[])),
  ())=
  (true,()))):=by kernel_rfl
theorem cg2 (a:Int) (b:List Ins) (c d:List Int):vc (EV []) (bV6 a b c d) Go.Proofs.Tryd.f13 cGreat (a,b,c,d,()):=by
 rw [cg0 a b c d];intro j f hs _ _;have hl:b.length<=140737488355328:=hs.len;have l:f=ins0:=rfl
 clear_value f
 subst l;dsimp only [j];simp only [true_and,and_true];refine ⟨⟨(bigF ⟨a,b,c,d⟩,0,()),?_,rfl,Int.le_refl _,by dsimp only;omega,by simp⟩,?_⟩
 .dsimp only [bigF];rw [Bool.eq_iff_iff];simp only [Bool.or_eq_true,cz9];omega
 rintro ⟨g,i,⟨⟩⟩ ⟨h0,h1,h2⟩;dsimp only at h0 h1 h2 |-;obtain ⟨k,rfl⟩:=cy3 h0;simp only [cy0] at h2 |-;subst h2;refine ⟨λh=>?_,λh=>?_⟩
 .simp only [cx9,cz9,Bool.not_eq_true'] at h;obtain ⟨e,hg⟩:=h;refine ⟨⟨h0,e⟩,λ_=>⟨h0,e⟩,(bigX (b.getD k ins0),((k+1:Nat):Int),()),?_,B3 (by omega) hl,⟨by dsimp only;omega,by dsimp only;omega,?_⟩,by dsimp only;omega⟩
  .dsimp only [bigX];rw [Bool.eq_iff_iff];simp only [Bool.or_eq_true,cz9];omega
  .dsimp only;rw [cy0,A4 (by omega) ins0,List.any_append,<-Bool.or_assoc,hg,Bool.false_or];simp only [List.any_cons,List.any_nil,Bool.or_false]
 .have key:(bigF ⟨a,b,c,d⟩||(b.take k).any bigX)=ap3 ⟨a,b,c,d⟩:=by
   show _=(bigF ⟨a,b,c,d⟩||b.any bigX);cases hg:(bigF ⟨a,b,c,d⟩||(b.take k).any bigX) with
   |true=>
    symm;rw [Bool.or_eq_true] at hg |-;rcases hg with hg|hg
    .exact .inl hg
    .right;rw [List.any_eq_true] at hg |-;obtain ⟨x,m,n⟩:=hg;exact ⟨x,List.mem_of_mem_take m,n⟩
   |false=>
    rw [hg] at h;simp only [Bool.not_false,Bool.and_true,decide_eq_false_iff_not] at h;have o:k=b.length:=by omega
    subst o;rw [cA5] at hg;exact hg.symm
  rw [key]
theorem br8:D0 prog RG 13 cGreat:=E5 C0 (λp=>bV6 p.1 p.2.1 p.2.2.1 p.2.2.2.1) (by kernel_rfl) (by kernel_rfl) (by kernel_rfl) λ(a,b,c,d,()) _=>cg2 a b c d
theorem bj1:D0 prog RG 46 cIns:=E5 C0 (λ_=>noL) (by kernel_rfl) (by kernel_rfl) (by kernel_rfl) λ(a,b,()) _=>(cw2 a b).mpr (by intros;rfl)
theorem br9:D0 prog RG 47 cLoadI:=E5 C0 (λ_=>noL) (by kernel_rfl) (by kernel_rfl) (by kernel_rfl) λ(a,b,()) _=>(cg1 a b).mpr rfl
theorem bj2:D0 prog RG 48 cStoreI:=E5 C0 (λ_=>noL) (by kernel_rfl) (by kernel_rfl) (by kernel_rfl) λ(a,b,()) _=>(bW0 a b).mpr rfl
theorem bW1:D0 prog RG 49 cDoI:=E5 (A5 bj1 C0) (λ_=>noL) (by kernel_rfl) (by kernel_rfl) (by kernel_rfl) λ(a,b,()) _=>(cw3 a b).mpr (by intros;rfl)
theorem bI3:D0 prog RG 50 cFour:=E5 (A5 bj1 C0) (λ_=>noL) (by kernel_rfl) (by kernel_rfl) (by kernel_rfl) λ() _=>cs3.mpr (by intros;rfl)
theorem bs0 {l m:List RIns} {k:Nat} (hl:k<l.length) (h:X0 l m k=true):X0 l m (k+1)=cf3 (l.getD k rins0) (m.getD k rins0):=by
 unfold X0 at h |-;simp only [cx9,cz9] at h;obtain ⟨h1,h2⟩:=h;have a:k<(l.zip m).length:=by rw [List.length_zip];omega
 rw [A4 a (rins0,rins0),List.all_append,h2,decide_eq_true h1];simp only [Bool.true_and,List.all_cons,List.all_nil,Bool.and_true];have hg:(l.zip m).getD k (rins0,rins0)=(l.getD k rins0,m.getD k rins0):=by rw [cz1,cx8 a,cz1,cz1,cx8 hl,cx8 (by omega)];simp [List.getElem_zip]
 rw [hg]
theorem bW2 {l m:List RIns} {k:Nat} (h:X0 l m k=false):br5 l m=false:=by unfold br5;rw [Bool.eq_false_iff] at h |-;intro h2;refine h ?_;unfold X0 at h2 |-;simp only [cx9,cz9,cA7] at h2 |-;refine ⟨h2.1,λx a=>h2.2 x ?_⟩;rw [List.take_of_length_le (by rw [List.length_zip];omega)];exact List.mem_of_mem_take a
theorem bj3 (x:Ins):(⟨x.op,x.n,x.to,x.from_,x.body⟩:Ins)=x:=by cases x;rfl
theorem cs4 (l m:List RIns):vc (EV [(57,cSameIns)]) (cr1 l m) Go.Proofs.Tryd.f45 cSame (l,m,()):=by
 rw [cr9 l m];intro c d e hs _;have hl:l.length<=140737488355328:=hs.len;have f:c=rins0:=rfl
 clear_value c
 subst f;dsimp only [d,e];simp only [true_and,and_true];refine ⟨⟨(X0 l m 0,0,()),?_,rfl,Int.le_refl _,by dsimp only;omega,rfl⟩,?_⟩
 .dsimp only [X0];rw [List.take_zero,List.all_nil,Bool.and_true,Bool.eq_iff_iff];simp only [beq_iff_eq,cz9];omega
 rintro ⟨g,i,⟨⟩⟩ ⟨h0,h1,h2⟩;dsimp only at h0 h1 h2 |-;obtain ⟨k,rfl⟩:=cy3 h0;simp only [cy0] at h2 |-;subst h2;refine ⟨λh=>?_,λh=>?_⟩
 .simp only [cx9,cz9] at h;obtain ⟨hg,a⟩:=h;have b:=bs0 (by omega) hg;have j:l.length=m.length:=by
   unfold X0 at hg;simp only [cx9,cz9] at hg;exact hg.1
  have hm:(k:Int)<m.length:=by omega
  refine ⟨⟨h0,a⟩,⟨h0,hm⟩,λ_=>⟨h0,a⟩,λ_ _=>⟨h0,a⟩,λ_ _=>⟨h0,hm⟩,λ_ _=>⟨h0,a⟩,λ_ _ _=>⟨h0,a⟩,λ_ _ _=>⟨h0,hm⟩,λ_ _ _=>⟨h0,a⟩,λ_ _ _=>⟨h0,hm⟩,(cf3 (l.getD k rins0) (m.getD k rins0),((k+1:Nat):Int),()),by dsimp only [cf3];rw [bj3,bj3],B3 (by omega) hl,⟨by dsimp only;omega,by dsimp only;omega,?_⟩,by dsimp only;omega⟩;dsimp only;rw [cy0,b]
 .have key:X0 l m k=br5 l m:=by
   cases hg:X0 l m k with
   |false=>exact (bW2 hg).symm
   |true=>
    rw [hg] at h;simp only [Bool.true_and,decide_eq_false_iff_not] at h;have n:k=l.length:=by omega
    subst n;exact hg.symm
  rw [key]
theorem bI4:D0 prog RG 45 cSame:=E5 (A5 as7 C0) (λp=>cr1 p.1 p.2.1) (by kernel_rfl) (by kernel_rfl) (by kernel_rfl) λ(l,m,()) _=>cs4 l m
theorem aZ5:D0 prog RG 14 cSlotted:=E5 (A5 bI3 (A5 aR5 (A5 bq0 (A5 aL8 (A5 bG8 (A5 aJ5 (A5 ap2 (A5 aL0 (A5 br9 (A5 bj2 (A5 bW1 (A5 bI4 (A5 aA6 (A5 aW8 C0)))))))))))))) (λ_=>noL) (by kernel_rfl) (by kernel_rfl) (by kernel_rfl) λ() _=>bI2.mpr (by
 refine ⟨by decide+kernel,by decide+kernel,by decide+kernel,by decide+kernel,λ_=>by decide+kernel,by decide+kernel,λ_=>⟨by decide+kernel,by decide+kernel⟩⟩)
def aA0 (n b:Int):Int:=if b<1 then 0 else n % b
def bI5 (l:List Int) (n:Int):Int:=if l=[] then 0 else l.getD (n % l.length).toNat 0
def iota (n:Nat):List Int:=(List.range n).map Int.ofNat
def cw4 (there:List Int) (c:Int) (k:Nat):Int:=bI5 there (IntKind.i64.wrap (IntKind.i64.wrap (Int.tdiv c (1+5*(k:Int)))+k))
def aZ6 (there:List Int) (c:Int) (n:Nat):List Int:=(List.range n).map (cw4 there c)
def aw8 (there:List Int) (b c:Int):List Int:=if there=[] then [] else aZ6 there c (aA0 b 4).toNat
def toK (p count:Int) (k:Nat):Int:=p+((count+k)*7+5) % 97
def al7 (p count:Int) (n:Nat):List Int:=(List.range n).map (toK p count)
def toN (d:Int):Nat:=1+(aA0 d 5).toNat / 4
abbrev BS:=List Ins×List Int×Int
def cg3 (p:Int) (l:List Int) (i:Nat) (s:BS):BS:=
 (s.1++[⟨aA0 (l.getD i 0) 15,aA0 (l.getD i 0) 12,al7 p s.2.2 (toN (l.getD (i+3) 0)),aw8 s.2.1 (l.getD (i+1) 0) (l.getD (i+2) 0),[]⟩],
  s.2.1++al7 p s.2.2 (toN (l.getD (i+3) 0)),s.2.2+toN (l.getD (i+3) 0))
def parB (l:List Int):Int:=aA0 (bI5 l 0) 4
def runB (l:List Int):Nat->BS
 |0=>([],iota (parB l).toNat,0)
 |j+1=>cg3 (parB l) l (4*j+1) (runB l j)
def goB (l:List Int) (m:Int) (j:Nat):Bool:=decide (4*j+4<l.length)&&decide ((j:Int)<m)&&decide ((runB l j).2.2<90)
def endB (l:List Int) (m:Int):Nat:=((List.range 91).find? λj=>!goB l m j).getD 0
def outB (there:List Int):List Int:=if there=[] then [] else [bI5 there (there.length-1),bI5 there (there.length-3)]
def bs1 (l:List Int) (m:Int):VFun:=⟨parB l,(runB l (endB l m)).1,outB (runB l (endB l m)).2.1,[]⟩
theorem aM0 {n b:Int} (a:1<=b):0<=aA0 n b/\aA0 n b<b:=by unfold aA0;rw [if_neg (by omega)];exact ⟨Int.emod_nonneg n (by omega),Int.emod_lt_of_pos n (by omega)⟩
theorem bs2 (l:List Int):0<=parB l/\parB l<4:=aM0 (by omega)
theorem bW3 (d:Int):1<=toN d/\toN d<=2:=by have:=aM0 (n:=d) (b:=5) (by omega);unfold toN;omega
theorem bs3 (k:Nat):(iota k).length=k:=by simp [iota]
theorem aA1 (p c:Int) (k:Nat):(al7 p c k).length=k:=by simp [al7]
theorem aN3 (t:List Int) (c:Int) (k:Nat):(aZ6 t c k).length=k:=by simp [aZ6]
theorem bz5 (l:List Int):∀ j,(runB l j).1.length=j/\(runB l j).2.1.length<=3+2*j/\(j:Int)<=(runB l j).2.2/\(runB l j).2.2<=2*j
 |0=>by have:=bs2 l;refine ⟨rfl,?_,Int.le_refl _,Int.le_refl _⟩;show (iota _).length<=_;rw [bs3];omega
 |j+1=>by
  obtain ⟨h1,h2,h3,h4⟩:=bz5 l j;have a:=bW3 (l.getD (4*j+1+3) 0);refine ⟨?_,?_,?_,?_⟩
  .show (_++[_]).length=_;rw [cz8,h1];rfl
  .show (_++al7 _ _ _).length<=_;rw [cz8,aA1];omega
  .show _<=(runB l j).2.2+_;omega
  .show (runB l j).2.2+_<=_;omega
theorem aM1 {l:List Int} (n:Int) (h:l≠[]):bI5 l n∈l:=by have a:0<l.length:=List.length_pos_iff.2 h;unfold bI5;rw [if_neg h];have h1:=Int.emod_nonneg n (b:=(l.length:Int)) (by omega);have h2:=Int.emod_lt_of_pos n (b:=(l.length:Int)) (by omega);exact F7 (by omega) _
theorem bz6 {k:Nat} {x:Int}:x∈iota k<->0<=x/\x<k:=by
 simp only [iota,List.mem_map,List.mem_range];constructor
 .rintro ⟨i,a,rfl⟩;simp only [Int.ofNat_eq_natCast];omega
 .rintro ⟨h0,h1⟩;exact ⟨x.toNat,by omega,by simp only [Int.ofNat_eq_natCast];omega⟩
theorem bW4 {p:Int} {c:Int} {k:Nat} {x:Int} (hc:0<=c) (h:x∈al7 p c k):p<=x/\x<p+97:=by simp only [al7,List.mem_map,List.mem_range,toK] at h;obtain ⟨i,a,rfl⟩:=h;omega
theorem bW5 (p:Int) (c n:Nat):al7 p 0 (c+n)=al7 p 0 c++al7 p (c:Int) n:=by simp only [al7,List.range_add,List.map_append,List.map_map];congr 1;apply List.map_congr_left;intro k _;simp only [Function.comp,toK];congr 3;omega
theorem bs4 {p:Int} {n:Nat} (h:n<=97):(al7 p 0 n).Nodup:=by unfold al7;unfold List.Nodup;rw [List.pairwise_map];refine List.Pairwise.imp_of_mem (R:=λa b=>a<b) ?_ List.pairwise_lt_range;intro a b c d e;simp only [List.mem_range] at c d;simp only [toK];omega
theorem bs5 (l:List Ins) (x:Ins):wr (l++[x])=wr l++x.to:=by simp [wr]
theorem bs6 {there:List Int} {b c x:Int} (h:x∈aw8 there b c):x∈there:=by
 unfold aw8 at h;split at h
 .simp at h
 .rename_i a;simp only [aZ6,List.mem_map,cw4] at h;obtain ⟨k,_,rfl⟩:=h;exact aM1 _ a
theorem aN4 (there:List Int) (b c:Int):(aw8 there b c).length<=3:=by
 have:=aM0 (n:=b) (b:=4) (by omega);unfold aw8;split
 .exact Nat.zero_le _
 .rw [aN3];omega
theorem bz7 {there:List Int} {x:Int} (h:x∈outB there):x∈there:=by
 unfold outB at h;split at h
 .simp at h
 .rename_i a;simp only [List.mem_cons,List.not_mem_nil,or_false] at h;rcases h with rfl|rfl
  .exact aM1 _ a
  .exact aM1 _ a
structure BuiltOk (p:Int) (s:BS) (n:Nat):Prop where
 cnt:s.2.2=n
 wrs:wr s.1=al7 p 0 n
 ther:s.2.1=iota p.toNat++wr s.1
 thr:E2 p [] s.1=true
 froms:∀ x∈s.1,x.from_.length<=3/\∀ y∈x.from_,y∈s.2.1
 tos:∀ x∈s.1,1<=x.to.length/\x.to.length<=2
 bod:∀ x∈s.1,x.body=[]
theorem bz8 (l:List Int):∀ j,∃ n,BuiltOk (parB l) (runB l j) n
 |0=>⟨0,rfl,rfl,by show _=_++[];rw [List.append_nil];rfl,rfl,λx a=>by simp [runB] at a,λx a=>by simp [runB] at a,λx a=>by simp [runB] at a⟩
 |j+1=>by
  obtain ⟨n,h⟩:=bz8 l j;have p:=bs2 l;obtain ⟨s,hs⟩:∃ s,runB l j=s:=⟨_,rfl⟩;rw [hs] at h;obtain ⟨d,i⟩:∃ d,toN (l.getD (4*j+1+3) 0)=d:=⟨_,rfl⟩;have k:=bW3 (l.getD (4*j+1+3) 0);have e:runB l (j+1)=cg3 (parB l) l (4*j+1) s:=by show cg3 _ _ _ (runB l j)=_;rw [hs]
  rw [e];unfold cg3;rw [i] at*
  obtain ⟨fr,c⟩:∃ fr,aw8 s.2.1 (l.getD (4*j+1+1) 0) (l.getD (4*j+1+2) 0)=fr:=⟨_,rfl⟩;have f:∀ y∈fr,y∈s.2.1:=λy b=>by rw [<-c] at b;exact bs6 b
  have g:fr.length<=3:=by rw [<-c];exact aN4 _ _ _
  rw [c];refine ⟨n+d,?_,?_,?_,?_,?_,?_,?_⟩
  .show s.2.2+(d:Int)=_;rw [h.cnt];omega
  .show wr (s.1++[_])=_;rw [bs5,h.wrs,bW5,h.cnt]
  .show s.2.1++_=_++wr (s.1++[_]);rw [bs5,h.ther,cA3]
  .show E2 _ _ (s.1++[_])=true;rw [M7,h.thr];simp only [Bool.true_and,E2,Bool.and_true,List.nil_append,cA7,Bool.or_eq_true,cz9,List.contains_iff_mem];intro y b;have:=f y b;rw [h.ther,cA4] at this;rcases this with m|o
   .have:=bz6.1 m;left;omega
   .exact .inr o
  .intro x a;rcases cA4.1 a with a|a
   .exact ⟨(h.froms x a).1,λy b=>cA4.2 (.inl ((h.froms x a).2 y b))⟩
   .rw [cy8] at a;subst a;exact ⟨g,λy b=>cA4.2 (.inl (f y b))⟩
  .intro x a;rcases cA4.1 a with a|a
   .exact h.tos x a
   .rw [cy8] at a;subst a;show 1<=(al7 _ _ d).length/\(al7 _ _ d).length<=2;rw [aA1];exact k
  .intro x a;rcases cA4.1 a with a|a
   .exact h.bod x a
   .rw [cy8] at a;subst a;rfl
theorem bW6 (l:List Int) (m:Int):endB l m<=90/\∀ i,i<endB l m->goB l m i=true:=by
 unfold endB;cases h:(List.range 91).find? λj=>!goB l m j with
 |none=>exact ⟨by simp,λi a=>by simp at a⟩
 |some j=>rw [List.find?_eq_some_iff_getElem] at h;obtain ⟨_,k,b,h1,h2⟩:=h;simp only [List.length_range,List.getElem_range] at b h1 h2;subst h1;refine ⟨by show k<=90;omega,λi a=>?_⟩;have:=h2 i a;simpa using this
theorem cs5 {l:List Int} {m:Int} (hm:0<=m):(endB l m:Int)<=m:=by
 have h:=(bW6 l m).2;by_cases h0:endB l m=0
 .omega
 .have h1:=h (endB l m-1) (by omega);unfold goB at h1;simp only [cx9,cz9] at h1;omega
structure Made (a:Int) (b:List Ins) (c:List Int):Prop where
 chk:Checked a b c
 par:0<=a/\a<=3
 froms:∀ x∈b,x.from_.length<=3
 tos:∀ x∈b,1<=x.to.length/\x.to.length<=2
 bod:∀ x∈b,x.body=[]
 out:c.length<=2
 regs:∀ n∈wr b,n<100
theorem made (l:List Int) {m:Int} (hm:0<=m):Made (parB l) (bs1 l m).code (bs1 l m).out/\((bs1 l m).code.length:Int)<=m:=by
 obtain ⟨n,h⟩:=bz8 l (endB l m);have hl:=bz5 l (endB l m);obtain ⟨g,d⟩:=bW6 l m;have i:=bs2 l;have p:n<=91:=by
  have h1:=h.cnt;by_cases h0:endB l m=0
  .rw [h0] at h1;have:(0:Int)=n:=h1;omega
  .obtain ⟨k,j⟩:∃ k,endB l m=k+1:=⟨endB l m-1,by omega⟩;have h2:=d k (by omega);unfold goB at h2;simp only [cx9,cz9] at h2;rw [j] at h1;have h3:(runB l k).2.2+(toN (l.getD (4*k+1+3) 0):Int)=n:=h1;have:=bW3 (l.getD (4*k+1+3) 0);omega
 show Made (parB l) (runB l (endB l m)).1 (outB (runB l (endB l m)).2.1)/\((runB l (endB l m)).1.length:Int)<=m;obtain ⟨s,hs⟩:∃ s,runB l (endB l m)=s:=⟨_,rfl⟩;have o:=cs5 (l:=l) hm;rw [hs] at h hl |-;have b:∀ x∈wr s.1,parB l<=x/\x<parB l+97:=λx a=>by rw [h.wrs] at a;exact bW4 (Int.le_refl _) a
 have e:∀ x∈s.2.1,(0<=x/\x<parB l)\/x∈wr s.1:=by
  intro x a;rw [h.ther,cA4] at a;rcases a with a|a
  .have:=bz6.1 a;left;omega
  .exact .inr a
 have c:∀ x∈s.2.1,0<=x/\x<=3999:=by
  intro x a;rcases e x a with a|a
  .omega
  .have:=b x a;omega
 refine ⟨⟨⟨by omega,i.1,by omega,λx a=>c x (bz7 a),?_,λx a y f=>c y ((h.froms x a).2 y f),?_,λx a=>(b x a).1,h.thr,?_⟩,by omega,λx a=>(h.froms x a).1,h.tos,h.bod,?_,λx a=>by have:=b x a;omega⟩,by omega⟩
 .intro x a y f;have:=b y (List.mem_flatMap.2 ⟨x,a,f⟩);omega
 .rw [G2,h.wrs];exact bs4 (by omega)
 .intro x a;rcases e x (bz7 a) with a|a
  .left;omega
  .exact .inr a
 .unfold outB;split<;>simp
theorem ai5 (sp:Spans) (rd:Reads) (N:Int) (m:Holds) (pl:Int) (st:List Int):∀ (l:List Nat) (acc:List Held),
  (∀ i acc',C1 sp rd N m pl st l acc=(some i,acc')->∃ s∈l,i=(s:Int)/\∀ r,mget eqP m ⟨false,(s:Int)⟩=some r->r∉st/\I1 (getS sp r).first (getS sp r).last pl=false)/\
  (∀ acc',C1 sp rd N m pl st l acc=(none,acc')->∀ x∈acc',x∈acc\/∃ s∈l,x.slot=(s:Int)/\mget eqP m ⟨false,(s:Int)⟩=some x.reg/\x.reg∉st)
 |[],acc=>by
  refine ⟨λi acc' h=>?_,λacc' h x c=>?_⟩
  .simp [C1] at h
  .simp only [C1,cy9,true_and] at h;subst h;exact .inl c
 |s::r,acc=>by
  refine ⟨λi acc' h=>?_,λacc' h x c=>?_⟩
  .simp only [C1] at h;cases hm:mget eqP m ⟨false,(s:Int)⟩ with
   |none=>rw [hm] at h;simp only [cy9,cx6] at h;exact ⟨s,by simp,h.1.symm,λr hr=>by rw [hm] at hr;cases hr⟩
   |some n=>
    rw [hm] at h;simp only at h;cases hc:st.contains n with
    |true=>rw [hc,cond_true] at h;obtain ⟨s',h1,h2,h3⟩:=(ai5 sp rd N m pl st r acc).1 i acc' h;exact ⟨s',by simp [h1],h2,h3⟩
    |false=>
     rw [hc,cond_false] at h;have b:n∉st:=λd=>by rw [List.contains_iff_mem.2 d] at hc;cases hc
     cases a:I1 (getS sp n).first (getS sp n).last pl with
     |true=>rw [a,cond_true] at h;obtain ⟨s',h1,h2,h3⟩:=(ai5 sp rd N m pl st r _).1 i acc' h;exact ⟨s',by simp [h1],h2,h3⟩
     |false=>rw [a,cond_false] at h;simp only [cy9,cx6] at h;refine ⟨s,by simp,h.1.symm,λr hr=>?_⟩;rw [hm] at hr;cases hr;exact ⟨b,a⟩
  .simp only [C1] at h;cases hm:mget eqP m ⟨false,(s:Int)⟩ with
   |none=>rw [hm] at h;simp at h
   |some n=>
    rw [hm] at h;simp only at h;cases hc:st.contains n with
    |true=>
     rw [hc,cond_true] at h;rcases (ai5 sp rd N m pl st r acc).2 acc' h x c with h1|⟨s',h1,h2⟩
     .exact .inl h1
     .exact .inr ⟨s',by simp [h1],h2⟩
    |false=>
     rw [hc,cond_false] at h;have b:n∉st:=λd=>by rw [List.contains_iff_mem.2 d] at hc;cases hc
     cases a:I1 (getS sp n).first (getS sp n).last pl with
     |true=>
      rw [a,cond_true] at h;rcases (ai5 sp rd N m pl st r _).2 acc' h x c with h1|⟨s',h1,h2⟩
      .rcases cA4.1 h1 with h1|h1
       .exact .inl h1
       .rw [cy8] at h1;subst h1;exact .inr ⟨s,by simp,rfl,hm,b⟩
      .exact .inr ⟨s',by simp [h1],h2⟩
     |false=>rw [a,cond_false] at h;simp at h
theorem bz9 {l:List Held} (h:l≠[]):H4 l∈l:=by
 cases l with
 |nil=>exact absurd rfl h
 |cons x r=>
  show r.foldl F4 x∈x::r;clear h
  induction r generalizing x with
  |nil=>simp
  |cons y r ih=>
   have h1:=ih (F4 x y);show r.foldl F4 (F4 x y)∈_;have h2:F4 x y=x\/F4 x y=y:=by
    unfold F4;cases Z5 y x
    .exact .inl rfl
    .exact .inr rfl
   rcases List.mem_cons.1 h1 with h1|h1
   .rw [h1];rcases h2 with h2|h2<;>rw [h2]<;>simp
   .simp [h1]
def goodI (ks cells:Int) (x:RIns):Prop:=ae6 ks cells x=true/\(x.kind≠0\/D8 x.ins.to=true)/\aI8 x.ins=true
theorem bI6 {n:Int} {l:List Int}:H2 n l=true<->∀ x∈l,0<=x/\x<n:=by simp [H2]
theorem goodI.mono {ks c c':Int} {x:RIns} (h:goodI ks c x) (hc:c<=c'):goodI ks c' x:=by
 obtain ⟨h1,h2⟩:=h;refine ⟨?_,h2⟩;unfold ae6 at h1 |-;split at h1
 .rename_i h0;rw [if_pos h0];exact h1
 .rename_i h0;rw [if_neg h0];split at h1
  .rename_i h3;rw [if_pos h3];simp only [cx9,bI6,cy8,forall_eq] at h1 |-;omega
  .cases h1
structure Inv (bb5:SF) (T:List Int) (nm:Int->Int) (ks:Int) (S:AS) (m:Holds) (C:List Ins) (nx:Int):Prop where
 run:J5 S.code bb5=((m,C,nx),true)
 slot:∀ (q:Nat) (n:Int),q<ks.toNat->mget eqP S.holds ⟨false,(q:Int)⟩=some n->n∉T->mget eqP m ⟨false,(q:Int)⟩=some (nm n)
 cell:∀ n cl,mget eqI S.cells n=some cl->0<=cl/\cl<S.ocells/\mget eqP m ⟨true,cl⟩=some (nm n)
 good:∀ x∈S.code,goodI ks S.ocells x
 low:0<=S.ocells
def InS (m:Holds) (ks n:Int):Prop:=∃ q:Nat,q<ks.toNat/\mget eqP m ⟨false,(q:Int)⟩=some n
theorem cg4 {m:Holds} {ks n:Int} (h:InS m ks n):∃ a:Nat,a<ks.toNat/\C3 m ks n=⟨false,(a:Int)⟩/\mget eqP m ⟨false,(a:Int)⟩=some n:=by
 apply at4;cases hc:(C3 m ks n).cell with
 |false=>rfl
 |true=>obtain ⟨q,b,hm⟩:=h;exact absurd hm (W9.1 hc q b)
theorem bj4 {m:Holds} {ks n:Int} {l:List Int} (h:n∈l):getI (S5 m ks l) n=(C3 m ks n).n:=by
 have key:∀ (l:List Int) (mm:List (Int×Int)),(n∈l\/mget eqI mm n=some (C3 m ks n).n)->mget eqI (l.foldl (λmm n=>mput eqI mm n (C3 m ks n).n) mm) n=some (C3 m ks n).n:=by
  intro l
  induction l with
  |nil=>intro mm h;simpa using h
  |cons x r ih=>
   intro mm h;rw [List.foldl_cons];apply ih;rw [ag8];by_cases a:x=n
   .right;rw [if_pos a,a]
   .rw [if_neg a];rcases h with h|h
    .rcases List.mem_cons.1 h with h|h
     .exact absurd h.symm a
     .exact .inl h
    .exact .inr h
 unfold getI S5;rw [key l [] (.inl h)];rfl
theorem aA2 {b:List Ins} {k:Nat} (a:k<b.length):wr (b.take (k+1))=wr (b.take k)++(b.getD k ins0).to:=by rw [A4 a ins0,bs5]
structure Fit (a:Int) (b:List Ins) (c:List Int) (ks:Int):Prop where
 made:Made a b c
 len:b.length<=30
 ks1:1<=ks
 ks2:ks<=64
 few:b.all (fewX ks)=true
 ok:K0 b=true
 frm:ad3 b=true
theorem bs7 (l:List Int):(B0 l).length<=(C9 [] l).length:=
 aC7 _ _ (S0 l) λx a=>L0.2 (.inr (K4.1 a))
structure RS where
 slots:List Int
 cells:List (Int×Int)
 next:Int
 code:List RIns
def am9 (slots live keep:List Int) (j:Nat):Bool:=decide (slots.getD j 0<0)||(decide (B8 live (slots.getD j 0)<0)&&decide (B8 keep (slots.getD j 0)<0))
def Q4 (slots live keep:List Int):Int:=match (List.range slots.length).find? (am9 slots live keep) with
 |some j=>j
 |none=>-1
def T8 (b:List Ins) (reg from_:Int) (j:Nat):Bool:=decide (from_<=j)&&decide (B8 (b.getD j ins0).from_ reg>=0)
def C2 (b:List Ins) (reg from_:Int):Int:=match (List.range b.length).find? (T8 b reg from_) with
 |some j=>j
 |none=>b.length
def ai6 (b:List Ins) (slots keep:List Int) (from_:Int) (best:Int) (j:Nat):Int:=
 bif decide (B8 keep (slots.getD j 0)>=0) then best
 else bif decide (best<0)||decide (C2 b (slots.getD j 0) from_ >C2 b (slots.getD best.toNat 0) from_)||(C2 b (slots.getD j 0) from_==C2 b (slots.getD best.toNat 0) from_&&decide (slots.getD j 0 >slots.getD best.toNat 0)) then (j:Int) else best
def F5 (b:List Ins) (slots keep:List Int) (from_:Int) (n:Nat):Int:=(List.range n).foldl (ai6 b slots keep from_) (-1)
def J0 (b:List Ins) (slots keep:List Int) (from_:Int):Int:=F5 b slots keep from_ slots.length
def atR (b:List Ins) (slots live keep:List Int) (from_:Int):Int:=bif decide (Q4 slots live keep<0) then J0 b slots keep from_ else Q4 slots live keep
def bs8 (r:RS) (at_:Int):RS:=bif (mget eqI r.cells (r.slots.getD at_.toNat 0)).isSome then r else ⟨r.slots,mput eqI r.cells (r.slots.getD at_.toNat 0) r.next,r.next+1,r.code++[⟨2,at_,r.next,ins0⟩]⟩
def L9 (b:List Ins) (r:RS) (reg:Int) (live keep:List Int) (from_:Int):RS:=
 match (bif decide (Q4 r.slots live keep<0) then bs8 r (J0 b r.slots keep from_) else r) with
 |t=>⟨t.slots.set (atR b r.slots live keep from_).toNat reg,t.cells,t.next,t.code⟩
def al8 (b:List Ins) (live keep:List Int) (i:Int) (r:RS) (n:Int):RS:=
 bif decide (B8 r.slots n>=0) then r
 else match L9 b r n live keep i with
  |t=>⟨t.slots,t.cells,t.next,t.code++[⟨1,atR b r.slots live keep i,getI t.cells n,ins0⟩]⟩
def E9 (b:List Ins) (live keep:List Int) (i:Int) (r:RS) (l:List Int):RS:=l.foldl (al8 b live keep i) r
def toR (b:List Ins) (live keep:List Int) (i:Int) (s:RS×List Int) (n:Int):RS×List Int:=(L9 b s.1 n live keep i,s.2++[atR b s.1.slots live keep i])
def tosR (b:List Ins) (live keep:List Int) (i:Int) (r:RS) (l:List Int):RS×List Int:=l.foldl (toR b live keep i) (r,[])
def Q1 (b:List Ins) (lv:List (List Int)) (r:RS) (i:Int):RS:=
 match b.getD i.toNat ins0 with
 |x=>match E9 b (lv.getD i.toNat []) x.from_ i r x.from_ with
  |r1=>match tosR b (lv.getD (i+1).toNat []) x.to (i+1) r1 x.to with
   |(r2,to)=>⟨r2.slots,r2.cells,r2.next,r2.code++[⟨0,0,0,⟨x.op,x.n,to,x.from_.map (B8 r1.slots),x.body⟩⟩]⟩
def aN5 (b:List Ins) (slots live keep:List Int) (from_:Int):Prop:=0<=atR b slots live keep from_/\atR b slots live keep from_<slots.length
def aA3 (b:List Ins) (lv:List (List Int)) (r:RS) (i:Int):Prop:=
 match b.getD i.toNat ins0 with
 |x=>(∀ k,k<x.from_.length->B8 (E9 b (lv.getD i.toNat []) x.from_ i r (x.from_.take k)).slots (x.from_.getD k 0)<0->aN5 b (E9 b (lv.getD i.toNat []) x.from_ i r (x.from_.take k)).slots (lv.getD i.toNat []) x.from_ i)/\
  ∀ k,k<x.to.length->aN5 b (tosR b (lv.getD (i+1).toNat []) x.to (i+1) (E9 b (lv.getD i.toNat []) x.from_ i r x.from_) (x.to.take k)).1.slots (lv.getD (i+1).toNat []) x.to (i+1)
def runR (b:List Ins) (lv:List (List Int)) (r:RS) (n:Nat):RS:=(List.range n).foldl (λ(r:RS) (i:Nat)=>Q1 b lv r (i:Int)) r
def cFree:Con RU:=con [one,one,one] [ints,ints,ints] [one] [i64] [false] none λp=>(Q4 p.1 p.2.1 p.2.2.1,())
def cs6 (slots live keep:List Int):Nat->St RU->Ann RU:=λ_ _=>⟨[],[.slot 7],[i64],λp=>0<=p.1/\p.1<=slots.length/\∀ j:Nat,j<p.1.toNat->am9 slots live keep j=false,λp=>slots.length-p.1.toNat,[]⟩
def cReading:Con RU:=con [(true,4),one,one] [i64,inss,ints,ints,i64,i64] [one] [i64] [false] (some λp=>0<=p.2.2.2.2.2.1/\p.2.2.2.2.2.1<=p.2.1.length) λp=>(C2 p.2.1 p.2.2.2.2.1 p.2.2.2.2.2.1,())
def aZ7 (b:List Ins) (reg from_:Int):Nat->St RU->Ann RU:=λ_ _=>⟨[],[.slot 7],[i64],λp=>from_<=p.1/\p.1<=b.length/\∀ j:Nat,j<p.1.toNat->T8 b reg from_ j=false,λp=>b.length-p.1.toNat,[]⟩
def cVictim:Con RU:=con [(true,4),one,one,one] [i64,inss,ints,ints,ints,ints,i64] [one] [i64] [false] (some λp=>0<=p.2.2.2.2.2.2.1/\p.2.2.2.2.2.2.1<=p.2.1.length) λp=>(J0 p.2.1 p.2.2.2.2.1 p.2.2.2.2.2.1 p.2.2.2.2.2.2.1,())
def bs9 (b:List Ins) (slots keep:List Int) (from_:Int):Nat->St RU->Ann RU:=λ_ _=>⟨[],[.slot 10,.slot 9],[i64,i64],λp=>0<=p.1/\p.1<=slots.length/\p.2.1=F5 b slots keep from_ p.1.toNat,λp=>slots.length-p.1.toNat,[]⟩
abbrev cg5:List Ty:=[ints,mapI,i64,al6]
def cGiven:Con RU:=⟨[(true,4),(true,4),one,one,one,one],ag6++cg5++[i64,ints,ints,i64],[.d 0,.d 1,.d 2,.d 3,.row 0,.map 1,.d 6,.row 2,.d 8,.d 9,.d 10,.d 11],[.row 4,.map 5,.row 7],
 some λp=>match p with
  |(a,b,c,d,sl,ce,nx,cd,reg,live,keep,fr,())=>aN5 b sl live keep fr/\0<=fr/\fr<=b.length/\(0<=nx/\nx<=1000000000)/\cd.length<=1000000000,
 none,[(true,4),one],cg5++[i64],[.row 0,.map 1,.d 2,.row 2,.d 4],[.row 0,.map 1,.row 3],λp=>match p with
  |(a,b,c,d,sl,ce,nx,cd,reg,live,keep,fr,())=>((L9 b ⟨sl,ce,nx,cd⟩ reg live keep fr).slots,(L9 b ⟨sl,ce,nx,cd⟩ reg live keep fr).cells,(L9 b ⟨sl,ce,nx,cd⟩ reg live keep fr).next,(L9 b ⟨sl,ce,nx,cd⟩ reg live keep fr).code,atR b sl live keep fr,()),[],[],[]⟩
def cDone:Con RU:=⟨[(true,4),(true,4),one,one],ag6++cg5++[i64,bf3],[.d 0,.d 1,.d 2,.d 3,.row 0,.map 1,.d 6,.row 2,.d 8,.d 9],[.row 4,.map 5,.row 7],
 some λp=>match p with
  |(a,b,c,d,sl,ce,nx,cd,i,lv,())=>(0<=i/\i<b.length)/\b.length<=4000/\lv.length=b.length+1/\(b.getD i.toNat ins0).from_.length<=100000000/\(b.getD i.toNat ins0).to.length<=100000000/\aA3 b lv ⟨sl,ce,nx,cd⟩ i/\(0<=nx/\nx<=100000000)/\cd.length<=100000000,
 none,[(true,4)],cg5,[.row 0,.map 1,.d 2,.row 2],[.row 0,.map 1,.row 3],λp=>match p with
  |(a,b,c,d,sl,ce,nx,cd,i,lv,())=>((Q1 b lv ⟨sl,ce,nx,cd⟩ i).slots,(Q1 b lv ⟨sl,ce,nx,cd⟩ i).cells,(Q1 b lv ⟨sl,ce,nx,cd⟩ i).next,(Q1 b lv ⟨sl,ce,nx,cd⟩ i).code,()),[],[],[]⟩
def cs7 (b:List Ins) (lv:List (List Int)) (r:RS) (i:Int):Nat->St RU->Ann RU:=λk s=>match k with
 |0=>⟨[],[.slot 10,.row 1000000,.row 1000001,.box 320 2,.row 1000002],[i64,ints,mapI,i64,al6],λp=>0<=p.1/\p.1<=(b.getD i.toNat ins0).from_.length/\E9 b (lv.getD i.toNat []) (b.getD i.toNat ins0).from_ i r ((b.getD i.toNat ins0).from_.take p.1.toNat)=⟨p.2.1,p.2.2.1,p.2.2.2.1,p.2.2.2.2.1⟩,λp=>(b.getD i.toNat ins0).from_.length-p.1.toNat,[(.row 1,0,0,i64)]⟩
 |1=>⟨[13],[.slot 15,.row 4736],[i64,ints],λp=>0<=p.1/\p.1<=(b.getD i.toNat ins0).from_.length/\p.2.1=((b.getD i.toNat ins0).from_.take p.1.toNat).map (B8 (E9 b (lv.getD i.toNat []) (b.getD i.toNat ins0).from_ i r (b.getD i.toNat ins0).from_).slots),λp=>(b.getD i.toNat ins0).from_.length-p.1.toNat,[]⟩
 |_=>⟨[14],[.slot 16,.row 4800,.row 1000000,.row 1000001,.box 320 2,.row 1000002],[i64,ints,ints,mapI,i64,al6],λp=>0<=p.1/\p.1<=(b.getD i.toNat ins0).to.length/\tosR b (lv.getD (i+1).toNat []) (b.getD i.toNat ins0).to (i+1) (E9 b (lv.getD i.toNat []) (b.getD i.toNat ins0).from_ i r (b.getD i.toNat ins0).from_) ((b.getD i.toNat ins0).to.take p.1.toNat)=(⟨p.2.2.1,p.2.2.2.1,p.2.2.2.2.1,p.2.2.2.2.2.1⟩,p.2.1),λp=>(b.getD i.toNat ins0).to.length-p.1.toNat,[]⟩
open Classical in
def ai7 (q:List Int) (S:Int->Prop):Nat:=(q.filter λx=>decide (¬ S x)).length
def Size (T:Int->Prop) (k:Nat):Prop:=∀ l:List Int,l.Nodup->(∀ x∈l,T x)->l.length<=k
abbrev Bts:=List (Bool×List Int)
inductive Way (k:Nat):Bts->(Int->Prop)->Nat->Prop
 |nil (S:Int->Prop):Way k [] S 0
 |cons {b:Bool} {q:List Int} {bs:Bts} {S T:Int->Prop} {c:Nat} (h1:∀ x∈q,T x) (h2:∀ x,T x->S x\/x∈q) (h3:Size T k) (h4:Way k bs T c):Way k ((b,q)::bs) S (c+bif b then ai7 q S else 0)
theorem aa9 (x:Int) (q:List Int) (S:Int->Prop):(S x->ai7 (x::q) S=ai7 q S)/\(¬ S x->ai7 (x::q) S=ai7 q S+1):=by
 classical
 refine ⟨λh=>?_,λh=>?_⟩
 .unfold ai7;rw [List.filter_cons_of_neg (by simpa using h)]
 .unfold ai7;rw [List.filter_cons_of_pos (by simpa using h)];rfl
theorem bj5 {A B:Int->Prop}:∀ (q:List Int),(∀ z∈q,A z->B z)->ai7 q B<=ai7 q A
 |[],_=>Nat.le_refl _
 |z::q,h=>by
  have ih:=bj5 q λy c=>h y (by simp [c]);by_cases b:B z
  .rw [(aa9 z q B).1 b];by_cases a:A z
   .rw [(aa9 z q A).1 a];exact ih
   .rw [(aa9 z q A).2 a];omega
  .rw [(aa9 z q B).2 b,(aa9 z q A).2 λa=>b (h z (by simp) a)];omega
theorem Way.mono {k:Nat} {bs:Bts} {S S':Int->Prop} {c:Nat} (w:Way k bs S c) (h:∀ x,S x->S' x):∃ c',c'<=c/\Way k bs S' c':=by
 cases w with
 |nil=>exact ⟨0,Nat.le_refl _,.nil _⟩
 |@cons b q bs _ T c h1 h2 h3 h4=>
  refine ⟨_,?_,.cons (b:=b) h1 (λx a=>(h2 x a).imp (h x) id) h3 h4⟩;cases b with
  |false=>exact Nat.le_refl _
  |true=>have:=bj5 q (A:=S) (B:=S') λz _=>h z;simp only [cond_true];omega
end Go.Rg
end
section
namespace Go.Rg
open Go Go.VT
theorem aM2 (sp:Spans) (rd:Reads) (N:Int) (m:Holds) (pl:Int) (st:List Int):∀ (l:List Nat) (acc acc':List Held),C1 sp rd N m pl st l acc=(none,acc')->
  (∀ x∈acc,x∈acc')/\(∀ x∈acc',x∈acc\/x.next=I2 rd N x.reg pl)/\∀ s∈l,∃ r,mget eqP m ⟨false,(s:Int)⟩=some r/\(r∈st\/(⟨(s:Int),r,I2 rd N r pl⟩:Held)∈acc')
 |[],acc,acc',h=>by simp only [C1,cy9,true_and] at h;subst h;exact ⟨λx a=>a,λx a=>.inl a,λs hs=>by simp at hs⟩
 |s::r,acc,acc',h=>by
  simp only [C1] at h;cases hm:mget eqP m ⟨false,(s:Int)⟩ with
  |none=>rw [hm] at h;simp at h
  |some n=>
   rw [hm] at h;simp only at h;cases hc:st.contains n with
   |true=>
    rw [hc,cond_true] at h;obtain ⟨h1,h2,h3⟩:=aM2 sp rd N m pl st r acc acc' h;refine ⟨h1,h2,λx a=>?_⟩;rcases List.mem_cons.1 a with rfl|a
    .exact ⟨n,hm,.inl (List.contains_iff_mem.1 hc)⟩
    .exact h3 x a
   |false=>
    rw [hc,cond_false] at h;cases b:I1 (getS sp n).first (getS sp n).last pl with
    |false=>rw [b,cond_false] at h;simp at h
    |true=>
     rw [b,cond_true] at h;obtain ⟨h1,h2,h3⟩:=aM2 sp rd N m pl st r _ acc' h;refine ⟨λx a=>h1 x (by simp [a]),λx a=>?_,λx a=>?_⟩
     .rcases h2 x a with h4|h4
      .rcases cA4.1 h4 with h4|h4
       .exact .inl h4
       .rw [cy8] at h4;subst h4;exact .inr rfl
      .exact .inr h4
     .rcases List.mem_cons.1 a with rfl|a
      .exact ⟨n,hm,.inr (h1 _ (by simp))⟩
      .exact h3 x a
theorem cg6 {l:List Held}:∀ x∈l,x.next<=(H4 l).next:=by
 cases l with
 |nil=>simp
 |cons x r=>
  show ∀ y∈x::r,y.next<=(r.foldl F4 x).next
  induction r generalizing x with
  |nil=>simp
  |cons y r ih=>
   have h1:x.next<=(F4 x y).next/\y.next<=(F4 x y).next:=by
    unfold F4 Z5;by_cases h:y.next >x.next
    .rw [decide_eq_true h];exact ⟨by show x.next<=y.next;omega,Int.le_refl _⟩
    .rw [decide_eq_false h,Bool.false_or];cases h2:(y.next==x.next&&decide (y.reg >x.reg)) with
     |false=>exact ⟨Int.le_refl _,by show y.next<=x.next;omega⟩
     |true=>rw [cx9,beq_iff_eq] at h2;exact ⟨by show x.next<=y.next;omega,Int.le_refl _⟩
   have ih:=ih (F4 x y);intro z a;have h0:=ih (F4 x y) (by simp);rw [List.foldl_cons];rcases List.mem_cons.1 a with rfl|a
   .omega
   rcases List.mem_cons.1 a with rfl|a
   .omega
   .exact ih z (by simp [a])
section
variable {P:Int->Prop} {sp:Spans} {rd:Reads} {ks N:Int}
def Full (ks:Int) (m:Holds):Prop:=∀ s:Nat,s<ks.toNat->∃ r,mget eqP m ⟨false,(s:Int)⟩=some r
theorem bj6 {S:AS} {pl:Int} {st:List Int} (f:W8 sp rd ks N S.holds pl st) (F:Fine P ks S.holds):
  ∃ q:Nat,q<ks.toNat/\(D4 sp rd ks N S pl st).1=(q:Int)/\∀ u,mget eqP S.holds ⟨false,(q:Int)⟩=some u->u∉st/\(I1 (getS sp u).first (getS sp u).last pl=false\/(Full ks S.holds/\∀ v,InS S.holds ks v->v∉st->I2 rd N v pl<=I2 rd N u pl)):=by
 obtain ⟨o,hs,a⟩:∃ o hs,H8 sp rd ks N S.holds pl st=(o,hs):=⟨_,_,rfl⟩;have b:=ai5 sp rd N S.holds pl st (List.range ks.toNat) [];cases o with
 |some i=>obtain ⟨q,g,rfl,hr⟩:=b.1 i hs a;refine ⟨q,by simpa using g,by unfold D4;rw [a],λu d=>⟨(hr u d).1,.inl (hr u d).2⟩⟩
 |none=>
  have e:hs≠[]:=by have:=f (by rw [a]);rw [a] at this;exact this
  rcases b.2 hs a _ (bz9 e) with m|⟨q,g,h,j,k⟩
  .simp at m
  obtain ⟨_,h2,h3⟩:=aM2 sp rd N S.holds pl st _ _ _ a;refine ⟨q,by simpa using g,by unfold D4;rw [a];exact h,λu d=>?_⟩;rw [j] at d;cases d;refine ⟨k,.inr ⟨λs c=>?_,λv ⟨s,c,hm⟩ n=>?_⟩⟩
  .obtain ⟨r,h4,_⟩:=h3 s (by simpa using c);exact ⟨r,h4⟩
  .obtain ⟨r,h4,p⟩:=h3 s (by simpa using c);rw [hm] at h4;cases h4;have l:=cg6 _ (p.resolve_left n);have t:=(h2 _ (bz9 e)).resolve_left (by simp);rw [t] at l;exact l
theorem ap4 (m:Holds) (q:Nat) (n:Int) (a:Nat):mget eqP (mput eqP m ⟨false,(q:Int)⟩ n) ⟨false,(a:Int)⟩=if q=a then some n else mget eqP m ⟨false,(a:Int)⟩:=by
 rw [aS0];by_cases h:q=a
 .rw [if_pos h,if_pos (by rw [h])]
 .rw [if_neg h,if_neg (by intro e;rw [Place.mk.injEq] at e;omega)]
theorem bW7 {m:Holds} {q:Nat} {n x:Int} (h:InS (mput eqP m ⟨false,(q:Int)⟩ n) ks x):InS m ks x\/x=n:=by
 obtain ⟨a,b,hm⟩:=h;rw [ap4] at hm;split at hm
 .exact .inr (Option.some.inj hm).symm
 .exact .inl ⟨a,b,hm⟩
theorem cs8 {m:Holds} {q:Nat} (a:q<ks.toNat) (n:Int):InS (mput eqP m ⟨false,(q:Int)⟩ n) ks n:=⟨q,a,by rw [ap4,if_pos rfl]⟩
theorem bW8 {m:Holds} {q:Nat} {n x:Int} (h:InS m ks x) (h2:¬ InS (mput eqP m ⟨false,(q:Int)⟩ n) ks x):mget eqP m ⟨false,(q:Int)⟩=some x:=by
 obtain ⟨a,c,hm⟩:=h;by_cases b:q=a
 .rw [b];exact hm
 .exact absurd ⟨a,c,by rw [ap4,if_neg b];exact hm⟩ h2
theorem bA0 {m:Holds} {q:Nat} {n:Int} (h:Full ks m):Full ks (mput eqP m ⟨false,(q:Int)⟩ n):=by
 intro s hs;rw [ap4];split
 .exact ⟨_,rfl⟩
 .exact h s hs
def Gr (sp:Spans) (rd:Reads) (ks N pl:Int) (q:List Int) (m0 m:Holds):Prop:=
 ∀ u,InS m0 ks u->¬ InS m ks u->u∉q/\(I1 (getS sp u).first (getS sp u).last pl=false\/(Full ks m/\∀ v,InS m ks v->v∉q->I2 rd N v pl<=I2 rd N u pl))
theorem cs9 {pl:Int} {q:List Int} {k:Holds} {S:AS} {n:Int} (F:Fine P ks S.holds) (d:W8 sp rd ks N S.holds pl q) (l:n∈q) (h:Gr sp rd ks N pl q k S.holds):
  ∃ a:Nat,a<ks.toNat/\(D4 sp rd ks N S pl q).1=(a:Int)/\Gr sp rd ks N pl q k (mput eqP S.holds ⟨false,(a:Int)⟩ n)/\(∀ x∈q,InS S.holds ks x->InS (mput eqP S.holds ⟨false,(a:Int)⟩ n) ks x):=by
 obtain ⟨a,o,hr,m⟩:=bj6 d F;refine ⟨a,o,hr,λu p f=>?_,λx r g=>Classical.byContradiction λi=>(m x (bW8 g i)).1 r⟩;by_cases c:InS S.holds ks u
 .obtain ⟨h1,h2⟩:=m u (bW8 c f);refine ⟨h1,h2.imp id λ⟨h3,h4⟩=>⟨bA0 h3,λv j b=>?_⟩⟩;exact h4 v ((bW7 j).resolve_right λe=>b (by rw [e];exact l)) b
 .obtain ⟨h1,h2⟩:=h u p c;refine ⟨h1,h2.imp id λ⟨h3,h4⟩=>⟨bA0 h3,λv j b=>?_⟩⟩;exact h4 v ((bW7 j).resolve_right λe=>b (by rw [e];exact l)) b
theorem bI7 (S:AS) (pl:Int) (st:List Int):L1 1 (D4 sp rd ks N S pl st).2.code=L1 1 S.code:=by
 unfold D4;split
 .rfl
 .unfold aw2;cases (mget eqI S.cells _).isSome with
  |true=>rfl
  |false=>show L1 1 (S.code++[_])=_;rw [av7];rfl
theorem bj7 (q:List Int) (x:Int) (S:Int->Prop):(S x->ai7 (q++[x]) S=ai7 q S)/\(¬ S x->ai7 (q++[x]) S=ai7 q S+1):=by
 classical
 refine ⟨λh=>?_,λh=>?_⟩
 .unfold ai7;rw [List.filter_append,List.filter_cons_of_neg (by simpa using h)];simp
 .unfold ai7;rw [List.filter_append,List.filter_cons_of_pos (by simpa using h)];simp
theorem aZ8 {i:Int} {fr:List Int} {S:AS} (F:Fine P ks S.holds) (A:∀ n∈fr,P n) (m:fr.Nodup)
  (o:∀ k,k<fr.length->(C3 (C4 sp rd ks N i fr S (fr.take k)).holds ks (fr.getD k 0)).cell=true->W8 sp rd ks N (C4 sp rd ks N i fr S (fr.take k)).holds i fr):∀ j,j<=fr.length->
  Gr sp rd ks N i fr S.holds (C4 sp rd ks N i fr S (fr.take j)).holds/\(∀ x,InS (C4 sp rd ks N i fr S (fr.take j)).holds ks x->InS S.holds ks x\/x∈fr.take j)/\
   (∀ x∈fr,InS S.holds ks x->InS (C4 sp rd ks N i fr S (fr.take j)).holds ks x)/\(∀ x∈fr.take j,InS (C4 sp rd ks N i fr S (fr.take j)).holds ks x)/\
   L1 1 (C4 sp rd ks N i fr S (fr.take j)).code=L1 1 S.code+ai7 (fr.take j) (InS S.holds ks)
 |0,_=>⟨λu C v=>absurd C (by simpa [C4] using v),λx b=>.inl (by simpa [C4] using b),λx _ b=>by simpa [C4] using b,by simp,by simp [C4,ai7]⟩
 |j+1,D=>by
  obtain ⟨h1,h2,h3,h4,w⟩:=aZ8 F A m o j (by omega);have hg:=F7 (l:=fr) (i:=j) (by omega) 0;have Fj:=V5 (sp:=sp) (rd:=rd) (N:=N) (i:=i) (fr:=fr) (fr.take j) F (λn t=>A n (List.mem_of_mem_take t));have p:fr.getD j 0∉fr.take j:=λhm=>by have g:=m;rw [<-List.take_append_drop (j+1) fr,A4 (by omega) 0,List.nodup_append] at g;exact (List.nodup_append.1 g.1).2.2 _ hm _ (by simp) rfl
  have c:=o j (by omega);rw [A4 (by omega) 0,ah9];obtain ⟨n,t⟩:∃ n,fr.getD j 0=n:=⟨_,rfl⟩;obtain ⟨T,B⟩:∃ T,C4 sp rd ks N i fr S (fr.take j)=T:=⟨_,rfl⟩;rw [t] at hg p c;rw [B] at h1 h2 h3 h4 w Fj c;rw [t,B];cases hc:(C3 T.holds ks n).cell with
  |false=>
   have e:G9 sp rd ks N i fr T n=T:=by unfold G9;rw [hc];rfl
   have f:InS T.holds ks n:=by obtain ⟨a,q,_,hm⟩:=at4 hc;exact ⟨a,q,hm⟩
   have r:InS S.holds ks n:=(h2 n f).resolve_right p;rw [e];refine ⟨h1,λx b=>(h2 x b).imp id λh=>by simp [h],h3,λx b=>?_,?_⟩
   .rcases cA4.1 b with b|b
    .exact h4 x b
    .rw [cy8] at b;rw [b];exact f
   .rw [(bj7 _ _ _).1 r];exact w
  |true=>
   have y:¬ InS T.holds ks n:=λ⟨a,q,hm⟩=>W9.1 hc a q hm;have s:¬ InS S.holds ks n:=λh=>y (h3 n hg h);obtain ⟨a,q,hr,z,d⟩:=cs9 Fj (c hc) hg h1;have e:G9 sp rd ks N i fr T n=⟨mput eqP T.holds ⟨false,(a:Int)⟩ n,(D4 sp rd ks N T i fr).2.cells,(D4 sp rd ks N T i fr).2.ocells,(D4 sp rd ks N T i fr).2.code++[⟨1,(a:Int),getI (D4 sp rd ks N T i fr).2.cells n,ins0⟩]⟩:=by unfold G9;rw [hc,cond_true,<-O8 sp rd ks N T i fr,<-hr]
   rw [e];refine ⟨z,λx b=>?_,λx b f=>d x b (h3 x b f),λx b=>?_,?_⟩
   .rcases bW7 b with h|h
    .exact (h2 x h).imp id λh=>by simp [h]
    .exact .inr (by simp [h])
   .rcases cA4.1 b with b|b
    .exact d x (List.mem_of_mem_take b) (h4 x b)
    .rw [cy8] at b;rw [b];exact cs8 q n
   .rw [av7,if_pos rfl,bI7,(bj7 _ _ _).2 s,w];omega
end
end Go.Rg
end
section
namespace Go.Rg
open Go Go.VT
theorem bW9 {b:List Ins} {k:Nat} (h:k<b.length):wr (b.drop k)=(b.getD k ins0).to++wr (b.drop (k+1)):=by rw [List.drop_eq_getElem_cons h,ah2,cz1,cx8 h];rfl
theorem bA1 (i n:Int):∀ (l:List Int) (m:Reads),l.Nodup->getL (G0 m l i) n=getL m n++if n∈l then [i] else []
 |[],m,_=>by simp [G0]
 |x::r,m,h=>by
  obtain ⟨h1,h2⟩:=List.nodup_cons.1 h;show getL (G0 (mput eqI m x (getL m x++[i])) r i) n=_;rw [bA1 i n r _ h2,aL5];by_cases a:x=n
  .subst a;rw [if_pos rfl,if_neg h1,if_pos (by simp),List.append_nil]
  .rw [if_neg a];congr 1;by_cases hr:n∈r
   .rw [if_pos hr,if_pos (by simp [hr])]
   .rw [if_neg hr,if_neg (by simp only [List.mem_cons,not_or];exact ⟨λe=>a e.symm,hr⟩)]
theorem at7 (b:List Ins) (n j:Int):∀ k,k<=b.length->(j∈getL (E6 (b.take k)) n<->∃ t:Nat,t<k/\j=t/\n∈(b.getD t ins0).from_)
 |0,_=>by simp [E6,N5,getL,mget]
 |k+1,h=>by
  have ih:=at7 b n j k (by omega);unfold E6 at ih |-;rw [A4 (by omega) ins0,ai2,bA1 _ _ _ _ (S0 _),cA4,ih,cA6,Nat.min_eq_left (by omega)];constructor
  .rintro (⟨t,h1,h2,h3⟩|h1)
   .exact ⟨t,by omega,h2,h3⟩
   .split at h1
    .rename_i hm;rw [cy8] at h1;exact ⟨k,by omega,by omega,K4.1 hm⟩
    .simp at h1
  .rintro ⟨t,h1,h2,h3⟩;by_cases a:t=k
   .subst a;exact .inr (by rw [if_pos (K4.2 h3)];simp;omega)
   .exact .inl ⟨t,by omega,h2,h3⟩
theorem bX0 {k:Int}:∀ {l:List Int},l.Pairwise (·<=·)->k∈l->l.find? (λx=>decide (k<=x))=some k
 |x::r,b,h=>by
  obtain ⟨h1,h2⟩:=List.pairwise_cons.1 b;by_cases a:k<=x
  .rw [List.find?_cons_of_pos (by simpa using a)];rcases List.mem_cons.1 h with rfl|h
   .rfl
   .have:=h1 k h;congr 1;omega
  .rw [List.find?_cons_of_neg (by simpa using a)];refine bX0 h2 ((List.mem_cons.1 h).resolve_left λe=>a (by omega))
 |[],_,h=>by simp at h
theorem bj8 {k:Int}:∀ {l:List Int},k∉l->l.find? (λx=>decide (k<=x))=l.find? (λx=>decide (k+1<=x))
 |[],_=>rfl
 |x::r,h=>by
  have c:k≠x:=λe=>h (by simp [e]);have ih:=bj8 (l:=r) (k:=k) λb=>h (List.mem_cons_of_mem _ b);by_cases a:k<=x
  .rw [List.find?_cons_of_pos (by simpa using a),List.find?_cons_of_pos (by simp;omega)]
  .rw [List.find?_cons_of_neg (by simpa using a),List.find?_cons_of_neg (by simp;omega),ih]
section
variable {a:Int} {b:List Ins} {c:List Int}
theorem ct0 {n:Int} {k:Nat} (a:k<b.length) (h:n∈(b.getD k ins0).from_) (N:Int):I2 (E6 b) N n k=k:=by have h1:=(at7 b n k b.length (Nat.le_refl _)).2 ⟨k,a,rfl,h⟩;rw [cA5] at h1;unfold I2;rw [bX0 (am8 b n) h1];rfl
theorem ct1 {n:Int} {k:Nat} (h:n∉(b.getD k ins0).from_) (N:Int):I2 (E6 b) N n k=I2 (E6 b) N n ((k:Int)+1):=by
 have h1:(k:Int)∉getL (E6 b) n:=λhm=>by
  have h2:=(at7 b n k b.length (Nat.le_refl _)).1 (by rw [cA5];exact hm);obtain ⟨t,_,h3,h4⟩:=h2;have:t=k:=by omega
  rw [this] at h4;exact h h4
 unfold I2;rw [bj8 h1]
theorem ci6 (C:Checked a b c) {k:Nat} {r:Int} (h:r<a\/r∈wr (b.take k)):r∉wr (b.drop k):=by
 intro hm;have d:=G2.1 C.once;rw [<-List.take_append_drop k b,I8] at d;rcases h with h|h
 .have:=C.new r (by rw [<-List.take_append_drop k b,I8];exact List.mem_append_right _ hm);omega
 .exact (List.nodup_append.1 d).2.2 r h r hm rfl
abbrev stA (a:Int) (b:List Ins) (c:List Int) (ks:Int) (k:Nat):AS:=runA (A7 a b c) (E6 b) ks b.length (b.take k) 0 (I3 a)
end
end Go.Rg
end
section
namespace Go.Rg
open Go Go.VT
section
variable {P:Int->Prop} {sp:Spans} {rd:Reads} {ks N:Int}
end
theorem bj9 {m:Spans} {n:Int} (h:(mget eqI m n).isSome=true) (l:List Int) (i:Int):(mget eqI (uses m l i) n).isSome=true:=by
 rw [ah0];split
 .rfl
 .exact h
theorem bt0 {m:Spans} {n:Int} (h:(mget eqI m n).isSome=true) (l:List Int) (i:Int):(mget eqI (K7 m l i) n).isSome=true:=by
 rw [O1];split
 .rfl
 .exact h
theorem aM3 {n:Int}:∀ (b:List Ins) {m:Spans} (i:Int),(mget eqI m n).isSome=true->(mget eqI (I7 m b i) n).isSome=true
 |[],m,i,h=>h
 |x::r,m,i,h=>aM3 r _ (bt0 (bj9 h _ _) _ _)
section
variable {a:Int} {b:List Ins} {c:List Int}
theorem bI8 (C:Checked a b c) {n:Int} (h0:0<=n) (h:n<a\/n∈wr b):(mget eqI (A7 a b c) n).isSome=true:=by
 unfold A7;rw [aC6,Option.isSome_map];refine bj9 ?_ _ _;rcases h with h|h
 .refine aM3 _ _ ?_;unfold L5;rw [O1,if_pos]
  .rfl
  .unfold upto;exact List.mem_map.2 ⟨n.toNat,by simp;omega,by omega⟩
 .obtain ⟨l,x,r,e,f,hl⟩:=by5 h;have d:=G2.1 C.once;rw [e,I8,ah2] at d;have hr:n∉wr r:=λh=>(List.nodup_append.1 (List.nodup_append.1 d).2.1).2.2 n f n h rfl;rw [e,Z4 n l x r _ _ f hr];rfl
theorem bX1 (C:Checked a b c) {n:Int} (h0:0<=n) (h:n<a\/n∈wr b) {k:Nat} (d:k<=b.length):I1 (getS (A7 a b c) n).first (getS (A7 a b c) n).last k=true<->n∈atL b c k:=by
 rw [<-by6 C n k d];have hs:=bI8 C h0 h;unfold W5 getS;cases hm:mget eqI (A7 a b c) n with
 |none=>rw [hm] at hs;cases hs
 |some s=>exact Iff.rfl
def rds (b:List Ins):List Int:=b.flatMap (·.from_)
def parR (a:Int) (b:List Ins):List Int:=b.foldl (λl x=>C9 l (x.from_.filter λn=>decide (n<a))) []
theorem bI9 {l:List Int} (h:incr l):l.Nodup:=by unfold List.Nodup;exact List.Pairwise.imp (λh=>by omega) h
structure Free (a:Int) (b:List Ins) (c:List Int) (ks:Int) (k:Nat) (S:AS):Prop where
 fine:Fine (λr=>0<=r/\(r<a\/r∈wr (b.take k))) ks S.holds
 stores:L1 2 S.code=0
 here:∀ r∈atL b c k,(a<=r\/r∈rds (b.take k))->InS S.holds ks r
 from_:∀ r,InS S.holds ks r->r∈wr (b.take k)\/r∈rds (b.take k)
 loads:L1 1 S.code=(parR a (b.take k)).length
end
end Go.Rg
end
section
namespace Go.Rg
open Go Go.VT
structure Rl (ks:Int) (r:RS) (S:AS):Prop where
 len:r.slots.length=ks.toNat
 get:∀ q:Nat,q<ks.toNat->r.slots.getD q 0=(mget eqP S.holds ⟨false,(q:Int)⟩).getD (-1)
 cells:r.cells=S.cells
 next:r.next=S.ocells
 code:r.code=S.code
structure Ctx (sp:Spans) (rd:Reads) (N:Int) (b:List Ins) (pl:Int) (st keep live:List Int) (P:Int->Prop):Prop where
 pos:∀ r,P r->0<=r
 keep:∀ n,n∈st<->n∈keep
 live:∀ r,P r->(I1 (getS sp r).first (getS sp r).last pl=true<->r∈live)
 next:∀ r,I2 rd N r pl=C2 b r pl
def aA7 (sp:Spans) (m:Holds) (pl:Int) (st:List Int) (j:Nat):Bool:=match mget eqP m ⟨false,(j:Int)⟩ with
 |none=>true
 |some n=>!st.contains n&&!I1 (getS sp n).first (getS sp n).last pl
def al9 (rd:Reads) (N:Int) (m:Holds) (pl:Int) (st:List Int) (j:Nat):Option Held:=match mget eqP m ⟨false,(j:Int)⟩ with
 |none=>none
 |some n=>bif st.contains n then none else some ⟨(j:Int),n,I2 rd N n pl⟩
theorem aw9 {sp:Spans} {m:Holds} {pl:Int} {st:List Int} {s:Nat} (h:mget eqP m ⟨false,(s:Int)⟩=none):aA7 sp m pl st s=true:=by unfold aA7;rw [h]
theorem al1 {sp:Spans} {m:Holds} {pl:Int} {st:List Int} {s:Nat} {n:Int} (h:mget eqP m ⟨false,(s:Int)⟩=some n):aA7 sp m pl st s=(!st.contains n&&!I1 (getS sp n).first (getS sp n).last pl):=by unfold aA7;rw [h]
theorem al2 {rd:Reads} {N:Int} {m:Holds} {pl:Int} {st:List Int} {s:Nat} {n:Int} (h:mget eqP m ⟨false,(s:Int)⟩=some n):al9 rd N m pl st s=bif st.contains n then none else some ⟨(s:Int),n,I2 rd N n pl⟩:=by unfold al9;rw [h]
theorem aM4 (sp:Spans) (rd:Reads) (N:Int) (m:Holds) (pl:Int) (st:List Int):∀ (l:List Nat) (acc:List Held),
  (l.find? (aA7 sp m pl st)=none->C1 sp rd N m pl st l acc=(none,acc++l.filterMap (al9 rd N m pl st)))/\∀ j,l.find? (aA7 sp m pl st)=some j->(C1 sp rd N m pl st l acc).1=some (j:Int)
 |[],acc=>⟨λ_=>by simp [C1],λj h=>by simp at h⟩
 |s::r,acc=>by
  cases hm:mget eqP m ⟨false,(s:Int)⟩ with
  |none=>have hf:=aw9 (sp:=sp) (pl:=pl) (st:=st) hm;rw [List.find?_cons_of_pos hf];exact ⟨λh=>(by cases h),λj h=>(by cases h;simp only [C1,hm])⟩
  |some n=>
   cases hc:st.contains n with
   |true=>
    have hf:¬ aA7 sp m pl st s=true:=by rw [al1 hm,hc];simp
    have a:al9 rd N m pl st s=none:=by rw [al2 hm,hc];rfl
    rw [List.find?_cons_of_neg hf,List.filterMap_cons_none a];simp only [C1,hm,hc,cond_true];exact aM4 sp rd N m pl st r acc
   |false=>
    cases hs:I1 (getS sp n).first (getS sp n).last pl with
    |true=>
     have hf:¬ aA7 sp m pl st s=true:=by rw [al1 hm,hs];simp
     have a:al9 rd N m pl st s=some ⟨(s:Int),n,I2 rd N n pl⟩:=by rw [al2 hm,hc];rfl
     rw [List.find?_cons_of_neg hf,List.filterMap_cons_some a];simp only [C1,hm,hc,hs,cond_true,cond_false];have ih:=aM4 sp rd N m pl st r (acc++[⟨(s:Int),n,I2 rd N n pl⟩]);rw [cA3] at ih;exact ih
    |false=>
     have hf:aA7 sp m pl st s=true:=by rw [al1 hm,hc,hs];rfl
     rw [List.find?_cons_of_pos hf];exact ⟨λh=>(by cases h),λj h=>(by cases h;simp only [C1,hm,hc,hs,cond_false])⟩
theorem ax0 {α:Type} {p q:α->Bool}:∀ {l:List α},(∀ x∈l,p x=q x)->l.find? p=l.find? q
 |[],_=>rfl
 |x::r,h=>by
  have ih:=ax0 (l:=r) λy c=>h y (by simp [c]);have b:=h x (by simp);cases a:q x with
  |true=>rw [List.find?_cons_of_pos (by rw [b];exact a),List.find?_cons_of_pos a]
  |false=>rw [List.find?_cons_of_neg (by rw [b,a];simp),List.find?_cons_of_neg (by rw [a];simp),ih]
theorem bk0 (l:List Int) (n:Int):decide (B8 l n<0)=!l.contains n:=by have:=aa4 (l:=l) (n:=n);rw [Bool.eq_iff_iff,cz9,Bool.not_eq_true',Bool.eq_false_iff,ne_eq,List.contains_iff_mem,<-this];omega
theorem aM5 (l:List Int) (n:Int):decide (B8 l n>=0)=l.contains n:=by rw [Bool.eq_iff_iff,cz9,List.contains_iff_mem,<-aa4]
theorem bt1 {l:List Held} (h:l≠[]) (y:Held):H4 (l++[y])=F4 (H4 l) y:=by obtain ⟨x,r,rfl⟩:=List.exists_cons_of_ne_nil h;show (r++[y]).foldl F4 x=_;rw [List.foldl_append];rfl
section
variable {P:Int->Prop} {sp:Spans} {rd:Reads} {ks N:Int} {b:List Ins} {pl:Int} {st keep live:List Int} {r:RS} {S:AS}
theorem bk1 (X:Ctx sp rd N b pl st keep live P) (n:Int):keep.contains n=st.contains n:=by rw [Bool.eq_iff_iff,List.contains_iff_mem,List.contains_iff_mem];exact (X.keep n).symm
theorem bX2 (X:Ctx sp rd N b pl st keep live P) (R:Rl ks r S) (F:Fine P ks S.holds) {j:Nat} (a:j<ks.toNat):am9 r.slots live keep j=aA7 sp S.holds pl st j:=by
 unfold am9;rw [R.get j a];cases hm:mget eqP S.holds ⟨false,(j:Int)⟩ with
 |none=>rw [aw9 hm];rfl
 |some n=>
  rw [al1 hm];have c:=F.reg j a n hm;have h0:=X.pos n c;have hl:live.contains n=I1 (getS sp n).first (getS sp n).last pl:=by rw [Bool.eq_iff_iff,List.contains_iff_mem];exact (X.live n c).symm
  rw [Option.getD_some,decide_eq_false (by omega),Bool.false_or,bk0,bk0,bk1 X,hl,Bool.and_comm]
theorem aM6 (X:Ctx sp rd N b pl st keep live P) (R:Rl ks r S) (F:Fine P ks S.holds) (a:Full ks S.holds):∀ n,n<=ks.toNat->
  ((List.range n).filterMap (al9 rd N S.holds pl st)=[]/\F5 b r.slots keep pl n=-1)\/
  ((List.range n).filterMap (al9 rd N S.holds pl st)≠[]/\∃ q:Nat,q<n/\(H4 ((List.range n).filterMap (al9 rd N S.holds pl st))).slot=q/\F5 b r.slots keep pl n=q/\
   (H4 ((List.range n).filterMap (al9 rd N S.holds pl st))).reg=r.slots.getD q 0/\(H4 ((List.range n).filterMap (al9 rd N S.holds pl st))).next=C2 b (r.slots.getD q 0) pl)
 |0,_=>.inl ⟨rfl,rfl⟩
 |n+1,i=>by
  have ih:=aM6 X R F a n (by omega);obtain ⟨m,hm⟩:=a n (by omega);have hg:r.slots.getD n 0=m:=by rw [R.get n (by omega),hm];rfl
  have g:F5 b r.slots keep pl (n+1)=ai6 b r.slots keep pl (F5 b r.slots keep pl n) n:=by unfold F5;rw [List.range_succ,List.foldl_append];rfl
  rw [g,List.range_succ,List.filterMap_append];unfold ai6;rw [aM5,hg,bk1 X];cases hc:st.contains m with
  |true=>
   have c:al9 rd N S.holds pl st n=none:=by rw [al2 hm,hc];rfl
   rw [List.filterMap_cons_none c,List.filterMap_nil,List.append_nil,cond_true];rcases ih with ih|⟨h1,q,h,h2⟩
   .exact .inl ih
   .exact .inr ⟨h1,q,by omega,h2⟩
  |false=>
   have c:al9 rd N S.holds pl st n=some ⟨(n:Int),m,I2 rd N m pl⟩:=by rw [al2 hm,hc];rfl
   rw [List.filterMap_cons_some c,List.filterMap_nil,cond_false];right;refine ⟨by simp,?_⟩;rcases ih with ⟨h1,h2⟩|⟨h1,q,h,h2,h3,h4,d⟩
   .rw [h1,h2];exact ⟨n,by omega,rfl,rfl,hg.symm,by rw [hg];exact X.next m⟩
   .rw [bt1 h1,h3];obtain ⟨B,hB⟩:∃ B,H4 ((List.range n).filterMap (al9 rd N S.holds pl st))=B:=⟨_,rfl⟩;rw [hB] at h2 h4 d |-;rw [cy0,<-h4,decide_eq_false (show ¬ (q:Int)<0 by omega),Bool.false_or,<-X.next m];have e:C2 b B.reg pl=B.next:=by rw [h4,d]
    rw [e];have f:(decide (I2 rd N m pl >B.next)||I2 rd N m pl==B.next&&decide (m >B.reg))=Z5 ⟨(n:Int),m,I2 rd N m pl⟩ B:=rfl;rw [f];unfold F4;cases Z5 ⟨(n:Int),m,I2 rd N m pl⟩ B with
    |true=>exact ⟨n,by omega,rfl,rfl,hg.symm,by rw [hg];exact X.next m⟩
    |false=>exact ⟨q,by omega,h2,rfl,h4,d⟩
theorem bX3 (X:Ctx sp rd N b pl st keep live P) (R:Rl ks r S) (F:Fine P ks S.holds) (g:W8 sp rd ks N S.holds pl st):
  ∃ q:Nat,q<ks.toNat/\(D4 sp rd ks N S pl st).1=(q:Int)/\atR b r.slots live keep pl=(q:Int)/\Rl ks (bif decide (Q4 r.slots live keep<0) then bs8 r (J0 b r.slots keep pl) else r) (D4 sp rd ks N S pl st).2:=by
 have a:(List.range r.slots.length).find? (am9 r.slots live keep)=(List.range ks.toNat).find? (aA7 sp S.holds pl st):=by rw [R.len];exact ax0 λj h=>bX2 X R F (by simpa using h)
 have f:=aM4 sp rd N S.holds pl st (List.range ks.toNat) [];unfold atR;cases hf:(List.range ks.toNat).find? (aA7 sp S.holds pl st) with
 |some j=>
  have h:j<ks.toNat:=by simpa using List.mem_of_find?_eq_some hf
  have c:Q4 r.slots live keep=(j:Int):=by unfold Q4;rw [a,hf]
  have hs:=f.2 j hf;have d:D4 sp rd ks N S pl st=((j:Int),S):=by unfold D4 H8;rw [hs]
  rw [d,c,decide_eq_false (show ¬ (j:Int)<0 by omega)];exact ⟨j,h,rfl,rfl,R⟩
 |none=>
  have c:Q4 r.slots live keep=-1:=by unfold Q4;rw [a,hf]
  have hs:=f.1 hf;rw [List.nil_append] at hs;have e:Full ks S.holds:=by
   intro s i;have h1:=List.find?_eq_none.1 hf s (by simpa using i);cases hm:mget eqP S.holds ⟨false,(s:Int)⟩ with
   |none=>exact absurd (aw9 hm) h1
   |some n=>exact ⟨n,rfl⟩
  have k:(List.range ks.toNat).filterMap (al9 rd N S.holds pl st)≠[]:=by have:=g (by unfold H8;rw [hs]);unfold H8 at this;rw [hs] at this;exact this
  have l:=aM6 X R F e ks.toNat (Nat.le_refl _);rcases l with ⟨h1,_⟩|⟨_,q,o,h2,h3,h4,_⟩
  .exact absurd h1 k
  have d:D4 sp rd ks N S pl st=((q:Int),aw2 S (H4 ((List.range ks.toNat).filterMap (al9 rd N S.holds pl st)))):=by unfold D4 H8;rw [hs];simp only [h2]
  have m:J0 b r.slots keep pl=(q:Int):=by unfold J0;rw [R.len];exact h3
  rw [d,c,m,decide_eq_true (show (-1:Int)<0 by decide)];refine ⟨q,o,rfl,rfl,?_⟩;obtain ⟨B,hB⟩:∃ B,H4 ((List.range ks.toNat).filterMap (al9 rd N S.holds pl st))=B:=⟨_,rfl⟩;rw [hB] at h2 h4 |-;show Rl ks (bs8 r (q:Int)) (aw2 S B);unfold bs8 aw2;rw [cy0,<-h4,R.cells,R.next,R.code,h2];cases (mget eqI S.cells B.reg).isSome with
  |true=>exact R
  |false=>exact ⟨R.len,R.get,rfl,rfl,rfl⟩
theorem ax1 (X:Ctx sp rd N b pl st keep live P) (R:Rl ks r S) (F:Fine P ks S.holds) (d:W8 sp rd ks N S.holds pl st) (n:Int):
  ∃ q:Nat,q<ks.toNat/\(D4 sp rd ks N S pl st).1=(q:Int)/\atR b r.slots live keep pl=(q:Int)/\
   Rl ks (L9 b r n live keep pl) ⟨mput eqP S.holds ⟨false,(q:Int)⟩ n,(D4 sp rd ks N S pl st).2.cells,(D4 sp rd ks N S pl st).2.ocells,(D4 sp rd ks N S pl st).2.code⟩:=by
 obtain ⟨q,e,h1,h2,R'⟩:=bX3 X R F d;refine ⟨q,e,h1,h2,?_⟩;have f:=O8 sp rd ks N S pl st;unfold L9;obtain ⟨t,g⟩:∃ t,(bif decide (Q4 r.slots live keep<0) then bs8 r (J0 b r.slots keep pl) else r)=t:=⟨_,rfl⟩;rw [g] at R' |-;dsimp only;rw [h2,cy0];refine ⟨by rw [List.length_set];exact R'.len,λa h=>?_,R'.cells,R'.next,R'.code⟩;show (t.slots.set q n).getD a 0=(mget eqP (mput eqP S.holds ⟨false,(q:Int)⟩ n) ⟨false,(a:Int)⟩).getD (-1);have hl:=R'.len;rw [ap4,cz1,cA2];by_cases c:q=a
 .rw [if_pos c,if_pos c,if_pos (by omega)];rfl
 .rw [if_neg c,if_neg c,<-cz1,R'.get a h,f]
end
end Go.Rg
end
section
namespace Go.Rg
open Go Go.VT
theorem U2:∀ (l r seen:List Int),D5 seen (l++r)=D5 seen l++D5 (seen++l) r
 |[],r,seen=>by simp [D5]
 |x::l,r,seen=>by
  have ih:=U2 l r (seen++[x]);rw [cA3,List.singleton_append] at ih;simp only [List.cons_append,D5];cases seen.contains x with
  |true=>exact ih
  |false=>simp only [cond_false,List.cons_append];rw [ih]
theorem bJ0 {l:List Int} {j:Nat} (h:j<l.length) (a:l.getD j 0∉l.take j):(B0 l).take (B0 (l.take j)).length=B0 (l.take j)/\(B0 (l.take j)).length<(B0 l).length/\(B0 l).getD (B0 (l.take j)).length 0=l.getD j 0:=by
 have e:B0 l=B0 (l.take j)++l.getD j 0::D5 (l.take j++[l.getD j 0]) (l.drop (j+1)):=by
  have h1:l=l.take j++l.getD j 0::l.drop (j+1):=by
   conv=>lhs;rw [<-List.take_append_drop (j+1) l,A4 h 0]
   simp
  conv=>lhs;rw [h1]
  unfold B0;rw [U2,List.nil_append];congr 1;show (bif (l.take j).contains (l.getD j 0) then _ else _)=_;have:(l.take j).contains (l.getD j 0)=false:=by rw [Bool.eq_false_iff,ne_eq,List.contains_iff_mem];exact a
  rw [this];rfl
 obtain ⟨D,b⟩:∃ D,B0 (l.take j)=D:=⟨_,rfl⟩;rw [b] at e |-;rw [e];refine ⟨by simp,by simp,?_⟩;rw [cz1,cz6 (Nat.le_refl _),Nat.sub_self];rfl
section
variable {P:Int->Prop} {sp:Spans} {rd:Reads} {ks N:Int} {b:List Ins} {r:RS} {S:AS}
theorem aC9 (R:Rl ks r S) {n:Int} (h0:0<=n):n∈r.slots<->InS S.holds ks n:=by
 constructor
 .intro h;obtain ⟨q,a,c⟩:=List.mem_iff_getElem.1 h;have b:q<ks.toNat:=by rw [<-R.len];exact a
  have hg:=R.get q b;rw [cz1,cx8 a,c] at hg;cases hm:mget eqP S.holds ⟨false,(q:Int)⟩ with
  |none=>rw [hm] at hg;simp at hg;omega
  |some m=>rw [hm] at hg;exact ⟨q,b,by rw [hm];simp at hg;rw [hg]⟩
 .rintro ⟨q,a,hm⟩;have hg:=R.get q a;rw [hm] at hg;have:=F7 (l:=r.slots) (i:=q) (by rw [R.len];exact a) 0;rw [hg] at this;exact this
theorem bk2 (F:Fine P ks S.holds) {n:Int} {q:Nat} (b:q<ks.toNat) (hm:mget eqP S.holds ⟨false,(q:Int)⟩=some n):C3 S.holds ks n=⟨false,(q:Int)⟩:=by obtain ⟨a,c,h1,h2⟩:=cg4 (ks:=ks) ⟨q,b,hm⟩;rw [h1,F.inj a q c b n h2 hm]
theorem aS4 (R:Rl ks r S) (F:Fine P ks S.holds) {n:Int} (h0:0<=n) (h:InS S.holds ks n):B8 r.slots n=(C3 S.holds ks n).n:=by
 have a:=(aC9 R h0).2 h;have h1:=aa4.2 a;have h2:=cb3 (l:=r.slots) (n:=n);obtain ⟨w,c⟩:=cy3 h1;have hg:=bP4 a;rw [c,cy0] at hg;have b:w<ks.toNat:=by rw [<-R.len];omega
 rw [R.get w b] at hg;have hm:mget eqP S.holds ⟨false,(w:Int)⟩=some n:=by
  cases hm:mget eqP S.holds ⟨false,(w:Int)⟩ with
  |none=>rw [hm] at hg;simp at hg;omega
  |some m=>rw [hm] at hg;simp at hg;rw [hg]
 rw [bk2 F b hm,c]
theorem aS5 (R:Rl ks r S) {n:Int} (h0:0<=n):decide (B8 r.slots n>=0)=!(C3 S.holds ks n).cell:=by
 rw [aM5];cases hc:(C3 S.holds ks n).cell with
 |true=>rw [Bool.not_true,Bool.eq_false_iff,ne_eq,List.contains_iff_mem,aC9 R h0];exact λ⟨a,b,hm⟩=>W9.1 hc a b hm
 |false=>obtain ⟨a,b,_,hm⟩:=at4 hc;rw [Bool.not_false,List.contains_iff_mem,aC9 R h0];exact ⟨a,b,hm⟩
theorem bJ1 {i:Int} {from_ live:List Int} (X:Ctx sp rd N b i (B0 from_) from_ live P) (R:Rl ks r S) (F:Fine P ks S.holds) (w:∀ n∈B0 from_,P n)
  (o:∀ k,k<(B0 from_).length->(C3 (C4 sp rd ks N i (B0 from_) S ((B0 from_).take k)).holds ks ((B0 from_).getD k 0)).cell=true->W8 sp rd ks N (C4 sp rd ks N i (B0 from_) S ((B0 from_).take k)).holds i (B0 from_)):∀ j,j<=from_.length->
  Rl ks (E9 b live from_ i r (from_.take j)) (C4 sp rd ks N i (B0 from_) S (B0 (from_.take j)))/\(j<from_.length->B8 (E9 b live from_ i r (from_.take j)).slots (from_.getD j 0)<0->aN5 b (E9 b live from_ i r (from_.take j)).slots live from_ i):=by
 have key:∀ j,j<=from_.length->Rl ks (E9 b live from_ i r (from_.take j)) (C4 sp rd ks N i (B0 from_) S (B0 (from_.take j)))->
   (j<from_.length->B8 (E9 b live from_ i r (from_.take j)).slots (from_.getD j 0)<0->aN5 b (E9 b live from_ i r (from_.take j)).slots live from_ i)/\
   (j<from_.length->Rl ks (E9 b live from_ i r (from_.take (j+1))) (C4 sp rd ks N i (B0 from_) S (B0 (from_.take (j+1))))):=by
  intro j G Rj;by_cases a:j<from_.length
  .have p:=F7 a 0;have y:=w _ (K4.2 p);have h0:=X.pos _ y;have Fj:=V5 (sp:=sp) (rd:=rd) (N:=N) (i:=i) (fr:=B0 from_) (B0 (from_.take j)) F (λn s=>w n (K4.2 (List.mem_of_mem_take (K4.1 s))));have d:E9 b live from_ i r (from_.take (j+1))=al8 b live from_ i (E9 b live from_ i r (from_.take j)) (from_.getD j 0):=by
    rw [A4 a 0];unfold E9;rw [List.foldl_append];rfl
   have c:=aS5 Rj h0;by_cases f:from_.getD j 0∈from_.take j
   .have g:B0 (from_.take (j+1))=B0 (from_.take j):=by
     rw [A4 a 0,al0,List.contains_iff_mem.2 f];rfl
    have u:∃ t,B0 from_=B0 (from_.take j)++t:=⟨D5 (from_.take j) (from_.drop j),by
     conv=>lhs;rw [<-List.take_append_drop j from_]
     unfold B0;rw [U2,List.nil_append]⟩
    obtain ⟨t,m⟩:=u;have hg:=(aZ8 (sp:=sp) (rd:=rd) (N:=N) (i:=i) F w (S0 _) o (B0 (from_.take j)).length (by rw [m,cz8];omega)).2.2.2.1 (from_.getD j 0) (by rw [m,List.take_left'];exact K4.2 f;rfl);rw [m,List.take_left' rfl,<-m] at hg;have z:B8 (E9 b live from_ i r (from_.take j)).slots (from_.getD j 0)>=0:=aa4.2 ((aC9 Rj h0).2 hg);refine ⟨λ_ A=>by omega,λ_=>?_⟩;rw [d,g];unfold al8;rw [decide_eq_true z];exact Rj
   .obtain ⟨C,D,E⟩:=bJ0 a f;have e:=o _ D;rw [C,E] at e;have g:B0 (from_.take (j+1))=B0 (from_.take j)++[from_.getD j 0]:=by
     have:(from_.take j).contains (from_.getD j 0)=false:=by rw [Bool.eq_false_iff,ne_eq,List.contains_iff_mem];exact f
     rw [A4 a 0,al0,this];rfl
    rw [g,ah9,d];obtain ⟨n,s⟩:∃ n,from_.getD j 0=n:=⟨_,rfl⟩;obtain ⟨T,v⟩:∃ T,C4 sp rd ks N i (B0 from_) S (B0 (from_.take j))=T:=⟨_,rfl⟩;obtain ⟨rj,l⟩:∃ rj,E9 b live from_ i r (from_.take j)=rj:=⟨_,rfl⟩;rw [s,v] at e;rw [s,v,l] at c;rw [v,l] at Rj;rw [v] at Fj;rw [s,v,l];cases hc:(C3 T.holds ks n).cell with
    |false=>
     rw [hc] at c;refine ⟨λ_ A=>?_,λ_=>?_⟩
     .have:=cy7 c;omega
     .unfold al8 G9;rw [c,hc];exact Rj
    |true=>
     rw [hc] at c;obtain ⟨q,H,h1,h2,R'⟩:=ax1 X Rj Fj (e hc) n;refine ⟨λ_ _=>?_,λ_=>?_⟩
     .unfold aN5;rw [h2,Rj.len];omega
     .unfold al8 G9;rw [c,hc,h2];have B:=O8 sp rd ks N T i (B0 from_);obtain ⟨⟨q',t⟩,m⟩:∃ x,D4 sp rd ks N T i (B0 from_)=x:=⟨_,rfl⟩;rw [m] at h1 R' B |-;dsimp only at h1 R' B |-;rw [h1,B];refine ⟨R'.len,R'.get,R'.cells,R'.next,?_⟩;show (L9 b rj n live from_ i).code++_=t.code++_;rw [R'.code,R'.cells]
  .exact ⟨λh=>absurd h a,λh=>absurd h a⟩
 intro j
 induction j with
 |zero=>intro h;exact ⟨by simpa [E9,C4,B0,D5] using R,(key 0 h (by simpa [E9,C4,B0,D5] using R)).1⟩
 |succ j ih=>intro h;have h1:=(key j (by omega) (ih (by omega)).1).2 (by omega);exact ⟨h1,(key (j+1) h h1).1⟩
theorem cg7 {i:Int} {to live:List Int} {Q:Int->Prop} (X:Ctx sp rd N b (i+1) to to live P) (R:Rl ks r S) (F:Fine Q ks S.holds) (s:∀ n,Q n->P n) (t:∀ n∈to,P n) (u:to.Nodup) (v:∀ n∈to,¬ Q n)
  (c:∀ k,k<to.length->W8 sp rd ks N (L4 sp rd ks N i to S (to.take k)).holds (i+1) to):∀ j,j<=to.length->
  Rl ks (tosR b live to (i+1) r (to.take j)).1 (L4 sp rd ks N i to S (to.take j))/\(j<to.length->aN5 b (tosR b live to (i+1) r (to.take j)).1.slots live to (i+1))/\
   (tosR b live to (i+1) r (to.take j)).2.length=j/\∀ m,m<j->∃ q:Nat,q<ks.toNat/\(tosR b live to (i+1) r (to.take j)).2.getD m 0=(q:Int)/\mget eqP (L4 sp rd ks N i to S (to.take j)).holds ⟨false,(q:Int)⟩=some (to.getD m 0):=by
 have FF:∀ j,j<=to.length->Fine P ks (L4 sp rd ks N i to S (to.take j)).holds:=λj d=>((aC8 (sp:=sp) (rd:=rd) (N:=N) (i:=i) F u v j d).1).mono λn C=>C.elim (s n) λh=>t n (List.mem_of_mem_take h);have room:∀ j,j<to.length->Rl ks (tosR b live to (i+1) r (to.take j)).1 (L4 sp rd ks N i to S (to.take j))->aN5 b (tosR b live to (i+1) r (to.take j)).1.slots live to (i+1):=by intro j d Rj;obtain ⟨q,z,_,h2,_⟩:=ax1 X Rj (FF j (by omega)) (c j d) 0;unfold aN5;rw [h2,Rj.len];omega
 intro j
 induction j with
 |zero=>
  intro h;have R0:Rl ks (tosR b live to (i+1) r (to.take 0)).1 (L4 sp rd ks N i to S (to.take 0)):=by simpa [tosR,L4] using R
  exact ⟨R0,λd=>room 0 d R0,rfl,λm hm=>absurd hm (by omega)⟩
 |succ j ih=>
  intro h;obtain ⟨Rj,_,hl,hm⟩:=ih (by omega);have Fj:=FF j (by omega);obtain ⟨q,z,h1,h2,R'⟩:=ax1 X Rj Fj (c j (by omega)) (to.getD j 0);obtain ⟨p,_,w,g⟩:=bj6 (c j (by omega)) Fj;have x:p=q:=by rw [h1] at w;omega
  subst x;have a:tosR b live to (i+1) r (to.take (j+1))=toR b live to (i+1) (tosR b live to (i+1) r (to.take j)) (to.getD j 0):=by rw [A4 (by omega) 0];unfold tosR;rw [List.foldl_append];rfl
  have f:L4 sp rd ks N i to S (to.take (j+1))=ah5 sp rd ks N i to (L4 sp rd ks N i to S (to.take j)) (to.getD j 0):=by rw [A4 (by omega) 0,aw6]
  obtain ⟨T,D⟩:∃ T,L4 sp rd ks N i to S (to.take j)=T:=⟨_,rfl⟩;rw [D] at Rj Fj h1 R' g f hm;have l:ah5 sp rd ks N i to T (to.getD j 0)=⟨mput eqP T.holds ⟨false,(p:Int)⟩ (to.getD j 0),(D4 sp rd ks N T (i+1) to).2.cells,(D4 sp rd ks N T (i+1) to).2.ocells,(D4 sp rd ks N T (i+1) to).2.code⟩:=by unfold ah5;rw [<-O8 sp rd ks N T (i+1) to,<-h1]
  have A:Rl ks (tosR b live to (i+1) r (to.take (j+1))).1 (L4 sp rd ks N i to S (to.take (j+1))):=by rw [a,f,l];exact R'
  refine ⟨A,λd=>room (j+1) d A,?_,λm E=>?_⟩
  .rw [a];show (_++[_]).length=_;rw [cz8,hl];rfl
  .rw [a,f,l];show ∃ q:Nat,q<ks.toNat/\((tosR b live to (i+1) r (to.take j)).2++[atR b (tosR b live to (i+1) r (to.take j)).1.slots live to (i+1)]).getD m 0=(q:Int)/\mget eqP (mput eqP T.holds ⟨false,(p:Int)⟩ (to.getD j 0)) ⟨false,(q:Int)⟩=some (to.getD m 0);by_cases o:m=j
   .subst o;refine ⟨p,z,?_,by rw [ap4,if_pos rfl]⟩;rw [cz1,cz6 (by omega),hl,Nat.sub_self,h2];rfl
   .obtain ⟨q',y,G,B⟩:=hm m (by omega);refine ⟨q',y,?_,?_⟩
    .rw [cz1,cz7 (by omega),<-cz1];exact G
    .rw [ap4,if_neg λe=>?_]
     .exact B
     .subst e;exact (g _ B).1 (F7 (by omega) 0)
end
end Go.Rg
end
section
namespace Go.Rg
open Go Go.VT
theorem aZ9 {p:Nat->Bool} {n i:Nat} (a:i<n) (b:p i=true) (h:∀ j,j<i->p j=false):(List.range n).find? p=some i:=by rw [List.find?_range_eq_some];exact ⟨b,List.mem_range.2 a,λj c=>by simp [h j c]⟩
section
variable {a:Int} {b:List Ins} {c:List Int}
theorem aA4 (n:Int):∀ (d p:Nat),p+d=b.length->I2 (E6 b) b.length n p=C2 b n p
 |0,p,h=>by
  have h1:(List.range b.length).find? (T8 b n p)=none:=by
   rw [List.find?_eq_none];intro j a;have a:j<b.length:=by simpa using a
   unfold T8;rw [decide_eq_false (show ¬ (p:Int)<=j by omega)];simp
  have h2:(getL (E6 b) n).find? (λx=>decide ((p:Int)<=x))=none:=by rw [List.find?_eq_none];intro x g;obtain ⟨t,h3,h4,_⟩:=(at7 b n x b.length (Nat.le_refl _)).1 (by rw [cA5];exact g);simp;omega
  unfold I2 C2;rw [h1,h2];rfl
 |d+1,p,h=>by
  have f:p<b.length:=by omega
  have c:∀ q:Nat,q<=p->T8 b n q p=(b.getD p ins0).from_.contains n:=λq i=>by unfold T8;rw [decide_eq_true (show (q:Int)<=p by omega),Bool.true_and,aM5]
  by_cases hr:n∈(b.getD p ins0).from_
  .rw [ct0 f hr];unfold C2;rw [aZ9 f (by rw [c p (Nat.le_refl _)];exact List.contains_iff_mem.2 hr) λj a=>by unfold T8;rw [decide_eq_false (show ¬ (p:Int)<=j by omega)];rfl]
  .have ih:=aA4 n d (p+1) (by omega);rw [ct1 hr];refine Eq.trans ih ?_;unfold C2;have e:(List.range b.length).find? (T8 b n ((p+1:Nat):Int))=(List.range b.length).find? (T8 b n (p:Int)):=by
    refine ax0 λj _=>?_;by_cases a:j=p
    .subst a;rw [c j (Nat.le_refl _)];unfold T8;rw [decide_eq_false (show ¬ ((j+1:Nat):Int)<=j by omega),Bool.false_and];symm;rw [Bool.eq_false_iff,ne_eq,List.contains_iff_mem];exact hr
    .unfold T8;congr 1;rw [Bool.eq_iff_iff,cz9,cz9];omega
   rw [e]
def PK (a:Int) (b:List Ins) (k:Nat) (r:Int):Prop:=0<=r/\(r<a\/r∈wr (b.take k))
theorem ci7 (C:Checked a b c) {k j:Nat} (e:k<=b.length) (d:j<=b.length) {st keep:List Int} (h:∀ n,n∈st<->n∈keep):Ctx (A7 a b c) (E6 b) b.length b (j:Int) st keep (atL b c j) (PK a b k):=
 ⟨λr hr=>hr.1,h,λr hr=>bX1 C hr.1 (hr.2.imp id λh=>by rw [<-List.take_append_drop k b,I8];exact List.mem_append_left _ h) d,λr=>aA4 r (b.length-j) j (by omega)⟩
theorem bX4 (C:Checked a b c) {ks:Int} {k:Nat} (A:k<b.length) {r:RS} {S:AS} (R:Rl ks r S) (F:Fine (PK a b k) ks S.holds) (f:doOk (A7 a b c) (E6 b) ks b.length k (b.getD k ins0) S):
  aA3 b (A9 b c) r k/\Rl ks (Q1 b (A9 b c) r k) (doOf (A7 a b c) (E6 b) ks b.length k (b.getD k ins0) S):=by
 have g:=F7 A ins0;have U:b=b.take k++b.getD k ins0::b.drop (k+1):=by
  conv=>lhs;rw [<-List.take_append_drop (k+1) b,A4 A ins0]
  simp
 have e:∀ n∈B0 (b.getD k ins0).from_,PK a b k n:=λn d=>by have:=C.there;rw [U] at this;exact ⟨(C.fromR _ g n (K4.1 d)).1,by simpa using O7 this n (K4.1 d)⟩
 have B:=aA2 A;have s:∀ n∈(b.getD k ins0).to,PK a b (k+1) n:=λn d=>⟨(C.toR _ g n d).1,.inr (by rw [B];exact List.mem_append_right _ d)⟩;have D:∀ n,PK a b k n->PK a b (k+1) n:=λn d=>⟨d.1,d.2.imp id λh=>by rw [B];exact List.mem_append_left _ h⟩;have t:∀ n∈(b.getD k ins0).to,¬ PK a b k n:=λn d V=>ci6 C V.2 (by rw [bW9 A];exact List.mem_append_left _ d);have u:=aX5 C A;have X1:=ci7 C (k:=k) (j:=k) (by omega) (by omega) (λn=>K4 (l:=(b.getD k ins0).from_) (n:=n));have X2:=ci7 C (k:=k+1) (j:=k+1) (by omega) (by omega) (λn=>Iff.rfl (a:=n∈(b.getD k ins0).to));have I:(A9 b c).getD k []=atL b c k:=rfl;have J:(A9 b c).getD (k+1) []=atL b c (k+1):=rfl;have K:((k:Int)+1).toNat=k+1:=by omega
 have v:(((k+1:Nat):Int))=(k:Int)+1:=by omega
 rw [v] at X2;unfold aA3 Q1;simp only [cy0,K,I,J];obtain ⟨x,W⟩:∃ x,b.getD k ins0=x:=⟨_,rfl⟩;rw [W] at e s t u X1 X2 f |-;have L:=bJ1 X1 R F e f.1;obtain ⟨l1,X⟩:=aZ8 F e (S0 _) f.1 _ (Nat.le_refl _);have M:=X.2.2.1;have RL:=(L _ (Nat.le_refl _)).1;have F1:=V5 (sp:=A7 a b c) (rd:=E6 b) (N:=b.length) (i:=k) (fr:=B0 x.from_) (B0 x.from_) F e;rw [cA5] at RL;rw [cA5] at M;have o:=f.2;obtain ⟨T1,w⟩:∃ T1,C4 (A7 a b c) (E6 b) ks b.length k (B0 x.from_) S (B0 x.from_)=T1:=⟨_,rfl⟩;obtain ⟨r1,E⟩:∃ r1,E9 b (atL b c k) x.from_ k r x.from_=r1:=⟨_,rfl⟩;rw [w] at M F1 o;rw [w,E] at RL;have T:=cg7 X2 RL F1 D s u t o;have TL:=T _ (Nat.le_refl _);rw [cA5] at TL;have F2:=((aC8 (sp:=A7 a b c) (rd:=E6 b) (N:=b.length) (i:=k) F1 u t _ (Nat.le_refl _)).1).mono (P':=PK a b (k+1)) λn d=>d.elim (D n) λh=>s n (List.mem_of_mem_take h);rw [cA5] at F2;rw [E];refine ⟨⟨λj O P=>(L j (by omega)).2 O P,λj O=>(T j (by omega)).2.1 O⟩,?_⟩;unfold doOf;dsimp only;rw [w];obtain ⟨T2,y⟩:∃ T2,L4 (A7 a b c) (E6 b) ks b.length k x.to T1 x.to=T2:=⟨_,rfl⟩;obtain ⟨⟨Y,to⟩,G⟩:∃ z,tosR b (atL b c (k+1)) x.to ((k:Int)+1) r1 x.to=z:=⟨_,rfl⟩;rw [y,G] at TL;rw [y] at F2;rw [y,G];obtain ⟨R2,_,H,p⟩:=TL;dsimp only at R2 H p |-;refine ⟨R2.len,R2.get,R2.cells,R2.next,?_⟩;show Y.code++_=T2.code++_;have Z:x.from_.map (B8 r1.slots)=x.from_.map (getI (S5 T1.holds ks (B0 x.from_))):=by apply List.map_congr_left;intro n d;have Q:=K4.2 d;rw [bj4 Q];exact aS4 RL F1 (e n Q).1 (M n Q)
 have e2:to=x.to.map (λn=>(C3 T2.holds ks n).n):=by
  apply List.ext_getElem?;intro m;rw [cz2];by_cases hm:m<x.to.length
  .obtain ⟨q,hq,h1,h2⟩:=p m hm;have h3:=bk2 F2 hq h2;rw [cz1,cx8 (by omega)] at h1;rw [cx8 (by omega),cx8 hm];rw [cz1,cx8 hm] at h3;simp only [Option.getD_some] at h1 h3;simp only [Option.map_some,h3,h1]
  .rw [List.getElem?_eq_none (by omega),List.getElem?_eq_none (by omega)];rfl
 rw [R2.code,Z,e2]
def M3 (a ks:Int):RS:=⟨List.replicate ks.toNat (-1),Q3 a.toNat,a,[]⟩
theorem aS6 (a ks:Int):Rl ks (M3 a ks) (I3 a):=by refine ⟨by simp [M3],λq b=>?_,rfl,rfl,rfl⟩;show (List.replicate ks.toNat (-1:Int)).getD q 0=_;rw [cz1,List.getElem?_replicate,if_pos b];rfl
theorem cg8 (C:Checked a b c) {ks:Int} (f:b.all (fewX ks)=true):∀ k,k<=b.length->
  Rl ks (runR b (A9 b c) (M3 a ks) k) (stA a b c ks k)/\(k<b.length->aA3 b (A9 b c) (runR b (A9 b c) (M3 a ks) k) k)/\Fine (PK a b k) ks (stA a b c ks k).holds:=by
 have step:∀ k,k<b.length->Rl ks (runR b (A9 b c) (M3 a ks) k) (stA a b c ks k)->Fine (PK a b k) ks (stA a b c ks k).holds->
   aA3 b (A9 b c) (runR b (A9 b c) (M3 a ks) k) k/\Rl ks (runR b (A9 b c) (M3 a ks) (k+1)) (stA a b c ks (k+1))/\Fine (PK a b (k+1)) ks (stA a b c ks (k+1)).holds:=by
  intro k d R F;have e:=F7 d ins0;have j:=(bj0 C f (A7 a b c) (E6 b) b.length k (by omega)).2 d;obtain ⟨h1,h2⟩:=bX4 C d R F j;have o:stA a b c ks (k+1)=doOf (A7 a b c) (E6 b) ks b.length k (b.getD k ins0) (stA a b c ks k):=by show runA _ _ _ _ (b.take (k+1)) 0 _=_;rw [A4 d ins0,aL4,cA6,Nat.min_eq_left (by omega)]
  have p:runR b (A9 b c) (M3 a ks) (k+1)=Q1 b (A9 b c) (runR b (A9 b c) (M3 a ks) k) k:=by unfold runR;rw [List.range_succ,List.foldl_append];rfl
  have q:b=b.take k++b.getD k ins0::b.drop (k+1):=by
   conv=>lhs;rw [<-List.take_append_drop (k+1) b,A4 d ins0]
   simp
  have l:=(bV2 (sp:=A7 a b c) (rd:=E6 b) (N:=b.length) (i:=(k:Int)) F (cA7.1 f _ e) (λn g=>by
   have:=C.there;rw [q] at this;exact ⟨(C.fromR _ e n g).1,by simpa using O7 this n g⟩) (aX5 C d) (λn g s=>ci6 C s.2 (by rw [bW9 d];exact List.mem_append_left _ g))).2
  rw [p,o];refine ⟨h1,h2,l.mono λr h=>?_⟩;have m:=aA2 d;unfold PK;rw [m,cA4];rcases h with h|h
  .exact ⟨h.1,h.2.imp id .inl⟩
  .exact ⟨(C.toR _ e r h).1,.inr (.inr h)⟩
 intro k
 induction k with
 |zero=>intro _;have F0:Fine (PK a b 0) ks (stA a b c ks 0).holds:=⟨λx y _ _ r h=>by simp [stA,runA,I3,mget] at h,λx _ r h=>by simp [stA,runA,I3,mget] at h⟩;exact ⟨aS6 a ks,λd=>(step 0 d (aS6 a ks) F0).1,F0⟩
 |succ k ih=>intro d;obtain ⟨R,_,F⟩:=ih (by omega);obtain ⟨_,R1,F1⟩:=step k (by omega) R F;exact ⟨R1,λh=>(step (k+1) h R1 F1).1,F1⟩
def an0 (r:RS) (n:Int):Place:=bif decide (B8 r.slots n<0) then ⟨true,getI r.cells n⟩ else ⟨false,B8 r.slots n⟩
theorem bJ2 {ks:Int} {r:RS} {S:AS} {P:Int->Prop} (R:Rl ks r S) (F:Fine P ks S.holds) {n:Int} (h0:0<=n):an0 r n=outA S ks n:=by
 unfold an0 outA;have a:=aS5 R h0;have e:decide (B8 r.slots n<0)=(C3 S.holds ks n).cell:=by
  have h1:decide (B8 r.slots n<0)=!decide (B8 r.slots n>=0):=by rw [Bool.eq_iff_iff];simp
  rw [h1,a,Bool.not_not]
 rw [e,R.cells];cases hc:(C3 S.holds ks n).cell with
 |true=>rfl
 |false=>obtain ⟨q,b,hs,hm⟩:=at4 hc;rw [aS4 R F h0 ⟨q,b,hm⟩,hs]
end
end Go.Rg
end
section
namespace Go.Rg
open Go Go.VT
def bA2 (b:List Ins) (c:List Int):Prop:=c.length<=60/\b.length<=60/\∀ x∈b,x.to.length<=60/\x.from_.length<=60
abbrev bA3:List Ty:=[i64,inss,ints,ints,i64]
def cAllocR:Con RU:=con [(true,4),one] bA3 [(true,5),one] [i64,i64,i64,al6,ae5,i64] [false,false,false,false,false,false] (some λp=>bA2 p.2.1 p.2.2.1) λp=>
 ((B4 ⟨p.1,p.2.1,p.2.2.1,p.2.2.2.1⟩ p.2.2.2.2.1).1.params,(B4 ⟨p.1,p.2.1,p.2.2.1,p.2.2.2.1⟩ p.2.2.2.2.1).1.slots,(B4 ⟨p.1,p.2.1,p.2.2.1,p.2.2.2.1⟩ p.2.2.2.2.1).1.cells,(B4 ⟨p.1,p.2.1,p.2.2.1,p.2.2.2.1⟩ p.2.2.2.2.1).1.code,(B4 ⟨p.1,p.2.1,p.2.2.1,p.2.2.2.1⟩ p.2.2.2.2.1).1.out,(B4 ⟨p.1,p.2.1,p.2.2.1,p.2.2.2.1⟩ p.2.2.2.2.1).2,())
def bt2 (a:Int) (b:List Ins) (c:List Int) (ks:Int):Nat->St RU->Ann RU:=λk s=>match k with
 |0=>⟨[],[.slot 7],[i64],λp=>0<=p.1/\p.1<=b.length/\(b.take p.1.toNat).all (fewX ks)=true,λp=>b.length-p.1.toNat,[]⟩
 |1=>⟨[],[.slot 10,.row 900001],[i64,ints],λp=>0<=p.1/\p.1<=ks/\p.2.1=List.replicate p.1.toNat (-1),λp=>ks.toNat-p.1.toNat,[(.box 576 0,900001,3,i64)]⟩
 |2=>⟨[],[.slot 11,.row 3648],[i64,mapI],λp=>0<=p.1/\p.1<=a/\p.2.1=Q3 p.1.toNat,λp=>a.toNat-p.1.toNat,[]⟩
 |3=>⟨[],[.slot 12,.row 900001,.row 3648,.box 576 2,.row 900002],[i64,ints,mapI,i64,al6],λp=>0<=p.1/\p.1<=b.length/\runR b (A9 b c) (M3 a ks) p.1.toNat=⟨p.2.1,p.2.2.1,p.2.2.2.1,p.2.2.2.2.1⟩,λp=>b.length-p.1.toNat,[(.box 576 3,900002,55,.user 1)]⟩
 |_=>⟨[],[.slot 14,.row 900003],[i64,ae5],λp=>0<=p.1/\p.1<=c.length/\p.2.1=(c.take p.1.toNat).map (an0 (runR b (A9 b c) (M3 a ks) b.length)),λp=>c.length-p.1.toNat,[(.box 832 4,900003,59,.user 2)]⟩
abbrev cw5:List Ty:=[i64,i64,i64,al6,ae5,i64,i64,i64,al6,ae5]
def cSameC:Con RU:=con [(true,5),(true,5)] cw5 [one] [.bool] [false] (some λp=>p.1=p.2.2.2.2.2.1/\p.2.1=p.2.2.2.2.2.2.1/\p.2.2.1=p.2.2.2.2.2.2.2.1/\p.2.2.2.1=p.2.2.2.2.2.2.2.2.1/\p.2.2.2.2.1=p.2.2.2.2.2.2.2.2.2.1) λp=>(true,())
def bX5 (cd:List RIns) (ou:List Place):Nat->St RU->Ann RU:=λk _=>match k with
 |0=>⟨[],[.slot 5],[i64],λp=>0<=p.1/\p.1<=cd.length,λp=>cd.length-p.1.toNat,[]⟩
 |_=>⟨[],[.slot 8],[i64],λp=>0<=p.1/\p.1<=ou.length,λp=>ou.length-p.1.toNat,[]⟩
def cLawFK:Con RU:=con [(true,4),one] bA3 [one] [.bool] [false] (some λp=>bz4 p.2.1 p.2.2.1) λ_=>(true,())
theorem cg9 (a b c:Int) (cd:List RIns) (ou:List Place) (d e f:Int) (cd':List RIns) (ou':List Place):vc (EV [(57,cSameIns)]) (bX5 cd ou) Go.Proofs.Tryd.f19 cSameC (a,b,c,cd,ou,d,e,f,cd',ou',())=(
 let h:Bool:=a !=d||b !=e||c !=f||(↑(List.length cd):Int) !=(↑(List.length cd'):Int)||(↑(List.length ou):Int) !=(↑(List.length ou'):Int);
 let i:Int:=(↑(List.length cd):Int);
 let g:RIns:=RIns.mk (0:Int) (0:Int) (0:Int) ins0;
  Small RU (Sigma.mk (Ty.slice (55:Nat) (Ty.user (1:Nat))) cd)->
  Small RU (Sigma.mk (Ty.slice (59:Nat) (Ty.user (2:Nat))) ou)->
  Small RU (Sigma.mk (Ty.slice (55:Nat) (Ty.user (1:Nat))) cd')->
  Small RU (Sigma.mk (Ty.slice (59:Nat) (Ty.user (2:Nat))) ou')->
  (h=true->(false,())=(true,()))/\
  (h=false->
  (∃ (p:Int×Unit),
  a=a/\
  b=b/\
  c=c/\
  cd=cd/\
  ou=ou/\
  d=d/\
  e=e/\
  f=f/\
  cd'=cd'/\
  ou'=ou'/\
  h=h/\
  (0:Int)=p.1/\a=a/\b=b/\c=c/\cd=cd/\ou=ou/\d=d/\e=e/\f=f/\cd'=cd'/\ou'=ou'/\(0:Int)<=p.1/\p.1<=i)/\
  ∀ (p:Int×Unit),
 let e0_1:Bool:=
  (List.getD cd (Int.toNat p.1) g).kind !=(List.getD cd' (Int.toNat p.1) g).kind||
  (List.getD cd (Int.toNat p.1) g).kind==(0:Int)&&
  !insB
  (Ins.mk (List.getD cd (Int.toNat p.1) g).ins.op (List.getD cd (Int.toNat p.1) g).ins.n (List.getD cd (Int.toNat p.1) g).ins.to
  (List.getD cd (Int.toNat p.1) g).ins.from_ (List.getD cd (Int.toNat p.1) g).ins.body)
  (Ins.mk (List.getD cd' (Int.toNat p.1) g).ins.op (List.getD cd' (Int.toNat p.1) g).ins.n (List.getD cd' (Int.toNat p.1) g).ins.to
  (List.getD cd' (Int.toNat p.1) g).ins.from_ (List.getD cd' (Int.toNat p.1) g).ins.body)||
  (List.getD cd (Int.toNat p.1) g).kind !=(0:Int)&&
  ((List.getD cd (Int.toNat p.1) g).slot !=(List.getD cd' (Int.toNat p.1) g).slot||(List.getD cd (Int.toNat p.1) g).cell !=(List.getD cd' (Int.toNat p.1) g).cell);
 let e1_1:Bool:=decide (p.1<i);
  (0:Int)<=p.1/\p.1<=i->
  (e1_1=true->
  ((0:Int)<=p.1/\p.1<i)/\
  ((0:Int)<=p.1/\p.1<(↑(List.length cd'):Int))/\
  (e0_1=true->(false,())=(true,()))/\
  (e0_1=false->
  ∃ (p':Int×Unit),
  a=a/\
  b=b/\
  c=c/\
  cd=cd/\
  ou=ou/\
  d=d/\
  e=e/\
  f=f/\
  cd'=cd'/\
  ou'=ou'/\
  h=h/\
  IntKind.i64.wrap (p.1+(1:Int))=p'.1/\
  a=a/\
  b=b/\
  c=c/\
  cd=cd/\
  ou=ou/\
  d=d/\
  e=e/\
  f=f/\
  cd'=cd'/\
  ou'=ou'/\((0:Int)<=p'.1/\p'.1<=i)/\List.length cd-Int.toNat p'.1<List.length cd-Int.toNat p.1))/\
  (e1_1=false->
  (∃ (p_1:Int×Unit),
  a=a/\
  b=b/\
  c=c/\
  cd=cd/\
  ou=ou/\
  d=d/\
  e=e/\
  f=f/\
  cd'=cd'/\
  ou'=ou'/\
  h=h/\
  p.1=p.1/\
  e1_1=e1_1/\
  (0:Int)=p_1.1/\
  a=a/\
  b=b/\
  c=c/\
  cd=cd/\ou=ou/\d=d/\e=e/\f=f/\cd'=cd'/\ou'=ou'/\(0:Int)<=p_1.1/\p_1.1<=(↑(List.length ou):Int))/\
  ∀ (p_1:Int×Unit),
 let e0_2:Bool:=
  !((List.getD ou (Int.toNat p_1.1) (Place.mk false (0:Int))).cell==(List.getD ou' (Int.toNat p_1.1) (Place.mk false (0:Int))).cell&&
  ((List.getD ou (Int.toNat p_1.1) (Place.mk false (0:Int))).n==(List.getD ou' (Int.toNat p_1.1) (Place.mk false (0:Int))).n&&true));
 let i:Bool:=decide (p_1.1<(↑(List.length ou):Int));
  (0:Int)<=p_1.1/\p_1.1<=(↑(List.length ou):Int)->
  (i=true->
  ((0:Int)<=p_1.1/\p_1.1<(↑(List.length ou):Int))/\
  ((0:Int)<=p_1.1/\p_1.1<(↑(List.length ou'):Int))/\
  (e0_2=true->(false,())=(true,()))/\
  (e0_2=false->
  ∃ (p':Int×Unit),
  a=a/\
  b=b/\
  c=c/\
  cd=cd/\
  ou=ou/\
  d=d/\
  e=e/\
  f=f/\
  cd'=cd'/\
  ou'=ou'/\
  h=h/\
  p.1=p.1/\
  e1_1=e1_1/\
  IntKind.i64.wrap (p_1.1+(1:Int))=p'.1/\
  a=a/\
  b=b/\
  c=c/\
  cd=cd/\
  ou=ou/\
  d=d/\
  e=e/\
  f=f/\
  cd'=cd'/\
  ou'=ou'/\
  ((0:Int)<=p'.1/\p'.1<=(↑(List.length ou):Int))/\
  List.length ou-Int.toNat p'.1<List.length ou-Int.toNat p_1.1))/\
  (i=false->(true,())=(true,()))))):=by kernel_rfl
theorem bX6 (a:Int) (b:List Ins) (c d:List Int) (k:Int):vc (EV [(13,cGreat),(14,cSlotted),(15,cAlloc),(16,cAllocR),(17,cCount),(18,cCount),(19,cSameC)]) noL Go.Proofs.Tryd.f3 cLawFK (a,b,c,d,k,())=(
 let f:Int:=
  (ad1
  (RCode.mk (B4 (VFun.mk a b c d) k).1.params (B4 (VFun.mk a b c d) k).1.slots (B4 (VFun.mk a b c d) k).1.cells (B4 (VFun.mk a b c d) k).1.code
  (B4 (VFun.mk a b c d) k).1.out)).2;
 let g:Int:=
  (ad1
  (RCode.mk (B4 (VFun.mk a b c d) k).1.params (B4 (VFun.mk a b c d) k).1.slots (B4 (VFun.mk a b c d) k).1.cells (B4 (VFun.mk a b c d) k).1.code
  (B4 (VFun.mk a b c d) k).1.out)).1;
 let e:RCode:=(B4 (VFun.mk a b c d) k).1;
 let h:Bool:=(B4 (VFun.mk a b c d) k).2==(B4 (VFun.mk a b c d) k).2;
  Small RU (Sigma.mk (Ty.slice (52:Nat) (Ty.user (0:Nat))) b)->
  Small RU (Sigma.mk (Ty.slice (3:Nat) (Ty.int IntKind.i64)) c)->
  Small RU (Sigma.mk (Ty.slice (3:Nat) (Ty.int IntKind.i64)) d)->
  (ap3 (VFun.mk a b c d)=true->(true,())=(true,()))/\
  (ap3 (VFun.mk a b c d)=false->
  (ad3 b=true/\K0 b=true/\List.length c<=(8796093022200:Nat))/\
  bA2 b c/\
  (h=true->e.params=e.params/\e.slots=e.slots/\e.cells=e.cells/\e.code=e.code/\e.out=e.out)/\(h&&true&&g==g&&f==f&&true,())=(true,()))):=by kernel_rfl
theorem bX7 (a:Int) (b:List Ins) (c d:List Int) (k:Int):vc (EV [(42,cCheck),(31,cLies),(35,cUnion),(55,cLivesR),(56,cDone),(32,cWhere)]) (bt2 a b c k) Go.Proofs.Tryd.f16 cAllocR (a,b,c,d,k,())=(
 let j:Int×Int×Int×List RIns×List Place×Int×Unit:=
  ((B4 (VFun.mk a b c d) k).1.params,(B4 (VFun.mk a b c d) k).1.slots,(B4 (VFun.mk a b c d) k).1.cells,(B4 (VFun.mk a b c d) k).1.code,
  (B4 (VFun.mk a b c d) k).1.out,(B4 (VFun.mk a b c d) k).2,());
 let e:Bool:=D7 (VFun.mk a b c d) !=(0:Int);
 let f:Bool:=!lies k (1:Int) (64:Int);
 let i:Int:=(↑(List.length b):Int);
 let g:Int:=D7 (VFun.mk a b c d);
 let q:Int:=(↑(List.length c):Int);
  Small RU (Sigma.mk (Ty.slice (52:Nat) (Ty.user (0:Nat))) b)->
  Small RU (Sigma.mk (Ty.slice (3:Nat) (Ty.int IntKind.i64)) c)->
  Small RU (Sigma.mk (Ty.slice (3:Nat) (Ty.int IntKind.i64)) d)->
  (e=true->((0:Int),(0:Int),(0:Int),[],[],g,())=j)/\
  (e=false->
  (f=true->((0:Int),(0:Int),(0:Int),[],[],(2:Int),())=j)/\
  (f=false->
  (∃ (p:Int×Unit),
  a=a/\
  b=b/\
  c=c/\
  d=d/\
  k=k/\
  g=g/\
  e=e/\
  f=f/\
  (0:Int)=p.1/\
  a=a/\
  b=b/\
  c=c/\
  d=d/\
  (0:Int)=(0:Int)/\
  (0:Int)=(0:Int)/\(0:Int)=(0:Int)/\(0:Int)<=p.1/\p.1<=i/\List.all (List.take (Int.toNat p.1) b) (fewX k)=true)/\
  ∀ (p:Int×Unit),
 let e0_1:Bool:=decide ((↑(List.length (C9 [] (List.getD b (Int.toNat p.1) (Ins.mk (0:Int) (0:Int) [] [] [])).from_)):Int) >k);
 let e1_1:Bool:=decide (p.1<i);
 let e2_1:Bool:=e0_1||decide ((↑(List.length (List.getD b (Int.toNat p.1) (Ins.mk (0:Int) (0:Int) [] [] [])).to):Int) >k);
  (0:Int)<=p.1/\p.1<=i/\List.all (List.take (Int.toNat p.1) b) (fewX k)=true->
  (e1_1=true->
  ((0:Int)<=p.1/\p.1<i)/\
  List.length ([]:List Int)+List.length (List.getD b (Int.toNat p.1) (Ins.mk (0:Int) (0:Int) [] [] [])).from_<=(17592186044400:Nat)/\
  (e0_1=false->(0:Int)<=p.1/\p.1<i)/\
  (e2_1=true->((0:Int),(0:Int),(0:Int),[],[],(9:Int),())=j)/\
  (e2_1=false->
  ∃ (p':Int×Unit),
  a=a/\
  b=b/\
  c=c/\
  d=d/\
  k=k/\
  g=g/\
  e=e/\
  f=f/\
  IntKind.i64.wrap (p.1+(1:Int))=p'.1/\
  a=a/\
  b=b/\
  c=c/\
  d=d/\
  (0:Int)=(0:Int)/\
  (0:Int)=(0:Int)/\
  (0:Int)=(0:Int)/\
  ((0:Int)<=p'.1/\p'.1<=i/\List.all (List.take (Int.toNat p'.1) b) (fewX k)=true)/\
  List.length b-Int.toNat p'.1<List.length b-Int.toNat p.1))/\
  (e1_1=false->
  (List.length b<=(4000:Nat)/\
  List.length c<=(17592186044400:Nat)/\(∀ (x:Ins),List.Mem x b->List.length x.from_<=(17592186044400:Nat))/\List.all c G8=true/\M8 b=true)/\
  (∃ (p_1:Int×List Int×Unit),
  a=a/\
  b=b/\
  c=c/\
  d=d/\
  k=k/\
  g=g/\
  e=e/\
  f=f/\
  p.1=p.1/\
  e1_1=e1_1/\
  A9 b c=A9 b c/\
  (0:Int)=p_1.1/\
  a=a/\
  b=b/\
  c=c/\
  d=d/\
  (0:Int)=(0:Int)/\
  (0:Int)=(0:Int)/\
  (0:Int)=(0:Int)/\
  ([]:List (Int×Int))=[]/\
  a=a/\[]=p_1.2.1/\(0:Int)<=p_1.1/\p_1.1<=k/\p_1.2.1=List.replicate (Int.toNat p_1.1) (-1:Int))/\
  ∀ (p_1:Int×List Int×Unit),
 let e0_2:Bool:=decide (p_1.1<k);
 let e1_2:Int:=p_1.1;
 let e2_2:List Int:=p_1.2.1;
 let e3_1:Int:=(-1:Int);
  (0:Int)<=e1_2/\e1_2<=k/\e2_2=List.replicate (Int.toNat e1_2) e3_1->
  (e0_2=true->
  (List.length e2_2+List.length [e3_1])*(8:Nat)<=(140737488355328:Nat)/\
  ∃ (p':Int×List Int×Unit),
  a=a/\
  b=b/\
  c=c/\
  d=d/\
  k=k/\
  g=g/\
  e=e/\
  f=f/\
  p.1=p.1/\
  e1_1=e1_1/\
  A9 b c=A9 b c/\
  IntKind.i64.wrap (e1_2+(1:Int))=p'.1/\
  a=a/\
  b=b/\
  c=c/\
  d=d/\
  (0:Int)=(0:Int)/\
  (0:Int)=(0:Int)/\
  (0:Int)=(0:Int)/\
  ([]:List (Int×Int))=[]/\
  a=a/\
  e2_2++[e3_1]=p'.2.1/\
  ((0:Int)<=p'.1/\p'.1<=k/\p'.2.1=List.replicate (Int.toNat p'.1) e3_1)/\
  Int.toNat k-Int.toNat p'.1<Int.toNat k-Int.toNat e1_2)/\
  (e0_2=false->
  (∃ (p_2:Int×List (Int×Int)×Unit),
  a=a/\
  b=b/\
  c=c/\
  d=d/\
  k=k/\
  g=g/\
  e=e/\
  f=f/\
  p.1=p.1/\
  e1_1=e1_1/\
  A9 b c=A9 b c/\
  e1_2=e1_2/\
  e0_2=e0_2/\
  (0:Int)=p_2.1/\
  a=a/\
  b=b/\
  c=c/\
  d=d/\
  (0:Int)=(0:Int)/\
  (0:Int)=(0:Int)/\
  (0:Int)=(0:Int)/\
  []=p_2.2.1/\
  a=a/\e2_2=e2_2/\(0:Int)<=p_2.1/\p_2.1<=a/\p_2.2.1=Q3 (Int.toNat p_2.1))/\
  ∀ (p_2:Int×List (Int×Int)×Unit),
 let e0_3:Bool:=decide (p_2.1<a);
 let e1_3:Int:=p_2.1;
 let e2_3:List (Int×Int):=p_2.2.1;
  (0:Int)<=e1_3/\e1_3<=a/\e2_3=Q3 (Int.toNat e1_3)->
  (e0_3=true->
  ∃ (p':Int×List (Int×Int)×Unit),
  a=a/\
  b=b/\
  c=c/\
  d=d/\
  k=k/\
  g=g/\
  e=e/\
  f=f/\
  p.1=p.1/\
  e1_1=e1_1/\
  A9 b c=A9 b c/\
  e1_2=e1_2/\
  e0_2=e0_2/\
  IntKind.i64.wrap (e1_3+(1:Int))=p'.1/\
  a=a/\
  b=b/\
  c=c/\
  d=d/\
  (0:Int)=(0:Int)/\
  (0:Int)=(0:Int)/\
  (0:Int)=(0:Int)/\
  mput (λ(x y:Int)=>x==y) e2_3 e1_3 e1_3=p'.2.1/\
  a=a/\
  e2_2=e2_2/\
  ((0:Int)<=p'.1/\p'.1<=a/\p'.2.1=Q3 (Int.toNat p'.1))/\
  Int.toNat a-Int.toNat p'.1<Int.toNat a-Int.toNat e1_3)/\
  (e0_3=false->
  (∃ (p_3:Int×List Int×List (Int×Int)×Int×List RIns×Unit),
  a=a/\
  b=b/\
  c=c/\
  d=d/\
  k=k/\
  g=g/\
  e=e/\
  f=f/\
  p.1=p.1/\
  e1_1=e1_1/\
  A9 b c=A9 b c/\
  e1_2=e1_2/\
  e0_2=e0_2/\
  e1_3=e1_3/\
  e0_3=e0_3/\
  (0:Int)=p_3.1/\
  a=a/\
  b=b/\
  c=c/\
  d=d/\
  (0:Int)=(0:Int)/\
  (0:Int)=(0:Int)/\
  (0:Int)=(0:Int)/\
  e2_3=p_3.2.2.1/\
  a=p_3.2.2.2.1/\
  e2_2=p_3.2.1/\
  []=p_3.2.2.2.2.1/\
  (0:Int)<=p_3.1/\
  p_3.1<=i/\
  runR b (A9 b c) (M3 a k) (Int.toNat p_3.1)=
  RS.mk p_3.2.1 p_3.2.2.1 p_3.2.2.2.1 p_3.2.2.2.2.1)/\
  ∀ (p_3:Int×List Int×List (Int×Int)×Int×List RIns×Unit),
 let e0_4:RS:=RS.mk p_3.2.1 p_3.2.2.1 p_3.2.2.2.1 p_3.2.2.2.2.1;
 let e1_4:Int:=p_3.2.2.2.1;
 let e2_4:List RIns:=p_3.2.2.2.2.1;
 let e3_2:Bool:=decide (p_3.1<i);
 let e4_1:List (Int×Int):=p_3.2.2.1;
 let e5_1:Int:=p_3.1;
 let n:List Int:=p_3.2.1;
 let l:List Int:=(List.getD b (Int.toNat e5_1) ins0).from_;
 let o:Int:=e5_1+(1:Int);
 let r:List Int:=List.getD (A9 b c) (Int.toNat e5_1) [];
 let m:RS:=Q1 b (A9 b c) e0_4 e5_1;
 let h:List Int:=(List.getD b (Int.toNat e5_1) ins0).to;
  (0:Int)<=e5_1/\e5_1<=i/\runR b (A9 b c) (M3 a k) (Int.toNat e5_1)=e0_4->
  (e3_2=true->
  (((0:Int)<=e5_1/\e5_1<i)/\
  List.length b<=(4000:Nat)/\
  List.length (A9 b c)=List.length b+(1:Nat)/\
  List.length l<=(100000000:Nat)/\
  List.length h<=(100000000:Nat)/\
  ((∀ (k:Nat),
 let j:List Int:=(E9 b r l e5_1 e0_4 (List.take k l)).slots;
  k<List.length l->
  B8 j (List.getD l k (0:Int))<(0:Int)->
  (0:Int)<=atR b j r l e5_1/\atR b j r l e5_1<(↑(List.length j):Int))/\
  ∀ (k:Nat),
 let j:Int:=
  atR b (tosR b (List.getD (A9 b c) (Int.toNat o) []) h o (E9 b r l e5_1 e0_4 l) (List.take k h)).1.slots
  (List.getD (A9 b c) (Int.toNat o) []) h o;
  k<List.length h->
  (0:Int)<=j/\
  j<
  (↑(List.length
  (tosR b (List.getD (A9 b c) (Int.toNat o) []) h o (E9 b r l e5_1 e0_4 l)
  (List.take k h)).1.slots):
  Int))/\
  ((0:Int)<=e1_4/\e1_4<=(100000000:Int))/\List.length e2_4<=(100000000:Nat))/\
  ∃ (p':Int×List Int×List (Int×Int)×Int×List RIns×Unit),
  a=a/\
  b=b/\
  c=c/\
  d=d/\
  k=k/\
  g=g/\
  e=e/\
  f=f/\
  p.1=p.1/\
  e1_1=e1_1/\
  A9 b c=A9 b c/\
  e1_2=e1_2/\
  e0_2=e0_2/\
  e1_3=e1_3/\
  e0_3=e0_3/\
  IntKind.i64.wrap o=p'.1/\
  a=a/\
  b=b/\
  c=c/\
  d=d/\
  (0:Int)=(0:Int)/\
  (0:Int)=(0:Int)/\
  (0:Int)=(0:Int)/\
  m.cells=p'.2.2.1/\
  m.next=p'.2.2.2.1/\
  m.slots=p'.2.1/\
  m.code=p'.2.2.2.2.1/\
  ((0:Int)<=p'.1/\
  p'.1<=i/\
  runR b (A9 b c) (M3 a k) (Int.toNat p'.1)=
  RS.mk p'.2.1 p'.2.2.1 p'.2.2.2.1 p'.2.2.2.2.1)/\
  List.length b-Int.toNat p'.1<List.length b-Int.toNat e5_1)/\
  (e3_2=false->
  (∃ (p_4:Int×List Place×Unit),
  a=a/\
  b=b/\
  c=c/\
  d=d/\
  k=k/\
  g=g/\
  e=e/\
  f=f/\
  p.1=p.1/\
  e1_1=e1_1/\
  A9 b c=A9 b c/\
  e1_2=e1_2/\
  e0_2=e0_2/\
  e1_3=e1_3/\
  e0_3=e0_3/\
  e5_1=e5_1/\
  e3_2=e3_2/\
  (0:Int)=p_4.1/\
  a=a/\
  b=b/\
  c=c/\
  d=d/\
  (0:Int)=(0:Int)/\
  (0:Int)=(0:Int)/\
  (0:Int)=(0:Int)/\
  e4_1=e4_1/\
  e1_4=e1_4/\
  n=n/\
  e2_4=e2_4/\
  a=a/\
  k=k/\
  e1_4=e1_4/\
  []=p_4.2.1/\
  (0:Int)<=p_4.1/\
  p_4.1<=q/\
  p_4.2.1=
  List.map
  (an0 (runR b (A9 b c) (M3 a k) (List.length b)))
  (List.take (Int.toNat p_4.1) c))/\
  ∀ (p_4:Int×List Place×Unit),
 let e0_5:Bool:=decide (B8 n (List.getD c (Int.toNat p_4.1) (0:Int))<(0:Int));
 let e1_5:List Place:=
  [Place.mk (bif e0_5 then true else false)
  (bif e0_5 then Option.getD (mget (λ(x y:Int)=>x==y) e4_1 (List.getD c (Int.toNat p_4.1) (0:Int))) (0:Int)
  else B8 n (List.getD c (Int.toNat p_4.1) (0:Int)))];
 let e2_5:List Place:=p_4.2.1;
 let i:Bool:=decide (p_4.1<q);
 let e4_2:Int:=p_4.1;
  (0:Int)<=e4_2/\e4_2<=q/\e2_5=List.map (an0 (runR b (A9 b c) (M3 a k) (List.length b))) (List.take (Int.toNat e4_2) c)->
  (i=true->
  ((0:Int)<=e4_2/\e4_2<q)/\
  (e0_5=true->(0:Int)<=e4_2/\e4_2<q)/\
  (List.length (bif e0_5 then e2_5 else e2_5)+List.length e1_5)*(16:Nat)<=(140737488355328:Nat)/\
  ∃ (p':Int×List Place×Unit),
  (bif e0_5 then a else a)=a/\
  (bif e0_5 then b else b)=b/\
  (bif e0_5 then c else c)=c/\
  (bif e0_5 then d else d)=d/\
  (bif e0_5 then k else k)=k/\
  (bif e0_5 then g else g)=g/\
  (bif e0_5 then e else e)=e/\
  (bif e0_5 then f else f)=f/\
  (bif e0_5 then p.1 else p.1)=p.1/\
  (bif e0_5 then e1_1 else e1_1)=e1_1/\
  (bif e0_5 then A9 b c else A9 b c)=A9 b c/\
  (bif e0_5 then e1_2 else e1_2)=e1_2/\
  (bif e0_5 then e0_2 else e0_2)=e0_2/\
  (bif e0_5 then e1_3 else e1_3)=e1_3/\
  (bif e0_5 then e0_3 else e0_3)=e0_3/\
  (bif e0_5 then e5_1 else e5_1)=e5_1/\
  (bif e0_5 then e3_2 else e3_2)=e3_2/\
  IntKind.i64.wrap ((bif e0_5 then e4_2 else e4_2)+(1:Int))=p'.1/\
  (bif e0_5 then a else a)=a/\
  (bif e0_5 then b else b)=b/\
  (bif e0_5 then c else c)=c/\
  (bif e0_5 then d else d)=d/\
  (bif e0_5 then (0:Int) else (0:Int))=(0:Int)/\
  (bif e0_5 then (0:Int) else (0:Int))=(0:Int)/\
  (bif e0_5 then (0:Int) else (0:Int))=(0:Int)/\
  (bif e0_5 then e4_1 else e4_1)=e4_1/\
  (bif e0_5 then e1_4 else e1_4)=e1_4/\
  (bif e0_5 then n else n)=n/\
  (bif e0_5 then e2_4 else e2_4)=e2_4/\
  (bif e0_5 then a else a)=a/\
  (bif e0_5 then k else k)=k/\
  (bif e0_5 then e1_4 else e1_4)=e1_4/\
  (bif e0_5 then e2_5 else e2_5)++e1_5=p'.2.1/\
  ((0:Int)<=p'.1/\
  p'.1<=q/\
  p'.2.1=
  List.map
  (an0
  (runR b (A9 b c) (M3 a k)
  (List.length b)))
  (List.take (Int.toNat p'.1) c))/\
  List.length c-Int.toNat p'.1<
  List.length c-Int.toNat e4_2)/\
  (i=false->(a,k,e1_4,e2_4,e2_5,(0:Int),())=j)))))))):=by kernel_rfl
theorem ct2 (sl lv kp:List Int):vc (EV [(32,cWhere)]) (cs6 sl lv kp) Go.Proofs.Tryd.f103 cFree (sl,lv,kp,())=(
 let a:Int:=(↑(List.length sl):Int);
  Small RU (Sigma.mk (Ty.slice (3:Nat) (Ty.int IntKind.i64)) sl)->
  Small RU (Sigma.mk (Ty.slice (3:Nat) (Ty.int IntKind.i64)) lv)->
  Small RU (Sigma.mk (Ty.slice (3:Nat) (Ty.int IntKind.i64)) kp)->
  (∃ (p:Int×Unit),sl=sl/\lv=lv/\kp=kp/\(0:Int)=p.1/\(0:Int)<=p.1/\p.1<=a/\∀ (j:Nat),j<Int.toNat p.1->am9 sl lv kp j=false)/\
  ∀ (p:Int×Unit),
 let e0_1:Bool:=
  decide (List.getD sl (Int.toNat p.1) (0:Int)<(0:Int))||
  decide (B8 lv (List.getD sl (Int.toNat p.1) (0:Int))<(0:Int))&&decide (B8 kp (List.getD sl (Int.toNat p.1) (0:Int))<(0:Int));
 let b:Bool:=decide (p.1<a);
  ((0:Int)<=p.1/\p.1<=a/\∀ (j:Nat),j<Int.toNat p.1->am9 sl lv kp j=false)->
  (b=true->
  ((0:Int)<=p.1/\p.1<a)/\
  (decide (List.getD sl (Int.toNat p.1) (0:Int)<(0:Int))=false->(0:Int)<=p.1/\p.1<a)/\
  (decide (List.getD sl (Int.toNat p.1) (0:Int)<(0:Int))=false->
  decide (B8 lv (List.getD sl (Int.toNat p.1) (0:Int))<(0:Int))=true->(0:Int)<=p.1/\p.1<a)/\
  (e0_1=true->(p.1,())=(Q4 sl lv kp,()))/\
  (e0_1=false->
  ∃ (p':Int×Unit),
  sl=sl/\
  lv=lv/\
  kp=kp/\
  IntKind.i64.wrap (p.1+(1:Int))=p'.1/\
  ((0:Int)<=p'.1/\p'.1<=a/\∀ (j:Nat),j<Int.toNat p'.1->am9 sl lv kp j=false)/\
  List.length sl-Int.toNat p'.1<List.length sl-Int.toNat p.1))/\
  (b=false->((-1:Int),())=(Q4 sl lv kp,()))):=by kernel_rfl
theorem bJ3 (a:Int) (b:List Ins) (c d:List Int) (reg fr:Int):vc (EV [(32,cWhere)]) (aZ7 b reg fr) Go.Proofs.Tryd.f108 cReading (a,b,c,d,reg,fr,())=(
 let e:Int:=(↑(List.length b):Int);
  Small RU (Sigma.mk (Ty.slice (52:Nat) (Ty.user (0:Nat))) b)->
  Small RU (Sigma.mk (Ty.slice (3:Nat) (Ty.int IntKind.i64)) c)->
  Small RU (Sigma.mk (Ty.slice (3:Nat) (Ty.int IntKind.i64)) d)->
  (∃ (p:Int×Unit),
  a=a/\b=b/\c=c/\d=d/\reg=reg/\fr=fr/\fr=p.1/\a=a/\b=b/\c=c/\d=d/\fr<=p.1/\p.1<=e/\∀ (j:Nat),j<Int.toNat p.1->T8 b reg fr j=false)/\
  ∀ (p:Int×Unit),
 let e0_1:Bool:=decide (B8 (List.getD b (Int.toNat p.1) (Ins.mk (0:Int) (0:Int) [] [] [])).from_ reg>=(0:Int));
 let f:Bool:=decide (p.1<e);
  (fr<=p.1/\p.1<=e/\∀ (j:Nat),j<Int.toNat p.1->T8 b reg fr j=false)->
  (f=true->
  ((0:Int)<=p.1/\p.1<e)/\
  (e0_1=true->(p.1,())=(C2 b reg fr,()))/\
  (e0_1=false->
  ∃ (p':Int×Unit),
  a=a/\
  b=b/\
  c=c/\
  d=d/\
  reg=reg/\
  fr=fr/\
  IntKind.i64.wrap (p.1+(1:Int))=p'.1/\
  a=a/\
  b=b/\
  c=c/\
  d=d/\
  (fr<=p'.1/\p'.1<=e/\∀ (j:Nat),j<Int.toNat p'.1->T8 b reg fr j=false)/\
  List.length b-Int.toNat p'.1<List.length b-Int.toNat p.1))/\
  (f=false->(e,())=(C2 b reg fr,()))):=by kernel_rfl
theorem bX8 (a:Int) (b:List Ins) (c d sl kp:List Int) (fr:Int):vc (EV [(32,cWhere),(108,cReading)]) (bs9 b sl kp fr) Go.Proofs.Tryd.f104 cVictim (a,b,c,d,sl,kp,fr,())=(
 let g:Int:=(↑(List.length sl):Int);
  Small RU (Sigma.mk (Ty.slice (52:Nat) (Ty.user (0:Nat))) b)->
  Small RU (Sigma.mk (Ty.slice (3:Nat) (Ty.int IntKind.i64)) c)->
  Small RU (Sigma.mk (Ty.slice (3:Nat) (Ty.int IntKind.i64)) d)->
  Small RU (Sigma.mk (Ty.slice (3:Nat) (Ty.int IntKind.i64)) sl)->
  Small RU (Sigma.mk (Ty.slice (3:Nat) (Ty.int IntKind.i64)) kp)->
  (∃ (p:Int×Int×Unit),
  a=a/\
  b=b/\
  c=c/\
  d=d/\
  sl=sl/\
  kp=kp/\
  fr=fr/\
  (0:Int)=(0:Int)/\
  (0:Int)=p.1/\(-1:Int)=p.2.1/\a=a/\b=b/\c=c/\d=d/\(0:Int)<=p.1/\p.1<=g/\p.2.1=F5 b sl kp fr (Int.toNat p.1))/\
  ∀ (p:Int×Int×Unit),
 let e0_1:Bool:=
  decide (p.2.1<(0:Int))||decide (C2 b (List.getD sl (Int.toNat p.1) (0:Int)) fr >C2 b (List.getD sl (Int.toNat p.2.1) (0:Int)) fr)||
  C2 b (List.getD sl (Int.toNat p.1) (0:Int)) fr==C2 b (List.getD sl (Int.toNat p.2.1) (0:Int)) fr&&
  decide (List.getD sl (Int.toNat p.1) (0:Int) >List.getD sl (Int.toNat p.2.1) (0:Int));
 let i:Bool:=decide (B8 kp (List.getD sl (Int.toNat p.1) (0:Int))>=(0:Int));
 let f:Int:=p.2.1;
 let e:Int:=p.1;
 let j:Bool:=decide (e<g);
 let h:Bool:=decide (f<(0:Int));
  (0:Int)<=e/\e<=g/\f=F5 b sl kp fr (Int.toNat e)->
  (j=true->
  ((0:Int)<=e/\e<g)/\
  (i=true->
  ∃ (p':Int×Int×Unit),
  a=a/\
  b=b/\
  c=c/\
  d=d/\
  sl=sl/\
  kp=kp/\
  fr=fr/\
  (0:Int)=(0:Int)/\
  IntKind.i64.wrap (e+(1:Int))=p'.1/\
  f=p'.2.1/\
  a=a/\
  b=b/\
  c=c/\
  d=d/\
  ((0:Int)<=p'.1/\p'.1<=g/\p'.2.1=F5 b sl kp fr (Int.toNat p'.1))/\
  List.length sl-Int.toNat p'.1<List.length sl-Int.toNat e)/\
  (i=false->
  (h=false->(0:Int)<=e/\e<g)/\
  (h=false->(0:Int)<=fr/\fr<=(↑(List.length b):Int))/\
  (h=false->(0:Int)<=f/\f<g)/\
  (h=false->(0:Int)<=fr/\fr<=(↑(List.length b):Int))/\
  ((h||decide (C2 b (List.getD sl (Int.toNat e) (0:Int)) fr >C2 b (List.getD sl (Int.toNat f) (0:Int)) fr))=false->
  (0:Int)<=e/\e<g)/\
  ((h||decide (C2 b (List.getD sl (Int.toNat e) (0:Int)) fr >C2 b (List.getD sl (Int.toNat f) (0:Int)) fr))=false->
  (0:Int)<=fr/\fr<=(↑(List.length b):Int))/\
  ((h||decide (C2 b (List.getD sl (Int.toNat e) (0:Int)) fr >C2 b (List.getD sl (Int.toNat f) (0:Int)) fr))=false->
  (0:Int)<=f/\f<g)/\
  ((h||decide (C2 b (List.getD sl (Int.toNat e) (0:Int)) fr >C2 b (List.getD sl (Int.toNat f) (0:Int)) fr))=false->
  (0:Int)<=fr/\fr<=(↑(List.length b):Int))/\
  ((h||decide (C2 b (List.getD sl (Int.toNat e) (0:Int)) fr >C2 b (List.getD sl (Int.toNat f) (0:Int)) fr))=false->
  (C2 b (List.getD sl (Int.toNat e) (0:Int)) fr==C2 b (List.getD sl (Int.toNat f) (0:Int)) fr)=true->(0:Int)<=e/\e<g)/\
  ((h||decide (C2 b (List.getD sl (Int.toNat e) (0:Int)) fr >C2 b (List.getD sl (Int.toNat f) (0:Int)) fr))=false->
  (C2 b (List.getD sl (Int.toNat e) (0:Int)) fr==C2 b (List.getD sl (Int.toNat f) (0:Int)) fr)=true->(0:Int)<=f/\f<g)/\
  ∃ (p':Int×Int×Unit),
  (bif e0_1 then a else a)=a/\
  (bif e0_1 then b else b)=b/\
  (bif e0_1 then c else c)=c/\
  (bif e0_1 then d else d)=d/\
  (bif e0_1 then sl else sl)=sl/\
  (bif e0_1 then kp else kp)=kp/\
  (bif e0_1 then fr else fr)=fr/\
  (bif e0_1 then (0:Int) else (0:Int))=(0:Int)/\
  IntKind.i64.wrap ((bif e0_1 then e else e)+(1:Int))=p'.1/\
  (bif e0_1 then e else f)=p'.2.1/\
  (bif e0_1 then a else a)=a/\
  (bif e0_1 then b else b)=b/\
  (bif e0_1 then c else c)=c/\
  (bif e0_1 then d else d)=d/\
  ((0:Int)<=p'.1/\p'.1<=g/\p'.2.1=F5 b sl kp fr (Int.toNat p'.1))/\
  List.length sl-Int.toNat p'.1<List.length sl-Int.toNat e))/\
  (j=false->(f,())=(J0 b sl kp fr,()))):=by kernel_rfl
theorem ch0 (a:Int) (b:List Ins) (c d sl:List Int) (ce:List (Int×Int)) (nx:Int) (cd:List RIns) (reg:Int) (lv kp:List Int) (fr:Int):vc (EV [(103,cFree),(104,cVictim)]) noL Go.Proofs.Tryd.f88 cGiven (a,b,c,d,sl,ce,nx,cd,reg,lv,kp,fr,())=(
 let e:Bool:=decide (Q4 sl lv kp<(0:Int));
 let f:Bool:=!Option.isSome (mget (λ(x y:Int)=>x==y) ce (List.getD sl (Int.toNat (J0 b sl kp fr)) (0:Int)));
 let g:Int:=bif e then bif f then J0 b sl kp fr else J0 b sl kp fr else Q4 sl lv kp;
 let h:RS:=L9 b (RS.mk sl ce nx cd) reg lv kp fr;
 let i:List RIns:=[RIns.mk (2:Int) (J0 b sl kp fr) nx (Ins.mk (0:Int) (0:Int) [] [] [])];
  Small RU (Sigma.mk (Ty.slice (52:Nat) (Ty.user (0:Nat))) b)->
  Small RU (Sigma.mk (Ty.slice (3:Nat) (Ty.int IntKind.i64)) c)->
  Small RU (Sigma.mk (Ty.slice (3:Nat) (Ty.int IntKind.i64)) d)->
  Small RU (Sigma.mk (Ty.slice (3:Nat) (Ty.int IntKind.i64)) lv)->
  Small RU (Sigma.mk (Ty.slice (3:Nat) (Ty.int IntKind.i64)) kp)->
  Small RU (Sigma.mk (Ty.slice (3:Nat) (Ty.int IntKind.i64)) sl)->
  Small RU (Sigma.mk (Ty.slice (55:Nat) (Ty.user (1:Nat))) cd)->
  (e=true->
  ((0:Int)<=fr/\fr<=(↑(List.length b):Int))/\
  ((0:Int)<=J0 b sl kp fr/\J0 b sl kp fr<(↑(List.length sl):Int))/\(f=true->(List.length cd+List.length i)*(112:Nat)<=(140737488355328:Nat)))/\
  ((0:Int)<=g/\g<(↑(List.length (bif e then bif f then sl else sl else sl)):Int))/\
  (List.set (bif e then bif f then sl else sl else sl) (Int.toNat g) (bif e then bif f then reg else reg else reg),
  bif e then bif f then mput (λ(x y:Int)=>x==y) ce (List.getD sl (Int.toNat (J0 b sl kp fr)) (0:Int)) nx else ce else ce,
  bif e then bif f then IntKind.i64.wrap (nx+(1:Int)) else nx else nx,bif e then bif f then cd++i else cd else cd,g,())=
  (h.slots,h.cells,h.next,h.code,atR b sl lv kp fr,())):=by kernel_rfl
theorem ct3 (a:Int) (b:List Ins) (c d sl:List Int) (ce:List (Int×Int)) (nx:Int) (cd:List RIns) (i:Int) (lv:List (List Int)):vc (EV [(32,cWhere),(88,cGiven)]) (cs7 b lv ⟨sl,ce,nx,cd⟩ i) Go.Proofs.Tryd.f56 cDone (a,b,c,d,sl,ce,nx,cd,i,lv,())=(
 let e:List Int:=(List.getD b (Int.toNat i) (Ins.mk (0:Int) (0:Int) [] [] [])).from_;
 let g:List Int:=(List.getD b (Int.toNat i) (Ins.mk (0:Int) (0:Int) [] [] [])).to;
 let r:Int:=IntKind.i64.wrap (i+(1:Int));
 let m:Int:=(↑(List.length e):Int);
 let j:List Ins:=(List.getD b (Int.toNat i) (Ins.mk (0:Int) (0:Int) [] [] [])).body;
 let k:Int:=(List.getD b (Int.toNat i) (Ins.mk (0:Int) (0:Int) [] [] [])).op;
 let l:Int:=(List.getD b (Int.toNat i) (Ins.mk (0:Int) (0:Int) [] [] [])).n;
 let n:List Int:=List.getD lv (Int.toNat i) [];
 let h:Nat:=List.length (List.getD b (Int.toNat i) ins0).from_;
 let f:List Int:=(List.getD b (Int.toNat i) ins0).from_;
 let s:RS:=Q1 b lv (RS.mk sl ce nx cd) i;
 let o:Nat:=List.length (List.getD b (Int.toNat i) ins0).to;
 let t:Ins:=Ins.mk (0:Int) (0:Int) [] [] [];
 let q:List Int:=List.getD lv (Int.toNat r) [];
  Small RU (Sigma.mk (Ty.slice (52:Nat) (Ty.user (0:Nat))) b)->
  Small RU (Sigma.mk (Ty.slice (3:Nat) (Ty.int IntKind.i64)) c)->
  Small RU (Sigma.mk (Ty.slice (3:Nat) (Ty.int IntKind.i64)) d)->
  Small RU (Sigma.mk (Ty.slice (23:Nat) (Ty.slice (3:Nat) (Ty.int IntKind.i64))) lv)->
  Small RU (Sigma.mk (Ty.slice (3:Nat) (Ty.int IntKind.i64)) sl)->
  Small RU (Sigma.mk (Ty.slice (55:Nat) (Ty.user (1:Nat))) cd)->
  ((0:Int)<=i/\i<(↑(List.length b):Int))/\
  (∃ (p:Int×List Int×List (Int×Int)×Int×List RIns×Unit),
  a=a/\
  b=b/\
  c=c/\
  d=d/\
  i=i/\
  lv=lv/\
  (0:Int)=p.1/\
  sl=p.2.1/\
  ce=p.2.2.1/\
  cd=p.2.2.2.2.1/\
  a=a/\
  b=b/\
  c=c/\
  d=d/\
  nx=p.2.2.2.1/\
  Value.map none=Value.map none/\
  (0:Int)=(0:Int)/\
  k=k/\
  l=l/\
  g=g/\
  e=e/\
  j=j/\
  (0:Int)<=p.1/\
  p.1<=(↑h:Int)/\
  E9 b n f i (RS.mk sl ce nx cd) (List.take (Int.toNat p.1) f)=
  RS.mk p.2.1 p.2.2.1 p.2.2.2.1 p.2.2.2.2.1)/\
  ∀ (p:Int×List Int×List (Int×Int)×Int×List RIns×Unit),
 let e0_1:RS:=L9 b (RS.mk p.2.1 p.2.2.1 p.2.2.2.1 p.2.2.2.2.1) (List.getD e (Int.toNat p.1) (0:Int)) n e i;
 let e1_1:Int:=p.2.2.2.1;
 let e2_1:List RIns:=p.2.2.2.2.1;
 let e3_1:Bool:=decide (B8 p.2.1 (List.getD e (Int.toNat p.1) (0:Int))>=(0:Int));
 let e4_1:List Int:=p.2.1;
 let e5_1:List (Int×Int):=p.2.2.1;
 let e6_1:Bool:=decide (p.1<m);
 let e7_1:Int:=p.1;
 let e8_1:List RIns:=[RIns.mk (1:Int) (atR b e4_1 n e i) (Option.getD (mget (λ(x y:Int)=>x==y) e0_1.cells (List.getD e (Int.toNat e7_1) (0:Int))) (0:Int)) t];
  (0:Int)<=e7_1/\e7_1<=(↑h:Int)/\E9 b n f i (RS.mk sl ce nx cd) (List.take (Int.toNat e7_1) f)=RS.mk e4_1 e5_1 e1_1 e2_1->
  (e6_1=true->
  ((0:Int)<=e7_1/\e7_1<m)/\
  (e3_1=true->
  ∃ (p':Int×List Int×List (Int×Int)×Int×List RIns×Unit),
  a=a/\
  b=b/\
  c=c/\
  d=d/\
  i=i/\
  lv=lv/\
  IntKind.i64.wrap (e7_1+(1:Int))=p'.1/\
  e4_1=p'.2.1/\
  e5_1=p'.2.2.1/\
  e2_1=p'.2.2.2.2.1/\
  a=a/\
  b=b/\
  c=c/\
  d=d/\
  e1_1=p'.2.2.2.1/\
  Value.map none=Value.map none/\
  (0:Int)=(0:Int)/\
  k=k/\
  l=l/\
  g=g/\
  e=e/\
  j=j/\
  ((0:Int)<=p'.1/\
  p'.1<=(↑h:Int)/\
  E9 b n f i (RS.mk sl ce nx cd) (List.take (Int.toNat p'.1) f)=
  RS.mk p'.2.1 p'.2.2.1 p'.2.2.2.1 p'.2.2.2.2.1)/\
  h-Int.toNat p'.1<h-Int.toNat e7_1)/\
  (e3_1=false->
  ((0:Int)<=e7_1/\e7_1<m)/\
  ((0:Int)<=i/\i<(↑(List.length lv):Int))/\
  (((0:Int)<=atR b e4_1 n e i/\atR b e4_1 n e i<(↑(List.length e4_1):Int))/\
  (0:Int)<=i/\i<=(↑(List.length b):Int)/\((0:Int)<=e1_1/\e1_1<=(1000000000:Int))/\List.length e2_1<=(1000000000:Nat))/\
  ((0:Int)<=e7_1/\e7_1<m)/\
  (List.length e0_1.code+List.length e8_1)*(112:Nat)<=(140737488355328:Nat)/\
  ∃ (p':Int×List Int×List (Int×Int)×Int×List RIns×Unit),
  a=a/\
  b=b/\
  c=c/\
  d=d/\
  i=i/\
  lv=lv/\
  IntKind.i64.wrap (e7_1+(1:Int))=p'.1/\
  e0_1.slots=p'.2.1/\
  e0_1.cells=p'.2.2.1/\
  e0_1.code++e8_1=p'.2.2.2.2.1/\
  a=a/\
  b=b/\
  c=c/\
  d=d/\
  e0_1.next=p'.2.2.2.1/\
  Value.map none=Value.map none/\
  (0:Int)=(0:Int)/\
  k=k/\
  l=l/\
  g=g/\
  e=e/\
  j=j/\
  ((0:Int)<=p'.1/\
  p'.1<=(↑h:Int)/\
  E9 b n f i (RS.mk sl ce nx cd) (List.take (Int.toNat p'.1) f)=
  RS.mk p'.2.1 p'.2.2.1 p'.2.2.2.1 p'.2.2.2.2.1)/\
  h-Int.toNat p'.1<h-Int.toNat e7_1))/\
  (e6_1=false->
  (∃ (p:Int×List Int×Unit),
  a=a/\
  b=b/\
  c=c/\
  d=d/\
  i=i/\
  lv=lv/\
  e7_1=e7_1/\
  e6_1=e6_1/\
  (0:Int)=p.1/\
  e4_1=e4_1/\
  e5_1=e5_1/\
  e2_1=e2_1/\
  a=a/\
  b=b/\
  c=c/\
  d=d/\
  e1_1=e1_1/\
  Value.map none=Value.map none/\
  (0:Int)=(0:Int)/\
  k=k/\
  l=l/\
  g=g/\
  e=e/\
  j=j/\
  []=p.2.1/\
  ([]:List Int)=[]/\
  (0:Int)<=p.1/\
  p.1<=(↑h:Int)/\
  p.2.1=List.map (B8 (E9 b n f i (RS.mk sl ce nx cd) f).slots) (List.take (Int.toNat p.1) f))/\
  ∀ (p:Int×List Int×Unit),
 let e0_2:Bool:=decide (p.1<m);
 let e1_2:List Int:=p.2.1;
 let e2_2:Int:=p.1;
 let e3_2:List Int:=[B8 e4_1 (List.getD e (Int.toNat e2_2) (0:Int))];
  (0:Int)<=e2_2/\e2_2<=(↑h:Int)/\e1_2=List.map (B8 (E9 b n f i (RS.mk sl ce nx cd) f).slots) (List.take (Int.toNat e2_2) f)->
  (e0_2=true->
  ((0:Int)<=e2_2/\e2_2<m)/\
  (List.length e1_2+List.length e3_2)*(8:Nat)<=(140737488355328:Nat)/\
  ∃ (p':Int×List Int×Unit),
  a=a/\
  b=b/\
  c=c/\
  d=d/\
  i=i/\
  lv=lv/\
  e7_1=e7_1/\
  e6_1=e6_1/\
  IntKind.i64.wrap (e2_2+(1:Int))=p'.1/\
  e4_1=e4_1/\
  e5_1=e5_1/\
  e2_1=e2_1/\
  a=a/\
  b=b/\
  c=c/\
  d=d/\
  e1_1=e1_1/\
  Value.map none=Value.map none/\
  (0:Int)=(0:Int)/\
  k=k/\
  l=l/\
  g=g/\
  e=e/\
  j=j/\
  e1_2++e3_2=p'.2.1/\
  ([]:List Int)=[]/\
  ((0:Int)<=p'.1/\
  p'.1<=(↑h:Int)/\
  p'.2.1=
  List.map (B8 (E9 b n f i (RS.mk sl ce nx cd) f).slots)
  (List.take (Int.toNat p'.1) f))/\
  h-Int.toNat p'.1<h-Int.toNat e2_2)/\
  (e0_2=false->
  (∃ (p:Int×List Int×List Int×List (Int×Int)×Int×List RIns×Unit),
  a=a/\
  b=b/\
  c=c/\
  d=d/\
  i=i/\
  lv=lv/\
  e7_1=e7_1/\
  e6_1=e6_1/\
  e2_2=e2_2/\
  e0_2=e0_2/\
  (0:Int)=p.1/\
  e4_1=p.2.2.1/\
  e5_1=p.2.2.2.1/\
  e2_1=p.2.2.2.2.2.1/\
  a=a/\
  b=b/\
  c=c/\
  d=d/\
  e1_1=p.2.2.2.2.1/\
  Value.map none=Value.map none/\
  (0:Int)=(0:Int)/\
  k=k/\
  l=l/\
  g=g/\
  e=e/\
  j=j/\
  e1_2=e1_2/\
  []=p.2.1/\
  (0:Int)<=p.1/\
  p.1<=(↑o:Int)/\
  tosR b (List.getD lv (Int.toNat (i+(1:Int))) []) (List.getD b (Int.toNat i) ins0).to
  (i+(1:Int)) (E9 b n f i (RS.mk sl ce nx cd) f)
  (List.take (Int.toNat p.1) (List.getD b (Int.toNat i) ins0).to)=
  (RS.mk p.2.2.1 p.2.2.2.1 p.2.2.2.2.1 p.2.2.2.2.2.1,
  p.2.1))/\
  ∀ (p:Int×List Int×List Int×List (Int×Int)×Int×List RIns×Unit),
 let e0_3:RS:=
  L9 b (RS.mk p.2.2.1 p.2.2.2.1 p.2.2.2.2.1 p.2.2.2.2.2.1) (List.getD g (Int.toNat p.1) (0:Int)) q g r;
 let e1_3:Int:=p.2.2.2.2.1;
 let e2_3:List RIns:=p.2.2.2.2.2.1;
 let m:List Int:=p.2.2.1;
 let e4_2:List Int:=p.2.1;
 let e5_2:Int:=p.1;
 let e6_2:List (Int×Int):=p.2.2.2.1;
 let e7_2:Bool:=decide (e5_2<(↑(List.length g):Int));
 let h:Int:=i+(1:Int);
 let e9_1:List RIns:=[RIns.mk (0:Int) (0:Int) (0:Int) (Ins.mk k l e4_2 e1_2 j)];
 let e10_1:List Int:=(List.getD b (Int.toNat i) ins0).to;
  (0:Int)<=e5_2/\
  e5_2<=(↑o:Int)/\
  tosR b (List.getD lv (Int.toNat h) []) e10_1 h (E9 b n f i (RS.mk sl ce nx cd) f) (List.take (Int.toNat e5_2) e10_1)=
  (RS.mk m e6_2 e1_3 e2_3,e4_2)->
  (e7_2=true->
  ((0:Int)<=e5_2/\e5_2<(↑(List.length g):Int))/\
  ((0:Int)<=r/\r<(↑(List.length lv):Int))/\
  (((0:Int)<=atR b m q g r/\atR b m q g r<(↑(List.length m):Int))/\
  (0:Int)<=r/\r<=(↑(List.length b):Int)/\((0:Int)<=e1_3/\e1_3<=(1000000000:Int))/\List.length e2_3<=(1000000000:Nat))/\
  (List.length e4_2+List.length [atR b m q g r])*(8:Nat)<=(140737488355328:Nat)/\
  ∃ (p':Int×List Int×List Int×List (Int×Int)×Int×List RIns×Unit),
  a=a/\
  b=b/\
  c=c/\
  d=d/\
  i=i/\
  lv=lv/\
  e7_1=e7_1/\
  e6_1=e6_1/\
  e2_2=e2_2/\
  e0_2=e0_2/\
  IntKind.i64.wrap (e5_2+(1:Int))=p'.1/\
  e0_3.slots=p'.2.2.1/\
  e0_3.cells=p'.2.2.2.1/\
  e0_3.code=p'.2.2.2.2.2.1/\
  a=a/\
  b=b/\
  c=c/\
  d=d/\
  e0_3.next=p'.2.2.2.2.1/\
  Value.map none=Value.map none/\
  (0:Int)=(0:Int)/\
  k=k/\
  l=l/\
  g=g/\
  e=e/\
  j=j/\
  e1_2=e1_2/\
  e4_2++[atR b m q g r]=p'.2.1/\
  ((0:Int)<=p'.1/\
  p'.1<=(↑o:Int)/\
  tosR b (List.getD lv (Int.toNat h) []) e10_1 h
  (E9 b n f i (RS.mk sl ce nx cd) f) (List.take (Int.toNat p'.1) e10_1)=
  (RS.mk p'.2.2.1 p'.2.2.2.1 p'.2.2.2.2.1
  p'.2.2.2.2.2.1,
  p'.2.1))/\
  o-Int.toNat p'.1<o-Int.toNat e5_2)/\
  (e7_2=false->
  (List.length e2_3+List.length e9_1)*(112:Nat)<=(140737488355328:Nat)/\
  (m,e6_2,e1_3,e2_3++e9_1,())=(s.slots,s.cells,s.next,s.code,()))))):=by kernel_rfl
end Go.Rg
end
