/-
What the last text of this claim uses: RgP, RgEq6, RgQ, RgR, RgS, RgEq7, RgU, RgY, RgZ, RgBa, RgEq11, RgBb, RgBc, RgEq12, RgBd, RgBe, RgEq13, RgBf, RgBg, RgBh, RgEq14, RgBi, RgBj, RgEq15, RgBk, RgBl, RgBm, RgBn, RgEq16, RgBo, RgBp, RgRow, RgEq17, RgEq18, RgBq, RgBr, RgEq19, RgBs.
-/
import Derived.Test.YtknhkhdbonjhgaaDoorV4
import Derived.Test.YtknhkhdbonjhgaaDoorRows
import Derived.ProofKit
import Derived.LaidMore
import Derived.Stop.Joined
import Derived.ChangeSame
set_option linter.unusedVariables false
set_option linter.unusedSimpArgs false
set_option maxRecDepth 100000
noncomputable section
section
namespace Go.Rg
open Go Go.VT
def bN0 (m:Int) (p:List Int×Ins):Int:=max m ((C9 p.1 p.2.to).length:Int)
def W7 (lv:List (List Int)) (code:List Ins) (k:Nat):Int:=((lv.tail.zip code).take k).foldl bN0 ((lv.headD []).length:Int)
def ag6 (l m:List Int):Int:=(l.length:Int)+((m.filter fun n=>!l.contains n).length:Int)
def bN1 (code:List Ins) (out:List Int):Nat→St RU→Ann RU:=fun k s=>match k with
 |0=>⟨[],[.slot 27,.slot 6],[i64,i64],fun p=>0≤p.1∧p.1≤code.length∧p.2.1=W7 (E1 code out) code p.1.toNat,fun p=>code.length-p.1.toNat,[]⟩
 |_=>⟨[],[.slot 41,.slot 9],[i64,i64],fun p=>0≤p.1∧p.1≤(code.getD (s.intAt 27).toNat ins0).to.length∧p.2.1=ag6 (atL code out ((s.intAt 27).toNat+1)) ((code.getD (s.intAt 27).toNat ins0).to.take p.1.toNat),fun p=>(code.getD (s.intAt 27).toNat ins0).to.length-p.1.toNat,[]⟩
def W8 (x3 x4:List Int) (x5:List Ins):Bool:=decide (x3.length≤17592186044416)&&decide (x4.length≤17592186044416)&&decide (x5.length≤1599289640354)&&H0 x5
def getI (m:List (Int×Int)) (n:Int):Int:=(mget eqI m n).getD 0
def aV5 (s:List Int×List (Int×Int)) (n:Int):List Int×List (Int×Int):=(s.1++[(s.2.length:Int)],mput eqI s.2 n s.2.length)
def H4 (m:List (Int×Int)) (l:List Int):List Int×List (Int×Int):=l.foldl aV5 ([],m)
def cOld:Con RU:=⟨[one,one],[i64,mapI],[.d 0,.ptr 0 0],[.box 84 [.map 1],.map 1],none,none,[one],[i64,mapI],[.d 0],[.box 84 [.map 1],.map 1],fun p=>(getI p.2.1 p.1,p.2),[0,1],[],[]⟩
def cNew:Con RU:=⟨[one,one],[i64,mapI],[.d 0,.ptr 0 0],[.box 84 [.map 1],.map 1],none,none,[one],[i64,mapI],[.d 0],[.box 84 [.map 1],.map 1],fun p=>((p.2.1.length:Int),mput eqI p.2.1 p.1 p.2.1.length,()),[0],[],[]⟩
def cCalledP:Con RU:=⟨[(true,5),one,one],[i64,i64,ints,ints,inss,mapI],[.d 0,.d 1,.d 2,.d 3,.d 4,.clo 74 [0],.clo 71 [0]],[.box 84 [.map 1],.map 5],some fun p=>W8 p.2.2.1 p.2.2.2.1 p.2.2.2.2.1=true,none,
 [(true,5)],[i64,i64,ints,ints,inss,mapI],[.d 0,.d 1,.d 2,.d 3,.d 4],[.box 84 [.map 1],.map 5],
 fun p=>(p.1,p.2.1,(H4 p.2.2.2.2.2.1 p.2.2.1).1,p.2.2.2.1.map (getI p.2.2.2.2.2.1),p.2.2.2.2.1,(H4 p.2.2.2.2.2.1 p.2.2.1).2,()),[0],[],[]⟩
def aV6 (x1 x2:Int) (x3 x4:List Int) (x5:List Ins) (m:List (Int×Int)):Nat→St RU→Ann RU:=fun k s=>match k with
 |0=>⟨[],[.slot 20,.row 896],[i64,inss],fun p=>0≤p.1∧p.1≤x4.length∧p.2.1=[⟨x1,x2,x3,(x4.take p.1.toNat).map (getI m)++x4.drop p.1.toNat,x5⟩],fun p=>x4.length-p.1.toNat,[]⟩
 |_=>⟨[],[.slot 36,.row 896,.row 1000001],[i64,inss,mapI],fun p=>0≤p.1∧p.1≤x3.length∧p.2.1=[⟨x1,x2,(H4 m (x3.take p.1.toNat)).1++x3.drop p.1.toNat,x4.map (getI m),x5⟩]∧p.2.2.1=(H4 m (x3.take p.1.toNat)).2,fun p=>x3.length-p.1.toNat,[]⟩
theorem bX0 (a:Int) (b:List Ins) (c d:List Int):vc (EV [(33,cLive),(61,cContains)]) (bN1 b c) Go.Proofs.Tryd.f29 cPress (a,b,c,d,())=(let e0:Bool:=(Q3 (VFun.mk a b c d)).2 !=(0:Int);
 let e1:List (List Int):=(Q3 (VFun.mk a b c d)).1;
 let e2:Int:=(Q3 (VFun.mk a b c d)).2;
 let e3:Int:=(↑(List.length b):Int);
 let e4:Ins:=Ins.mk (0:Int) (0:Int) [] [] [];
 let e5:Int×Int×Unit:=((W4 (VFun.mk a b c d)).1,(W4 (VFun.mk a b c d)).2,());
 let e6:Int:=(↑(List.length e1):Int);
  Small RU (Sigma.mk (Ty.slice (52:Nat) (Ty.user (0:Nat))) b)→
  Small RU (Sigma.mk (Ty.slice (3:Nat) (Ty.int IntKind.i64)) c)→
  Small RU (Sigma.mk (Ty.slice (3:Nat) (Ty.int IntKind.i64)) d)→
  (e0=true→((0:Int),e2,())=e5)∧
  (e0=false→
  ((0:Int)≤(0:Int)∧(0:Int)<e6)∧
  (∃ (p:Int×Int×Unit),
  a=a∧
  b=b∧
  c=c∧
  d=d∧
  (0:Int)=(0:Int)∧
  (0:Int)=(0:Int)∧
  e1=e1∧
  e2=e2∧
  e0=e0∧
  b=b∧
  e3=e3∧
  (0:Int)=p.1∧
  (↑(List.length (List.getD e1 (0:Nat) [])):Int)=p.2.1∧
  a=a∧b=b∧c=c∧d=d∧(0:Int)≤p.1∧p.1≤e3∧p.2.1=W7 (E1 b c) b (Int.toNat p.1))∧
  ∀ (p:Int×Int×Unit),
 let e0_1:Bool:=decide (p.1<e3);
 let e1_1:Int:=(↑(List.length (List.getD b (Int.toNat p.1) e4).to):Int);
 let e2_1:Int:=p.2.1;
 let e3_1:Int:=IntKind.i64.wrap (p.1+(1:Int));
 let e4_1:List Int:=(List.getD b (Int.toNat p.1) e4).to;
 let e5_1:Int:=p.1;
 let e6_1:Int:=(List.getD b (Int.toNat e5_1) e4).n;
 let e7:Int:=(List.getD b (Int.toNat e5_1) e4).op;
 let e8:List Int:=(List.getD b (Int.toNat e5_1) e4).from_;
 let e9:List Ins:=(List.getD b (Int.toNat e5_1) e4).body;
 let e10:Nat:=List.length (List.getD b (Int.toNat e5_1) ins0).to;
  (0:Int)≤e5_1∧e5_1≤e3∧e2_1=W7 (E1 b c) b (Int.toNat e5_1)→
  (e0_1=true→
  ((0:Int)≤e5_1∧e5_1<e3)∧
  ((0:Int)≤e3_1∧e3_1<e6)∧
  (∃ (p:Int×Int×Unit),
  a=a∧
  b=b∧
  c=c∧
  d=d∧
  (0:Int)=(0:Int)∧
  (0:Int)=(0:Int)∧
  e1=e1∧
  e2=e2∧
  e0=e0∧
  b=b∧
  e3=e3∧
  e5_1=e5_1∧
  e2_1=e2_1∧
  e0_1=e0_1∧
  e5_1=e5_1∧
  e4_1=e4_1∧
  e1_1=e1_1∧
  (0:Int)=p.1∧
  (↑(List.length (List.getD e1 (Int.toNat e3_1) [])):Int)=p.2.1∧
  a=a∧
  b=b∧
  c=c∧
  d=d∧
  e7=e7∧
  e6_1=e6_1∧
  e4_1=e4_1∧
  e8=e8∧
  e9=e9∧
  (0:Int)≤p.1∧
  p.1≤(↑e10:Int)∧
  p.2.1=
  ag6 (atL b c (Int.toNat e5_1+(1:Nat)))
  (List.take (Int.toNat p.1) (List.getD b (Int.toNat e5_1) ins0).to))∧
  ∀ (p:Int×Int×Unit),
 let e0_2:Bool:=!List.contains (List.getD e1 (Int.toNat e3_1) []) (List.getD e4_1 (Int.toNat p.1) (0:Int));
 let e1_2:Int:=p.2.1;
 let e2_2:Int:=p.1;
 let e3_2:Bool:=decide (e2_2<e1_1);
 let e4:List Int:=atL b c (Int.toNat e5_1+(1:Nat));
  (0:Int)≤e2_2∧e2_2≤(↑e10:Int)∧e1_2=ag6 e4 (List.take (Int.toNat e2_2) (List.getD b (Int.toNat e5_1) ins0).to)→
  (e3_2=true→
  ((0:Int)≤e2_2∧e2_2<e1_1)∧
  ((0:Int)≤e3_1∧e3_1<e6)∧
  ∃ (p':Int×Int×Unit),
  (bif e0_2 then a else a)=a∧
  (bif e0_2 then b else b)=b∧
  (bif e0_2 then c else c)=c∧
  (bif e0_2 then d else d)=d∧
  (bif e0_2 then (0:Int) else (0:Int))=(0:Int)∧
  (bif e0_2 then (0:Int) else (0:Int))=(0:Int)∧
  (bif e0_2 then e1 else e1)=e1∧
  (bif e0_2 then e2 else e2)=e2∧
  (bif e0_2 then e0 else e0)=e0∧
  (bif e0_2 then b else b)=b∧
  (bif e0_2 then e3 else e3)=e3∧
  (bif e0_2 then e5_1 else e5_1)=e5_1∧
  (bif e0_2 then e2_1 else e2_1)=e2_1∧
  (bif e0_2 then e0_1 else e0_1)=e0_1∧
  (bif e0_2 then e5_1 else e5_1)=e5_1∧
  (bif e0_2 then e4_1 else e4_1)=e4_1∧
  (bif e0_2 then e1_1 else e1_1)=e1_1∧
  IntKind.i64.wrap ((bif e0_2 then e2_2 else e2_2)+(1:Int))=p'.1∧
  (bif e0_2 then IntKind.i64.wrap (e1_2+(1:Int)) else e1_2)=p'.2.1∧
  (bif e0_2 then a else a)=a∧
  (bif e0_2 then b else b)=b∧
  (bif e0_2 then c else c)=c∧
  (bif e0_2 then d else d)=d∧
  (bif e0_2 then e7 else e7)=e7∧
  (bif e0_2 then e6_1 else e6_1)=e6_1∧
  (bif e0_2 then e4_1 else e4_1)=e4_1∧
  (bif e0_2 then e8 else e8)=e8∧
  (bif e0_2 then e9 else e9)=e9∧
  ((0:Int)≤p'.1∧
  p'.1≤(↑e10:Int)∧
  p'.2.1=ag6 e4 (List.take (Int.toNat p'.1) (List.getD b (Int.toNat e5_1) ins0).to))∧
  e10-Int.toNat p'.1<e10-Int.toNat e2_2)∧
  (e3_2=false→
  ∃ (p':Int×Int×Unit),
  a=a∧
  b=b∧
  c=c∧
  d=d∧
  (0:Int)=(0:Int)∧
  (0:Int)=(0:Int)∧
  e1=e1∧
  e2=e2∧
  e0=e0∧
  b=b∧
  e3=e3∧
  e3_1=p'.1∧
  (if e1_2 >e2_1 then e1_2 else e2_1)=p'.2.1∧
  a=a∧
  b=b∧
  c=c∧
  d=d∧
  ((0:Int)≤p'.1∧p'.1≤e3∧p'.2.1=W7 (E1 b c) b (Int.toNat p'.1))∧
  List.length b-Int.toNat p'.1<List.length b-Int.toNat e5_1))∧
  (e0_1=false→(e2_1,(0:Int),())=e5))):=by kernel_rfl
theorem cn1 (n:Int) (m:List (Int×Int)):vc (EV []) noL Go.Proofs.Tryd.f71 cOld (n,m,())=((Option.getD (mget (fun (x y:Int)=>x==y) m n) (0:Int),m,())=(getI m n,m,())):=by kernel_rfl
theorem cn2 (n:Int) (m:List (Int×Int)):vc (EV []) noL Go.Proofs.Tryd.f74 cNew (n,m,())=(let e0:List (Int×Int):=mput (fun (x y:Int)=>x==y) m n (↑(List.length m):Int);
 (Option.getD (mget (fun (x y:Int)=>x==y) e0 n) (0:Int),e0,())=((↑(List.length m):Int),mput eqI m n (↑(List.length m):Int),())):=by kernel_rfl
theorem bB2 (x1 x2:Int) (x3 x4:List Int) (x5:List Ins) (m:List (Int×Int)):vc (EV [(96,cBody),(71,cOld),(74,cNew)]) (aV6 x1 x2 x3 x4 x5 m) Go.Proofs.Tryd.f73 cCalledP (x1,x2,x3,x4,x5,m,())=(let e0:Ins:=Ins.mk (0:Int) (0:Int) [] [] [];
 let e1:List Ins:=[Ins.mk x1 x2 x3 x4 x5];
 let e2:Int:=(↑(List.length x4):Int);
  Small RU (Sigma.mk (Ty.slice (3:Nat) (Ty.int IntKind.i64)) x3)→
  Small RU (Sigma.mk (Ty.slice (3:Nat) (Ty.int IntKind.i64)) x4)→
  Small RU (Sigma.mk (Ty.slice (52:Nat) (Ty.user (0:Nat))) x5)→
  (List.length e1≤(1599289640354:Nat)∧H0 e1=true)∧
  ((0:Int)≤(0:Int)∧(0:Int)<(↑(List.length e1):Int))∧
  (∃ (p:Int×List Ins×Unit),
  x1=x1∧
  x2=x2∧
  x3=x3∧
  x4=x4∧
  x5=x5∧
  (0:Int)=(0:Int)∧
  e2=e2∧
  (0:Int)=p.1∧
  m=m∧
  x1=x1∧
  x2=x2∧
  x3=x3∧
  x4=x4∧
  x5=x5∧
  (0:Int)=(0:Int)∧
  (0:Int)=(0:Int)∧
  e1=e1∧
  e1=p.2.1∧
  x1=x1∧
  x2=x2∧
  (0:Int)=(0:Int)∧
  (0:Int)=(0:Int)∧
  x5=x5∧
  (0:Int)≤p.1∧
  p.1≤e2∧p.2.1=[Ins.mk x1 x2 x3 (List.map (getI m) (List.take (Int.toNat p.1) x4)++List.drop (Int.toNat p.1) x4) x5])∧
  ∀ (p:Int×List Ins×Unit),
 let e0_1:Ins:=List.getD p.2.1 (0:Nat) e0;
 let e1_1:Bool:=decide (p.1<e2);
 let e2_1:Int:=p.1;
 let e3:List Ins:=p.2.1;
 let e4:Int:=(↑(List.length e0_1.to):Int);
  (0:Int)≤e2_1∧e2_1≤e2∧e3=[Ins.mk x1 x2 x3 (List.map (getI m) (List.take (Int.toNat e2_1) x4)++List.drop (Int.toNat e2_1) x4) x5]→
  (e1_1=true→
  ((0:Int)≤e2_1∧e2_1<(↑(List.length e0_1.from_):Int))∧
  (True∧m=m∧True)∧
  ((0:Int)≤e2_1∧e2_1<(↑(List.length e0_1.from_):Int))∧
  ∃ (p':Int×List Ins×Unit),
  x1=x1∧
  x2=x2∧
  x3=x3∧
  x4=x4∧
  x5=x5∧
  (0:Int)=(0:Int)∧
  e2=e2∧
  IntKind.i64.wrap (e2_1+(1:Int))=p'.1∧
  m=m∧
  x1=x1∧
  x2=x2∧
  x3=x3∧
  x4=x4∧
  x5=x5∧
  (0:Int)=(0:Int)∧
  (0:Int)=(0:Int)∧
  e1=e1∧
  List.set e3 (0:Nat)
  (Ins.mk e0_1.op e0_1.n e0_1.to (List.set e0_1.from_ (Int.toNat e2_1) (getI m (List.getD e0_1.from_ (Int.toNat e2_1) (0:Int))))
  e0_1.body)=
  p'.2.1∧
  x1=x1∧
  x2=x2∧
  (0:Int)=(0:Int)∧
  (0:Int)=(0:Int)∧
  x5=x5∧
  ((0:Int)≤p'.1∧
  p'.1≤e2∧
  p'.2.1=
  [Ins.mk x1 x2 x3 (List.map (getI m) (List.take (Int.toNat p'.1) x4)++List.drop (Int.toNat p'.1) x4) x5])∧
  List.length x4-Int.toNat p'.1<List.length x4-Int.toNat e2_1)∧
  (e1_1=false→
  (∃ (p:Int×List Ins×List (Int×Int)×Unit),
  x1=x1∧
  x2=x2∧
  x3=x3∧
  x4=x4∧
  x5=x5∧
  (0:Int)=(0:Int)∧
  e2=e2∧
  e2_1=e2_1∧
  e1_1=e1_1∧
  (0:Int)=(0:Int)∧
  e4=e4∧
  (0:Int)=p.1∧
  m=p.2.2.1∧
  x1=x1∧
  x2=x2∧
  x3=x3∧
  x4=x4∧
  x5=x5∧
  (0:Int)=(0:Int)∧
  (0:Int)=(0:Int)∧
  e1=e1∧
  e3=p.2.1∧
  x1=x1∧
  x2=x2∧
  (0:Int)=(0:Int)∧
  (0:Int)=(0:Int)∧
  x5=x5∧
  (0:Int)≤p.1∧
  p.1≤(↑(List.length x3):Int)∧
  p.2.1=
  [Ins.mk x1 x2 ((H4 m (List.take (Int.toNat p.1) x3)).1++List.drop (Int.toNat p.1) x3)
  (List.map (getI m) x4) x5]∧
  p.2.2.1=(H4 m (List.take (Int.toNat p.1) x3)).2)∧
  ∀ (p:Int×List Ins×List (Int×Int)×Unit),
 let e0:Ins:=List.getD p.2.1 (0:Nat) e0;
 let e1_2:List (Int×Int):=p.2.2.1;
 let e2_2:Int:=p.1;
 let e3:List Ins:=p.2.1;
 let e4_1:Bool:=decide (e2_2<e4);
  (0:Int)≤e2_2∧
  e2_2≤(↑(List.length x3):Int)∧
  e3=[Ins.mk x1 x2 ((H4 m (List.take (Int.toNat e2_2) x3)).1++List.drop (Int.toNat e2_2) x3) (List.map (getI m) x4) x5]∧
  e1_2=(H4 m (List.take (Int.toNat e2_2) x3)).2→
  (e4_1=true→
  ((0:Int)≤e2_2∧e2_2<(↑(List.length e0.to):Int))∧
  True∧
  ((0:Int)≤e2_2∧e2_2<(↑(List.length e0.to):Int))∧
  ∃ (p':Int×List Ins×List (Int×Int)×Unit),
  x1=x1∧
  x2=x2∧
  x3=x3∧
  x4=x4∧
  x5=x5∧
  (0:Int)=(0:Int)∧
  e2=e2∧
  e2_1=e2_1∧
  e1_1=e1_1∧
  (0:Int)=(0:Int)∧
  e4=e4∧
  IntKind.i64.wrap (e2_2+(1:Int))=p'.1∧
  mput eqI e1_2 (List.getD e0.to (Int.toNat e2_2) (0:Int)) (↑(List.length e1_2):Int)=p'.2.2.1∧
  x1=x1∧
  x2=x2∧
  x3=x3∧
  x4=x4∧
  x5=x5∧
  (0:Int)=(0:Int)∧
  (0:Int)=(0:Int)∧
  e1=e1∧
  List.set e3 (0:Nat)
  (Ins.mk e0.op e0.n (List.set e0.to (Int.toNat e2_2) (↑(List.length e1_2):Int)) e0.from_ e0.body)=
  p'.2.1∧
  x1=x1∧
  x2=x2∧
  (0:Int)=(0:Int)∧
  (0:Int)=(0:Int)∧
  x5=x5∧
  ((0:Int)≤p'.1∧
  p'.1≤(↑(List.length x3):Int)∧
  p'.2.1=
  [Ins.mk x1 x2
  ((H4 m (List.take (Int.toNat p'.1) x3)).1++List.drop (Int.toNat p'.1) x3)
  (List.map (getI m) x4) x5]∧
  p'.2.2.1=(H4 m (List.take (Int.toNat p'.1) x3)).2)∧
  List.length x3-Int.toNat p'.1<List.length x3-Int.toNat e2_2)∧
  (e4_1=false→(x1,x2,e0.to,e0.from_,x5,e1_2,())=(x1,x2,(H4 m x3).1,List.map (getI m) x4,x5,(H4 m x3).2,())))):=by kernel_rfl
theorem aI3 {l:List Int} (h:incr l) (n:Int):(T4 l n).length=if n∈l then l.length else l.length+1:=by
 induction l with
 |nil=>simp [T4]
 |cons x r ih=>
  obtain ⟨h1,h2⟩:=List.pairwise_cons.1 h
  simp only [T4]
  by_cases hx:x=n
  ·simp [hx]
  ·rw [if_neg hx]
   by_cases hlt:n<x
   ·have:n∉x::r:=by
     intro hm
     rcases List.mem_cons.1 hm with hm|hm
     ·exact hx hm.symm
     ·have:=h1 n hm;omega
    simp [hlt,this]
   ·rw [if_neg hlt,cr5,ih h2]
    have:(n∈x::r)=(n∈r):=by simp [Ne.symm hx]
    simp only [this,cr5]
    split<;>omega
theorem be9 {l:List Int} (h:incr l):∀ {m:List Int},m.Nodup→((C9 l m).length:Int)=ag6 l m:=by
 intro m
 induction m generalizing l with
 |nil=>intro _;simp [C9,ag6]
 |cons x r ih=>
  intro hn
  obtain ⟨hn1,hn2⟩:=List.nodup_cons.1 hn
  rw [show C9 l (x::r)=C9 (T4 l x) r from rfl,ih (aO8 h x) hn2]
  unfold ag6
  have hf:(r.filter fun n=>!(T4 l x).contains n)=r.filter fun n=>!l.contains n:=by
   apply List.filter_congr
   intro y hy
   have:(T4 l x).contains y=l.contains y:=by
    rw [Bool.eq_iff_iff,List.contains_iff_mem,List.contains_iff_mem,aH0]
    constructor
    ·rintro (rfl|h)
     ·exact absurd hy hn1
     ·exact h
    ·exact .inr
   rw [this]
  rw [hf,aI3 h,List.filter_cons]
  by_cases hx:x∈l
  ·simp [hx]
  ·simp [hx];omega
theorem bB3 (b:List Ins) (c:List Int) {k:Nat} (h:k<b.length):W7 (E1 b c) b (k+1)=max (W7 (E1 b c) b k) ((C9 (atL b c (k+1)) (b.getD k ins0).to).length:Int):=by
 unfold W7
 have hlen:k<((E1 b c).tail.zip b).length:=by
  rw [List.length_zip,List.length_tail,L4];omega
 have hk:((E1 b c).tail.zip b).getD k ([],ins0)=(atL b c (k+1),b.getD k ins0):=by
  rw [cr3,cq1 hlen]
  simp only [Option.getD_some,List.getElem_zip]
  unfold atL
  rw [cr3,cr3,cq1 (by rw [L4];omega),cq1 h]
  simp
 rw [A4 hlen ([],ins0),hk,List.foldl_append]
 rfl
theorem bu3 {a:Int} {b:List Ins} {c:List Int} (C:Checked a b c) {k:Nat} (h:k<b.length):(b.getD k ins0).to.Nodup:=by
 have h1:=E3.1 C.once
 have h2:=bM2 h
 have h3:(wr (b.take (k+1))).Nodup:=by
  rw [←List.take_append_drop (k+1) b,T7] at h1
  exact (List.nodup_append.1 h1).1
 rw [h2] at h3
 exact (List.nodup_append.1 h3).2.1
theorem bB4 {l m:List Int} {j:Nat} (h:j<m.length):ag6 l (m.take (j+1))=if !l.contains (m.getD j 0) then ag6 l (m.take j)+1 else ag6 l (m.take j):=by
 unfold ag6
 rw [A4 h 0,List.filter_append,cs3,List.filter_cons]
 split<;>simp<;>omega
theorem bX1 (a:Int) (b:List Ins) (c d:List Int):vc (EV [(33,cLive),(61,cContains)]) (bN1 b c) Go.Proofs.Tryd.f29 cPress (a,b,c,d,()):=by
 rw [bX0 a b c d]
 intro e0 e1 e2 e3 e4 e5 e6 hb _ _
 have he5:e5=((W4 ⟨a,b,c,d⟩).1,(W4 ⟨a,b,c,d⟩).2,()):=rfl
 have he4:e4=ins0:=rfl
 have hl2:(Q3 ⟨a,b,c,d⟩).2=C0 ⟨a,b,c,d⟩:=by
  unfold Q3
  by_cases h:C0 ⟨a,b,c,d⟩=0
  ·rw [if_neg (by simpa using h),h]
  ·rw [if_pos h]
 refine ⟨fun h=>?_,fun h=>?_⟩
 ·have h:C0 ⟨a,b,c,d⟩≠0:=by simpa [e0,hl2] using h
  rw [he5]
  unfold W4
  rw [if_pos h]
  simp only [e2,hl2]
 have h:C0 ⟨a,b,c,d⟩=0:=by simpa [e0,hl2] using h
 have C:=aV2 h
 have hlb:=C.len
 have he1:e1=E1 b c:=by
  show (Q3 ⟨a,b,c,d⟩).1=_
  unfold Q3
  rw [if_neg (by simpa using h)]
 have he5:e5=(W7 (E1 b c) b b.length,0,()):=by
  rw [he5]
  unfold W4
  rw [if_neg (by simpa using h)]
  unfold W7
  rw [List.take_of_length_le (by rw [List.length_zip];omega)]
  rfl
 have he6:e6=b.length+1:=by
  show ((List.length e1:Nat):Int)=_
  rw [he1,L4];rfl
 clear_value e5 e1 e6 e4
 subst he5 he1 he4 he6
 dsimp only [e3]
 simp only [true_and,and_true,Bool.cond_self]
 refine ⟨⟨Int.le_refl _,by omega⟩,⟨(0,_,()),rfl,rfl,Int.le_refl _,by dsimp only;omega,?_⟩,?_⟩
 ·show ((atL b c 0).length:Int)=W7 (E1 b c) b 0
  rw [V2]
  rfl
 rintro ⟨i,m,⟨⟩⟩ ⟨h0,h1,h2⟩
 dsimp only at h0 h1 h2 ⊢
 subst h2
 obtain ⟨k,rfl⟩:=cq5 h0
 simp only [cq3]
 refine ⟨fun hlt=>?_,fun hge=>?_⟩
 ·have hlt:(k:Int)<b.length:=cq9 hlt
  have hw:IntKind.i64.wrap ((k:Int)+1)=((k+1:Nat):Int):=B7 (by omega) (by omega:b.length≤140737488355328)
  rw [hw]
  simp only [cq3]
  have hto:(b.getD k ins0).to.length≤140737488355328:=aH3 (b:=b) hb (by omega)
  have hat:(E1 b c).getD (k+1) []=atL b c (k+1):=rfl
  rw [hat]
  refine ⟨⟨h0,hlt⟩,⟨by omega,by omega⟩,⟨(0,_,()),rfl,rfl,Int.le_refl _,by dsimp only;omega,by simp [ag6]⟩,?_⟩
  rintro ⟨q,n,⟨⟩⟩ ⟨q0,q1,q2⟩
  dsimp only at q0 q1 q2 ⊢
  obtain ⟨j,rfl⟩:=cq5 q0
  subst q2
  simp only [cq3]
  have hal:(atL b c (k+1)).length≤4000:=by
   have h3:=aA9 c b (k+1)
   have h4:((atL b c (k+1)).map Int.toNat).Nodup:=by
    rw [List.Nodup,List.pairwise_map]
    exact h3.imp_of_mem (fun {x y} hx hy hxy he=>by have:=aV4 C hx;have:=aV4 C hy;omega)
   have:=aA8 4000 _ h4 (fun x hx=>by
    obtain ⟨y,hy,rfl⟩:=List.mem_map.1 hx
    have:=aV4 C hy
    omega)
   simpa using this
  refine ⟨fun hc=>?_,fun hc=>?_⟩
  ·have hc:(j:Int)<(b.getD k ins0).to.length:=cq9 hc
   have hb2:ag6 (atL b c (k+1)) ((b.getD k ins0).to.take j)≤4000+j:=by
    unfold ag6
    have:=List.length_filter_le (fun n=>!(atL b c (k+1)).contains n) ((b.getD k ins0).to.take j)
    rw [ct1] at this
    omega
   have hb3:0≤ag6 (atL b c (k+1)) ((b.getD k ins0).to.take j):=by unfold ag6;omega
   refine ⟨⟨q0,hc⟩,⟨by omega,by omega⟩,((j+1:Nat),ag6 (atL b c (k+1)) ((b.getD k ins0).to.take (j+1)),()),B7 (by omega) hto,?_,⟨by omega,by dsimp only;omega,by rw [cq3]⟩,by dsimp only;omega⟩
   dsimp only
   rw [bB4 (by omega),F8 (by omega) (by omega)]
   cases (!(atL b c (k+1)).contains ((b.getD k ins0).to.getD j 0))<;>rfl
  ·have hj:j=(b.getD k ins0).to.length:=by have:¬ (j:Int)<(b.getD k ins0).to.length:=cq8 hc;omega
   subst hj
   rw [ct0]
   refine ⟨((k+1:Nat),W7 (E1 b c) b (k+1),()),rfl,?_,⟨by omega,by dsimp only;omega,by rw [cq3]⟩,by dsimp only;omega⟩
   dsimp only
   rw [bB3 b c (by omega),be9 (aA9 c b (k+1)) (bu3 C (by omega))]
   split<;>omega
 ·have hk:k=b.length:=by have:¬ (k:Int)<b.length:=cq8 hge;omega
  subst hk
  rfl
theorem bm8:D0 prog RG 29 cPress:=E4 (A6 aP3 (A6 N6 B9)) (fun p=>bN1 p.2.1 p.2.2.1) (by kernel_rfl) (by kernel_rfl) (by kernel_rfl) fun (a,b,c,d,()) _=>bX1 a b c d
theorem bN2 (n:Int) (m:List (Int×Int)):Option.getD (mget (fun (x y:Int)=>x==y) m n) (0:Int)=getI m n:=rfl
theorem cn3 (n:Int) (m:List (Int×Int)):vc (EV []) noL Go.Proofs.Tryd.f71 cOld (n,m,()):=by
 rw [cn1 n m,bN2]
theorem bf0:D0 prog RG 71 cOld:=E4 B9 (fun _=>noL) (by kernel_rfl) (by kernel_rfl) (by kernel_rfl) fun (n,m,()) _=>cn3 n m
theorem cn4 (n:Int) (m:List (Int×Int)):vc (EV []) noL Go.Proofs.Tryd.f74 cNew (n,m,()):=by
 rw [cn2 n m]
 intro e0
 have he:e0=mput eqI m n m.length:=rfl
 clear_value e0
 subst he
 rw [bN2]
 unfold getI
 rw [I0,if_pos rfl]
 rfl
theorem bN3:D0 prog RG 74 cNew:=E4 B9 (fun _=>noL) (by kernel_rfl) (by kernel_rfl) (by kernel_rfl) fun (n,m,()) _=>cn4 n m
theorem an7 {A l:List Int} {i:Nat} (hA:A.length=i) (h:i<l.length):(A++l.drop i).getD i 0=l.getD i 0:=by
 rw [cr3,cr3,cr8 (by omega),hA,Nat.sub_self,List.getElem?_drop,Nat.add_zero]
theorem an8 {A l:List Int} {i:Nat} (hA:A.length=i) (h:i<l.length) (v:Int):(A++l.drop i).set i v=(A++[v])++l.drop (i+1):=by
 rw [List.set_append_right _ _ (by omega),hA,Nat.sub_self,List.drop_eq_getElem_cons h,List.set_cons_zero]
 simp
theorem S0 {A l:List Int} {i:Nat} (hA:A.length=i) (h:i≤l.length):(A++l.drop i).length=l.length:=by
 rw [cs3,List.length_drop];omega
theorem bf1 (l:List Int):∀ (m:List (Int×Int)),(H4 m l).1.length=l.length:=by
 have key:∀ (l:List Int) (s:List Int×List (Int×Int)),(l.foldl aV5 s).1.length=s.1.length+l.length:=by
  intro l
  induction l with
  |nil=>intro s;simp
  |cons x r ih=>intro s;simp [ih,aV5];omega
 intro m
 rw [H4,key]
 simp
theorem bB5 (m:List (Int×Int)) (l:List Int) (x:Int):H4 m (l++[x])=aV5 (H4 m l) x:=by simp [H4]
theorem V6 {x3 x4:List Int} {x5:List Ins}:W8 x3 x4 x5=true↔(x3.length≤17592186044416∧x4.length≤17592186044416∧x5.length≤1599289640354)∧H0 x5=true:=by
 simp only [W8,cq2,cs4]
 constructor
 ·rintro ⟨⟨⟨h1,h2⟩,h3⟩,h4⟩;exact ⟨⟨h1,h2,h3⟩,h4⟩
 ·rintro ⟨⟨h1,h2,h3⟩,h4⟩;exact ⟨⟨⟨h1,h2⟩,h3⟩,h4⟩
theorem bB6 (x1 x2:Int) (x3 x4:List Int) (x5:List Ins) (m:List (Int×Int)) (hp:W8 x3 x4 x5=true):vc (EV [(96,cBody),(71,cOld),(74,cNew)]) (aV6 x1 x2 x3 x4 x5 m) Go.Proofs.Tryd.f73 cCalledP (x1,x2,x3,x4,x5,m,()):=by
 rw [bB2 x1 x2 x3 x4 x5 m]
 intro e0 e1 e2 hs3 hs4 _
 have hl3:x3.length≤140737488355328:=hs3.len
 have hl4:x4.length≤140737488355328:=hs4.len
 dsimp only [e0,e1,e2]
 simp only [true_and,and_true]
 refine ⟨⟨by simp,?_⟩,⟨by omega,by simp⟩,⟨(0,_,()),rfl,rfl,Int.le_refl _,by dsimp only;omega,by simp⟩,?_⟩
 ·simp only [H0,Bool.and_true]
  exact (L1 _).2 (V6.1 hp)
 rintro ⟨i,l,⟨⟩⟩ ⟨h0,h1,h2⟩
 dsimp only at h0 h1 h2 ⊢
 subst h2
 obtain ⟨k,rfl⟩:=cq5 h0
 simp only [cq3,List.getD_cons_zero,List.set_cons_zero]
 have hA:((x4.take k).map (getI m)).length=k:=by simp;omega
 refine ⟨fun hlt=>?_,fun hge=>?_⟩
 ·have hlt:(k:Int)<x4.length:=cq9 hlt
  rw [S0 hA (by omega),an7 hA (by omega),an8 hA (by omega)]
  refine ⟨⟨h0,hlt⟩,⟨h0,hlt⟩,((k+1:Nat),[⟨x1,x2,x3,(x4.take (k+1)).map (getI m)++x4.drop (k+1),x5⟩],()),B7 (by omega) hl4,?_,⟨by omega,by dsimp only;omega,by dsimp only;rw [cq3]⟩,by dsimp only;omega⟩
  dsimp only
  rw [A4 (by omega) 0,List.map_append]
  rfl
 have hk:k=x4.length:=by have:¬ (k:Int)<x4.length:=cq8 hge;omega
 subst hk
 simp only [ct0,List.drop_length,List.append_nil]
 clear h0 h1 hge hA
 refine ⟨⟨(0,_,m,()),rfl,rfl,rfl,Int.le_refl _,by dsimp only;omega,by simp [H4],by simp [H4]⟩,?_⟩
 rintro ⟨i,l,m2,⟨⟩⟩ ⟨h0,h1,h2,h3⟩
 dsimp only at h0 h1 h2 h3 ⊢
 subst h2 h3
 obtain ⟨k,rfl⟩:=cq5 h0
 simp only [cq3,List.getD_cons_zero,List.set_cons_zero]
 have hA:(H4 m (x3.take k)).1.length=k:=by rw [bf1,ct1];omega
 refine ⟨fun hlt=>?_,fun hge=>?_⟩
 ·have hlt:(k:Int)<x3.length:=cq9 hlt
  rw [S0 hA (by omega),an7 hA (by omega),an8 hA (by omega)]
  have hn:H4 m (x3.take (k+1))=aV5 (H4 m (x3.take k)) (x3.getD k 0):=by rw [A4 (by omega) 0,bB5]
  refine ⟨⟨h0,hlt⟩,⟨h0,hlt⟩,((k+1:Nat),[⟨x1,x2,(H4 m (x3.take (k+1))).1++x3.drop (k+1),x4.map (getI m),x5⟩],(H4 m (x3.take (k+1))).2,()),B7 (by omega) hl3,?_,?_,⟨by omega,by dsimp only;omega,by dsimp only;rw [cq3],by dsimp only;rw [cq3]⟩,by dsimp only;omega⟩
  ·dsimp only
   rw [hn]
   rfl
  ·dsimp only
   rw [hn]
   rfl
 ·have hk:k=x3.length:=by have:¬ (k:Int)<x3.length:=cq8 hge;omega
  subst hk
  simp only [ct0,List.drop_length,List.append_nil]
theorem aV7:D0 prog RG 73 cCalledP:=E4 (A6 au6 (A6 bf0 (A6 bN3 B9))) (fun p=>aV6 p.1 p.2.1 p.2.2.1 p.2.2.2.1 p.2.2.2.2.1 p.2.2.2.2.2.1) (by kernel_rfl) (by kernel_rfl) (by kernel_rfl) fun (x1,x2,x3,x4,x5,m,()) hp=>bB6 x1 x2 x3 x4 x5 m hp
def idm (n:Nat):List (Int×Int):=(upto n).foldl (fun m k=>mput eqI m k k) []
def bN4 (m:List (Int×Int)) (x:Ins):Ins:=⟨x.op,x.n,(H4 m x.to).1,x.from_.map (getI m),x.body⟩
def P8 (m:List (Int×Int)) (l:List Ins):List (Int×Int):=l.foldl (fun m x=>(H4 m x.to).2) m
def Z1:List (Int×Int)→List Ins→List Ins
 |_,[]=>[]
 |m,x::r=>bN4 m x::Z1 (H4 m x.to).2 r
def cPlain:Con RU:=con [(true,4)] ar3 [(true,4),one] [i64,inss,ints,ints,i64] [false,false,false,false,false] (some fun p=>H0 p.2.1=true∧p.2.2.1.length≤17592186044416)
 fun p=>((F6 ⟨p.1,p.2.1,p.2.2.1,p.2.2.2.1⟩).1.params,(F6 ⟨p.1,p.2.1,p.2.2.1,p.2.2.2.1⟩).1.code,(F6 ⟨p.1,p.2.1,p.2.2.1,p.2.2.2.1⟩).1.out,(F6 ⟨p.1,p.2.1,p.2.2.1,p.2.2.2.1⟩).1.at_,(F6 ⟨p.1,p.2.1,p.2.2.1,p.2.2.2.1⟩).2,())
def bN5 (params:Int) (code:List Ins) (out:List Int):Nat→St RU→Ann RU:=fun k s=>match k with
 |0=>⟨[],[.slot 22,.row 1216],[i64,mapI],fun p=>0≤p.1∧(p.1≤params∨p.1=0)∧p.2.1=idm p.1.toNat,fun p=>params.toNat-p.1.toNat,[]⟩
 |1=>⟨[],[.slot 39,.row 1216,.row 7],[i64,mapI,inss],fun p=>0≤p.1∧p.1≤code.length∧p.2.1=P8 (idm params.toNat) (code.take p.1.toNat)∧p.2.2.1=Z1 (idm params.toNat) (code.take p.1.toNat),fun p=>code.length-p.1.toNat,[(.box 512 1,7,52,.user 0)]⟩
 |_=>⟨[],[.slot 56,.row 2176],[i64,ints],fun p=>0≤p.1∧p.1≤out.length∧p.2.1=(out.take p.1.toNat).map (getI (P8 (idm params.toNat) code))++out.drop p.1.toNat,fun p=>out.length-p.1.toNat,[]⟩
theorem bX2 (a:Int) (b:List Ins) (c d:List Int):vc (EV [(41,cCheck),(72,cOwn),(71,cOld),(73,cCalledP)]) (bN5 a b c) Go.Proofs.Tryd.f39 cPlain (a,b,c,d,())=(let e0:Int×List Ins×List Int×List Int×Int×Unit:=
  ((F6 (VFun.mk a b c d)).1.params,(F6 (VFun.mk a b c d)).1.code,(F6 (VFun.mk a b c d)).1.out,(F6 (VFun.mk a b c d)).1.at_,(F6 (VFun.mk a b c d)).2,());
 let e1:Bool:=C0 (VFun.mk a b c d) !=(0:Int);
 let e2:Int:=(↑(List.length b):Int);
 let e3:Int:=(↑(List.length c):Int);
 let e4:Ins:=Ins.mk (0:Int) (0:Int) [] [] [];
  Small RU (Sigma.mk (Ty.slice (52:Nat) (Ty.user (0:Nat))) b)→
  Small RU (Sigma.mk (Ty.slice (3:Nat) (Ty.int IntKind.i64)) c)→
  Small RU (Sigma.mk (Ty.slice (3:Nat) (Ty.int IntKind.i64)) d)→
  (e1=true→((0:Int),[],[],[],C0 (VFun.mk a b c d),())=e0)∧
  (e1=false→
  (∃ (p:Int×List (Int×Int)×Unit),
  a=a∧
  b=b∧
  c=c∧
  d=d∧
  (0:Int)=(0:Int)∧
  C0 (VFun.mk a b c d)=C0 (VFun.mk a b c d)∧
  e1=e1∧
  a=a∧
  (0:Int)=p.1∧
  a=a∧b=b∧c=c∧d=d∧(0:Int)=(0:Int)∧[]=p.2.1∧(0:Int)≤p.1∧(p.1≤a∨p.1=(0:Int))∧p.2.1=idm (Int.toNat p.1))∧
  ∀ (p:Int×List (Int×Int)×Unit),
 let e0_1:Bool:=decide (p.1<a);
 let e1_1:Int:=p.1;
 let e2_1:List (Int×Int):=p.2.1;
  (0:Int)≤e1_1∧(e1_1≤a∨e1_1=(0:Int))∧e2_1=idm (Int.toNat e1_1)→
  (e0_1=true→
  ∃ (p':Int×List (Int×Int)×Unit),
  a=a∧
  b=b∧
  c=c∧
  d=d∧
  (0:Int)=(0:Int)∧
  C0 (VFun.mk a b c d)=C0 (VFun.mk a b c d)∧
  e1=e1∧
  a=a∧
  IntKind.i64.wrap (e1_1+(1:Int))=p'.1∧
  a=a∧
  b=b∧
  c=c∧
  d=d∧
  (0:Int)=(0:Int)∧
  mput (fun (x y:Int)=>x==y) e2_1 e1_1 e1_1=p'.2.1∧
  ((0:Int)≤p'.1∧(p'.1≤a∨p'.1=(0:Int))∧p'.2.1=idm (Int.toNat p'.1))∧
  Int.toNat a-Int.toNat p'.1<Int.toNat a-Int.toNat e1_1)∧
  (e0_1=false→
  List.length c≤(17592186044416:Nat)∧
  (∃ (p:Int×List (Int×Int)×List Ins×Unit),
  a=a∧
  b=b∧
  c=c∧
  d=d∧
  (0:Int)=(0:Int)∧
  C0 (VFun.mk a b c d)=C0 (VFun.mk a b c d)∧
  e1=e1∧
  a=a∧
  e1_1=e1_1∧
  e0_1=e0_1∧
  b=b∧
  e2=e2∧
  (0:Int)=p.1∧
  a=a∧
  b=b∧
  c=c∧
  d=d∧
  (0:Int)=(0:Int)∧
  e2_1=p.2.1∧
  c=c∧
  a=a∧
  []=p.2.2.1∧
  (0:Int)≤p.1∧
  p.1≤e2∧
  p.2.1=P8 (idm (Int.toNat a)) (List.take (Int.toNat p.1) b)∧
  p.2.2.1=Z1 (idm (Int.toNat a)) (List.take (Int.toNat p.1) b))∧
  ∀ (p:Int×List (Int×Int)×List Ins×Unit),
 let e0_2:List Ins:=p.2.2.1;
 let e1_2:List Ins:=
  [Ins.mk (List.getD b (Int.toNat p.1) e4).op (List.getD b (Int.toNat p.1) e4).n (H4 p.2.1 (List.getD b (Int.toNat p.1) e4).to).1
  (List.map (getI p.2.1) (List.getD b (Int.toNat p.1) e4).from_) (List.getD b (Int.toNat p.1) e4).body];
 let e2_2:Bool:=decide (p.1<e2);
 let e3_1:List (Int×Int):=p.2.1;
 let e4_1:Int:=p.1;
  (0:Int)≤e4_1∧e4_1≤e2∧e3_1=P8 (idm (Int.toNat a)) (List.take (Int.toNat e4_1) b)∧e0_2=Z1 (idm (Int.toNat a)) (List.take (Int.toNat e4_1) b)→
  (e2_2=true→
  ((0:Int)≤e4_1∧e4_1<e2)∧
  (W8 (List.getD b (Int.toNat e4_1) e4).to (List.getD b (Int.toNat e4_1) e4).from_ (List.getD b (Int.toNat e4_1) e4).body=true∧True)∧
  (List.length e0_2+List.length e1_2)*(88:Nat)≤(140737488355328:Nat)∧
  ∃ (p':Int×List (Int×Int)×List Ins×Unit),
  a=a∧
  b=b∧
  c=c∧
  d=d∧
  (0:Int)=(0:Int)∧
  C0 (VFun.mk a b c d)=C0 (VFun.mk a b c d)∧
  e1=e1∧
  a=a∧
  e1_1=e1_1∧
  e0_1=e0_1∧
  b=b∧
  e2=e2∧
  IntKind.i64.wrap (e4_1+(1:Int))=p'.1∧
  a=a∧
  b=b∧
  c=c∧
  d=d∧
  (0:Int)=(0:Int)∧
  (H4 e3_1 (List.getD b (Int.toNat e4_1) e4).to).2=p'.2.1∧
  c=c∧
  a=a∧
  e0_2++e1_2=p'.2.2.1∧
  ((0:Int)≤p'.1∧
  p'.1≤e2∧
  p'.2.1=P8 (idm (Int.toNat a)) (List.take (Int.toNat p'.1) b)∧
  p'.2.2.1=Z1 (idm (Int.toNat a)) (List.take (Int.toNat p'.1) b))∧
  List.length b-Int.toNat p'.1<List.length b-Int.toNat e4_1)∧
  (e2_2=false→
  (∃ (p:Int×List Int×Unit),
  a=a∧
  b=b∧
  c=c∧
  d=d∧
  (0:Int)=(0:Int)∧
  C0 (VFun.mk a b c d)=C0 (VFun.mk a b c d)∧
  e1=e1∧
  a=a∧
  e1_1=e1_1∧
  e0_1=e0_1∧
  b=b∧
  e2=e2∧
  e4_1=e4_1∧
  e2_2=e2_2∧
  e3=e3∧
  (0:Int)=p.1∧
  a=a∧
  b=b∧
  c=c∧
  d=d∧
  (0:Int)=(0:Int)∧
  e3_1=e3_1∧
  c=p.2.1∧
  a=a∧
  e0_2=e0_2∧
  (0:Int)≤p.1∧
  p.1≤e3∧
  p.2.1=
  List.map (getI (P8 (idm (Int.toNat a)) b)) (List.take (Int.toNat p.1) c)++
  List.drop (Int.toNat p.1) c)∧
  ∀ (p:Int×List Int×Unit),
 let e0_3:List Int:=p.2.1;
 let e1_3:Int:=p.1;
 let e2_3:Bool:=decide (e1_3<e3);
  (0:Int)≤e1_3∧e1_3≤e3∧e0_3=List.map (getI (P8 (idm (Int.toNat a)) b)) (List.take (Int.toNat e1_3) c)++List.drop (Int.toNat e1_3) c→
  (e2_3=true→
  ((0:Int)≤e1_3∧e1_3<(↑(List.length e0_3):Int))∧
  (True∧e3_1=e3_1∧True)∧
  ((0:Int)≤e1_3∧e1_3<(↑(List.length e0_3):Int))∧
  ∃ (p':Int×List Int×Unit),
  a=a∧
  b=b∧
  c=c∧
  d=d∧
  (0:Int)=(0:Int)∧
  C0 (VFun.mk a b c d)=C0 (VFun.mk a b c d)∧
  e1=e1∧
  a=a∧
  e1_1=e1_1∧
  e0_1=e0_1∧
  b=b∧
  e2=e2∧
  e4_1=e4_1∧
  e2_2=e2_2∧
  e3=e3∧
  IntKind.i64.wrap (e1_3+(1:Int))=p'.1∧
  a=a∧
  b=b∧
  c=c∧
  d=d∧
  (0:Int)=(0:Int)∧
  e3_1=e3_1∧
  List.set e0_3 (Int.toNat e1_3) (getI e3_1 (List.getD e0_3 (Int.toNat e1_3) (0:Int)))=p'.2.1∧
  a=a∧
  e0_2=e0_2∧
  ((0:Int)≤p'.1∧
  p'.1≤e3∧
  p'.2.1=
  List.map (getI (P8 (idm (Int.toNat a)) b)) (List.take (Int.toNat p'.1) c)++
  List.drop (Int.toNat p'.1) c)∧
  List.length c-Int.toNat p'.1<List.length c-Int.toNat e1_3)∧
  (e2_3=false→(a,e0_2,e0_3,[],(0:Int),())=e0))))):=by kernel_rfl
theorem bm9 (m:List (Int×Int)) (l:List Ins) (x:Ins):P8 m (l++[x])=(H4 (P8 m l) x.to).2:=by simp [P8]
theorem aI4 (x:Ins):∀ (l:List Ins) (m:List (Int×Int)),Z1 m (l++[x])=Z1 m l++[bN4 (P8 m l) x]
 |[],m=>rfl
 |y::l,m=>by
  simp only [List.cons_append,Z1,aI4 x l]
  rfl
theorem ar8:∀ (l:List Ins) (m:List (Int×Int)),(Z1 m l).length=l.length
 |[],m=>rfl
 |y::l,m=>by simp [Z1,ar8 l]
theorem bu4 (n:Nat):idm (n+1)=mput eqI (idm n) n n:=by
 unfold idm
 rw [aH6,List.foldl_append]
 rfl
structure Named (a:Int) (W:List Int) (m:List (Int×Int)):Prop where
 len:(m.length:Int)=a+W.length
 par:∀ n,0≤n→n<a→mget eqI m n=some n
 wr:∀ n∈W,mget eqI m n=some (a+G3 W n)
 out:∀ n,a≤n→n∉W→mget eqI m n=none
theorem bu5 {m:List (Int×Int)} {n v:Int} (h:mget eqI m n=none):(mput eqI m n v).length=m.length+1:=by
 induction m with
 |nil=>rfl
 |cons x r ih=>
  obtain ⟨k,w⟩:=x
  simp only [mget,eqI,cr2,beq_iff_eq] at h
  split at h
  ·cases h
  ·rename_i hk
   simp only [mput,eqI,cr2,beq_iff_eq,if_neg hk,cr5]
   rw [show (mput (fun x y=>x==y) r n v).length=r.length+1 from ih h]
theorem ab1 {l r:List Int} {n:Int} (h:n∈l):G3 (l++r) n=G3 l n:=by
 induction l with
 |nil=>simp at h
 |cons x l ih=>
  simp only [List.cons_append,G3]
  by_cases hx:x=n
  ·simp [hx]
  ·rw [if_neg hx,if_neg hx,ih (by simpa [Ne.symm hx] using h)]
theorem Z2 {l r:List Int} {n:Int} (h:n∉l) (hr:n∈r):G3 (l++r) n=l.length+G3 r n:=by
 induction l with
 |nil=>simp
 |cons x l ih=>
  simp only [List.mem_cons,not_or] at h
  simp only [List.cons_append,G3,if_neg (Ne.symm h.1),ih h.2,cr5,Int.natCast_add]
  have:=bd2.2 hr
  rw [if_neg (by omega)]
  omega
theorem bN6 {a:Int} (h:0≤a):Named a [] (idm a.toNat):=by
 have key:∀ k:Nat,(idm k).length=k∧(∀ n:Int,0≤n→n<k→mget eqI (idm k) n=some n)∧∀ n:Int,(k:Int)≤n→mget eqI (idm k) n=none:=by
  intro k
  induction k with
  |zero=>exact ⟨rfl,fun n h1 h2=>by omega,fun n _=>rfl⟩
  |succ k ih=>
   obtain ⟨h1,h2,h3⟩:=ih
   rw [bu4]
   refine ⟨by rw [bu5 (h3 k (Int.le_refl _)),h1],fun n h4 h5=>?_,fun n h4=>?_⟩
   ·rw [I0]
    split
    ·rename_i h6;rw [h6]
    ·exact h2 n h4 (by omega)
   ·rw [I0,if_neg (by omega)]
    exact h3 n (by omega)
 obtain ⟨h1,h2,h3⟩:=key a.toNat
 exact ⟨by rw [h1];simp;omega,fun n h4 h5=>h2 n h4 (by omega),fun n hn=>by simp at hn,fun n h4 _=>h3 n (by omega)⟩
theorem bN7 {a:Int} {W:List Int} {m:List (Int×Int)} (N:Named a W m) (ha:0≤a) {x:Int} (hx:x∉W) (hxa:a≤x):Named a (W++[x]) (mput eqI m x m.length):=by
 refine ⟨?_,fun n h1 h2=>?_,fun n hn=>?_,fun n h1 h2=>?_⟩
 ·rw [bu5 (N.out x hxa hx),cs3,cs6]
  have:=N.len
  omega
 ·rw [I0,if_neg (by omega)]
  exact N.par n h1 h2
 ·rw [I0]
  by_cases h:x=n
  ·subst h
   rw [if_pos rfl,Z2 hx (by simp)]
   have:=N.len
   simp [G3]
   omega
  ·rw [if_neg h]
   have hn':n∈W:=by simpa [Ne.symm h] using hn
   rw [ab1 hn']
   exact N.wr n hn'
 ·simp only [cs9,cr0,not_or] at h2
  rw [I0,if_neg (Ne.symm h2.2)]
  exact N.out n h1 h2.1
theorem aI5 {a:Int} (ha:0≤a):∀ (l W:List Int) (m:List (Int×Int)),Named a W m→(W++l).Nodup→(∀ x∈l,a≤x)→Named a (W++l) (H4 m l).2∧(H4 m l).1=l.map fun n=>a+G3 (W++l) n:=by
 have key:∀ (l W:List Int) (s:List Int×List (Int×Int)),Named a W s.2→(W++l).Nodup→(∀ x∈l,a≤x)→Named a (W++l) (l.foldl aV5 s).2∧(l.foldl aV5 s).1=s.1++l.map fun n=>a+G3 (W++l) n:=by
  intro l
  induction l with
  |nil=>intro W s N _ _;simpa using N
  |cons x r ih=>
   intro W s N hn hl
   have hx:x∉W:=by
    intro h
    exact (List.nodup_append.1 hn).2.2 x h x (by simp) rfl
   have N':=bN7 N ha hx (hl x (by simp))
   have:=ih (W++[x]) (aV5 s x) N' (by rw [cs8];exact hn) (fun y hy=>hl y (by simp [hy]))
   rw [cs8] at this
   refine ⟨this.1,?_⟩
   rw [List.foldl_cons,this.2]
   simp only [aV5,List.singleton_append,List.map_cons,cs8]
   congr 1
   have h1:G3 (W++x::r) x=W.length:=by
    rw [Z2 hx (by simp)]
    simp [G3]
   rw [h1]
   have:=N.len
   rw [this]
 intro l W m N hn hl
 have:=key l W ([],m) N hn hl
 simpa [H4] using this
theorem ay2 {a:Int} (ha:0≤a):∀ (l:List Ins) (W:List Int) (m:List (Int×Int)),Named a W m→(W++wr l).Nodup→(∀ x∈wr l,a≤x)→Named a (W++wr l) (P8 m l)
 |[],W,m,N,_,_=>by simpa [wr,P8] using N
 |x::r,W,m,N,hn,hl=>by
  rw [L6,←cs8] at hn ⊢
  have h1:=aI5 ha x.to W m N (List.nodup_append.1 hn).1 (fun y hy=>hl y (by rw [L6];simp [hy]))
  exact ay2 ha r (W++x.to) _ h1.1 hn (fun y hy=>hl y (by rw [L6];simp [hy]))
theorem aP4 {a:Int} {W:List Int} {m:List (Int×Int)} (N:Named a W m) {n:Int} (h:(0≤n∧n<a)∨(a≤n∧n∈W)):getI m n=C2 a W n:=by
 unfold getI C2
 rcases h with h|h
 ·rw [N.par n h.1 h.2,if_pos h.2];rfl
 ·rw [N.wr n h.2,if_neg (by omega)];rfl
theorem al0 {a:Int} {W V:List Int} {n:Int} (h:n<a∨n∈W):C2 a (W++V) n=C2 a W n:=by
 unfold C2
 split
 ·rfl
 ·rename_i h1
  rw [ab1 (h.resolve_left h1)]
theorem bf2 {a:Int} (ha:0≤a):∀ (l:List Ins) (W V:List Int) (m:List (Int×Int)),Named a W m→(W++wr l).Nodup→(∀ x∈wr l,a≤x)→D8 a W l=true→(∀ x∈l,∀ n∈x.from_,0≤n)→(∀ x∈W,a≤x)→
  Z1 m l=l.map fun x=>⟨x.op,x.n,x.to.map (C2 a (W++wr l++V)),x.from_.map (C2 a (W++wr l++V)),x.body⟩
 |[],_,_,_,_,_,_,_,_,_=>rfl
 |x::r,W,V,m,N,hn,hl,ht,hf,hW=>by
  have hn':=hn
  rw [L6,←cs8] at hn'
  have hlx:∀ y∈x.to,a≤y:=fun y hy=>hl y (by rw [L6];simp [hy])
  have h1:=aI5 ha x.to W m N (List.nodup_append.1 hn').1 hlx
  simp only [D8,cq2,ct2] at ht
  have ih:=bf2 ha r (W++x.to) V _ h1.1 hn' (fun y hy=>hl y (by rw [L6];simp [hy])) ht.2 (fun y hy=>hf y (by simp [hy])) (fun y hy=>by
   rcases cs9.1 hy with h|h
   ·exact hW y h
   ·exact hlx y h)
  have hw:W++wr (x::r)++V=W++x.to++wr r++V:=by rw [L6];simp
  simp only [Z1,List.map_cons]
  rw [ih,hw]
  congr 1
  simp only [bN4,Ins.mk.injEq,true_and,and_true]
  constructor
  ·rw [h1.2]
   apply List.map_congr_left
   intro n hn
   rw [show W++x.to++wr r++V=(W++x.to)++(wr r++V) by simp,al0 (.inr (by simp [hn]))]
   unfold C2
   rw [if_neg (by have:=hlx n hn;omega)]
  ·apply List.map_congr_left
   intro n hn
   have ht1:=ht.1 n hn
   have h0:=hf x (by simp) n hn
   have hin:n<a∨n∈W:=by simpa [List.contains_iff_mem] using ht1
   rw [show W++x.to++wr r++V=W++(x.to++wr r++V) by simp,al0 hin]
   refine aP4 N ?_
   by_cases h2:n<a
   ·exact .inl ⟨h0,h2⟩
   ·exact .inr ⟨by omega,hin.resolve_left h2⟩
theorem bB7 {b:List Ins} (h:H0 b=true) {k:Nat} (hk:k<b.length):W8 (b.getD k ins0).to (b.getD k ins0).from_ (b.getD k ins0).body=true:=
 V6.2 ((L1 _).1 (bd8 h (H5 hk ins0)))
theorem bX3 (a:Int) (b:List Ins) (c d:List Int) (hp:H0 b=true∧c.length≤17592186044416):vc (EV [(41,cCheck),(72,cOwn),(71,cOld),(73,cCalledP)]) (bN5 a b c) Go.Proofs.Tryd.f39 cPlain (a,b,c,d,()):=by
 rw [bX2 a b c d]
 intro e0 e1 e2 e3 e4 hb hc _
 have hlc:c.length≤140737488355328:=hc.len
 have he0:e0=((F6 ⟨a,b,c,d⟩).1.params,(F6 ⟨a,b,c,d⟩).1.code,(F6 ⟨a,b,c,d⟩).1.out,(F6 ⟨a,b,c,d⟩).1.at_,(F6 ⟨a,b,c,d⟩).2,()):=rfl
 have he4:e4=ins0:=rfl
 refine ⟨fun h=>?_,fun h=>?_⟩
 ·have h:C0 ⟨a,b,c,d⟩≠0:=by simpa [e1] using h
  rw [he0]
  unfold F6
  rw [if_pos h]
  rfl
 have h:C0 ⟨a,b,c,d⟩=0:=by simpa [e1] using h
 have C:=aV2 h
 have hlb:=C.len
 have N0:=bN6 C.pos
 have hnd:=E3.1 C.once
 have hpl:=bf2 C.pos b [] [] (idm a.toNat) N0 (by simpa using hnd) C.new C.there (fun x hx n hn=>(C.fromR x hx n hn).1) (fun x hx=>by simp at hx)
 have hM:=ay2 C.pos b [] (idm a.toNat) N0 (by simpa using hnd) C.new
 rw [List.nil_append] at hM
 simp only [List.nil_append,List.append_nil] at hpl
 have he0:e0=(a,Z1 (idm a.toNat) b,c.map (getI (P8 (idm a.toNat) b)),[],0,()):=by
  rw [he0]
  unfold F6
  rw [if_neg (by simpa using h)]
  have:c.map (getI (P8 (idm a.toNat) b))=c.map (C2 a (wr b)):=by
   apply List.map_congr_left
   intro n hn
   refine aP4 hM ?_
   have h1:=(C.outR n hn).1
   rcases C.outT n hn with h2|h2
   ·exact .inl ⟨h1,h2⟩
   ·exact .inr ⟨C.new n h2,h2⟩
  rw [this,hpl]
 clear_value e0 e4
 subst he0 he4
 dsimp only [e2,e3]
 simp only [true_and,and_true]
 refine ⟨⟨(0,[],()),rfl,rfl,Int.le_refl _,.inr rfl,rfl⟩,?_⟩
 rintro ⟨i,m,⟨⟩⟩ ⟨h0,h1,h2⟩
 dsimp only at h0 h1 h2 ⊢
 subst h2
 obtain ⟨k,rfl⟩:=cq5 h0
 simp only [cq3]
 refine ⟨fun hlt=>?_,fun hge=>?_⟩
 ·have hlt:(k:Int)<a:=cq9 hlt
  have:=C.few
  refine ⟨((k+1:Nat),idm (k+1),()),by rw [F8 (by omega) (by omega)];rfl,?_,⟨by omega,.inl (by dsimp only;omega),by rw [cq3]⟩,by dsimp only;omega⟩
  rw [bu4]
 have hk:k=a.toNat:=by have:¬ (k:Int)<a:=cq8 hge;omega
 subst hk
 clear h0 h1 hge
 refine ⟨hp.2,⟨(0,idm a.toNat,[],()),rfl,rfl,rfl,Int.le_refl _,by dsimp only;omega,rfl,rfl⟩,?_⟩
 rintro ⟨i,m,out,⟨⟩⟩ ⟨h0,h1,h2,h3⟩
 dsimp only at h0 h1 h2 h3 ⊢
 subst h2 h3
 obtain ⟨k,rfl⟩:=cq5 h0
 simp only [cq3]
 refine ⟨fun hlt=>?_,fun hge=>?_⟩
 ·have hlt:(k:Int)<b.length:=cq9 hlt
  refine ⟨⟨h0,hlt⟩,bB7 hp.1 (by omega),?_,((k+1:Nat),P8 (idm a.toNat) (b.take (k+1)),Z1 (idm a.toNat) (b.take (k+1)),()),B7 (by omega) (by omega:b.length≤140737488355328),?_,?_,⟨by omega,by dsimp only;omega,by rw [cq3],by rw [cq3]⟩,by dsimp only;omega⟩
  ·rw [ar8,ct1,cs6];omega
  ·dsimp only
   rw [A4 (by omega) ins0,bm9]
  ·dsimp only
   rw [A4 (by omega) ins0,aI4]
   rfl
 have hk:k=b.length:=by have:¬ (k:Int)<b.length:=cq8 hge;omega
 subst hk
 rw [ct0]
 clear h0 h1 hge
 refine ⟨⟨(0,c,()),rfl,rfl,Int.le_refl _,by dsimp only;omega,by simp⟩,?_⟩
 rintro ⟨i,l,⟨⟩⟩ ⟨h0,h1,h2⟩
 dsimp only at h0 h1 h2 ⊢
 subst h2
 obtain ⟨k,rfl⟩:=cq5 h0
 simp only [cq3]
 have hA:((c.take k).map (getI (P8 (idm a.toNat) b))).length=k:=by simp;omega
 refine ⟨fun hlt=>?_,fun hge=>?_⟩
 ·have hlt:(k:Int)<c.length:=cq9 hlt
  rw [S0 hA (by omega),an7 hA (by omega),an8 hA (by omega)]
  refine ⟨⟨h0,hlt⟩,⟨h0,hlt⟩,((k+1:Nat),(c.take (k+1)).map (getI (P8 (idm a.toNat) b))++c.drop (k+1),()),B7 (by omega) hlc,?_,⟨by omega,by dsimp only;omega,by dsimp only;rw [cq3]⟩,by dsimp only;omega⟩
  dsimp only
  rw [A4 (by omega) 0,List.map_append]
  rfl
 ·have hk:k=c.length:=by have:¬ (k:Int)<c.length:=cq8 hge;omega
  subst hk
  simp only [ct0,List.drop_length,List.append_nil]
theorem bn0:D0 prog RG 39 cPlain:=E4 (A6 ad3 (A6 bd7 (A6 bf0 (A6 aV7 B9)))) (fun p=>bN5 p.1 p.2.1 p.2.2.1) (by kernel_rfl) (by kernel_rfl) (by kernel_rfl) fun (a,b,c,d,()) hp=>bX3 a b c d hp
theorem ar9 (b:List Ins) (c:List Int) {k:Nat} (h:k≤b.length):atL b c k=(E1 (b.drop k) c).headD []:=by
 have h1:=au8 c (b.drop k) (b.take k) 0
 rw [List.take_append_drop,ct1,Nat.min_eq_left h,Nat.add_zero] at h1
 rw [h1,V2]
theorem ay3 (b:List Ins) (c:List Int) {k:Nat} (h:k<b.length):E1 (b.drop k) c=ak7 (b.getD k ins0) (atL b c (k+1))::E1 (b.drop (k+1)) c:=by
 rw [List.drop_eq_getElem_cons h]
 simp only [E1]
 rw [←ar9 b c (k:=k+1) (by omega),cr3,cq1 h]
 rfl
def S3 (b:List Ins):Bool:=b.all fun x=>decide (x.from_.length≤17592186044400)&&decide (x.to.length≤17592186044400)
def H2 (n:Int) (l:List Int):Bool:=l.all fun x=>decide (0≤x)&&decide (x<n)
def aa0 (slots cells:Int) (x:RIns):Bool:=
 if x.kind=0 then H2 slots x.ins.from_&&H2 slots x.ins.to else if x.kind=1∨x.kind=2 then H2 slots [x.slot]&&H2 cells [x.cell] else false
def U1 (slots cells:Int) (p:Place):Bool:=H2 (if p.cell then cells else slots) [p.n]
def I9 (c:RCode):Bool:=
 (H2 4001 [c.params]&&H2 65 [c.slots]&&decide (1≤c.slots)&&decide (c.params≤c.cells)&&decide (c.cells≤8000))&&c.code.all (aa0 c.slots c.cells)&&c.out.all (U1 c.slots c.cells)
def cShaped:Con RU:=con [(true,5)] bK0 [one] [.bool] [false] (some fun p=>-9223372036854775808≤p.2.1∧p.2.1<9223372036854775808) fun p=>(I9 ⟨p.1,p.2.1,p.2.2.1,p.2.2.2.1,p.2.2.2.2.1⟩,())
def bn1 (slots cells:Int) (l:List RIns) (o:List Place):Nat→St RU→Ann RU:=fun k s=>match k with
 |0=>⟨[],[.slot 36],[i64],fun p=>0≤p.1∧p.1≤l.length∧(l.take p.1.toNat).all (aa0 slots cells)=true,fun p=>l.length-p.1.toNat,[]⟩
 |_=>⟨[],[.slot 83],[i64],fun p=>0≤p.1∧p.1≤o.length∧(o.take p.1.toNat).all (U1 slots cells)=true,fun p=>o.length-p.1.toNat,[]⟩
theorem bN8 (x1 x2 x3:Int) (l:List RIns) (o:List Place):vc (EV [(92,cIn)]) (bn1 x2 x3 l o) Go.Proofs.Tryd.f60 cShaped (x1,x2,x3,l,o,())=(
 let e0:Bool:=
  ((!List.all [x1] fun (n:den RU.T i64)=>decide ((0:Int)≤n)&&decide (n<(4001:Int)))||
  !List.all [IntKind.i64.wrap (x2-(1:Int))] fun (n:den RU.T i64)=>decide ((0:Int)≤n)&&decide (n<(64:Int)))||
  decide (x3<x1)||
  decide (x3 >(8000:Int));
 let e1:Int:=(↑(List.length l):Int);
 let e2:RIns:=RIns.mk (0:Int) (0:Int) (0:Int) ins0;
 let e3:Int:=(↑(List.length o):Int);
 let e4:Place:=Place.mk false (0:Int);
  Small RU (Sigma.mk (Ty.slice (55:Nat) (Ty.user (1:Nat))) l)→
  Small RU (Sigma.mk (Ty.slice (59:Nat) (Ty.user (2:Nat))) o)→
  (e0=true→(false,())=(I9 (RCode.mk x1 x2 x3 l o),()))∧
  (e0=false→
  (∃ (p:Int×Unit),
  x1=x1∧
  x2=x2∧
  x3=x3∧
  l=l∧
  o=o∧
  e0=e0∧
  l=l∧
  e1=e1∧
  (0:Int)=p.1∧
  x1=x1∧x2=x2∧x3=x3∧l=l∧o=o∧[x1]=[x1]∧(0:Int)≤p.1∧p.1≤e1∧List.all (List.take (Int.toNat p.1) l) (aa0 x2 x3)=true)∧
  ∀ (p:Int×Unit),
 let e0_1:Bool:=
  (!List.all [bif (List.getD l (Int.toNat p.1) e2).kind==(1:Int) then (List.getD l (Int.toNat p.1) e2).slot else (List.getD l (Int.toNat p.1) e2).slot] fun (n:den RU.T i64)=>
  decide ((0:Int)≤n)&&decide (n<bif (List.getD l (Int.toNat p.1) e2).kind==(1:Int) then x2 else x2))||
  !List.all [bif (List.getD l (Int.toNat p.1) e2).kind==(1:Int) then (List.getD l (Int.toNat p.1) e2).cell else (List.getD l (Int.toNat p.1) e2).cell] fun (n:den RU.T i64)=>
  decide ((0:Int)≤n)&&decide (n<bif (List.getD l (Int.toNat p.1) e2).kind==(1:Int) then x3 else x3);
 let e1_1:Bool:=
  (!List.all (List.getD l (Int.toNat p.1) e2).ins.from_ fun (n:den RU.T i64)=>decide ((0:Int)≤n)&&decide (n<x2))||
  !List.all (List.getD l (Int.toNat p.1) e2).ins.to fun (n:den RU.T i64)=>decide ((0:Int)≤n)&&decide (n<x2);
 let e2_1:Bool:=(List.getD l (Int.toNat p.1) e2).kind==(1:Int);
 let e3_1:Bool:=decide (p.1<e1);
 let e4_1:Bool:=bif e2_1 then e2_1 else (List.getD l (Int.toNat p.1) e2).kind==(2:Int);
 let e5:Bool:=(List.getD l (Int.toNat p.1) e2).kind==(0:Int);
  (0:Int)≤p.1∧p.1≤e1∧List.all (List.take (Int.toNat p.1) l) (aa0 x2 x3)=true→
  (e3_1=true→
  ((0:Int)≤p.1∧p.1<e1)∧
  (e5=true→
  (e1_1=true→(false,())=(I9 (RCode.mk x1 x2 x3 l o),()))∧
  (e1_1=false→
  ∃ (p':Int×Unit),
  x1=x1∧
  x2=x2∧
  x3=x3∧
  l=l∧
  o=o∧
  e0=e0∧
  l=l∧
  e1=e1∧
  IntKind.i64.wrap (p.1+(1:Int))=p'.1∧
  x1=x1∧
  x2=x2∧
  x3=x3∧
  l=l∧
  o=o∧
  [x1]=[x1]∧
  ((0:Int)≤p'.1∧p'.1≤e1∧List.all (List.take (Int.toNat p'.1) l) (aa0 x2 x3)=true)∧
  List.length l-Int.toNat p'.1<List.length l-Int.toNat p.1))∧
  (e5=false→
  (e4_1=true→
  (e0_1=true→(false,())=(I9 (RCode.mk x1 x2 x3 l o),()))∧
  (e0_1=false→
  ∃ (p':Int×Unit),
  (bif e2_1 then x1 else x1)=x1∧
  (bif e2_1 then x2 else x2)=x2∧
  (bif e2_1 then x3 else x3)=x3∧
  (bif e2_1 then l else l)=l∧
  (bif e2_1 then o else o)=o∧
  (bif e2_1 then e0 else e0)=e0∧
  (bif e2_1 then l else l)=l∧
  (bif e2_1 then e1 else e1)=e1∧
  IntKind.i64.wrap ((bif e2_1 then p.1 else p.1)+(1:Int))=p'.1∧
  (bif e2_1 then x1 else x1)=x1∧
  (bif e2_1 then x2 else x2)=x2∧
  (bif e2_1 then x3 else x3)=x3∧
  (bif e2_1 then l else l)=l∧
  (bif e2_1 then o else o)=o∧
  (bif e2_1 then [x1] else [x1])=[x1]∧
  ((0:Int)≤p'.1∧p'.1≤e1∧List.all (List.take (Int.toNat p'.1) l) (aa0 x2 x3)=true)∧
  List.length l-Int.toNat p'.1<List.length l-Int.toNat p.1))∧
  (e4_1=false→(false,())=(I9 (RCode.mk x1 x2 x3 l o),()))))∧
  (e3_1=false→
  (∃ (p_1:Int×Unit),
  x1=x1∧
  x2=x2∧
  x3=x3∧
  l=l∧
  o=o∧
  e0=e0∧
  l=l∧
  e1=e1∧
  p.1=p.1∧
  e3_1=e3_1∧
  o=o∧
  e3=e3∧
  (0:Int)=p_1.1∧
  x1=x1∧
  x2=x2∧
  x3=x3∧l=l∧o=o∧[x1]=[x1]∧(0:Int)≤p_1.1∧p_1.1≤e3∧List.all (List.take (Int.toNat p_1.1) o) (U1 x2 x3)=true)∧
  ∀ (p_1:Int×Unit),
 let e0_2:Bool:=
  !List.all [bif (List.getD o (Int.toNat p_1.1) e4).cell then (List.getD o (Int.toNat p_1.1) e4).n else (List.getD o (Int.toNat p_1.1) e4).n] fun (n:den RU.T i64)=>
  decide ((0:Int)≤n)&&decide (n<bif (List.getD o (Int.toNat p_1.1) e4).cell then x3 else x2);
 let e1_2:Bool:=(List.getD o (Int.toNat p_1.1) e4).cell;
 let e2:Bool:=decide (p_1.1<e3);
  (0:Int)≤p_1.1∧p_1.1≤e3∧List.all (List.take (Int.toNat p_1.1) o) (U1 x2 x3)=true→
  (e2=true→
  ((0:Int)≤p_1.1∧p_1.1<e3)∧
  (e0_2=true→(false,())=(I9 (RCode.mk x1 x2 x3 l o),()))∧
  (e0_2=false→
  ∃ (p':Int×Unit),
  (bif e1_2 then x1 else x1)=x1∧
  (bif e1_2 then x2 else x2)=x2∧
  (bif e1_2 then x3 else x3)=x3∧
  (bif e1_2 then l else l)=l∧
  (bif e1_2 then o else o)=o∧
  (bif e1_2 then e0 else e0)=e0∧
  (bif e1_2 then l else l)=l∧
  (bif e1_2 then e1 else e1)=e1∧
  (bif e1_2 then p.1 else p.1)=p.1∧
  (bif e1_2 then e3_1 else e3_1)=e3_1∧
  (bif e1_2 then o else o)=o∧
  (bif e1_2 then e3 else e3)=e3∧
  IntKind.i64.wrap ((bif e1_2 then p_1.1 else p_1.1)+(1:Int))=p'.1∧
  (bif e1_2 then x1 else x1)=x1∧
  (bif e1_2 then x2 else x2)=x2∧
  (bif e1_2 then x3 else x3)=x3∧
  (bif e1_2 then l else l)=l∧
  (bif e1_2 then o else o)=o∧
  (bif e1_2 then [x1] else [x1])=[x1]∧
  ((0:Int)≤p'.1∧p'.1≤e3∧List.all (List.take (Int.toNat p'.1) o) (U1 x2 x3)=true)∧
  List.length o-Int.toNat p'.1<List.length o-Int.toNat p_1.1))∧
  (e2=false→(true,())=(I9 (RCode.mk x1 x2 x3 l o),()))))):=by kernel_rfl
theorem bB8 (n:Int) (l:List Int):(l.all fun x=>decide (0≤x)&&decide (x<n))=H2 n l:=rfl
theorem aV8 {α:Type} {p:α→Bool} {l:List α} {k:Nat} (d:α) (hk:k<l.length) (h:p (l.getD k d)=false):l.all p=false:=by
 rw [Bool.eq_false_iff]
 intro ha
 have:=ct2.1 ha _ (H5 hk d)
 rw [h] at this
 cases this
theorem as0 {α:Type} {p:α→Bool} {l:List α} {k:Nat} (d:α) (hk:k<l.length) (h:(l.take k).all p=true) (h2:p (l.getD k d)=true):(l.take (k+1)).all p=true:=by
 rw [A4 hk d,List.all_append,h]
 simpa using h2
theorem bN9 (x1 x2 x3:Int) (l:List RIns) (o:List Place) (hp:-9223372036854775808≤x2∧x2<9223372036854775808):vc (EV [(92,cIn)]) (bn1 x2 x3 l o) Go.Proofs.Tryd.f60 cShaped (x1,x2,x3,l,o,()):=by
 rw [bN8 x1 x2 x3 l o]
 intro e0 e1 e2 e3 e4 hsl hso
 have hll:l.length≤140737488355328:=hsl.len
 have hlo:o.length≤140737488355328:=hso.len
 have he0:e0=!(H2 4001 [x1]&&H2 65 [x2]&&decide (1≤x2)&&decide (x1≤x3)&&decide (x3≤8000)):=by
  show (((!H2 4001 [x1])||!H2 64 [IntKind.i64.wrap (x2-1)])||decide (x3<x1)||decide (x3 >8000))=_
  have hw:H2 64 [IntKind.i64.wrap (x2-1)]=(H2 65 [x2]&&decide (1≤x2)):=by
   simp only [H2,List.all_cons,List.all_nil,Bool.and_true]
   by_cases h:x2=-9223372036854775808
   ·subst h;decide
   ·rw [F8 (by omega) (by omega),Bool.eq_iff_iff]
    simp
    omega
  have hx:decide (x3<x1)=!decide (x1≤x3):=by rw [Bool.eq_iff_iff];simp
  have hy:decide (x3 >8000)=!decide (x3≤8000):=by rw [Bool.eq_iff_iff];simp
  rw [hw,hx,hy]
  cases H2 4001 [x1]<;>cases H2 65 [x2]<;>cases decide (1≤x2)<;>cases decide (x1≤x3)<;>rfl
 have hS:I9 ⟨x1,x2,x3,l,o⟩=(!e0&&l.all (aa0 x2 x3)&&o.all (U1 x2 x3)):=by
  rw [he0,Bool.not_not]
  rfl
 clear_value e0
 rw [hS]
 dsimp only [e1,e2,e3,e4]
 simp only [true_and,and_true,Bool.cond_self,bB8]
 refine ⟨fun h=>by rw [h];rfl,fun h=>?_⟩
 rw [h]
 simp only [Bool.not_false,Bool.true_and]
 refine ⟨⟨(0,()),rfl,Int.le_refl _,by dsimp only;omega,by simp⟩,?_⟩
 rintro ⟨i,⟨⟩⟩ ⟨h0,h1,h2⟩
 dsimp only at h0 h1 h2 ⊢
 obtain ⟨k,rfl⟩:=cq5 h0
 simp only [cq3] at h2 ⊢
 have hd:(⟨0,0,0,ins0⟩:RIns)=rins0:=rfl
 rw [hd]
 refine ⟨fun hlt=>?_,fun hge=>?_⟩
 ·have hlt:(k:Int)<l.length:=cq9 hlt
  have no:aa0 x2 x3 (l.getD k rins0)=false→(false,())=(l.all (aa0 x2 x3)&&o.all (U1 x2 x3),()):=fun hf=>by rw [aV8 rins0 (by omega) hf];rfl
  have yes:aa0 x2 x3 (l.getD k rins0)=true→∃ p':Int×Unit,IntKind.i64.wrap ((k:Int)+1)=p'.1∧(0≤p'.1∧p'.1≤(l.length:Int)∧(l.take p'.1.toNat).all (aa0 x2 x3)=true)∧l.length-p'.1.toNat<l.length-k:=fun ht=>
   ⟨((k+1:Nat),()),B7 (by omega) hll,⟨by omega,by dsimp only;omega,by dsimp only;rw [cq3];exact as0 rins0 (by omega) h2 ht⟩,by dsimp only;omega⟩
  generalize l.getD k rins0=x at no yes ⊢
  refine ⟨⟨h0,hlt⟩,fun hk=>?_,fun hk=>?_⟩
  ·have hk:x.kind=0:=eq_of_beq hk
   have hi:aa0 x2 x3 x=(H2 x2 x.ins.from_&&H2 x2 x.ins.to):=by simp only [aa0,if_pos hk]
   rw [hi] at no yes
   refine ⟨fun h3=>no ?_,fun h3=>yes ?_⟩
   ·revert h3;cases H2 x2 x.ins.from_<;>cases H2 x2 x.ins.to<;>simp
   ·revert h3;cases H2 x2 x.ins.from_<;>cases H2 x2 x.ins.to<;>simp
  ·have hk:¬ x.kind=0:=by simpa using hk
   refine ⟨fun h3=>?_,fun h3=>?_⟩
   ·have h3:x.kind=1∨x.kind=2:=by
     by_cases h4:x.kind=1
     ·exact .inl h4
     ·right
      rw [show (x.kind==1)=false from beq_eq_false_iff_ne.2 h4] at h3
      exact eq_of_beq h3
    have hi:aa0 x2 x3 x=(H2 x2 [x.slot]&&H2 x3 [x.cell]):=by simp only [aa0,if_neg hk,if_pos h3]
    rw [hi] at no yes
    refine ⟨fun h3=>no ?_,fun h3=>yes ?_⟩
    ·revert h3;cases H2 x2 [x.slot]<;>cases H2 x3 [x.cell]<;>simp
    ·revert h3;cases H2 x2 [x.slot]<;>cases H2 x3 [x.cell]<;>simp
   ·have h3:¬ (x.kind=1∨x.kind=2):=by
     rintro (h4|h4)
     ·rw [h4] at h3;cases h3
     ·rw [h4] at h3;cases h3
    exact no (by simp only [aa0,if_neg hk,if_neg h3])
 ·have hk:k=l.length:=by have:¬ (k:Int)<l.length:=cq8 hge;omega
  subst hk
  rw [ct0] at h2
  rw [h2]
  simp only [Bool.true_and]
  refine ⟨⟨(0,()),rfl,Int.le_refl _,by dsimp only;omega,by simp⟩,?_⟩
  rintro ⟨i,⟨⟩⟩ ⟨i0,i1,i2⟩
  dsimp only at i0 i1 i2 ⊢
  obtain ⟨j,rfl⟩:=cq5 i0
  simp only [cq3] at i2 ⊢
  have hd:(⟨false,0⟩:Place)=place0:=rfl
  rw [hd]
  refine ⟨fun hlt=>?_,fun hge=>?_⟩
  ·have hlt:(j:Int)<o.length:=cq9 hlt
   have hpl:∀ x:Place,H2 (bif x.cell then x3 else x2) [x.n]=U1 x2 x3 x:=fun x=>by
    unfold U1
    cases x.cell<;>rfl
   rw [hpl]
   refine ⟨⟨i0,hlt⟩,fun hf=>?_,fun ht=>⟨((j+1:Nat),()),B7 (by omega) hlo,⟨by omega,by dsimp only;omega,?_⟩,by dsimp only;omega⟩⟩
   ·rw [aV8 place0 (by omega) (Bool.not_eq_true' _▸hf)]
   ·dsimp only
    rw [cq3]
    exact as0 place0 (by omega) i2 (Bool.not_eq_false' _▸ht)
  ·have hj:j=o.length:=by have:¬ (j:Int)<o.length:=cq8 hge;omega
   subst hj
   rw [ct0] at i2
   rw [i2]
theorem bf3:D0 prog RG 60 cShaped:=E4 (A6 bV8 B9) (fun p=>bn1 p.2.1 p.2.2.1 p.2.2.2.1 p.2.2.2.2.1) (by kernel_rfl) (by kernel_rfl) (by kernel_rfl) fun (x1,x2,x3,l,o,()) hp=>bN9 x1 x2 x3 l o hp
abbrev Holds:=List (Place×Int)
def getF (m:Holds) (n:Int):Int:=(mget eqP m ⟨false,n⟩).getD 0
def cGetF:Con RU:=⟨[one,one],[i64,mapP],[.d 0,.ptr 0 0],[.box 83 [.map 1],.map 1],none,none,[one],[i64,mapP],[.d 0],[.box 83 [.map 1],.map 1],fun p=>(getF p.2.1 p.1,p.2),[0,1],[],[]⟩
def cNewF:Con RU:=⟨[one,one,one],[i64,i64,mapP],[.d 0,.ptr 0 0,.ptr 1 0],[.box 3 [.d 1],.box 83 [.map 2],.map 2],some fun p=>0≤p.2.1∧p.2.1≤4611686018427387904,none,[one],[i64,i64,mapP],[.d 0],[.box 3 [.d 1],.box 83 [.map 2],.map 2],
 fun p=>(p.2.1,p.2.1+1,mput eqP p.2.2.1 ⟨false,p.1⟩ p.2.1,()),[1],[],[]⟩
def ak2 (s:List Int×Int×Holds) (n:Int):List Int×Int×Holds:=(s.1++[s.2.1],s.2.1+1,mput eqP s.2.2 ⟨false,n⟩ s.2.1)
def F4 (nx:Int) (m:Holds) (l:List Int):List Int×Int×Holds:=l.foldl ak2 ([],nx,m)
def cCalledF:Con RU:=⟨[(true,5),one,one],[i64,i64,ints,ints,inss,i64,mapP],[.d 0,.d 1,.d 2,.d 3,.d 4,.clo 90 [0,1],.clo 91 [1]],[.box 3 [.d 5],.box 83 [.map 2],.map 6],some fun p=>W8 p.2.2.1 p.2.2.2.1 p.2.2.2.2.1=true∧0≤p.2.2.2.2.2.1∧p.2.2.2.2.2.1≤2305843009213693952,none,
 [(true,5)],[i64,i64,ints,ints,inss,i64,mapP],[.d 0,.d 1,.d 2,.d 3,.d 4],[.box 3 [.d 5],.box 83 [.map 2],.map 6],
 fun p=>(p.1,p.2.1,(F4 p.2.2.2.2.2.1 p.2.2.2.2.2.2.1 p.2.2.1).1,p.2.2.2.1.map (getF p.2.2.2.2.2.2.1),p.2.2.2.2.1,(F4 p.2.2.2.2.2.1 p.2.2.2.2.2.2.1 p.2.2.1).2.1,(F4 p.2.2.2.2.2.1 p.2.2.2.2.2.2.1 p.2.2.1).2.2,()),[1],[],[]⟩
def aV9 (x1 x2:Int) (x3 x4:List Int) (x5:List Ins) (nx:Int) (m:Holds):Nat→St RU→Ann RU:=fun k s=>match k with
 |0=>⟨[],[.slot 20,.row 896],[i64,inss],fun p=>0≤p.1∧p.1≤x4.length∧p.2.1=[⟨x1,x2,x3,(x4.take p.1.toNat).map (getF m)++x4.drop p.1.toNat,x5⟩],fun p=>x4.length-p.1.toNat,[]⟩
 |_=>⟨[],[.slot 36,.row 896,.box 1000000 0,.row 1000002],[i64,inss,i64,mapP],fun p=>0≤p.1∧p.1≤x3.length∧p.2.1=[⟨x1,x2,(F4 nx m (x3.take p.1.toNat)).1++x3.drop p.1.toNat,x4.map (getF m),x5⟩]∧p.2.2.1=(F4 nx m (x3.take p.1.toNat)).2.1∧p.2.2.2.1=(F4 nx m (x3.take p.1.toNat)).2.2,fun p=>x3.length-p.1.toNat,[]⟩
theorem ch1 (n:Int) (m:Holds):vc (EV []) noL Go.Proofs.Tryd.f91 cGetF (n,m,())=((Option.getD (mget (E8 RU (Ty.user (2:Nat))) m (Place.mk false n)) (0:Int),m,())=(getF m n,m,())):=by kernel_rfl
theorem ch2 (n nx:Int) (m:Holds):vc (EV []) noL Go.Proofs.Tryd.f90 cNewF (n,nx,m,())=(
 let e0:Int:=IntKind.i64.wrap (nx+(1:Int));
  (IntKind.i64.wrap (e0-(1:Int)),e0,mput (E8 RU (Ty.user (2:Nat))) m (Place.mk false n) nx,())=(nx,nx+(1:Int),mput eqP m (Place.mk false n) nx,())):=by kernel_rfl
theorem bB9 (x1 x2:Int) (x3 x4:List Int) (x5:List Ins) (nx:Int) (m:Holds):vc (EV [(96,cBody),(91,cGetF),(90,cNewF)]) (aV9 x1 x2 x3 x4 x5 nx m) Go.Proofs.Tryd.f73 cCalledF (x1,x2,x3,x4,x5,nx,m,())=(
 let e0:Ins:=Ins.mk (0:Int) (0:Int) [] [] [];
 let e1:List Ins:=[Ins.mk x1 x2 x3 x4 x5];
 let e2:Int:=(↑(List.length x4):Int);
  Small RU (Sigma.mk (Ty.slice (3:Nat) (Ty.int IntKind.i64)) x3)→
  Small RU (Sigma.mk (Ty.slice (3:Nat) (Ty.int IntKind.i64)) x4)→
  Small RU (Sigma.mk (Ty.slice (52:Nat) (Ty.user (0:Nat))) x5)→
  (List.length e1≤(1599289640354:Nat)∧H0 e1=true)∧
  ((0:Int)≤(0:Int)∧(0:Int)<(↑(List.length e1):Int))∧
  (∃ (p:Int×List Ins×Unit),
  x1=x1∧
  x2=x2∧
  x3=x3∧
  x4=x4∧
  x5=x5∧
  (0:Int)=(0:Int)∧
  e2=e2∧
  (0:Int)=p.1∧
  nx=nx∧
  m=m∧
  x1=x1∧
  x2=x2∧
  x3=x3∧
  x4=x4∧
  x5=x5∧
  (0:Int)=(0:Int)∧
  (0:Int)=(0:Int)∧
  e1=e1∧
  e1=p.2.1∧
  x1=x1∧
  x2=x2∧
  (0:Int)=(0:Int)∧
  (0:Int)=(0:Int)∧
  x5=x5∧
  (0:Int)≤p.1∧
  p.1≤e2∧p.2.1=[Ins.mk x1 x2 x3 (List.map (getF m) (List.take (Int.toNat p.1) x4)++List.drop (Int.toNat p.1) x4) x5])∧
  ∀ (p:Int×List Ins×Unit),
 let e0_1:Ins:=List.getD p.2.1 (0:Nat) e0;
 let e1_1:Bool:=decide (p.1<e2);
 let e2_1:Int:=p.1;
 let e3:List Ins:=p.2.1;
 let e4:Int:=(↑(List.length e0_1.to):Int);
  (0:Int)≤e2_1∧e2_1≤e2∧e3=[Ins.mk x1 x2 x3 (List.map (getF m) (List.take (Int.toNat e2_1) x4)++List.drop (Int.toNat e2_1) x4) x5]→
  (e1_1=true→
  ((0:Int)≤e2_1∧e2_1<(↑(List.length e0_1.from_):Int))∧
  (True∧m=m∧True)∧
  ((0:Int)≤e2_1∧e2_1<(↑(List.length e0_1.from_):Int))∧
  ∃ (p':Int×List Ins×Unit),
  x1=x1∧
  x2=x2∧
  x3=x3∧
  x4=x4∧
  x5=x5∧
  (0:Int)=(0:Int)∧
  e2=e2∧
  IntKind.i64.wrap (e2_1+(1:Int))=p'.1∧
  nx=nx∧
  m=m∧
  x1=x1∧
  x2=x2∧
  x3=x3∧
  x4=x4∧
  x5=x5∧
  (0:Int)=(0:Int)∧
  (0:Int)=(0:Int)∧
  e1=e1∧
  List.set e3 (0:Nat)
  (Ins.mk e0_1.op e0_1.n e0_1.to (List.set e0_1.from_ (Int.toNat e2_1) (getF m (List.getD e0_1.from_ (Int.toNat e2_1) (0:Int))))
  e0_1.body)=
  p'.2.1∧
  x1=x1∧
  x2=x2∧
  (0:Int)=(0:Int)∧
  (0:Int)=(0:Int)∧
  x5=x5∧
  ((0:Int)≤p'.1∧
  p'.1≤e2∧
  p'.2.1=
  [Ins.mk x1 x2 x3 (List.map (getF m) (List.take (Int.toNat p'.1) x4)++List.drop (Int.toNat p'.1) x4) x5])∧
  List.length x4-Int.toNat p'.1<List.length x4-Int.toNat e2_1)∧
  (e1_1=false→
  (∃ (p:Int×List Ins×Int×List (Place×Int)×Unit),
  x1=x1∧
  x2=x2∧
  x3=x3∧
  x4=x4∧
  x5=x5∧
  (0:Int)=(0:Int)∧
  e2=e2∧
  e2_1=e2_1∧
  e1_1=e1_1∧
  (0:Int)=(0:Int)∧
  e4=e4∧
  (0:Int)=p.1∧
  nx=p.2.2.1∧
  m=p.2.2.2.1∧
  x1=x1∧
  x2=x2∧
  x3=x3∧
  x4=x4∧
  x5=x5∧
  (0:Int)=(0:Int)∧
  (0:Int)=(0:Int)∧
  e1=e1∧
  e3=p.2.1∧
  x1=x1∧
  x2=x2∧
  (0:Int)=(0:Int)∧
  (0:Int)=(0:Int)∧
  x5=x5∧
  (0:Int)≤p.1∧
  p.1≤(↑(List.length x3):Int)∧
  p.2.1=
  [Ins.mk x1 x2 ((F4 nx m (List.take (Int.toNat p.1) x3)).1++List.drop (Int.toNat p.1) x3)
  (List.map (getF m) x4) x5]∧
  p.2.2.1=(F4 nx m (List.take (Int.toNat p.1) x3)).2.1∧
  p.2.2.2.1=(F4 nx m (List.take (Int.toNat p.1) x3)).2.2)∧
  ∀ (p:Int×List Ins×Int×List (Place×Int)×Unit),
 let e0_2:Int:=p.2.2.1;
 let e1_2:Ins:=List.getD p.2.1 (0:Nat) e0;
 let e2_2:List (Place×Int):=p.2.2.2.1;
 let e3:Int:=p.1;
 let e4_1:List Ins:=p.2.1;
 let e5:Bool:=decide (e3<e4);
 let e6:Int×List (Place×Int):=(F4 nx m (List.take (Int.toNat e3) x3)).2;
  (0:Int)≤e3∧
  e3≤(↑(List.length x3):Int)∧
  e4_1=[Ins.mk x1 x2 ((F4 nx m (List.take (Int.toNat e3) x3)).1++List.drop (Int.toNat e3) x3) (List.map (getF m) x4) x5]∧e0_2=e6.1∧e2_2=e6.2→
  (e5=true→
  ((0:Int)≤e3∧e3<(↑(List.length e1_2.to):Int))∧
  (((0:Int)≤e0_2∧e0_2≤(4611686018427387904:Int))∧True)∧
  ((0:Int)≤e3∧e3<(↑(List.length e1_2.to):Int))∧
  ∃ (p':Int×List Ins×Int×List (Place×Int)×Unit),
  x1=x1∧
  x2=x2∧
  x3=x3∧
  x4=x4∧
  x5=x5∧
  (0:Int)=(0:Int)∧
  e2=e2∧
  e2_1=e2_1∧
  e1_1=e1_1∧
  (0:Int)=(0:Int)∧
  e4=e4∧
  IntKind.i64.wrap (e3+(1:Int))=p'.1∧
  e0_2+(1:Int)=p'.2.2.1∧
  mput eqP e2_2 (Place.mk false (List.getD e1_2.to (Int.toNat e3) (0:Int))) e0_2=p'.2.2.2.1∧
  x1=x1∧
  x2=x2∧
  x3=x3∧
  x4=x4∧
  x5=x5∧
  (0:Int)=(0:Int)∧
  (0:Int)=(0:Int)∧
  e1=e1∧
  List.set e4_1 (0:Nat) (Ins.mk e1_2.op e1_2.n (List.set e1_2.to (Int.toNat e3) e0_2) e1_2.from_ e1_2.body)=
  p'.2.1∧
  x1=x1∧
  x2=x2∧
  (0:Int)=(0:Int)∧
  (0:Int)=(0:Int)∧
  x5=x5∧
  ((0:Int)≤p'.1∧
  p'.1≤(↑(List.length x3):Int)∧
  p'.2.1=
  [Ins.mk x1 x2
  ((F4 nx m (List.take (Int.toNat p'.1) x3)).1++List.drop (Int.toNat p'.1) x3)
  (List.map (getF m) x4) x5]∧
  p'.2.2.1=(F4 nx m (List.take (Int.toNat p'.1) x3)).2.1∧
  p'.2.2.2.1=(F4 nx m (List.take (Int.toNat p'.1) x3)).2.2)∧
  List.length x3-Int.toNat p'.1<List.length x3-Int.toNat e3)∧
  (e5=false→
  (x1,x2,e1_2.to,e1_2.from_,x5,e0_2,e2_2,())=(x1,x2,(F4 nx m x3).1,List.map (getF m) x4,x5,(F4 nx m x3).2.1,(F4 nx m x3).2.2,())))):=by kernel_rfl
theorem ch3 (n:Int) (m:Holds):vc (EV []) noL Go.Proofs.Tryd.f91 cGetF (n,m,()):=by
 rw [ch1 n m]
 rfl
theorem bC0:D0 prog RG 91 cGetF:=E4 B9 (fun _=>noL) (by kernel_rfl) (by kernel_rfl) (by kernel_rfl) fun (n,m,()) _=>ch3 n m
theorem ch4 (n nx:Int) (m:Holds) (hp:0≤nx∧nx≤4611686018427387904):vc (EV []) noL Go.Proofs.Tryd.f90 cNewF (n,nx,m,()):=by
 rw [ch2 n nx m]
 dsimp only
 rw [F8 (n:=nx+1) (by omega) (by omega),show nx+1-1=nx by omega,F8 (by omega) (by omega)]
 rfl
theorem bC1:D0 prog RG 90 cNewF:=E4 B9 (fun _=>noL) (by kernel_rfl) (by kernel_rfl) (by kernel_rfl) fun (n,nx,m,()) hp=>ch4 n nx m hp
theorem bn2 (nx:Int) (m:Holds) (l:List Int) (x:Int):F4 nx m (l++[x])=ak2 (F4 nx m l) x:=by simp [F4]
theorem V4 (nx:Int) (m:Holds) (l:List Int):(F4 nx m l).1.length=l.length∧(F4 nx m l).2.1=nx+l.length:=by
 have key:∀ (l:List Int) (s:List Int×Int×Holds),(l.foldl ak2 s).1.length=s.1.length+l.length∧(l.foldl ak2 s).2.1=s.2.1+l.length:=by
  intro l
  induction l with
  |nil=>intro s;simp
  |cons x r ih=>
   intro s
   have:=ih (ak2 s x)
   simp only [List.foldl_cons,cr5,ak2,cs3,List.length_nil] at this ⊢
   omega
 have:=key l ([],nx,m)
 simpa [F4] using this
theorem bC2 (x1 x2:Int) (x3 x4:List Int) (x5:List Ins) (nx:Int) (m:Holds) (hp:W8 x3 x4 x5=true∧0≤nx∧nx≤2305843009213693952):vc (EV [(96,cBody),(91,cGetF),(90,cNewF)]) (aV9 x1 x2 x3 x4 x5 nx m) Go.Proofs.Tryd.f73 cCalledF (x1,x2,x3,x4,x5,nx,m,()):=by
 rw [bB9 x1 x2 x3 x4 x5 nx m]
 intro e0 e1 e2 hs3 hs4 _
 have hl3:x3.length≤140737488355328:=hs3.len
 have hl4:x4.length≤140737488355328:=hs4.len
 dsimp only [e0,e1,e2]
 simp only [true_and,and_true]
 refine ⟨⟨by simp,?_⟩,⟨by omega,by simp⟩,⟨(0,_,()),rfl,rfl,Int.le_refl _,by dsimp only;omega,by simp⟩,?_⟩
 ·simp only [H0,Bool.and_true]
  exact (L1 _).2 (V6.1 hp.1)
 rintro ⟨i,l,⟨⟩⟩ ⟨h0,h1,h2⟩
 dsimp only at h0 h1 h2 ⊢
 subst h2
 obtain ⟨k,rfl⟩:=cq5 h0
 simp only [cq3,List.getD_cons_zero,List.set_cons_zero]
 have hA:((x4.take k).map (getF m)).length=k:=by simp;omega
 refine ⟨fun hlt=>?_,fun hge=>?_⟩
 ·have hlt:(k:Int)<x4.length:=cq9 hlt
  rw [S0 hA (by omega),an7 hA (by omega),an8 hA (by omega)]
  refine ⟨⟨h0,hlt⟩,⟨h0,hlt⟩,((k+1:Nat),[⟨x1,x2,x3,(x4.take (k+1)).map (getF m)++x4.drop (k+1),x5⟩],()),B7 (by omega) hl4,?_,⟨by omega,by dsimp only;omega,by dsimp only;rw [cq3]⟩,by dsimp only;omega⟩
  dsimp only
  rw [A4 (by omega) 0,List.map_append]
  rfl
 have hk:k=x4.length:=by have:¬ (k:Int)<x4.length:=cq8 hge;omega
 subst hk
 simp only [ct0,List.drop_length,List.append_nil]
 clear h0 h1 hge hA
 refine ⟨⟨(0,_,nx,m,()),rfl,rfl,rfl,rfl,Int.le_refl _,by dsimp only;omega,by simp [F4],by simp [F4],by simp [F4]⟩,?_⟩
 rintro ⟨i,l,nx2,m2,⟨⟩⟩ ⟨h0,h1,h2,h3,h4⟩
 dsimp only at h0 h1 h2 h3 h4 ⊢
 subst h2 h3 h4
 obtain ⟨k,rfl⟩:=cq5 h0
 simp only [cq3,List.getD_cons_zero,List.set_cons_zero]
 have hN:=V4 nx m (x3.take k)
 have hA:(F4 nx m (x3.take k)).1.length=k:=by rw [hN.1,ct1];omega
 have hB:(F4 nx m (x3.take k)).2.1=nx+k:=by rw [hN.2,ct1];omega
 refine ⟨fun hlt=>?_,fun hge=>?_⟩
 ·have hlt:(k:Int)<x3.length:=cq9 hlt
  rw [S0 hA (by omega),an7 hA (by omega),an8 hA (by omega)]
  have hn:F4 nx m (x3.take (k+1))=ak2 (F4 nx m (x3.take k)) (x3.getD k 0):=by rw [A4 (by omega) 0,bn2]
  refine ⟨⟨h0,hlt⟩,⟨by rw [hB];omega,by rw [hB];omega⟩,⟨h0,hlt⟩,((k+1:Nat),[⟨x1,x2,(F4 nx m (x3.take (k+1))).1++x3.drop (k+1),x4.map (getF m),x5⟩],(F4 nx m (x3.take (k+1))).2.1,(F4 nx m (x3.take (k+1))).2.2,()),B7 (by omega) hl3,?_,?_,?_,⟨by omega,by dsimp only;omega,by dsimp only;rw [cq3],by dsimp only;rw [cq3],by dsimp only;rw [cq3]⟩,by dsimp only;omega⟩
  ·dsimp only;rw [hn];rfl
  ·dsimp only;rw [hn];rfl
  ·dsimp only;rw [hn];rfl
 ·have hk:k=x3.length:=by have:¬ (k:Int)<x3.length:=cq8 hge;omega
  subst hk
  simp only [ct0,List.drop_length,List.append_nil]
theorem aW0:D0 prog RG 73 cCalledF:=E4 (A6 au6 (A6 bC0 (A6 bC1 B9))) (fun p=>aV9 p.1 p.2.1 p.2.2.1 p.2.2.2.1 p.2.2.2.2.1 p.2.2.2.2.2.1 p.2.2.2.2.2.2.1) (by kernel_rfl) (by kernel_rfl) (by kernel_rfl) fun (x1,x2,x3,x4,x5,nx,m,()) hp=>bC2 x1 x2 x3 x4 x5 nx m hp
abbrev SF:=Holds×List Ins×Int
def I5 (s:SF) (x:RIns):SF×Bool:=
 bif x.kind==0 then
  (bif x.ins.from_.all (isP (s.1,())) then (((F4 s.2.2 s.1 x.ins.to).2.2,s.2.1++[⟨x.ins.op,x.ins.n,(F4 s.2.2 s.1 x.ins.to).1,x.ins.from_.map (getF s.1),x.ins.body⟩],(F4 s.2.2 s.1 x.ins.to).2.1),true) else (s,false))
 else match mget eqP s.1 (bif x.kind==2 then ⟨false,x.slot⟩ else ⟨true,x.cell⟩) with
  |none=>(s,false)
  |some n=>((mput eqP s.1 (bif x.kind==2 then ⟨true,x.cell⟩ else ⟨false,x.slot⟩) n,s.2),true)
def I6:List RIns→SF→SF×Bool
 |[],s=>(s,true)
 |x::r,s=>bif (I5 s x).2 then I6 r (I5 s x).1 else (s,false)
def P9 (m:Holds):List Place→List Int×Bool
 |[]=>([],true)
 |p::r=>match mget eqP m p with
  |none=>([],false)
  |some n=>(n::(P9 m r).1,(P9 m r).2)
def M9 (n:Nat):Holds:=(List.range n).foldl (fun (m:Holds) (i:Nat)=>mput eqP m ⟨true,(i:Int)⟩ (i:Int)) []
def G5 (a:Int):SF:=(M9 a.toNat,[],a)
def C1 (c:RCode):VFun×Bool:=
 bif (I6 c.code (G5 c.params)).2 then (⟨c.params,(I6 c.code (G5 c.params)).1.2.1,(P9 (I6 c.code (G5 c.params)).1.1 c.out).1,[]⟩,(P9 (I6 c.code (G5 c.params)).1.1 c.out).2)
 else (⟨c.params,(I6 c.code (G5 c.params)).1.2.1,[],[]⟩,false)
def Q0 (l:List RIns):Bool:=l.all fun x=>au4 x.ins
def cFollow:Con RU:=con [(true,5)] bK0 [(true,4),one] [i64,inss,ints,ints,.bool] [false,false,false,false,false] (some fun p=>0≤p.1∧p.1≤4000∧p.2.2.2.1.length≤16000∧Q0 p.2.2.2.1=true∧p.2.2.2.2.1.length≤17592186044400) fun p=>
 ((C1 ⟨p.1,p.2.1,p.2.2.1,p.2.2.2.1,p.2.2.2.2.1⟩).1.params,(C1 ⟨p.1,p.2.1,p.2.2.1,p.2.2.2.1,p.2.2.2.2.1⟩).1.code,(C1 ⟨p.1,p.2.1,p.2.2.1,p.2.2.2.1,p.2.2.2.2.1⟩).1.out,(C1 ⟨p.1,p.2.1,p.2.2.1,p.2.2.2.1,p.2.2.2.2.1⟩).1.at_,(C1 ⟨p.1,p.2.1,p.2.2.1,p.2.2.2.1,p.2.2.2.2.1⟩).2,())
def bn3 (a:Int) (code:List RIns) (out:List Place):Nat→St RU→Ann RU:=fun k s=>match k with
 |0=>⟨[],[.slot 21,.row 1152],[i64,mapP],fun p=>0≤p.1∧p.1≤a∧p.2.1=M9 p.1.toNat,fun p=>a.toNat-p.1.toNat,[]⟩
 |1=>⟨[],[.slot 37,.row 1152,.box 448 0,.row 900001],[i64,mapP,i64,inss],fun p=>0≤p.1∧p.1≤code.length∧I6 (code.take p.1.toNat) (G5 a)=((p.2.1,p.2.2.2.1,p.2.2.1),true),fun p=>code.length-p.1.toNat,[(.box 384 1,900001,52,.user 0)]⟩
 |_=>⟨[],[.slot 88,.row 900002],[i64,ints],fun p=>0≤p.1∧p.1≤out.length∧P9 (I6 code (G5 a)).1.1 (out.take p.1.toNat)=(p.2.1,true),fun p=>out.length-p.1.toNat,[(.box 384 2,900002,3,i64)]⟩
def L0 (c:RCode):Int:=
 if 16000<c.code.length then 3 else if I9 c=false then 2 else if (c.code.all fun x=>x.kind !=0||D4 x.ins.to)=false then 5 else if (C1 c).2=false then 4 else 0
def cValid:Con RU:=con [(true,5)] bK0 [one] [i64] [false] (some fun p=>-9223372036854775808≤p.2.1∧p.2.1<9223372036854775808∧Q0 p.2.2.2.1=true∧p.2.2.2.2.1.length≤17592186044400) fun p=>(L0 ⟨p.1,p.2.1,p.2.2.1,p.2.2.2.1,p.2.2.2.2.1⟩,())
def bO0 (code:List RIns):Nat→St RU→Ann RU:=fun k s=>match k with
 |0=>⟨[],[.slot 19],[i64],fun p=>0≤p.1∧p.1≤code.length∧((code.take p.1.toNat).all fun x=>x.kind !=0||D4 x.ins.to)=true,fun p=>code.length-p.1.toNat,[]⟩
 |_=>⟨[],[.slot 27],[i64],fun p=>0≤p.1∧p.1≤(code.getD (s.intAt 19).toNat rins0).ins.to.length∧((code.getD (s.intAt 19).toNat rins0).kind≠0∨D4 ((code.getD (s.intAt 19).toNat rins0).ins.to.take p.1.toNat)=true),fun p=>(code.getD (s.intAt 19).toNat rins0).ins.to.length-p.1.toNat,[]⟩
def J0 (a:Int) (l:List Ins):Int:=l.foldl (fun n x=>n+x.to.length) a
def K7 (c:RCode):VFun×Int:=
 if L0 c≠0 then (by3,L0 c) else if 4000<J0 c.params (C1 c).1.code∨4000<(C1 c).1.code.length then (by3,9) else ((C1 c).1,0)
def cBack:Con RU:=con [(true,5)] bK0 [(true,4),one] [i64,inss,ints,ints,i64] [false,false,false,false,false] (some fun p=>-9223372036854775808≤p.2.1∧p.2.1<9223372036854775808∧Q0 p.2.2.2.1=true∧p.2.2.2.2.1.length≤17592186044400) fun p=>
 ((K7 ⟨p.1,p.2.1,p.2.2.1,p.2.2.2.1,p.2.2.2.2.1⟩).1.params,(K7 ⟨p.1,p.2.1,p.2.2.1,p.2.2.2.1,p.2.2.2.2.1⟩).1.code,(K7 ⟨p.1,p.2.1,p.2.2.1,p.2.2.2.1,p.2.2.2.2.1⟩).1.out,(K7 ⟨p.1,p.2.1,p.2.2.1,p.2.2.2.1,p.2.2.2.2.1⟩).1.at_,(K7 ⟨p.1,p.2.1,p.2.2.1,p.2.2.2.1,p.2.2.2.2.1⟩).2,())
def ch5 (a:Int) (code:List Ins):Nat→St RU→Ann RU:=fun k s=>⟨[],[.slot 26,.slot 7],[i64,i64],fun p=>0≤p.1∧p.1≤code.length∧p.2.1=J0 a (code.take p.1.toNat),fun p=>code.length-p.1.toNat,[]⟩
theorem bO1 (a b c:Int) (code:List RIns) (out:List Place):vc (EV [(78,cAll 89 tysP objP [0] isP),(73,cCalledF)]) (bn3 a code out) Go.Proofs.Tryd.f58 cFollow (a,b,c,code,out,())=(
 let e0:Int×List Ins×List Int×List Int×Bool×Unit:=
  ((C1 (RCode.mk a b c code out)).1.params,(C1 (RCode.mk a b c code out)).1.code,(C1 (RCode.mk a b c code out)).1.out,(C1 (RCode.mk a b c code out)).1.at_,
  (C1 (RCode.mk a b c code out)).2,());
 let e1:Int:=(↑(List.length code):Int);
 let e2:RIns:=RIns.mk (0:Int) (0:Int) (0:Int) ins0;
 let e3:Int:=(↑(List.length out):Int);
 let e4:Place:=Place.mk false (0:Int);
  Small RU (Sigma.mk (Ty.slice (55:Nat) (Ty.user (1:Nat))) code)→
  Small RU (Sigma.mk (Ty.slice (59:Nat) (Ty.user (2:Nat))) out)→
  (∃ (p:Int×List (Place×Int)×Unit),
  a=a∧
  b=b∧
  c=c∧
  code=code∧
  out=out∧
  false=false∧
  a=a∧
  (0:Int)=p.1∧
  a=a∧b=b∧c=c∧code=code∧out=out∧(0:Int)=(0:Int)∧[]=p.2.1∧(0:Int)≤p.1∧p.1≤a∧p.2.1=M9 (Int.toNat p.1))∧
  ∀ (p:Int×List (Place×Int)×Unit),
 let e0_1:Bool:=decide (p.1<a);
 let e1_1:Int:=p.1;
 let e2_1:List (Place×Int):=p.2.1;
  (0:Int)≤e1_1∧e1_1≤a∧e2_1=M9 (Int.toNat e1_1)→
  (e0_1=true→
  ∃ (p':Int×List (Place×Int)×Unit),
  a=a∧
  b=b∧
  c=c∧
  code=code∧
  out=out∧
  false=false∧
  a=a∧
  IntKind.i64.wrap (e1_1+(1:Int))=p'.1∧
  a=a∧
  b=b∧
  c=c∧
  code=code∧
  out=out∧
  (0:Int)=(0:Int)∧
  mput (E8 RU (Ty.user (2:Nat))) e2_1 (Place.mk true e1_1) e1_1=p'.2.1∧
  ((0:Int)≤p'.1∧p'.1≤a∧p'.2.1=M9 (Int.toNat p'.1))∧Int.toNat a-Int.toNat p'.1<Int.toNat a-Int.toNat e1_1)∧
  (e0_1=false→
  (∃ (p:Int×List (Place×Int)×Int×List Ins×Unit),
  a=a∧
  b=b∧
  c=c∧
  code=code∧
  out=out∧
  a=a∧
  e1_1=e1_1∧
  e0_1=e0_1∧
  code=code∧
  e1=e1∧
  (0:Int)=p.1∧
  a=a∧
  b=b∧
  c=c∧
  code=code∧
  out=out∧
  (0:Int)=(0:Int)∧
  e2_1=p.2.1∧
  a=a∧
  a=p.2.2.1∧
  []=p.2.2.2.1∧
  (0:Int)≤p.1∧
  p.1≤e1∧I6 (List.take (Int.toNat p.1) code) (G5 a)=((p.2.1,p.2.2.2.1,p.2.2.1),true))∧
  ∀ (p:Int×List (Place×Int)×Int×List Ins×Unit),
 let e0_2:Bool:=(List.getD code (Int.toNat p.1) e2).kind==(2:Int);
 let e1_2:List Ins:=
  [Ins.mk (bif e0_2 then (List.getD code (Int.toNat p.1) e2).ins.op else (List.getD code (Int.toNat p.1) e2).ins.op)
  (bif e0_2 then (List.getD code (Int.toNat p.1) e2).ins.n else (List.getD code (Int.toNat p.1) e2).ins.n)
  (F4 (bif e0_2 then p.2.2.1 else p.2.2.1) (bif e0_2 then p.2.1 else p.2.1)
  (bif e0_2 then (List.getD code (Int.toNat p.1) e2).ins.to else (List.getD code (Int.toNat p.1) e2).ins.to)).1
  (List.map (getF (bif e0_2 then p.2.1 else p.2.1)) (bif e0_2 then (List.getD code (Int.toNat p.1) e2).ins.from_ else (List.getD code (Int.toNat p.1) e2).ins.from_))
  (bif e0_2 then (List.getD code (Int.toNat p.1) e2).ins.body else (List.getD code (Int.toNat p.1) e2).ins.body)];
 let e2_2:List Ins:=bif e0_2 then p.2.2.2.1 else p.2.2.2.1;
 let e3_1:List (Place×Int):=bif e0_2 then p.2.1 else p.2.1;
 let e4_1:Int:=bif e0_2 then p.2.2.1 else p.2.2.1;
 let e5:List Ins:=p.2.2.2.1;
 let e6:List (Place×Int):=p.2.1;
 let e7:Bool:=decide (p.1<e1);
 let e8:Int:=p.1;
 let e9:Int:=p.2.2.1;
 let e10:Bool:=
  !Option.isSome
  (mget (E8 RU (Ty.user (2:Nat))) e3_1
  (Place.mk (bif e0_2 then false else true) (bif e0_2 then (List.getD code (Int.toNat e8) e2).slot else (List.getD code (Int.toNat e8) e2).cell)));
 let e11:Int×List (Place×Int):=(F4 e4_1 e3_1 (bif e0_2 then (List.getD code (Int.toNat e8) e2).ins.to else (List.getD code (Int.toNat e8) e2).ins.to)).2;
 let e12:Bool:=!List.all (bif e0_2 then (List.getD code (Int.toNat e8) e2).ins.from_ else (List.getD code (Int.toNat e8) e2).ins.from_) (isP (e3_1,()));
 let e13:Bool:=(bif e0_2 then (List.getD code (Int.toNat e8) e2).kind else (List.getD code (Int.toNat e8) e2).kind) !=(0:Int);
 let e14:Ins:=(List.getD code (Int.toNat e8) e2).ins;
  (0:Int)≤e8∧e8≤e1∧I6 (List.take (Int.toNat e8) code) (G5 a)=((e6,e5,e9),true)→
  (e7=true→
  ((0:Int)≤e8∧e8<e1)∧
  (e13=true→
  (e10=true→(bif e0_2 then a else a,e2_2,[],[],false,())=e0)∧
  (e10=false→
  ∃ (p':Int×List (Place×Int)×Int×List Ins×Unit),
  (bif e0_2 then a else a)=a∧
  (bif e0_2 then b else b)=b∧
  (bif e0_2 then c else c)=c∧
  (bif e0_2 then code else code)=code∧
  (bif e0_2 then out else out)=out∧
  (bif e0_2 then a else a)=a∧
  (bif e0_2 then e1_1 else e1_1)=e1_1∧
  (bif e0_2 then e0_1 else e0_1)=e0_1∧
  (bif e0_2 then code else code)=code∧
  (bif e0_2 then e1 else e1)=e1∧
  IntKind.i64.wrap ((bif e0_2 then e8 else e8)+(1:Int))=p'.1∧
  (bif e0_2 then a else a)=a∧
  (bif e0_2 then b else b)=b∧
  (bif e0_2 then c else c)=c∧
  (bif e0_2 then code else code)=code∧
  (bif e0_2 then out else out)=out∧
  (bif e0_2 then (0:Int) else (0:Int))=(0:Int)∧
  mput (E8 RU (Ty.user (2:Nat))) e3_1
  (Place.mk (bif e0_2 then true else false)
  (bif e0_2 then (List.getD code (Int.toNat e8) e2).cell else (List.getD code (Int.toNat e8) e2).slot))
  (Option.getD
  (mget (E8 RU (Ty.user (2:Nat))) e3_1
  (Place.mk (bif e0_2 then false else true)
  (bif e0_2 then (List.getD code (Int.toNat e8) e2).slot else (List.getD code (Int.toNat e8) e2).cell)))
  (0:Int))=
  p'.2.1∧
  (bif e0_2 then a else a)=a∧
  e4_1=p'.2.2.1∧
  e2_2=p'.2.2.2.1∧
  ((0:Int)≤p'.1∧
  p'.1≤e1∧
  I6 (List.take (Int.toNat p'.1) code) (G5 a)=((p'.2.1,p'.2.2.2.1,p'.2.2.1),true))∧
  List.length code-Int.toNat p'.1<List.length code-Int.toNat e8))∧
  (e13=false→
  (True∧e3_1=e3_1∧True)∧
  (e12=true→(bif e0_2 then a else a,e2_2,[],[],false,())=e0)∧
  (e12=false→
  ((W8 (bif e0_2 then e14.to else e14.to) (bif e0_2 then e14.from_ else e14.from_) (bif e0_2 then e14.body else e14.body)=true∧
  (0:Int)≤e4_1∧e4_1≤(2305843009213693952:Int))∧
  True)∧
  (List.length e2_2+List.length e1_2)*(88:Nat)≤(140737488355328:Nat)∧
  ∃ (p':Int×List (Place×Int)×Int×List Ins×Unit),
  (bif e0_2 then a else a)=a∧
  (bif e0_2 then b else b)=b∧
  (bif e0_2 then c else c)=c∧
  (bif e0_2 then code else code)=code∧
  (bif e0_2 then out else out)=out∧
  (bif e0_2 then a else a)=a∧
  (bif e0_2 then e1_1 else e1_1)=e1_1∧
  (bif e0_2 then e0_1 else e0_1)=e0_1∧
  (bif e0_2 then code else code)=code∧
  (bif e0_2 then e1 else e1)=e1∧
  IntKind.i64.wrap ((bif e0_2 then e8 else e8)+(1:Int))=p'.1∧
  (bif e0_2 then a else a)=a∧
  (bif e0_2 then b else b)=b∧
  (bif e0_2 then c else c)=c∧
  (bif e0_2 then code else code)=code∧
  (bif e0_2 then out else out)=out∧
  (bif e0_2 then (0:Int) else (0:Int))=(0:Int)∧
  e11.2=p'.2.1∧
  (bif e0_2 then a else a)=a∧
  e11.1=p'.2.2.1∧
  e2_2++e1_2=p'.2.2.2.1∧
  ((0:Int)≤p'.1∧
  p'.1≤e1∧
  I6 (List.take (Int.toNat p'.1) code) (G5 a)=
  ((p'.2.1,p'.2.2.2.1,p'.2.2.1),true))∧
  List.length code-Int.toNat p'.1<List.length code-Int.toNat e8)))∧
  (e7=false→
  (∃ (p:Int×List Int×Unit),
  a=a∧
  b=b∧
  c=c∧
  code=code∧
  out=out∧
  a=a∧
  e1_1=e1_1∧
  e0_1=e0_1∧
  code=code∧
  e1=e1∧
  e8=e8∧
  e7=e7∧
  out=out∧
  e3=e3∧
  (0:Int)=p.1∧
  a=a∧
  b=b∧
  c=c∧
  code=code∧
  out=out∧
  (0:Int)=(0:Int)∧
  e6=e6∧
  a=a∧
  e9=e9∧
  e5=e5∧
  []=p.2.1∧
  (0:Int)≤p.1∧
  p.1≤e3∧P9 (I6 code (G5 a)).1.1 (List.take (Int.toNat p.1) out)=(p.2.1,true))∧
  ∀ (p:Int×List Int×Unit),
 let e0_3:List Int:=
  [Option.getD (mget (E8 RU (Ty.user (2:Nat))) e6 (Place.mk (List.getD out (Int.toNat p.1) e4).cell (List.getD out (Int.toNat p.1) e4).n)) (0:Int)];
 let e1_3:List Int:=p.2.1;
 let e2:Bool:=!Option.isSome (mget (E8 RU (Ty.user (2:Nat))) e6 (Place.mk (List.getD out (Int.toNat p.1) e4).cell (List.getD out (Int.toNat p.1) e4).n));
 let e3_2:Bool:=decide (p.1<e3);
 let e4:Int:=p.1;
 let e5_1:List (Place×Int):=(I6 code (G5 a)).1.1;
  (0:Int)≤e4∧e4≤e3∧P9 e5_1 (List.take (Int.toNat e4) out)=(e1_3,true)→
  (e3_2=true→
  ((0:Int)≤e4∧e4<e3)∧
  (e2=true→(a,e5,e1_3,[],false,())=e0)∧
  (e2=false→
  (List.length e1_3+List.length e0_3)*(8:Nat)≤(140737488355328:Nat)∧
  ∃ (p':Int×List Int×Unit),
  a=a∧
  b=b∧
  c=c∧
  code=code∧
  out=out∧
  a=a∧
  e1_1=e1_1∧
  e0_1=e0_1∧
  code=code∧
  e1=e1∧
  e8=e8∧
  e7=e7∧
  out=out∧
  e3=e3∧
  IntKind.i64.wrap (e4+(1:Int))=p'.1∧
  a=a∧
  b=b∧
  c=c∧
  code=code∧
  out=out∧
  (0:Int)=(0:Int)∧
  e6=e6∧
  a=a∧
  e9=e9∧
  e5=e5∧
  e1_3++e0_3=p'.2.1∧
  ((0:Int)≤p'.1∧
  p'.1≤e3∧P9 e5_1 (List.take (Int.toNat p'.1) out)=(p'.2.1,true))∧
  List.length out-Int.toNat p'.1<List.length out-Int.toNat e4))∧
  (e3_2=false→(a,e5,e1_3,[],true,())=e0)))):=by kernel_rfl
theorem bX4 (a b c:Int) (code:List RIns) (out:List Place):vc (EV [(60,cShaped),(61,cContains),(58,cFollow)]) (bO0 code) Go.Proofs.Tryd.f22 cValid (a,b,c,code,out,())=(
 let e0:Bool:=decide ((↑(List.length code):Int) >(16000:Int));
 let e1:RIns:=RIns.mk (0:Int) (0:Int) (0:Int) ins0;
 let e2:Int×Unit:=(L0 (RCode.mk a b c code out),());
 let e3:Int:=(↑(List.length code):Int);
 let e4:Bool:=!I9 (RCode.mk a b c code out);
  Small RU (Sigma.mk (Ty.slice (55:Nat) (Ty.user (1:Nat))) code)→
  Small RU (Sigma.mk (Ty.slice (59:Nat) (Ty.user (2:Nat))) out)→
  (e0=true→((3:Int),())=e2)∧
  (e0=false→
  ((-9223372036854775808:Int)≤b∧b<(9223372036854775808:Int))∧
  (e4=true→((2:Int),())=e2)∧
  (e4=false→
  (∃ (p:Int×Unit),
  a=a∧
  b=b∧
  c=c∧
  code=code∧
  out=out∧
  e0=e0∧
  e4=e4∧
  code=code∧
  e3=e3∧
  (0:Int)=p.1∧
  a=a∧
  b=b∧
  c=c∧
  code=code∧
  out=out∧
  (0:Int)≤p.1∧p.1≤e3∧(List.all (List.take (Int.toNat p.1) code) fun (x:RIns)=>x.kind !=(0:Int)||D4 x.ins.to)=true)∧
  ∀ (p:Int×Unit),
 let e0_1:Bool:=decide (p.1<e3);
 let e1_1:Int:=(↑(List.length (List.getD code (Int.toNat p.1) e1).ins.to):Int);
 let e2_1:Ins:=(List.getD code (Int.toNat p.1) e1).ins;
 let e3_1:Nat:=List.length (List.getD code (Int.toNat p.1) rins0).ins.to;
 let e4_1:Int:=(List.getD code (Int.toNat p.1) e1).kind;
  (0:Int)≤p.1∧p.1≤e3∧(List.all (List.take (Int.toNat p.1) code) fun (x:RIns)=>x.kind !=(0:Int)||D4 x.ins.to)=true→
  (e0_1=true→
  ((0:Int)≤p.1∧p.1<e3)∧
  (∃ (p_1:Int×Unit),
  a=a∧
  b=b∧
  c=c∧
  code=code∧
  out=out∧
  e0=e0∧
  e4=e4∧
  code=code∧
  e3=e3∧
  p.1=p.1∧
  e0_1=e0_1∧
  e2_1.to=e2_1.to∧
  e1_1=e1_1∧
  (0:Int)=p_1.1∧
  a=a∧
  b=b∧
  c=c∧
  code=code∧
  out=out∧
  e4_1=e4_1∧
  (List.getD code (Int.toNat p.1) e1).slot=(List.getD code (Int.toNat p.1) e1).slot∧
  (List.getD code (Int.toNat p.1) e1).cell=(List.getD code (Int.toNat p.1) e1).cell∧
  e2_1.op=e2_1.op∧
  e2_1.n=e2_1.n∧
  e2_1.to=e2_1.to∧
  e2_1.from_=e2_1.from_∧
  e2_1.body=e2_1.body∧
  (0:Int)≤p_1.1∧
  p_1.1≤(↑e3_1:Int)∧
  ((List.getD code (Int.toNat p.1) rins0).kind≠(0:Int)∨
  D4 (List.take (Int.toNat p_1.1) (List.getD code (Int.toNat p.1) rins0).ins.to)=true))∧
  ∀ (p_1:Int×Unit),
 let e0_2:Bool:=e4_1==(0:Int)&&List.contains (List.take (Int.toNat p_1.1) e2_1.to) (List.getD e2_1.to (Int.toNat p_1.1) (0:Int));
 let e1_2:Bool:=decide (p_1.1<e1_1);
  (0:Int)≤p_1.1∧
  p_1.1≤(↑e3_1:Int)∧
  ((List.getD code (Int.toNat p.1) rins0).kind≠(0:Int)∨D4 (List.take (Int.toNat p_1.1) (List.getD code (Int.toNat p.1) rins0).ins.to)=true)→
  (e1_2=true→
  ((0:Int)≤p_1.1∧p_1.1<e1_1)∧
  ((e4_1==(0:Int))=true→(0:Int)≤p_1.1∧p_1.1≤e1_1)∧
  (e0_2=true→((5:Int),())=e2)∧
  (e0_2=false→
  ∃ (p':Int×Unit),
  a=a∧
  b=b∧
  c=c∧
  code=code∧
  out=out∧
  e0=e0∧
  e4=e4∧
  code=code∧
  e3=e3∧
  p.1=p.1∧
  e0_1=e0_1∧
  e2_1.to=e2_1.to∧
  e1_1=e1_1∧
  IntKind.i64.wrap (p_1.1+(1:Int))=p'.1∧
  a=a∧
  b=b∧
  c=c∧
  code=code∧
  out=out∧
  e4_1=e4_1∧
  (List.getD code (Int.toNat p.1) e1).slot=(List.getD code (Int.toNat p.1) e1).slot∧
  (List.getD code (Int.toNat p.1) e1).cell=(List.getD code (Int.toNat p.1) e1).cell∧
  e2_1.op=e2_1.op∧
  e2_1.n=e2_1.n∧
  e2_1.to=e2_1.to∧
  e2_1.from_=e2_1.from_∧
  e2_1.body=e2_1.body∧
  ((0:Int)≤p'.1∧
  p'.1≤(↑e3_1:Int)∧
  ((List.getD code (Int.toNat p.1) rins0).kind≠(0:Int)∨
  D4 (List.take (Int.toNat p'.1) (List.getD code (Int.toNat p.1) rins0).ins.to)=
  true))∧
  e3_1-Int.toNat p'.1<e3_1-Int.toNat p_1.1))∧
  (e1_2=false→
  ∃ (p':Int×Unit),
  a=a∧
  b=b∧
  c=c∧
  code=code∧
  out=out∧
  e0=e0∧
  e4=e4∧
  code=code∧
  e3=e3∧
  IntKind.i64.wrap (p.1+(1:Int))=p'.1∧
  a=a∧
  b=b∧
  c=c∧
  code=code∧
  out=out∧
  ((0:Int)≤p'.1∧
  p'.1≤e3∧
  (List.all (List.take (Int.toNat p'.1) code) fun (x:RIns)=>x.kind !=(0:Int)||D4 x.ins.to)=true)∧
  List.length code-Int.toNat p'.1<List.length code-Int.toNat p.1))∧
  (e0_1=false→
  ((0:Int)≤a∧a≤(4000:Int)∧List.length code≤(16000:Nat)∧Q0 code=true∧List.length out≤(17592186044400:Nat))∧
  ((!(C1 (RCode.mk a b c code out)).2)=true→((4:Int),())=e2)∧((!(C1 (RCode.mk a b c code out)).2)=false→((0:Int),())=e2))))):=by kernel_rfl
theorem ch6 (a b c:Int) (code:List RIns) (out:List Place):vc (EV [(22,cValid),(58,cFollow)]) (ch5 a (C1 ⟨a,b,c,code,out⟩).1.code) Go.Proofs.Tryd.f20 cBack (a,b,c,code,out,())=(
 let e0:Int×List Ins×List Int×List Int×Int×Unit:=
  ((K7 (RCode.mk a b c code out)).1.params,(K7 (RCode.mk a b c code out)).1.code,(K7 (RCode.mk a b c code out)).1.out,(K7 (RCode.mk a b c code out)).1.at_,
  (K7 (RCode.mk a b c code out)).2,());
 let e1:Int:=(↑(List.length (C1 (RCode.mk a b c code out)).1.code):Int);
 let e2:List Ins:=(C1 (RCode.mk a b c code out)).1.code;
 let e3:Bool:=L0 (RCode.mk a b c code out) !=(0:Int);
 let e4:Int:=(C1 (RCode.mk a b c code out)).1.params;
 let e5:List Int:=(C1 (RCode.mk a b c code out)).1.at_;
 let e6:List Int:=(C1 (RCode.mk a b c code out)).1.out;
 let e7:Int:=L0 (RCode.mk a b c code out);
  Small RU (Sigma.mk (Ty.slice (55:Nat) (Ty.user (1:Nat))) code)→
  Small RU (Sigma.mk (Ty.slice (59:Nat) (Ty.user (2:Nat))) out)→
  ((-9223372036854775808:Int)≤b∧b<(9223372036854775808:Int)∧Q0 code=true∧List.length out≤(17592186044400:Nat))∧
  (e3=true→((0:Int),[],[],[],e7,())=e0)∧
  (e3=false→
  ((0:Int)≤a∧a≤(4000:Int)∧List.length code≤(16000:Nat)∧Q0 code=true∧List.length out≤(17592186044400:Nat))∧
  (∃ (p:Int×Int×Unit),
  a=a∧
  b=b∧
  c=c∧
  code=code∧
  out=out∧
  (0:Int)=(0:Int)∧
  e7=e7∧
  e3=e3∧
  e2=e2∧
  e1=e1∧
  (0:Int)=p.1∧
  e4=p.2.1∧
  a=a∧
  b=b∧
  c=c∧
  code=code∧
  out=out∧
  (0:Int)=(0:Int)∧
  e4=e4∧e2=e2∧e6=e6∧e5=e5∧(0:Int)≤p.1∧p.1≤e1∧p.2.1=J0 a (List.take (Int.toNat p.1) e2))∧
  ∀ (p:Int×Int×Unit),
 let e0_1:Bool:=decide (p.2.1 >(4000:Int))||decide (e1 >(4000:Int));
 let e1_1:Bool:=decide (p.1<e1);
 let e2_1:Int:=p.1;
  (0:Int)≤e2_1∧e2_1≤e1∧p.2.1=J0 a (List.take (Int.toNat e2_1) e2)→
  (e1_1=true→
  ((0:Int)≤e2_1∧e2_1<e1)∧
  ∃ (p':Int×Int×Unit),
  a=a∧
  b=b∧
  c=c∧
  code=code∧
  out=out∧
  (0:Int)=(0:Int)∧
  e7=e7∧
  e3=e3∧
  e2=e2∧
  e1=e1∧
  IntKind.i64.wrap (e2_1+(1:Int))=p'.1∧
  IntKind.i64.wrap (p.2.1+(↑(List.length (List.getD e2 (Int.toNat e2_1) (Ins.mk (0:Int) (0:Int) [] [] [])).to):Int))=p'.2.1∧
  a=a∧
  b=b∧
  c=c∧
  code=code∧
  out=out∧
  (0:Int)=(0:Int)∧
  e4=e4∧
  e2=e2∧
  e6=e6∧
  e5=e5∧
  ((0:Int)≤p'.1∧p'.1≤e1∧p'.2.1=J0 a (List.take (Int.toNat p'.1) e2))∧
  List.length e2-Int.toNat p'.1<List.length e2-Int.toNat e2_1)∧
  (e1_1=false→(e0_1=true→((0:Int),[],[],[],(9:Int),())=e0)∧(e0_1=false→(e4,e2,e6,e5,(0:Int),())=e0)))):=by kernel_rfl
theorem bf4 {s:SF} {x:RIns} (h:(I5 s x).2=false):I5 s x=(s,false):=by
 revert h
 unfold I5
 cases x.kind==0 with
 |true=>
  simp only [cond_true]
  cases x.ins.from_.all (isP (s.1,())) with
  |true=>intro h;cases h
  |false=>intro _;rfl
 |false=>
  simp only [cond_false]
  cases mget eqP s.1 (bif x.kind==2 then ⟨false,x.slot⟩ else ⟨true,x.cell⟩) with
  |none=>intro _;rfl
  |some n=>intro h;cases h
theorem bf5 (s:SF) (x:RIns):I6 [x] s=I5 s x:=by
 simp only [I6]
 cases h:(I5 s x).2 with
 |true=>simp only [cond_true];rw [←h]
 |false=>simp only [cond_false];exact (bf4 h).symm
theorem as1 (r:List RIns):∀ (l:List RIns) (s:SF),I6 (l++r) s=bif (I6 l s).2 then I6 r (I6 l s).1 else I6 l s
 |[],s=>rfl
 |x::l,s=>by
  simp only [List.cons_append,I6]
  cases (I5 s x).2 with
  |true=>simp only [cond_true];exact as1 r l _
  |false=>rfl
theorem aP5 {l:List RIns} {k:Nat} {s s':SF} (hk:k<l.length) (h:I6 (l.take k) s=(s',true)):I6 (l.take (k+1)) s=I5 s' (l.getD k rins0):=by
 rw [A4 hk rins0,as1,h]
 exact bf5 _ _
theorem bC3 {l:List RIns} {k:Nat} {s s':SF} (hk:k<l.length) (h:I6 (l.take k) s=(s',true)) (h2:(I5 s' (l.getD k rins0)).2=false):I6 l s=(s',false):=by
 have hs:=aP5 hk h
 rw [bf4 h2] at hs
 conv=>lhs;rw [←List.take_append_drop (k+1) l]
 rw [as1,hs]
 rfl
theorem bC4 (s:SF) (x:RIns) (hx:x.ins.to.length≤17592186044416):(I5 s x).1.2.1.length≤s.2.1.length+1∧s.2.2≤(I5 s x).1.2.2∧(I5 s x).1.2.2≤s.2.2+17592186044416:=by
 unfold I5
 cases x.kind==0 with
 |true=>
  simp only [cond_true]
  cases x.ins.from_.all (isP (s.1,())) with
  |true=>
   have:=(V4 s.2.2 s.1 x.ins.to).2
   simp only [cond_true,cs3,cr5,List.length_nil]
   omega
  |false=>simp only [cond_false];omega
 |false=>
  simp only [cond_false]
  cases mget eqP s.1 (bif x.kind==2 then ⟨false,x.slot⟩ else ⟨true,x.cell⟩) with
  |none=>simp only;omega
  |some n=>simp only;omega
theorem aI6:∀ (l:List RIns) (s:SF),Q0 l=true→(I6 l s).1.2.1.length≤s.2.1.length+l.length∧s.2.2≤(I6 l s).1.2.2∧(I6 l s).1.2.2≤s.2.2+l.length*17592186044416
 |[],s,_=>by simp [I6]
 |x::r,s,h=>by
  simp only [Q0,List.all_cons,cq2] at h
  have h1:=bC4 s x ((L1 _).1 h.1).1.1
  have h2:=aI6 r (I5 s x).1 h.2
  simp only [I6]
  cases hs:(I5 s x).2 with
  |true=>simp only [cond_true,cr5];omega
  |false=>simp only [cond_false,cr5];omega
theorem aI7 (m:Holds) (r:List Place):∀ (l:List Place),P9 m (l++r)=bif (P9 m l).2 then ((P9 m l).1++(P9 m r).1,(P9 m r).2) else P9 m l
 |[]=>rfl
 |p::l=>by
  simp only [List.cons_append,P9]
  cases mget eqP m p with
  |none=>rfl
  |some n=>
   simp only [aI7 m r l]
   cases h:(P9 m l).2 with
   |true=>rfl
   |false=>simp only [cond_false,h]
theorem bf6 (m:Holds):∀ (l:List Place),(P9 m l).1.length≤l.length
 |[]=>by simp [P9]
 |p::l=>by
  simp only [P9]
  split
  ·simp
  ·have:=bf6 m l
   simp only [cr5];omega
theorem as2 (n:Nat):M9 (n+1)=mput eqP (M9 n) ⟨true,n⟩ n:=by
 simp [M9,List.range_succ]
theorem bO2 (a b c:Int) (code:List RIns) (out:List Place) (hp:0≤a∧a≤4000∧code.length≤16000∧Q0 code=true∧out.length≤17592186044400):vc (EV [(78,cAll 89 tysP objP [0] isP),(73,cCalledF)]) (bn3 a code out) Go.Proofs.Tryd.f58 cFollow (a,b,c,code,out,()):=by
 rw [bO1 a b c code out]
 intro e0 e1 e2 e3 e4 hsl hso
 obtain ⟨hp1,hp2,hp3,hp4,hp5⟩:=hp
 have hd:e2=rins0:=rfl
 have hno:∀ s:SF,I6 code (G5 a)=(s,false)→e0=(a,s.2.1,[],[],false,()):=by
  intro s hs
  have:C1 ⟨a,b,c,code,out⟩=(⟨a,s.2.1,[],[]⟩,false):=by simp only [C1,hs];rfl
  simp only [e0,this]
 have hyes:∀ s:SF,I6 code (G5 a)=(s,true)→e0=(a,s.2.1,(P9 s.1 out).1,[],(P9 s.1 out).2,()):=by
  intro s hs
  have:C1 ⟨a,b,c,code,out⟩=(⟨a,s.2.1,(P9 s.1 out).1,[]⟩,(P9 s.1 out).2):=by simp only [C1,hs];rfl
  simp only [e0,this]
 clear_value e0
 rw [hd]
 clear_value e2
 dsimp only [e1,e3,e4]
 simp only [true_and,and_true,Bool.cond_self]
 refine ⟨⟨(0,[],()),rfl,rfl,Int.le_refl _,hp1,rfl⟩,?_⟩
 rintro ⟨i,m,⟨⟩⟩ ⟨h0,h1,h2⟩
 dsimp only at h0 h1 h2 ⊢
 obtain ⟨k,rfl⟩:=cq5 h0
 simp only [cq3] at h2 ⊢
 subst h2
 refine ⟨fun hlt=>?_,fun hge=>?_⟩
 ·have hlt:(k:Int)<a:=cq9 hlt
  refine ⟨((k+1:Nat),M9 (k+1),()),?_,as2 k |>.symm,⟨by omega,by dsimp only;omega,by dsimp only;rw [cq3]⟩,by dsimp only;omega⟩
  rw [F8 (by omega) (by omega)];rfl
 have hk:a.toNat=k:=by have:¬ (k:Int)<a:=cq8 hge;omega
 have hst:G5 a=(M9 k,[],a):=by unfold G5;rw [hk]
 clear h0 h1 hge
 refine ⟨⟨(0,_,a,[],()),rfl,rfl,rfl,rfl,Int.le_refl _,by dsimp only;omega,by simp only [Int.toNat_zero,List.take_zero,I6,hst];rfl⟩,?_⟩
 rintro ⟨i,m,nx,cd,⟨⟩⟩ ⟨h0,h1,h2⟩
 dsimp only at h0 h1 h2 ⊢
 obtain ⟨j,rfl⟩:=cq5 h0
 simp only [cq3,Bool.cond_self] at h2 ⊢
 have hjl:j≤code.length:=by omega
 have hb:=aI6 (code.take j) (G5 a) (by
  unfold Q0 at hp4 ⊢
  exact ct2.2 fun x hx=>ct2.1 hp4 x (List.mem_of_mem_take hx))
 rw [h2] at hb
 simp only [G5,List.length_nil,ct1] at hb
 refine ⟨fun hlt=>?_,fun hge=>?_⟩
 ·have hlt:(j:Int)<code.length:=cq9 hlt
  have hjc:j<code.length:=by omega
  have hstop:=fun h=>hno _ (bC3 hjc h2 h)
  have hstep:=aP5 hjc h2
  have hok:au4 (code.getD j rins0).ins=true:=ct2.1 hp4 _ (H5 hjc _)
  have next:∀ s:SF,I5 (m,cd,nx) (code.getD j rins0)=(s,true)→∃ p':Int×List (Place×Int)×Int×List Ins×Unit,IntKind.i64.wrap ((j:Int)+1)=p'.1∧s.1=p'.2.1∧s.2.2=p'.2.2.1∧s.2.1=p'.2.2.2.1∧
    (0≤p'.1∧p'.1≤(code.length:Int)∧I6 (code.take p'.1.toNat) (G5 a)=((p'.2.1,p'.2.2.2.1,p'.2.2.1),true))∧code.length-p'.1.toNat<code.length-j:=fun s hs=>
   ⟨((j+1:Nat),s.1,s.2.2,s.2.1,()),B7 hjc (by omega),rfl,rfl,rfl,⟨by omega,by dsimp only;omega,by dsimp only;rw [cq3,hstep,hs]⟩,by dsimp only;omega⟩
  generalize code.getD j rins0=x at hstop hstep hok next ⊢
  refine ⟨⟨h0,hlt⟩,fun hk0=>?_,fun hk0=>?_⟩
  ·have hk0:(x.kind==0)=false:=by simpa [bne] using hk0
   have hpl:(Place.mk (bif x.kind==2 then false else true) (bif x.kind==2 then x.slot else x.cell))=(bif x.kind==2 then ⟨false,x.slot⟩ else ⟨true,x.cell⟩):=by cases x.kind==2<;>rfl
   have hpl2:(Place.mk (bif x.kind==2 then true else false) (bif x.kind==2 then x.cell else x.slot))=(bif x.kind==2 then ⟨true,x.cell⟩ else ⟨false,x.slot⟩):=by cases x.kind==2<;>rfl
   rw [hpl,hpl2]
   have hS:I5 (m,cd,nx) x=match mget eqP m (bif x.kind==2 then ⟨false,x.slot⟩ else ⟨true,x.cell⟩) with
     |none=>((m,cd,nx),false)
     |some n=>((mput eqP m (bif x.kind==2 then ⟨true,x.cell⟩ else ⟨false,x.slot⟩) n,cd,nx),true):=by
    simp only [I5,hk0,cond_false]
    try rfl
   generalize (bif x.kind==2 then (⟨false,x.slot⟩:Place) else ⟨true,x.cell⟩)=q at hS ⊢
   generalize (bif x.kind==2 then (⟨true,x.cell⟩:Place) else ⟨false,x.slot⟩)=q2 at hS ⊢
   show ((!(mget eqP m q).isSome)=true→_)∧((!(mget eqP m q).isSome)=false→_)
   cases hq:mget eqP m q with
   |none=>
    rw [hq] at hS
    refine ⟨fun _=>?_,fun h=>(by cases h)⟩
    exact (hstop (by rw [hS])).symm
   |some v=>
    rw [hq] at hS
    refine ⟨fun h=>(by cases h),fun _=>?_⟩
    have hq':mget (E8 RU (Ty.user 2)) m q=some v:=hq
    obtain ⟨p',q1,q2',q3,q4,q5⟩:=next _ hS
    exact ⟨p',q1,by rw [hq'];exact q2',q3,q4,q5⟩
  ·have hk0:(x.kind==0)=true:=by simpa [bne] using hk0
   have hS:I5 (m,cd,nx) x=bif x.ins.from_.all (isP (m,())) then (((F4 nx m x.ins.to).2.2,cd++[⟨x.ins.op,x.ins.n,(F4 nx m x.ins.to).1,x.ins.from_.map (getF m),x.ins.body⟩],(F4 nx m x.ins.to).2.1),true) else ((m,cd,nx),false):=by
    simp only [I5,hk0,cond_true]
   cases hq:x.ins.from_.all (isP (m,())) with
   |false=>
    rw [hq] at hS
    refine ⟨fun _=>(hstop (by rw [hS];rfl)).symm,fun h=>(by cases h)⟩
   |true=>
    rw [hq] at hS
    refine ⟨fun h=>(by cases h),fun _=>⟨⟨V6.2 ((L1 _).1 hok),by omega,?_⟩,?_,?_⟩⟩
    ·omega
    ·simp only [cr5,List.length_nil];omega
    ·obtain ⟨p',q1,q2',q3,q4,q5⟩:=next _ hS
     exact ⟨p',q1,q2',q3,q4,q5⟩
 have hjj:j=code.length:=by have:¬ (j:Int)<code.length:=cq8 hge;omega
 subst hjj
 rw [ct0] at h2
 rw [h2]
 have hyes:=hyes _ h2
 dsimp only at hyes ⊢
 clear h0 h1 hge hno h2
 refine ⟨⟨(0,[],()),rfl,rfl,Int.le_refl _,by dsimp only;omega,rfl⟩,?_⟩
 rintro ⟨i,l,⟨⟩⟩ ⟨h0,h1,h2⟩
 dsimp only at h0 h1 h2 ⊢
 obtain ⟨j,rfl⟩:=cq5 h0
 simp only [cq3] at h2 ⊢
 have hjl:j≤out.length:=by omega
 have hlen:=bf6 m (out.take j)
 rw [h2,ct1] at hlen
 refine ⟨fun hlt=>?_,fun hge=>?_⟩
 ·have hlt:(j:Int)<out.length:=cq9 hlt
  have hjc:j<out.length:=by omega
  have hcut:out=out.take j++(out.getD j ⟨false,0⟩::out.drop (j+1)):=by
   conv=>lhs;rw [←List.take_append_drop (j+1) out,A4 hjc ⟨false,0⟩]
   simp
  generalize hx:out.getD j ⟨false,0⟩=x at hcut ⊢
  obtain ⟨xc,xn⟩:=x
  refine ⟨⟨h0,hlt⟩,?_⟩
  show ((!(mget eqP m ⟨xc,xn⟩).isSome)=true→_)∧((!(mget eqP m ⟨xc,xn⟩).isSome)=false→_)
  cases hq:mget eqP m ⟨xc,xn⟩ with
  |none=>
   refine ⟨fun _=>?_,fun h=>(by cases h)⟩
   have:P9 m out=(l,false):=by
    rw [hcut,aI7,h2]
    simp only [cond_true,P9,hq,List.append_nil]
   rw [hyes,this]
  |some v=>
   refine ⟨fun h=>(by cases h),fun _=>⟨by simp only [cr5,List.length_nil] at hlen ⊢;omega,((j+1:Nat),l++[v],()),B7 hjc (by omega),?_,⟨by omega,by dsimp only;omega,?_⟩,by dsimp only;omega⟩⟩
   ·have hq':mget (E8 RU (Ty.user 2)) m ⟨xc,xn⟩=some v:=hq
    rw [hq'];rfl
   ·dsimp only
    rw [cq3,A4 hjc ⟨false,0⟩,hx,aI7,h2]
    simp only [cond_true,P9,hq]
 ·have hjj:j=out.length:=by have:¬ (j:Int)<out.length:=cq8 hge;omega
  subst hjj
  rw [ct0] at h2
  rw [hyes,h2]
theorem ay4:D0 prog RG 58 cFollow:=E4 (A6 bz9 (A6 aW0 B9)) (fun p=>bn3 p.1 p.2.2.2.1 p.2.2.2.2.1) (by kernel_rfl) (by kernel_rfl) (by kernel_rfl) fun (a,b,c,code,out,()) hp=>bO2 a b c code out hp
theorem au9 (a:Int) (l r:List Ins):J0 a (l++r)=J0 (J0 a l) r:=by simp [J0]
theorem aI8:∀ (l:List Ins) (a:Int),a≤J0 a l
 |[],a=>Int.le_refl _
 |x::r,a=>by
  have:=aI8 r (a+x.to.length)
  simp only [J0,List.foldl_cons] at this ⊢
  omega
theorem bn4 (l:List Ins) (k:Nat) (a:Int):J0 a (l.take k)≤J0 a l:=by
 conv=>rhs;rw [←List.take_append_drop k l]
 rw [au9]
 exact aI8 _ _
theorem bn5 {a:Int} {s:SF} (h:s.2.2=J0 a s.2.1) (x:RIns):(I5 s x).1.2.2=J0 a (I5 s x).1.2.1:=by
 unfold I5
 cases x.kind==0 with
 |true=>
  simp only [cond_true]
  cases x.ins.from_.all (isP (s.1,())) with
  |true=>
   have:=V4 s.2.2 s.1 x.ins.to
   simp only [cond_true,au9,←h]
   simp only [J0,List.foldl_cons,List.foldl_nil]
   rw [this.2,this.1]
  |false=>exact h
 |false=>
  simp only [cond_false]
  cases mget eqP s.1 (bif x.kind==2 then ⟨false,x.slot⟩ else ⟨true,x.cell⟩) with
  |none=>exact h
  |some n=>exact h
theorem aP6 {a:Int}:∀ (l:List RIns) {s:SF},s.2.2=J0 a s.2.1→(I6 l s).1.2.2=J0 a (I6 l s).1.2.1
 |[],s,h=>h
 |x::r,s,h=>by
  simp only [I6]
  cases (I5 s x).2 with
  |true=>exact aP6 r (bn5 h x)
  |false=>exact h
theorem as3 (c:RCode):(C1 c).1.params=c.params∧(C1 c).1.code=(I6 c.code (G5 c.params)).1.2.1:=by
 unfold C1
 cases (I6 c.code (G5 c.params)).2<;>exact ⟨rfl,rfl⟩
theorem aW1 {c:RCode} (h0:0≤c.params∧c.params≤4000) (hl:c.code.length≤16000) (hi:Q0 c.code=true):(C1 c).1.code.length≤16000∧J0 c.params (C1 c).1.code≤281474976714656000∧((C1 c).2=true→J0 c.params (C1 c).1.code=(I6 c.code (G5 c.params)).1.2.2):=by
 rw [(as3 c).2]
 have h1:=aI6 c.code (G5 c.params) hi
 have h2:=aP6 c.code (a:=c.params) (s:=G5 c.params) rfl
 simp only [G5,List.length_nil] at h1 h2 ⊢
 rw [←h2]
 refine ⟨by omega,by omega,fun _=>rfl⟩
theorem aW2 (l:List Int) (x:Int):D4 (l++[x])=(D4 l&&!l.contains x):=by
 rw [Bool.eq_iff_iff,E3,cq2,E3,List.nodup_append]
 simp
 intro _
 exact ⟨fun h hx=>h x hx rfl,fun h a ha e=>h (e▸ha)⟩
theorem bf7 {l r:List Int} (h:D4 l=false):D4 (l++r)=false:=by
 rw [Bool.eq_false_iff] at h ⊢
 intro hh
 exact h (E3.2 (List.nodup_append.1 (E3.1 hh)).1)
theorem bX5 (a b c:Int) (code:List RIns) (out:List Place) (hp:-9223372036854775808≤b∧b<9223372036854775808∧Q0 code=true∧out.length≤17592186044400):vc (EV [(60,cShaped),(61,cContains),(58,cFollow)]) (bO0 code) Go.Proofs.Tryd.f22 cValid (a,b,c,code,out,()):=by
 rw [bX4 a b c code out]
 intro e0 e1 e2 e3 e4 hsl hso
 obtain ⟨hp1,hp2,hp3,hp4⟩:=hp
 have hd:e1=rins0:=rfl
 have he2:e2=(L0 ⟨a,b,c,code,out⟩,()):=rfl
 have he4:e4=!I9 ⟨a,b,c,code,out⟩:=rfl
 have he0:e0=decide ((16000:Int)<(code.length:Int)):=rfl
 simp only [L0] at he2
 clear_value e0 e1 e2 e4
 subst hd
 dsimp only [e3]
 simp only [true_and,and_true]
 have hins:∀ k,k<code.length→au4 (code.getD k rins0).ins=true:=fun k hk=>ct2.1 hp3 _ (H5 hk _)
 refine ⟨fun h=>?_,fun h=>⟨⟨hp1,hp2⟩,fun h2=>?_,fun h2=>?_⟩⟩
 ·rw [he0] at h
  have h:(16000:Int)<code.length:=cq9 h
  rw [he2,if_pos (by omega)]
 ·rw [he0] at h
  have h:¬ (16000:Int)<code.length:=cq8 h
  rw [he4,Bool.not_eq_true'] at h2
  rw [he2,if_neg (by omega),if_pos h2]
 rw [he0] at h
 have h:¬ (16000:Int)<code.length:=cq8 h
 rw [he4,Bool.not_eq_false'] at h2
 rw [if_neg (by omega),h2,if_neg (by simp)] at he2
 refine ⟨⟨(0,()),rfl,Int.le_refl _,by dsimp only;omega,by simp⟩,?_⟩
 rintro ⟨i,⟨⟩⟩ ⟨h0,h1,h3⟩
 dsimp only at h0 h1 h3 ⊢
 obtain ⟨k,rfl⟩:=cq5 h0
 simp only [cq3] at h3 ⊢
 refine ⟨fun hlt=>?_,fun hge=>?_⟩
 ·have hlt:(k:Int)<code.length:=cq9 hlt
  have hkc:k<code.length:=by omega
  have hx:=(L1 _).1 (hins k hkc)
  have no:(code.getD k rins0).kind=0→D4 (code.getD k rins0).ins.to=false→((5:Int),())=e2:=fun q1 q2=>by
   have:(code.all fun x=>x.kind !=0||D4 x.ins.to)=false:=aV8 rins0 hkc (by rw [q1,q2];rfl)
   rw [he2,this,if_pos rfl]
  have yes:((code.getD k rins0).kind≠0∨D4 (code.getD k rins0).ins.to=true)→∃ p':Int×Unit,IntKind.i64.wrap ((k:Int)+1)=p'.1∧(0≤p'.1∧p'.1≤(code.length:Int)∧((code.take p'.1.toNat).all fun x=>x.kind !=0||D4 x.ins.to)=true)∧code.length-p'.1.toNat<code.length-k:=fun q=>
   ⟨((k+1:Nat),()),B7 hkc (by omega),⟨by omega,by dsimp only;omega,by
    dsimp only;rw [cq3]
    refine as0 rins0 hkc h3 ?_
    rcases q with q|q
    ·exact (Bool.or_eq_true_iff ..).2 (.inl (bne_iff_ne.2 q))
    ·rw [q];simp⟩,by dsimp only;omega⟩
  obtain ⟨x,hxe⟩:∃ x,code.getD k rins0=x:=⟨_,rfl⟩
  simp only [hxe] at hx no yes ⊢
  refine ⟨⟨h0,hlt⟩,⟨(0,()),rfl,Int.le_refl _,by dsimp only;omega,.inr (by simp [D4])⟩,?_⟩
  rintro ⟨i,⟨⟩⟩ ⟨g0,g1,g2⟩
  dsimp only at g0 g1 g2 ⊢
  obtain ⟨j,rfl⟩:=cq5 g0
  simp only [cq3] at g2 ⊢
  refine ⟨fun glt=>?_,fun gge=>?_⟩
  ·have glt:(j:Int)<x.ins.to.length:=cq9 glt
   have hjc:j<x.ins.to.length:=by omega
   have hsn:=aW2 (x.ins.to.take j) (x.ins.to.getD j 0)
   rw [←A4 hjc] at hsn
   refine ⟨⟨g0,glt⟩,fun _=>⟨g0,by omega⟩,fun hq=>?_,fun hq=>?_⟩
   ·simp only [cq2,beq_iff_eq] at hq
    refine no hq.1 ?_
    rw [hq.2] at hsn
    have h5:D4 (x.ins.to.take (j+1))=false:=by rw [hsn];simp
    have:=bf7 (r:=x.ins.to.drop (j+1)) h5
    rwa [List.take_append_drop] at this
   ·refine ⟨((j+1:Nat),()),B7 hjc (by have:=hx.1.1;omega),⟨by omega,by dsimp only;omega,?_⟩,by dsimp only;omega⟩
    dsimp only
    rw [cq3]
    rcases g2 with g2|g2
    ·exact .inl g2
    ·by_cases hk:x.kind=0
     ·right
      simp only [hk,beq_self_eq_true,Bool.true_and] at hq
      rw [hsn,g2,hq];rfl
     ·exact .inl hk
  ·have hj:j=x.ins.to.length:=by have:¬ (j:Int)<x.ins.to.length:=cq8 gge;omega
   subst hj
   rw [ct0] at g2
   exact yes g2
 ·have hk:k=code.length:=by have:¬ (k:Int)<code.length:=cq8 hge;omega
  subst hk
  rw [ct0] at h3
  rw [h3,if_neg (by simp)] at he2
  have hsh:0≤a∧a≤4000:=by
   simp only [I9,H2,cq2,List.all_cons,List.all_nil,cs4] at h2
   omega
  refine ⟨⟨hsh.1,hsh.2,by omega,hp3,hp4⟩,fun q=>?_,fun q=>?_⟩
  ·rw [Bool.not_eq_true'] at q
   rw [he2,if_pos q]
  ·rw [Bool.not_eq_false'] at q
   rw [he2,q,if_neg (by simp)]
theorem an9:D0 prog RG 22 cValid:=E4 (A6 bf3 (A6 N6 (A6 ay4 B9))) (fun p=>bO0 p.2.2.2.1) (by kernel_rfl) (by kernel_rfl) (by kernel_rfl) fun (a,b,c,code,out,()) hp=>bX5 a b c code out hp
theorem bf8 {c:RCode} (h:L0 c=0):c.code.length≤16000∧I9 c=true∧(c.code.all fun x=>x.kind !=0||D4 x.ins.to)=true∧(C1 c).2=true:=by
 unfold L0 at h
 split at h
 ·cases h
 ·split at h
  ·cases h
  ·split at h
   ·cases h
   ·split at h
    ·cases h
    ·rename_i h1 h2 h3 h4
     exact ⟨by omega,(Bool.not_eq_false _▸h2),(Bool.not_eq_false _▸h3),(Bool.not_eq_false _▸h4)⟩
theorem aW3 {c:RCode} (h:I9 c=true):0≤c.params∧c.params≤4000:=by
 simp only [I9,H2,cq2,List.all_cons,List.all_nil,cs4] at h
 omega
theorem ch7 (a b c:Int) (code:List RIns) (out:List Place) (hp:-9223372036854775808≤b∧b<9223372036854775808∧Q0 code=true∧out.length≤17592186044400):vc (EV [(22,cValid),(58,cFollow)]) (ch5 a (C1 ⟨a,b,c,code,out⟩).1.code) Go.Proofs.Tryd.f20 cBack (a,b,c,code,out,()):=by
 rw [ch6 a b c code out]
 intro e0 e1 e2 e3 e4 e5 e6 e7 hsl hso
 have hb:e0=((K7 ⟨a,b,c,code,out⟩).1.params,(K7 ⟨a,b,c,code,out⟩).1.code,(K7 ⟨a,b,c,code,out⟩).1.out,(K7 ⟨a,b,c,code,out⟩).1.at_,(K7 ⟨a,b,c,code,out⟩).2,()):=rfl
 have he7:e7=L0 ⟨a,b,c,code,out⟩:=rfl
 have he3:e3=(e7 !=0):=rfl
 clear_value e0 e3
 dsimp only [e1,e2,e4,e5,e6]
 simp only [true_and,and_true]
 refine ⟨hp,fun h=>?_,fun h=>?_⟩
 ·have hne:L0 ⟨a,b,c,code,out⟩≠0:=by
   rw [←he7];rw [he3] at h;simpa using h
  have:K7 ⟨a,b,c,code,out⟩=(by3,L0 ⟨a,b,c,code,out⟩):=by simp only [K7,if_pos hne]
  rw [hb,this,he7];rfl
 have hz:L0 ⟨a,b,c,code,out⟩=0:=by
  rw [←he7];rw [he3] at h;simpa using h
 obtain ⟨h1,h2,h3,h4⟩:=bf8 hz
 have hpar:=aW3 h2
 have hm:=aW1 hpar h1 hp.2.2.1
 have hB:K7 ⟨a,b,c,code,out⟩=if 4000<J0 a (C1 ⟨a,b,c,code,out⟩).1.code∨4000<(C1 ⟨a,b,c,code,out⟩).1.code.length then (by3,9) else ((C1 ⟨a,b,c,code,out⟩).1,0):=by simp only [K7,hz,ne_eq,not_true_eq_false,if_false]
 have hpa:=(as3 ⟨a,b,c,code,out⟩).1
 rw [hB] at hb
 obtain ⟨f,hf⟩:∃ f,C1 ⟨a,b,c,code,out⟩=f:=⟨_,rfl⟩
 simp only [hf] at hb hm h4 hpa ⊢
 obtain ⟨⟨fa,fc,fo,ft⟩,fb⟩:=f
 dsimp only at hb hm h4 hpa ⊢
 subst hpa
 refine ⟨⟨hpar.1,hpar.2,h1,hp.2.2.1,hp.2.2.2⟩,⟨(0,fa,()),rfl,rfl,Int.le_refl _,by dsimp only;omega,by simp [J0]⟩,?_⟩
 rintro ⟨i,n,⟨⟩⟩ ⟨g0,g1,g2⟩
 dsimp only at g0 g1 g2 ⊢
 obtain ⟨k,rfl⟩:=cq5 g0
 simp only [cq3] at g2 ⊢
 subst g2
 refine ⟨fun hlt=>?_,fun hge=>?_⟩
 ·have hlt:(k:Int)<fc.length:=cq9 hlt
  have hkc:k<fc.length:=by omega
  have hs:J0 fa (fc.take (k+1))=J0 fa (fc.take k)+((fc.getD k ins0).to.length:Int):=by
   rw [A4 hkc ins0,au9];rfl
  have hle:=bn4 fc (k+1) fa
  have hge:=aI8 (fc.take k) fa
  have hpar1:0≤fa:=hpar.1
  refine ⟨⟨g0,hlt⟩,((k+1:Nat),J0 fa (fc.take (k+1)),()),B7 hkc (by omega),?_,⟨by omega,by dsimp only;omega,by dsimp only;rw [cq3]⟩,by dsimp only;omega⟩
  show IntKind.i64.wrap (J0 fa (fc.take k)+((fc.getD k ins0).to.length:Int))=_
  rw [←hs,F8 (by omega) (by omega)]
 ·have hk:k=fc.length:=by have:¬ (k:Int)<fc.length:=cq8 hge;omega
  subst hk
  rw [ct0]
  refine ⟨fun q=>?_,fun q=>?_⟩
  ·simp only [Bool.or_eq_true,cs4] at q
   have:4000<J0 fa fc∨4000<fc.length:=by omega
   rw [if_pos this] at hb
   exact hb.symm
  ·simp only [Bool.or_eq_false_iff,decide_eq_false_iff_not] at q
   have:¬ (4000<J0 fa fc∨4000<fc.length):=by omega
   rw [if_neg this] at hb
   exact hb.symm
theorem aP7:D0 prog RG 20 cBack:=E4 (A6 an9 (A6 ay4 B9)) (fun p=>ch5 p.1 (C1 ⟨p.1,p.2.1,p.2.2.1,p.2.2.2.1,p.2.2.2.2.1⟩).1.code) (by kernel_rfl) (by kernel_rfl) (by kernel_rfl) fun (a,b,c,code,out,()) hp=>ch7 a b c code out hp
abbrev Reads:=List (Int×List Int)
abbrev mapR:Ty:=.map i64 ints
def getL (r:Reads) (n:Int):List Int:=(mget eqI r n).getD []
def aI9 (rd:Reads) (N reg from_:Int):Int:=((getL rd reg).find? (fun x=>decide (from_≤x))).getD N
def bO3:Place:=⟨true,-1⟩
def al1 (m:Holds) (reg:Int) (s:Nat):Bool:=decide (mget eqP m ⟨false,(s:Int)⟩=some reg)
def C7 (m:Holds) (ks reg:Int):Place:=match (List.range ks.toNat).find? (al1 m reg) with
 |some s=>⟨false,(s:Int)⟩
 |none=>bO3
def held0:Held:=⟨0,0,0⟩
def ao0 (x y:Held):Bool:=decide (x.next >y.next)||(x.next==y.next&&decide (x.reg >y.reg))
def I1 (x y:Held):Held:=bif ao0 y x then y else x
def L3 (l:List Held):Held:=l.tail.foldl I1 (l.headD held0)
structure AS where
 holds:Holds
 cells:List (Int×Int)
 ocells:Int
 code:List RIns
def C6 (sp:Spans) (rd:Reads) (N:Int) (m:Holds) (place:Int) (stay:List Int):List Nat→List Held→Option Int×List Held
 |[],acc=>(none,acc)
 |s::r,acc=>match mget eqP m ⟨false,(s:Int)⟩ with
  |none=>(some (s:Int),acc)
  |some n=>bif stay.contains n then C6 sp rd N m place stay r acc else bif I4 (getS sp n).first (getS sp n).last place then C6 sp rd N m place stay r (acc++[⟨(s:Int),n,aI9 rd N n place⟩]) else (some (s:Int),acc)
def M0 (sp:Spans) (rd:Reads) (ks N:Int) (m:Holds) (place:Int) (stay:List Int):Option Int×List Held:=C6 sp rd N m place stay (List.range ks.toNat) []
def ag7 (sp:Spans) (rd:Reads) (ks N:Int) (m:Holds) (place:Int) (stay:List Int):Prop:=(M0 sp rd ks N m place stay).1=none→(M0 sp rd ks N m place stay).2≠[]
def as4 (s:AS) (x:Held):AS:=bif (mget eqI s.cells x.reg).isSome then s else ⟨s.holds,mput eqI s.cells x.reg s.ocells,s.ocells+1,s.code++[⟨2,x.slot,s.ocells,ins0⟩]⟩
def G4 (sp:Spans) (rd:Reads) (ks N:Int) (s:AS) (place:Int) (stay:List Int):Int×AS:=
 match (M0 sp rd ks N s.holds place stay).1 with
 |some i=>(i,s)
 |none=>((L3 (M0 sp rd ks N s.holds place stay).2).slot,as4 s (L3 (M0 sp rd ks N s.holds place stay).2))
def F9:List Int→List Int→List Int
 |_,[]=>[]
 |seen,x::r=>bif seen.contains x then F9 (seen++[x]) r else x::F9 (seen++[x]) r
def B5 (l:List Int):List Int:=F9 [] l
def G1 (sp:Spans) (rd:Reads) (ks N i:Int) (fr:List Int) (s:AS) (n:Int):AS:=
 bif (C7 s.holds ks n).cell then
  (match G4 sp rd ks N s i fr with
  |(q,t)=>⟨mput eqP t.holds ⟨false,q⟩ n,t.cells,t.ocells,t.code++[⟨1,q,getI t.cells n,ins0⟩]⟩)
 else s
def W9 (sp:Spans) (rd:Reads) (ks N i:Int) (to:List Int) (s:AS) (n:Int):AS:=
 match G4 sp rd ks N s (i+1) to with
 |(q,t)=>⟨mput eqP t.holds ⟨false,q⟩ n,t.cells,t.ocells,t.code⟩
def E5 (sp:Spans) (rd:Reads) (ks N i:Int) (fr:List Int) (s:AS) (l:List Int):AS:=l.foldl (G1 sp rd ks N i fr) s
def J8 (sp:Spans) (rd:Reads) (ks N i:Int) (to:List Int) (s:AS) (l:List Int):AS:=l.foldl (W9 sp rd ks N i to) s
def N3 (m:Holds) (ks:Int) (l:List Int):List (Int×Int):=l.foldl (fun mm n=>mput eqI mm n (C7 m ks n).n) []
def doOf (sp:Spans) (rd:Reads) (ks N i:Int) (x:Ins) (s:AS):AS:=
 match E5 sp rd ks N i (B5 x.from_) s (B5 x.from_) with
 |s1=>match J8 sp rd ks N i x.to s1 x.to with
  |s2=>⟨s2.holds,s2.cells,s2.ocells,s2.code++[⟨0,0,0,⟨x.op,x.n,x.to.map (fun n=>(C7 s2.holds ks n).n),x.from_.map (getI (N3 s1.holds ks (B5 x.from_))),x.body⟩⟩]⟩
def doOk (sp:Spans) (rd:Reads) (ks N i:Int) (x:Ins) (s:AS):Prop:=
 (∀ k,k<(B5 x.from_).length→(C7 (E5 sp rd ks N i (B5 x.from_) s ((B5 x.from_).take k)).holds ks ((B5 x.from_).getD k 0)).cell=true→ag7 sp rd ks N (E5 sp rd ks N i (B5 x.from_) s ((B5 x.from_).take k)).holds i (B5 x.from_))∧
 (∀ k,k<x.to.length→ag7 sp rd ks N (J8 sp rd ks N i x.to (E5 sp rd ks N i (B5 x.from_) s (B5 x.from_)) (x.to.take k)).holds (i+1) x.to)
def ag8 (rd:Reads):Prop:=∀ n,(getL rd n).Pairwise (·≤·)
abbrev tysA:List Ty:=[i64,inss,ints,ints,mapS,mapR,mapP,mapI,i64,i64,i64,aU3,ax6]
abbrev objA (j b:Nat):List OPat:=[.box 86 [.d b,.d (b+1),.d (b+2),.d (b+3),.map (j+1),.map (j+2),.map (j+3),.map (j+4),.d (b+8),.d (b+9),.d (b+10),.row (j+5),.row (j+6)],.map (b+4),.map (b+5),.map (b+6),.map (b+7),.row (b+11),.row (b+12)]
def cIsNaN:Con RU:=con [one] [i64] [one] [.bool] [false] none fun p=>(false,())
def cLess:Con RU:=con [one,one] [i64,i64] [one] [.bool] [false] none fun p=>(decide (p.1<p.2.1),())
def cBin:Con RU:=⟨[one,one],[ints,i64],[.d 0,.d 1],[],some fun p=>p.1.Pairwise (·≤·),none,[one,one],[i64],[.d 0,.un],[],fun p=>(((p.1.takeWhile (fun x=>decide (x<p.2.1))).length:Int),()),[],[],[]⟩
def lBin (l:List Int) (t:Int):Nat→St RU→Ann RU:=fun _ _=>⟨[],[.slot 7,.slot 8],[i64,i64],fun p=>0≤p.1∧p.1≤p.2.1∧p.2.1≤l.length∧(∀ x∈l.take p.1.toNat,x<t)∧(∀ x∈l.drop p.2.1.toNat,t≤x),fun p=>(p.2.1-p.1).toNat,[]⟩
def cSlot:Con RU:=⟨[one,one],i64::tysA,[.ptr 0 0,.d 0],objA 0 1,some fun p=>p.2.2.2.2.2.2.2.2.2.2.1≤64,none,[(true,2)],.bool::i64::tysA,[.d 0,.d 1],objA 0 2,fun p=>((C7 p.2.2.2.2.2.2.2.1 p.2.2.2.2.2.2.2.2.2.2.1 p.1).cell,(C7 p.2.2.2.2.2.2.2.1 p.2.2.2.2.2.2.2.2.2.2.1 p.1).n,p.2),[],[],[]⟩
def ch8 (ho:Holds) (ks reg:Int):Nat→St RU→Ann RU:=fun _ _=>⟨[],[.slot 14],[i64],fun p=>0≤p.1∧(p.1≤ks∨p.1=0)∧∀ s∈List.range p.1.toNat,al1 ho reg s=false,fun p=>ks.toNat-p.1.toNat,[]⟩
def cPutA:Con RU:=⟨[one,(true,8)],[i64,i64,i64,i64,i64,ints,ints,inss]++tysA,[.ptr 0 0,.d 0,.d 1,.d 2,.d 3,.d 4,.d 5,.d 6,.d 7],objA 0 8,some fun p=>p.2.2.2.2.2.2.2.2.2.2.2.2.2.2.2.2.2.2.2.1.length≤1000000000,none,[],tysA,[],objA 0 0,
 fun p=>match p with
  |(k,s,c,o,n,t,f,b,a0,a1,a2,a3,sp,rd,ho,ce,op,ks,oc,cd,ou,())=>(a0,a1,a2,a3,sp,rd,ho,ce,op,ks,oc,cd++[⟨k,s,c,⟨o,n,t,f,b⟩⟩],ou,()),[],[],[]⟩
def cNext:Con RU:=⟨[one,one,one],i64::i64::tysA,[.ptr 0 0,.d 0,.d 1],objA 0 2,some fun p=>ag8 p.2.2.2.2.2.2.2.1,none,[one],i64::tysA,[.d 0],objA 0 1,fun p=>(aI9 p.2.2.2.2.2.2.2.1 p.2.2.2.1.length p.1 p.2.1,p.2.2),[],[],[]⟩
def cBetter:Con RU:=con [(true,3),(true,3)] [i64,i64,i64,i64,i64,i64] [one] [.bool] [false] none fun p=>(ao0 ⟨p.1,p.2.1,p.2.2.1⟩ ⟨p.2.2.2.1,p.2.2.2.2.1,p.2.2.2.2.2.1⟩,())
def cBest:Con RU:=⟨[(true,1),one],[cl6],[.fn 102,.d 0],[],some fun p=>p.1≠[],none,[(true,3)],[i64,i64,i64],[.d 0,.d 1,.d 2],[],fun p=>((L3 p.1).slot,(L3 p.1).reg,(L3 p.1).next,()),[],[],[]⟩
def ch9 (l:List Held):Nat→St RU→Ann RU:=fun _ _=>⟨[],[.slot 14,.box 320 0,.box 320 1,.box 320 2],[i64,i64,i64,i64],fun p=>0≤p.1∧p.1≤l.tail.length∧(⟨p.2.1,p.2.2.1,p.2.2.2.1⟩:Held)=(l.tail.take p.1.toNat).foldl I1 (l.headD held0),fun p=>l.tail.length-p.1.toNat,[]⟩
theorem bX6 (a:Int):vc (EV []) noL Go.Proofs.Tryd.f110 cIsNaN (a,())=((a !=a,())=(false,())):=by kernel_rfl
theorem bO4 (a:Int):vc (EV []) noL Go.Proofs.Tryd.f111 cIsNaN (a,())=((a !=a,())=(false,())):=by kernel_rfl
theorem ci0 (a b:Int):vc (EV [(111,cIsNaN)]) noL Go.Proofs.Tryd.f109 cLess (a,b,())=(
 let e0:Bool:=decide (a<b);
  (false&&!false||e0,())=(e0,())):=by kernel_rfl
theorem cn5 (l:List Int) (t:Int):vc (EV [(109,cLess),(110,cIsNaN)]) (lBin l t) Go.Proofs.Tryd.f107 cBin (l,t,())=(
 let e0:Int:=(↑(List.length l):Int);
 let e1:Int:=(2:Int) ^ (1:Nat);
  Small RU (Sigma.mk (Ty.slice (3:Nat) (Ty.int IntKind.i64)) l)→
  (∃ (p:Int×Int×Unit),
  l=l∧
  t=t∧
  (0:Int)=(0:Int)∧
  false=false∧
  e0=e0∧
  (0:Int)=p.1∧
  e0=p.2.1∧
  (0:Int)≤p.1∧
  p.1≤p.2.1∧p.2.1≤e0∧(∀ (x:Int),List.Mem x (List.take (Int.toNat p.1) l)→x<t)∧∀ (x:Int),List.Mem x (List.drop (Int.toNat p.2.1) l)→t≤x)∧
  ∀ (p:Int×Int×Unit),
 let e0_1:Bool:=decide (List.getD l (Int.toNat (IntKind.i64.wrap (Int.fdiv (IntKind.wrap IntKind.u64 (IntKind.i64.wrap (p.1+p.2.1))) e1))) (0:Int)<t);
 let e1:Int:=IntKind.i64.wrap (Int.fdiv (IntKind.wrap IntKind.u64 (IntKind.i64.wrap (p.1+p.2.1))) e1);
 let e2:Bool:=decide (p.1<p.2.1);
 let e3:Int:=p.2.1;
 let e4:Int:=p.1;
  ((0:Int)≤e4∧e4≤e3∧e3≤e0∧(∀ (x:Int),List.Mem x (List.take (Int.toNat e4) l)→x<t)∧∀ (x:Int),List.Mem x (List.drop (Int.toNat e3) l)→t≤x)→
  (e2=true→
  (0:Int)≤(1:Int)∧
  ((0:Int)≤e1∧e1<e0)∧
  ∃ (p':Int×Int×Unit),
  (bif e0_1 then l else l)=l∧
  (bif e0_1 then t else t)=t∧
  (bif e0_1 then (0:Int) else (0:Int))=(0:Int)∧
  (bif e0_1 then false else false)=false∧
  (bif e0_1 then e0 else e0)=e0∧
  (bif e0_1 then IntKind.i64.wrap (e1+(1:Int)) else e4)=p'.1∧
  (bif e0_1 then e3 else e1)=p'.2.1∧
  ((0:Int)≤p'.1∧
  p'.1≤p'.2.1∧
  p'.2.1≤e0∧(∀ (x:Int),List.Mem x (List.take (Int.toNat p'.1) l)→x<t)∧∀ (x:Int),List.Mem x (List.drop (Int.toNat p'.2.1) l)→t≤x)∧
  Int.toNat (p'.2.1-p'.1)<Int.toNat (e3-e4))∧
  (e2=false→
  (decide (e4<e0)=true→(0:Int)≤e4∧e4<e0)∧
  (decide (e4<e0)=true→(List.getD l (Int.toNat e4) (0:Int)==t)=false→(0:Int)≤e4∧e4<e0)∧
  (e4,())=((↑(List.length (List.takeWhile (fun (x:den RU.T i64)=>decide (x<t)) l)):Int),()))):=by kernel_rfl
theorem ci1 (reg a0:Int) (a1:List Ins) (a2 a3:List Int) (sp:Spans) (rd:Reads) (ho:Holds) (ce:List (Int×Int)) (op ks oc:Int) (cd:List RIns) (ou:List Place):vc (EV []) (ch8 ho ks reg) Go.Proofs.Tryd.f54 cSlot (reg,a0,a1,a2,a3,sp,rd,ho,ce,op,ks,oc,cd,ou,())=(
 let e0:Int×List Ins×List Int×List Int×List (Int×Span)×List (Int×List Int)×List (Place×Int)×List (Int×Int)×Int×Int×Int×List RIns×List Place×Unit:=
  (a0,a1,a2,a3,sp,rd,ho,ce,op,ks,oc,cd,ou,());
 let e1:Bool×Int×Int×List Ins×List Int×List Int×List (Int×Span)×List (Int×List Int)×List (Place×Int)×List (Int×Int)×Int×Int×Int×List RIns×List Place×Unit:=
  ((C7 ho ks reg).cell,(C7 ho ks reg).n,e0);
  Small RU (Sigma.mk (Ty.slice (52:Nat) (Ty.user (0:Nat))) a1)→
  Small RU (Sigma.mk (Ty.slice (3:Nat) (Ty.int IntKind.i64)) a2)→
  Small RU (Sigma.mk (Ty.slice (3:Nat) (Ty.int IntKind.i64)) a3)→
  Small RU (Sigma.mk (Ty.slice (55:Nat) (Ty.user (1:Nat))) cd)→
  Small RU (Sigma.mk (Ty.slice (59:Nat) (Ty.user (2:Nat))) ou)→
  (∃ (p:Int×Unit),
  reg=reg∧
  ks=ks∧
  (0:Int)=p.1∧
  a0=a0∧
  a1=a1∧
  a2=a2∧
  a3=a3∧
  op=op∧
  ks=ks∧
  oc=oc∧
  sp=sp∧
  rd=rd∧
  ho=ho∧
  ce=ce∧
  cd=cd∧
  ou=ou∧
  false=false∧
  (0:Int)=(0:Int)∧
  (0:Int)≤p.1∧(p.1≤ks∨p.1=(0:Int))∧∀ (s:Nat),List.Mem s (List.range (Int.toNat p.1))→al1 ho reg s=false)∧
  ∀ (p:Int×Unit),
 let e0_1:Bool:=
  Option.isSome (mget (E8 RU (Ty.user (2:Nat))) ho (Place.mk false p.1))&&Option.getD (mget (E8 RU (Ty.user (2:Nat))) ho (Place.mk false p.1)) (0:Int)==reg;
 let e1_1:Bool:=decide (p.1<ks);
  ((0:Int)≤p.1∧(p.1≤ks∨p.1=(0:Int))∧∀ (s:Nat),List.Mem s (List.range (Int.toNat p.1))→al1 ho reg s=false)→
  (e1_1=true→
  (e0_1=true→(false,p.1,e0)=e1)∧
  (e0_1=false→
  ∃ (p':Int×Unit),
  reg=reg∧
  ks=ks∧
  IntKind.i64.wrap (p.1+(1:Int))=p'.1∧
  a0=a0∧
  a1=a1∧
  a2=a2∧
  a3=a3∧
  op=op∧
  ks=ks∧
  oc=oc∧
  sp=sp∧
  rd=rd∧
  ho=ho∧
  ce=ce∧
  cd=cd∧
  ou=ou∧
  false=false∧
  (0:Int)=(0:Int)∧
  ((0:Int)≤p'.1∧
  (p'.1≤ks∨p'.1=(0:Int))∧∀ (s:Nat),List.Mem s (List.range (Int.toNat p'.1))→al1 ho reg s=false)∧
  Int.toNat ks-Int.toNat p'.1<Int.toNat ks-Int.toNat p.1))∧
  (e1_1=false→(true,(-1:Int),e0)=e1)):=by kernel_rfl
theorem ci2 (k s c o n:Int) (t f:List Int) (b:List Ins) (a0:Int) (a1:List Ins) (a2 a3:List Int) (sp:Spans) (rd:Reads) (ho:Holds) (ce:List (Int×Int)) (op ks oc:Int) (cd:List RIns) (ou:List Place):vc (EV []) noL Go.Proofs.Tryd.f85 cPutA (k,s,c,o,n,t,f,b,a0,a1,a2,a3,sp,rd,ho,ce,op,ks,oc,cd,ou,())=(
 let e0:List RIns:=[RIns.mk k s c (Ins.mk o n t f b)];
  Small RU (Sigma.mk (Ty.slice (3:Nat) (Ty.int IntKind.i64)) t)→
  Small RU (Sigma.mk (Ty.slice (3:Nat) (Ty.int IntKind.i64)) f)→
  Small RU (Sigma.mk (Ty.slice (52:Nat) (Ty.user (0:Nat))) b)→
  Small RU (Sigma.mk (Ty.slice (52:Nat) (Ty.user (0:Nat))) a1)→
  Small RU (Sigma.mk (Ty.slice (3:Nat) (Ty.int IntKind.i64)) a2)→
  Small RU (Sigma.mk (Ty.slice (3:Nat) (Ty.int IntKind.i64)) a3)→
  Small RU (Sigma.mk (Ty.slice (55:Nat) (Ty.user (1:Nat))) cd)→
  Small RU (Sigma.mk (Ty.slice (59:Nat) (Ty.user (2:Nat))) ou)→
  (List.length cd+List.length e0)*(112:Nat)≤(140737488355328:Nat)∧
  (a0,a1,a2,a3,sp,rd,ho,ce,op,ks,oc,cd++e0,ou,())=(a0,a1,a2,a3,sp,rd,ho,ce,op,ks,oc,cd++e0,ou,())):=by kernel_rfl
theorem ci3 (reg fr a0:Int) (a1:List Ins) (a2 a3:List Int) (sp:Spans) (rd:Reads) (ho:Holds) (ce:List (Int×Int)) (op ks oc:Int) (cd:List RIns) (ou:List Place):vc (EV [(107,cBin)]) noL Go.Proofs.Tryd.f100 cNext (reg,fr,a0,a1,a2,a3,sp,rd,ho,ce,op,ks,oc,cd,ou,())=(
 let e0:Int:=(↑(List.length (List.takeWhile (fun (x:den RU.T i64)=>decide (x<fr)) (Option.getD (mget (fun (x y:Int)=>x==y) rd reg) []))):Int);
 let e1:Int×List Ins×List Int×List Int×List (Int×Span)×List (Int×List Int)×List (Place×Int)×List (Int×Int)×Int×Int×Int×List RIns×List Place×Unit:=
  (a0,a1,a2,a3,sp,rd,ho,ce,op,ks,oc,cd,ou,());
 let e2:Int×Int×List Ins×List Int×List Int×List (Int×Span)×List (Int×List Int)×List (Place×Int)×List (Int×Int)×Int×Int×Int×List RIns×List Place×Unit:=
  (aI9 rd (↑(List.length a1):Int) reg fr,e1);
 let e3:List Int:=Option.getD (mget (fun (x y:Int)=>x==y) rd reg) [];
  Small RU (Sigma.mk (Ty.slice (52:Nat) (Ty.user (0:Nat))) a1)→
  Small RU (Sigma.mk (Ty.slice (3:Nat) (Ty.int IntKind.i64)) a2)→
  Small RU (Sigma.mk (Ty.slice (3:Nat) (Ty.int IntKind.i64)) a3)→
  Small RU (Sigma.mk (Ty.slice (55:Nat) (Ty.user (1:Nat))) cd)→
  Small RU (Sigma.mk (Ty.slice (59:Nat) (Ty.user (2:Nat))) ou)→
  List.Pairwise (fun (x1 x2:den RU.T i64)=>x1≤x2) e3∧
  ((e0==(↑(List.length e3):Int))=true→((↑(List.length a1):Int),e1)=e2)∧
  ((e0==(↑(List.length e3):Int))=false→((0:Int)≤e0∧e0<(↑(List.length e3):Int))∧(List.getD e3 (Int.toNat e0) (0:Int),e1)=e2)):=by kernel_rfl
theorem bO5 (a b c d e f:Int):vc (EV []) noL Go.Proofs.Tryd.f102 cBetter (a,b,c,d,e,f,())=((decide (c >f)||c==f&&decide (b >e),())=(ao0 (Held.mk a b c) (Held.mk d e f),())):=by kernel_rfl
theorem ci4 (l:List Held):vc (EV [(102,cBetter)]) (ch9 l) Go.Proofs.Tryd.f101 cBest (l,())=(
 let e0:Int:=(↑(List.length (List.drop (1:Nat) l)):Int);
 let e1:Held:=List.getD l (0:Nat) (Held.mk (0:Int) (0:Int) (0:Int));
 let e2:List Held:=List.drop (1:Nat) l;
 let e3:Value:=Value.func (Fn.func (102:Nat)) #[] #[];
  Small RU (Sigma.mk (Ty.slice (131:Nat) (Ty.user (4:Nat))) l)→
  ((0:Int)≤(0:Int)∧(0:Int)<(↑(List.length l):Int))∧
  ((0:Int)≤(1:Int)∧(1:Int)≤(↑(List.length l):Int))∧
  (∃ (p:Int×Int×Int×Int×Unit),
  e3=e3∧
  l=l∧
  e2=e2∧
  e0=e0∧
  (0:Int)=p.1∧
  e3=e3∧
  (0:Int)=(0:Int)∧
  (0:Int)=(0:Int)∧
  (0:Int)=(0:Int)∧
  e1.slot=p.2.1∧
  e1.reg=p.2.2.1∧
  e1.next=p.2.2.2.1∧
  (0:Int)≤p.1∧
  p.1≤(↑(List.length (List.tail l)):Int)∧
  Held.mk p.2.1 p.2.2.1 p.2.2.2.1=List.foldl I1 (List.headD l held0) (List.take (Int.toNat p.1) (List.tail l)))∧
  ∀ (p:Int×Int×Int×Int×Unit),
 let e0_1:Bool:=
  ao0
  (Held.mk (List.getD e2 (Int.toNat p.1) (Held.mk (0:Int) (0:Int) (0:Int))).slot (List.getD e2 (Int.toNat p.1) (Held.mk (0:Int) (0:Int) (0:Int))).reg
  (List.getD e2 (Int.toNat p.1) (Held.mk (0:Int) (0:Int) (0:Int))).next)
  (Held.mk p.2.1 p.2.2.1 p.2.2.2.1);
 let e1:Held:=List.getD e2 (Int.toNat p.1) (Held.mk (0:Int) (0:Int) (0:Int));
 let e2_1:Int:=p.1;
 let e3_1:Int:=p.2.2.2.1;
 let e4:Int:=p.2.2.1;
 let e5:Int:=p.2.1;
 let e6:Bool:=decide (e2_1<e0);
  (0:Int)≤e2_1∧e2_1≤(↑(List.length (List.tail l)):Int)∧Held.mk e5 e4 e3_1=List.foldl I1 (List.headD l held0) (List.take (Int.toNat e2_1) (List.tail l))→
  (e6=true→
  ((0:Int)≤e2_1∧e2_1<e0)∧
  ∃ (p':Int×Int×Int×Int×Unit),
  e3=e3∧
  (bif e0_1 then l else l)=l∧
  (bif e0_1 then e2 else e2)=e2∧
  (bif e0_1 then e0 else e0)=e0∧
  IntKind.i64.wrap ((bif e0_1 then e2_1 else e2_1)+(1:Int))=p'.1∧
  e3=e3∧
  (bif e0_1 then (0:Int) else (0:Int))=(0:Int)∧
  (bif e0_1 then (0:Int) else (0:Int))=(0:Int)∧
  (bif e0_1 then (0:Int) else (0:Int))=(0:Int)∧
  (bif e0_1 then e1.slot else e5)=p'.2.1∧
  (bif e0_1 then e1.reg else e4)=p'.2.2.1∧
  (bif e0_1 then e1.next else e3_1)=p'.2.2.2.1∧
  ((0:Int)≤p'.1∧
  p'.1≤(↑(List.length (List.tail l)):Int)∧
  Held.mk p'.2.1 p'.2.2.1 p'.2.2.2.1=List.foldl I1 (List.headD l held0) (List.take (Int.toNat p'.1) (List.tail l)))∧
  List.length (List.tail l)-Int.toNat p'.1<List.length (List.tail l)-Int.toNat e2_1)∧
  (e6=false→(e5,e4,e3_1,())=((L3 l).slot,(L3 l).reg,(L3 l).next,()))):=by kernel_rfl
theorem bn6:D0 prog RG 110 cIsNaN:=E4 B9 (fun _=>noL) (by kernel_rfl) (by kernel_rfl) (by kernel_rfl) fun (a,()) _=>(bX6 a).mpr (by rw [bne_self_eq_false])
theorem bf9:D0 prog RG 111 cIsNaN:=E4 B9 (fun _=>noL) (by kernel_rfl) (by kernel_rfl) (by kernel_rfl) fun (a,()) _=>(bO4 a).mpr (by rw [bne_self_eq_false])
theorem bC5:D0 prog RG 109 cLess:=E4 (A6 bf9 B9) (fun _=>noL) (by kernel_rfl) (by kernel_rfl) (by kernel_rfl) fun (a,b,()) _=>(ci0 a b).mpr (by dsimp only;rw [Bool.false_and,Bool.false_or])
theorem aW4 {l:List Int} {t:Int} {k:Nat} (hk:k≤l.length) (h1:∀ x∈l.take k,x<t) (h2:∀ x∈l.drop k,t≤x):l.takeWhile (fun x=>decide (x<t))=l.take k:=by
 induction l generalizing k with
 |nil=>simp
 |cons x r ih=>
  cases k with
  |zero=>
   have:=h2 x (by simp)
   rw [List.takeWhile_cons_of_neg (by simp;omega)]
   rfl
  |succ k=>
   have hx:=h1 x (by simp)
   rw [List.takeWhile_cons_of_pos (by simpa using hx),List.take_succ_cons,ih (by simpa using hk) (fun y hy=>h1 y (by simp [hy])) (fun y hy=>h2 y (by simpa using hy))]
theorem bg0 {l:List Int} (h:l.Pairwise (·≤·)) {i j:Nat} (hij:i≤j) (hj:j<l.length):l.getD i 0≤l.getD j 0:=by
 rw [cr3,cr3,cq1 (by omega),cq1 hj]
 rcases Nat.lt_or_eq_of_le hij with h1|h1
 ·exact List.pairwise_iff_getElem.1 h i j (by omega) hj h1
 ·subst h1;exact Int.le_refl _
theorem aW5 {l:List Int} {k:Nat} {x:Int} (h:x∈l.take k):∃ i,i<k∧i<l.length∧x=l.getD i 0:=by
 obtain ⟨i,hi,rfl⟩:=List.mem_iff_getElem.1 h
 rw [ct1] at hi
 exact ⟨i,by omega,by omega,by rw [List.getElem_take,cr3,cq1 (by omega)];rfl⟩
theorem aW6 {l:List Int} {k:Nat} {x:Int} (h:x∈l.drop k):∃ i,k≤i∧i<l.length∧x=l.getD i 0:=by
 obtain ⟨i,hi,rfl⟩:=List.mem_iff_getElem.1 h
 rw [List.length_drop] at hi
 exact ⟨k+i,by omega,by omega,by rw [List.getElem_drop,cr3,cq1 (by omega)];rfl⟩
theorem cn6 (l:List Int) (t:Int) (hp:l.Pairwise (·≤·)):vc (EV [(109,cLess),(110,cIsNaN)]) (lBin l t) Go.Proofs.Tryd.f107 cBin (l,t,()):=by
 rw [cn5 l t]
 intro e0 e1 hs
 have hl:l.length≤140737488355328:=hs.len
 have he1:e1=2:=rfl
 dsimp only [e0]
 simp only [true_and,and_true,Bool.cond_self,he1]
 clear_value e1
 refine ⟨⟨(0,(l.length:Int),()),rfl,rfl,Int.le_refl _,by dsimp only;omega,Int.le_refl _,fun x hx=>?_,fun x hx=>?_⟩,?_⟩
 ·change x∈l.take 0 at hx;simp at hx
 ·dsimp only at hx;change x∈l.drop (l.length:Int).toNat at hx;simp at hx
 rintro ⟨i,j,⟨⟩⟩ ⟨h0,h1,h2,h3,h4⟩
 dsimp only at h0 h1 h2 h3 h4 ⊢
 have h3:∀ x∈l.take i.toNat,x<t:=h3
 have h4:∀ x∈l.drop j.toNat,t≤x:=h4
 obtain ⟨i,rfl⟩:=cq5 h0
 obtain ⟨j,rfl⟩:=cq5 (Int.le_trans h0 h1)
 simp only [cq3] at h3 h4 ⊢
 refine ⟨fun hlt=>?_,fun hge=>?_⟩
 ·have hlt:(i:Int)<j:=cq9 hlt
  have hm:IntKind.i64.wrap (Int.fdiv (IntKind.u64.wrap (IntKind.i64.wrap ((i:Int)+j))) 2)=((i+j) / 2:Nat):=by
   rw [F8 (n:=(i:Int)+j) (by omega) (by omega)]
   have hu:IntKind.u64.wrap ((i:Int)+j)=(i:Int)+j:=by
    simp only [IntKind.wrap,IntKind.bits,IntKind.signed,Bool.false_and,Bool.false_eq_true,if_false]
    omega
   rw [hu,Int.fdiv_eq_ediv_of_nonneg _ (by omega),F8 (by omega) (by omega)]
   omega
  rw [hm]
  have hmid:i≤(i+j) / 2∧(i+j) / 2<j:=by omega
  generalize (i+j) / 2=m at hmid ⊢
  simp only [cq3]
  refine ⟨by omega,⟨by omega,by omega⟩,?_⟩
  cases hb:decide (l.getD m 0<t) with
  |true=>
   have hb:l.getD m 0<t:=cq9 hb
   simp only [cond_true]
   refine ⟨((m+1:Nat),(j:Int),()),B7 (m:=l.length) (by omega) hl,rfl,⟨by omega,by dsimp only;omega,by dsimp only;omega,fun x hx=>?_,fun x hx=>h4 x hx⟩,by dsimp only;omega⟩
   have hx:x∈l.take ((m+1:Nat):Int).toNat:=hx
   rw [cq3] at hx
   obtain ⟨q,hq1,hq2,rfl⟩:=aW5 hx
   have:=bg0 hp (i:=q) (j:=m) (by omega) (by omega)
   omega
  |false=>
   have hb:¬ l.getD m 0<t:=cq8 hb
   simp only [cond_false]
   refine ⟨((i:Int),(m:Int),()),rfl,rfl,⟨by omega,by dsimp only;omega,by dsimp only;omega,fun x hx=>h3 x hx,fun x hx=>?_⟩,by dsimp only;omega⟩
   have hx:x∈l.drop ((m:Nat):Int).toNat:=hx
   rw [cq3] at hx
   obtain ⟨q,hq1,hq2,rfl⟩:=aW6 hx
   have:=bg0 hp (i:=m) (j:=q) (by omega) (by omega)
   omega
 ·have hij:i=j:=by have:¬ (i:Int)<j:=cq8 hge;omega
  subst hij
  refine ⟨fun q=>⟨h0,cq9 q⟩,fun q _=>⟨h0,cq9 q⟩,?_⟩
  have:=aW4 (by omega) h3 h4
  have h9:(List.takeWhile (fun (x:den RU.T i64)=>decide (x<t)) l).length=i:=by
   show (List.takeWhile (fun (x:Int)=>decide (x<t)) l).length=i
   rw [this,ct1];omega
  rw [h9]
theorem bO6:D0 prog RG 107 cBin:=E4 (A6 bC5 (A6 bn6 B9)) (fun p=>lBin p.1 p.2.1) (by kernel_rfl) (by kernel_rfl) (by kernel_rfl) fun (l,t,()) hp=>cn6 l t hp
theorem av0 {m:Holds} {reg:Int} {s:Nat}:al1 m reg s=true↔mget eqP m ⟨false,(s:Int)⟩=some reg:=by simp [al1]
theorem bC6 {p:Nat→Bool} {n s:Nat} (h1:∀ x∈List.range s,p x=false) (hs:s<n) (h2:p s=true):(List.range n).find? p=some s:=by
 rw [List.find?_range_eq_some]
 exact ⟨h2,by simpa using hs,fun j hj=>by have:=h1 j (by simpa using hj);simp [this]⟩
theorem aJ0 {p:Nat→Bool} {n:Nat} (h1:∀ x∈List.range n,p x=false):(List.range n).find? p=none:=by
 rw [List.find?_eq_none]
 intro x hx
 rw [h1 x hx]
 simp
theorem ci5 (reg a0:Int) (a1:List Ins) (a2 a3:List Int) (sp:Spans) (rd:Reads) (ho:Holds) (ce:List (Int×Int)) (op ks oc:Int) (cd:List RIns) (ou:List Place) (hp:ks≤64):vc (EV []) (ch8 ho ks reg) Go.Proofs.Tryd.f54 cSlot (reg,a0,a1,a2,a3,sp,rd,ho,ce,op,ks,oc,cd,ou,()):=by
 rw [ci1 reg a0 a1 a2 a3 sp rd ho ce op ks oc cd ou]
 intro e0 e1 _ _ _ _ _
 have he1:e1=((C7 ho ks reg).cell,(C7 ho ks reg).n,e0):=rfl
 clear_value e1 e0
 simp only [true_and,and_true]
 refine ⟨⟨(0,()),rfl,Int.le_refl _,.inr rfl,fun s hs=>?_⟩,?_⟩
 ·change s∈List.range 0 at hs;simp at hs
 rintro ⟨i,⟨⟩⟩ ⟨h0,h1,h2⟩
 dsimp only at h0 h1 h2 ⊢
 have h2:∀ s∈List.range i.toNat,al1 ho reg s=false:=h2
 obtain ⟨i,rfl⟩:=cq5 h0
 simp only [cq3] at h2 ⊢
 have hb:((mget (E8 RU (Ty.user 2)) ho ⟨false,(i:Int)⟩).isSome&&(mget (E8 RU (Ty.user 2)) ho ⟨false,(i:Int)⟩).getD 0==reg)=al1 ho reg i:=by
  show ((mget eqP ho ⟨false,(i:Int)⟩).isSome&&(mget eqP ho ⟨false,(i:Int)⟩).getD 0==reg)=decide (mget eqP ho ⟨false,(i:Int)⟩=some reg)
  cases mget eqP ho ⟨false,(i:Int)⟩ with
  |none=>rfl
  |some v=>rw [Bool.eq_iff_iff];simp
 rw [hb]
 refine ⟨fun hlt=>?_,fun hge=>?_⟩
 ·have hlt:(i:Int)<ks:=cq9 hlt
  refine ⟨fun q=>?_,fun q=>?_⟩
  ·rw [he1,show C7 ho ks reg=⟨false,(i:Int)⟩ by unfold C7;rw [bC6 h2 (by omega) q]]
  ·refine ⟨((i+1:Nat),()),?_,⟨by omega,.inl (by dsimp only;omega),fun s hs=>?_⟩,by dsimp only;omega⟩
   ·rw [F8 (by omega) (by omega)];rfl
   ·have hs:s∈List.range ((i+1:Nat):Int).toNat:=hs
    rw [cq3,List.range_succ,cs9] at hs
    rcases hs with hs|hs
    ·exact h2 s hs
    ·simp only [cr0] at hs
     rw [hs];exact q
 ·have hge:¬ (i:Int)<ks:=cq8 hge
  have hk:List.range ks.toNat=List.range (min i ks.toNat):=by congr 1;omega
  have hn:(List.range ks.toNat).find? (al1 ho reg)=none:=aJ0 (fun x hx=>h2 x (by simp at hx ⊢;omega))
  rw [he1,show C7 ho ks reg=bO3 by unfold C7;rw [hn]]
  rfl
theorem av1:D0 prog RG 54 cSlot:=E4 B9 (fun p=>ch8 p.2.2.2.2.2.2.2.1 p.2.2.2.2.2.2.2.2.2.2.1 p.1) (by kernel_rfl) (by kernel_rfl) (by kernel_rfl) fun (reg,a0,a1,a2,a3,sp,rd,ho,ce,op,ks,oc,cd,ou,()) hp=>ci5 reg a0 a1 a2 a3 sp rd ho ce op ks oc cd ou hp
theorem aP8:D0 prog RG 85 cPutA:=E4 B9 (fun _=>noL) (by kernel_rfl) (by kernel_rfl) (by kernel_rfl) fun (k,s,c,o,n,t,f,b,a0,a1,a2,a3,sp,rd,ho,ce,op,ks,oc,cd,ou,()) hp=>(ci2 k s c o n t f b a0 a1 a2 a3 sp rd ho ce op ks oc cd ou).mpr (by
 have hp:cd.length≤1000000000:=hp
 intro e0 _ _ _ _ _ _ _ _
 exact ⟨by show (cd.length+1)*112≤_;omega,rfl⟩)
theorem bg1 {t:Int}:∀ (l:List Int),l.find? (fun x=>decide (t≤x))=l[(l.takeWhile (fun x=>decide (x<t))).length]?
 |[]=>rfl
 |x::r=>by
  by_cases h:x<t
  ·rw [List.find?_cons_of_neg (by simpa using h),List.takeWhile_cons_of_pos (by simpa using h)]
   simp only [cr5,List.getElem?_cons_succ]
   exact bg1 r
  ·rw [List.find?_cons_of_pos (by simp;omega),List.takeWhile_cons_of_neg (by simpa using h)]
   rfl
theorem bC7:D0 prog RG 100 cNext:=E4 (A6 bO6 B9) (fun _=>noL) (by kernel_rfl) (by kernel_rfl) (by kernel_rfl) fun (reg,fr,a0,a1,a2,a3,sp,rd,ho,ce,op,ks,oc,cd,ou,()) hp=>(ci3 reg fr a0 a1 a2 a3 sp rd ho ce op ks oc cd ou).mpr (by
 have hp:ag8 rd:=hp
 intro e0 e1 e2 e3 _ _ _ _ _
 have he3:e3=getL rd reg:=rfl
 have he0:e0=((e3.takeWhile (fun x=>decide (x<fr))).length:Int):=rfl
 have he2:e2=(aI9 rd a1.length reg fr,e1):=rfl
 have hN:aI9 rd a1.length reg fr=(e3[(e3.takeWhile (fun x=>decide (x<fr))).length]?).getD a1.length:=by
  rw [←bg1];rfl
 have hle:(e3.takeWhile (fun x=>decide (x<fr))).length≤e3.length:=(List.takeWhile_prefix _).length_le
 rw [hN] at he2
 clear_value e2 e1
 refine ⟨hp reg,fun q=>?_,fun q=>?_⟩
 ·rw [he0] at q
  have q:(e3.takeWhile (fun x=>decide (x<fr))).length=e3.length:=by have:=eq_of_beq q;omega
  rw [he2,List.getElem?_eq_none (by omega)]
  rfl
 ·rw [he0] at q ⊢
  have q:¬ (e3.takeWhile (fun x=>decide (x<fr))).length=e3.length:=by have:=beq_eq_false_iff_ne.1 q;omega
  refine ⟨by omega,?_⟩
  rw [he2,cq3,cr3,cq1 (by omega)]
  rfl)
theorem bg2:D0 prog RG 102 cBetter:=E4 B9 (fun _=>noL) (by kernel_rfl) (by kernel_rfl) (by kernel_rfl) fun (a,b,c,d,e,f,()) _=>(bO5 a b c d e f).mpr rfl
theorem ci6 (l:List Held) (hp:l≠[]):vc (EV [(102,cBetter)]) (ch9 l) Go.Proofs.Tryd.f101 cBest (l,()):=by
 rw [ci4 l]
 intro e0 e1 e2 e3 hs
 have hl:l.length≤140737488355328:=hs.len
 have hpos:0<l.length:=by cases l with|nil=>exact absurd rfl hp|cons=>simp
 have he2:e2=l.tail:=List.drop_one
 have hlt:l.tail.length=l.length-1:=by simp
 have he1:e1=l.headD held0:=by
  show l.getD 0 held0=_
  cases l<;>rfl
 have he0:e0=(e2.length:Int):=rfl
 clear_value e0 e1 e2
 subst he0 he1 he2
 dsimp only [e3]
 simp only [true_and,and_true,Bool.cond_self]
 have hd:(⟨0,0,0⟩:Held)=held0:=rfl
 rw [hd]
 refine ⟨by omega,by omega,⟨(0,(l.headD held0).slot,(l.headD held0).reg,(l.headD held0).next,()),rfl,rfl,rfl,rfl,Int.le_refl _,by dsimp only;omega,rfl⟩,?_⟩
 rintro ⟨i,a,b,c,⟨⟩⟩ ⟨h0,h1,h2⟩
 dsimp only at h0 h1 h2 ⊢
 obtain ⟨k,rfl⟩:=cq5 h0
 simp only [cq3] at h2 ⊢
 refine ⟨fun hlt2=>?_,fun hge=>?_⟩
 ·have hlt2:(k:Int)<l.tail.length:=cq9 hlt2
  have hn:(l.tail.take (k+1)).foldl I1 (l.headD held0)=I1 ⟨a,b,c⟩ (l.tail.getD k held0):=by
   rw [A4 (by omega) held0,List.foldl_append,←h2];rfl
  generalize l.tail.getD k held0=y at hn ⊢
  refine ⟨⟨h0,hlt2⟩,((k+1:Nat),(I1 ⟨a,b,c⟩ y).slot,(I1 ⟨a,b,c⟩ y).reg,(I1 ⟨a,b,c⟩ y).next,()),B7 (m:=l.length) (by omega) hl,?_,?_,?_,⟨by omega,by dsimp only;omega,by dsimp only;rw [cq3,hn]⟩,by dsimp only;omega⟩
  all_goals
   show (bif ao0 ⟨y.slot,y.reg,y.next⟩ ⟨a,b,c⟩ then _ else _)=_
   dsimp only [I1]
   rw [show (⟨y.slot,y.reg,y.next⟩:Held)=y from rfl]
   cases ao0 y ⟨a,b,c⟩<;>rfl
 ·have hk:k=l.tail.length:=by have:¬ (k:Int)<l.tail.length:=cq8 hge;omega
  subst hk
  rw [ct0] at h2
  rw [L3,←h2]
theorem bC8:D0 prog RG 101 cBest:=E4 (A6 bg2 B9) (fun p=>ch9 p.1) (by kernel_rfl) (by kernel_rfl) (by kernel_rfl) fun (l,()) hp=>ci6 l hp
def cRoom:Con RU:=⟨[one,one,one],i64::ints::tysA,[.ptr 0 0,.d 0,.d 1],objA 0 2,some fun p=>match p with
  |(pl,st,a0,a1,a2,a3,sp,rd,ho,ce,op,ks,oc,cd,ou,())=>ag8 rd∧ag7 sp rd ks a1.length ho pl st∧ks≤64∧0≤oc∧oc≤1000000000∧cd.length≤1000000000,
 none,[one],i64::tysA,[.d 0],objA 0 1,fun p=>match p with
  |(pl,st,a0,a1,a2,a3,sp,rd,ho,ce,op,ks,oc,cd,ou,())=>((G4 sp rd ks a1.length ⟨ho,ce,oc,cd⟩ pl st).1,a0,a1,a2,a3,sp,rd,(G4 sp rd ks a1.length ⟨ho,ce,oc,cd⟩ pl st).2.holds,(G4 sp rd ks a1.length ⟨ho,ce,oc,cd⟩ pl st).2.cells,op,ks,(G4 sp rd ks a1.length ⟨ho,ce,oc,cd⟩ pl st).2.ocells,(G4 sp rd ks a1.length ⟨ho,ce,oc,cd⟩ pl st).2.code,ou,()),[],[],[]⟩
def ci7 (sp:Spans) (rd:Reads) (ks N:Int) (ho:Holds) (pl:Int) (st:List Int):Nat→St RU→Ann RU:=fun _ _=>⟨[8],[.slot 22,.row 900001],[i64,cl6],fun p=>0≤p.1∧(p.1≤ks∨p.1=0)∧C6 sp rd N ho pl st (List.range p.1.toNat) []=(none,p.2.1),fun p=>ks.toNat-p.1.toNat,[(.slot 8,900001,131,.user 4)]⟩
def cGetA:Con RU:=⟨[one,one],i64::tysA,[.d 0,.ptr 0 0],.box 79 [.ptr 1 0]::objA 1 1,some fun p=>p.2.2.2.2.2.2.2.2.2.2.1≤64,none,[one],i64::tysA,[.d 0],.box 79 [.ptr 1 0]::objA 1 1,fun p=>((C7 p.2.2.2.2.2.2.2.1 p.2.2.2.2.2.2.2.2.2.2.1 p.1).n,p.2),[0],[],[]⟩
def cCalledA:Con RU:=⟨[(true,5),one,one],ax7++tysA++[mapI],[.d 0,.d 1,.d 2,.d 3,.d 4,.clo 86 [0],.clo 87 [8]],.box 79 [.ptr 1 0]::objA 1 5++[.box 84 [.map 9],.map 18],some fun p=>match p with
  |(x1,x2,x3,x4,x5,a0,a1,a2,a3,sp,rd,ho,ce,op,ks,oc,cd,ou,sl,())=>W8 x3 x4 x5=true∧ks≤64,none,
 [(true,5)],ax7++tysA++[mapI],[.d 0,.d 1,.d 2,.d 3,.d 4],.box 79 [.ptr 1 0]::objA 1 5++[.box 84 [.map 9],.map 18],
 fun p=>match p with
  |(x1,x2,x3,x4,x5,a0,a1,a2,a3,sp,rd,ho,ce,op,ks,oc,cd,ou,sl,())=>(x1,x2,x3.map (fun n=>(C7 ho ks n).n),x4.map (getI sl),x5,a0,a1,a2,a3,sp,rd,ho,ce,op,ks,oc,cd,ou,sl,()),[0,8],[],[]⟩
def aW7 (x1 x2:Int) (x3 x4:List Int) (x5:List Ins) (ho:Holds) (ks:Int) (sl:List (Int×Int)):Nat→St RU→Ann RU:=fun k s=>match k with
 |0=>⟨[],[.slot 20,.row 896],[i64,inss],fun p=>0≤p.1∧p.1≤x4.length∧p.2.1=[⟨x1,x2,x3,(x4.take p.1.toNat).map (getI sl)++x4.drop p.1.toNat,x5⟩],fun p=>x4.length-p.1.toNat,[]⟩
 |_=>⟨[],[.slot 36,.row 896],[i64,inss],fun p=>0≤p.1∧p.1≤x3.length∧p.2.1=[⟨x1,x2,(x3.take p.1.toNat).map (fun n=>(C7 ho ks n).n)++x3.drop p.1.toNat,x4.map (getI sl),x5⟩],fun p=>x3.length-p.1.toNat,[]⟩
def cReads:Con RU:=⟨[(true,5)],ax7,[.d 0,.d 1,.d 2,.d 3,.d 4],[],none,none,[one],ax7,[.clo 83 [0]],[.box 52 [.d 0,.d 1,.d 2,.d 3,.d 4]],fun p=>p,[],[],[]⟩
def as5:Con RU:=⟨[one,one],[i64,i64,ints],[.d 0,.yld 0],[.loop 1,.box 23 [.row 2],.row 2],some fun p=>p.2.1=0∧p.2.2.1.length≤17592186044400,none,[one],[.bool,i64,ints],[.d 0],[.loop 1,.box 23 [.row 2],.row 2],fun p=>(true,0,p.2.2.1++[p.1],()),[],[(0,0),(1,1)],[(1,1000001)]⟩
def aW8:Con RU:=⟨[one,one],[i64,ints,i64,i64,ints,ints,inss],[.yld 0,.ptr 3 0],[.loop 0,.box 23 [.row 2],.row 1,.box 52 [.d 2,.d 3,.d 4,.d 5,.d 6]],some fun p=>p.1=0∧p.2.1.length+p.2.2.2.2.2.1.length≤17592186044400,none,[],[i64,ints],[],[.loop 0,.box 23 [.row 2],.row 1,.box 52 [.un,.un,.un,.un,.un]],
 fun p=>(0,p.2.1++B5 p.2.2.2.2.2.1,()),[],[(0,0),(1,1)],[(1,384)]⟩
def itDo:FuncId→List (Con RU×Con RU×List (Nat×Nat)):=fun f=>bif Nat.beq f 83 then [(aW8,as5,[(0,0),(1,1),(2,2)])] else []
def bn7 (fr:List Int) (r0:List Int):Nat→St RU→Ann RU:=fun _ _=>⟨[],[.slot 8,.row 1000000,.row 1000002],[i64,i64,ints],fun p=>0≤p.1∧p.1≤fr.length∧p.2.1=0∧p.2.2.1=r0++B5 (fr.take p.1.toNat),fun p=>fr.length-p.1.toNat,[]⟩
def cDo:Con RU:=⟨[one,one,(true,5)],i64::ax7++tysA,[.ptr 0 0,.d 0,.d 1,.d 2,.d 3,.d 4,.d 5],objA 0 6,some fun p=>match p with
  |(i,x1,x2,x3,x4,x5,a0,a1,a2,a3,sp,rd,ho,ce,op,ks,oc,cd,ou,())=>W8 x3 x4 x5=true∧x4.length≤17592186044400∧(B5 x4).length≤64∧x3.length≤64∧ag8 rd∧doOk sp rd ks a1.length i ⟨x1,x2,x3,x4,x5⟩ ⟨ho,ce,oc,cd⟩∧ks≤64∧0≤i∧i≤1000000∧0≤oc∧oc≤100000000∧cd.length≤100000000,
 none,[],tysA,[],objA 0 0,fun p=>match p with
  |(i,x1,x2,x3,x4,x5,a0,a1,a2,a3,sp,rd,ho,ce,op,ks,oc,cd,ou,())=>(a0,a1,a2,a3,sp,rd,(doOf sp rd ks a1.length i ⟨x1,x2,x3,x4,x5⟩ ⟨ho,ce,oc,cd⟩).holds,(doOf sp rd ks a1.length i ⟨x1,x2,x3,x4,x5⟩ ⟨ho,ce,oc,cd⟩).cells,op,ks,(doOf sp rd ks a1.length i ⟨x1,x2,x3,x4,x5⟩ ⟨ho,ce,oc,cd⟩).ocells,(doOf sp rd ks a1.length i ⟨x1,x2,x3,x4,x5⟩ ⟨ho,ce,oc,cd⟩).code,ou,()),[],[],[]⟩
def lDo (sp:Spans) (rd:Reads) (ks N i:Int) (x3 x4:List Int) (s0:AS):Nat→St RU→Ann RU:=fun k s=>match k with
 |0=>⟨[],[],[],fun _=>False,fun _=>0,[(.box 384 0,900001,3,i64)]⟩
 |1=>⟨[],[.slot 27,.row 1000003,.row 1000004,.box 1000000 10,.row 1000005],[i64,mapP,mapI,i64,aU3],fun p=>0≤p.1∧p.1≤(B5 x4).length∧E5 sp rd ks N i (B5 x4) s0 ((B5 x4).take p.1.toNat)=⟨p.2.1,p.2.2.1,p.2.2.2.1,p.2.2.2.2.1⟩,fun p=>(B5 x4).length-p.1.toNat,[(.cell 384 0,0,3,i64),(.row 25,0,3,i64)]⟩
 |2=>⟨[],[.slot 61,.row 3712],[i64,mapI],fun p=>0≤p.1∧p.1≤(B5 x4).length∧p.2.1=N3 (E5 sp rd ks N i (B5 x4) s0 (B5 x4)).holds ks ((B5 x4).take p.1.toNat),fun p=>(B5 x4).length-p.1.toNat,[]⟩
 |_=>⟨[],[.slot 75,.row 1000003,.row 1000004,.box 1000000 10,.row 1000005],[i64,mapP,mapI,i64,aU3],fun p=>0≤p.1∧p.1≤x3.length∧J8 sp rd ks N i x3 (E5 sp rd ks N i (B5 x4) s0 (B5 x4)) (x3.take p.1.toNat)=⟨p.2.1,p.2.2.1,p.2.2.2.1,p.2.2.2.2.1⟩,fun p=>x3.length-p.1.toNat,[]⟩
theorem ci8 (pl:Int) (st:List Int) (a0:Int) (a1:List Ins) (a2 a3:List Int) (sp:Spans) (rd:Reads) (ho:Holds) (ce:List (Int×Int)) (op ks oc:Int) (cd:List RIns) (ou:List Place):vc (EV [(100,cNext),(61,cContains),(69,cAt),(101,cBest),(85,cPutA)]) (ci7 sp rd ks a1.length ho pl st) Go.Proofs.Tryd.f84 cRoom (pl,st,a0,a1,a2,a3,sp,rd,ho,ce,op,ks,oc,cd,ou,())=(
 let e0:Int×Int×List Ins×List Int×List Int×List (Int×Span)×List (Int×List Int)×List (Place×Int)×List (Int×Int)×Int×Int×Int×List RIns×List Place×Unit:=
  ((G4 sp rd ks (↑(List.length a1):Int) (AS.mk ho ce oc cd) pl st).1,a0,a1,a2,a3,sp,rd,(G4 sp rd ks (↑(List.length a1):Int) (AS.mk ho ce oc cd) pl st).2.holds,
  (G4 sp rd ks (↑(List.length a1):Int) (AS.mk ho ce oc cd) pl st).2.cells,op,ks,(G4 sp rd ks (↑(List.length a1):Int) (AS.mk ho ce oc cd) pl st).2.ocells,
  (G4 sp rd ks (↑(List.length a1):Int) (AS.mk ho ce oc cd) pl st).2.code,ou,());
 let e1:Int×List Ins×List Int×List Int×List (Int×Span)×List (Int×List Int)×List (Place×Int)×List (Int×Int)×Int×Int×Int×List RIns×List Place×Unit:=
  (a0,a1,a2,a3,sp,rd,ho,ce,op,ks,oc,cd,ou,());
  Small RU (Sigma.mk (Ty.slice (3:Nat) (Ty.int IntKind.i64)) st)→
  Small RU (Sigma.mk (Ty.slice (52:Nat) (Ty.user (0:Nat))) a1)→
  Small RU (Sigma.mk (Ty.slice (3:Nat) (Ty.int IntKind.i64)) a2)→
  Small RU (Sigma.mk (Ty.slice (3:Nat) (Ty.int IntKind.i64)) a3)→
  Small RU (Sigma.mk (Ty.slice (55:Nat) (Ty.user (1:Nat))) cd)→
  Small RU (Sigma.mk (Ty.slice (59:Nat) (Ty.user (2:Nat))) ou)→
  (∃ (p:Int×List Held×Unit),
  pl=pl∧
  st=st∧
  ks=ks∧
  (0:Int)=p.1∧
  a0=a0∧
  a1=a1∧
  a2=a2∧
  a3=a3∧
  op=op∧
  ks=ks∧
  oc=oc∧
  sp=sp∧
  rd=rd∧
  ho=ho∧
  ce=ce∧
  cd=cd∧
  ou=ou∧
  []=p.2.1∧
  (0:Int)≤p.1∧
  (p.1≤ks∨p.1=(0:Int))∧C6 sp rd (↑(List.length a1):Int) ho pl st (List.range (Int.toNat p.1)) []=(none,p.2.1))∧
  ∀ (p:Int×List Held×Unit),
 let e0_1:Bool:=!Option.isSome (mget (fun (x y:Int)=>x==y) ce (L3 p.2.1).reg);
 let e1_1:Bool:=
  !I4
  (Option.getD (mget (fun (x y:Int)=>x==y) sp (Option.getD (mget (E8 RU (Ty.user (2:Nat))) ho (Place.mk false p.1)) (0:Int))) (Span.mk (0:Int) (0:Int))).first
  (Option.getD (mget (fun (x y:Int)=>x==y) sp (Option.getD (mget (E8 RU (Ty.user (2:Nat))) ho (Place.mk false p.1)) (0:Int))) (Span.mk (0:Int) (0:Int))).last pl;
 let e2:List Held:=p.2.1;
 let e3:List Held:=
  [Held.mk p.1 (Option.getD (mget (E8 RU (Ty.user (2:Nat))) ho (Place.mk false p.1)) (0:Int))
  (aI9 rd (↑(List.length a1):Int) (Option.getD (mget (E8 RU (Ty.user (2:Nat))) ho (Place.mk false p.1)) (0:Int)) pl)];
 let e4:Int:=p.1;
 let e5:Bool:=List.contains st (Option.getD (mget (E8 RU (Ty.user (2:Nat))) ho (Place.mk false e4)) (0:Int));
 let e6:Bool:=decide (e4<ks);
 let e7:Bool:=!Option.isSome (mget (E8 RU (Ty.user (2:Nat))) ho (Place.mk false e4));
  (0:Int)≤e4∧(e4≤ks∨e4=(0:Int))∧C6 sp rd (↑(List.length a1):Int) ho pl st (List.range (Int.toNat e4)) []=(none,e2)→
  (e6=true→
  (e7=true→(e4,e1)=e0)∧
  (e7=false→
  (e5=true→
  ∃ (p':Int×List Held×Unit),
  pl=pl∧
  st=st∧
  ks=ks∧
  IntKind.i64.wrap (e4+(1:Int))=p'.1∧
  a0=a0∧
  a1=a1∧
  a2=a2∧
  a3=a3∧
  op=op∧
  ks=ks∧
  oc=oc∧
  sp=sp∧
  rd=rd∧
  ho=ho∧
  ce=ce∧
  cd=cd∧
  ou=ou∧
  e2=p'.2.1∧
  ((0:Int)≤p'.1∧
  (p'.1≤ks∨p'.1=(0:Int))∧
  C6 sp rd (↑(List.length a1):Int) ho pl st (List.range (Int.toNat p'.1)) []=(none,p'.2.1))∧
  Int.toNat ks-Int.toNat p'.1<Int.toNat ks-Int.toNat e4)∧
  (e5=false→
  (e1_1=true→(e4,e1)=e0)∧
  (e1_1=false→
  (∀ (n:Int),List.Pairwise (fun (x1 x2:Int)=>x1≤x2) (getL rd n))∧
  (List.length e2+List.length e3)*(24:Nat)≤(140737488355328:Nat)∧
  ∃ (p':Int×List Held×Unit),
  pl=pl∧
  st=st∧
  ks=ks∧
  IntKind.i64.wrap (e4+(1:Int))=p'.1∧
  a0=a0∧
  a1=a1∧
  a2=a2∧
  a3=a3∧
  op=op∧
  ks=ks∧
  oc=oc∧
  sp=sp∧
  rd=rd∧
  ho=ho∧
  ce=ce∧
  cd=cd∧
  ou=ou∧
  e2++e3=p'.2.1∧
  ((0:Int)≤p'.1∧
  (p'.1≤ks∨p'.1=(0:Int))∧
  C6 sp rd (↑(List.length a1):Int) ho pl st (List.range (Int.toNat p'.1)) []=(none,p'.2.1))∧
  Int.toNat ks-Int.toNat p'.1<Int.toNat ks-Int.toNat e4))))∧
  (e6=false→
  e2≠[]∧
  (e0_1=true→List.length cd≤(1000000000:Nat))∧
  (bif e0_1 then (L3 e2).slot else (L3 e2).slot,bif e0_1 then a0 else a0,bif e0_1 then a1 else a1,bif e0_1 then a2 else a2,bif e0_1 then a3 else a3,
  bif e0_1 then sp else sp,bif e0_1 then rd else rd,bif e0_1 then ho else ho,bif e0_1 then mput (fun (x y:Int)=>x==y) ce (L3 e2).reg oc else ce,
  bif e0_1 then op else op,bif e0_1 then ks else ks,bif e0_1 then IntKind.i64.wrap (oc+(1:Int)) else oc,
  bif e0_1 then cd++[RIns.mk (2:Int) (L3 e2).slot oc (Ins.mk (0:Int) (0:Int) [] [] [])] else cd,bif e0_1 then ou else ou,())=
  e0)):=by kernel_rfl
theorem ci9 (n a0:Int) (a1:List Ins) (a2 a3:List Int) (sp:Spans) (rd:Reads) (ho:Holds) (ce:List (Int×Int)) (op ks oc:Int) (cd:List RIns) (ou:List Place):vc (EV [(54,cSlot)]) noL Go.Proofs.Tryd.f86 cGetA (n,a0,a1,a2,a3,sp,rd,ho,ce,op,ks,oc,cd,ou,())=(
 let e0:Int×Int×List Ins×List Int×List Int×List (Int×Span)×List (Int×List Int)×List (Place×Int)×List (Int×Int)×Int×Int×Int×List RIns×List Place×Unit:=
  ((C7 ho ks n).n,a0,a1,a2,a3,sp,rd,ho,ce,op,ks,oc,cd,ou,());
  Small RU (Sigma.mk (Ty.slice (52:Nat) (Ty.user (0:Nat))) a1)→
  Small RU (Sigma.mk (Ty.slice (3:Nat) (Ty.int IntKind.i64)) a2)→
  Small RU (Sigma.mk (Ty.slice (3:Nat) (Ty.int IntKind.i64)) a3)→
  Small RU (Sigma.mk (Ty.slice (55:Nat) (Ty.user (1:Nat))) cd)→Small RU (Sigma.mk (Ty.slice (59:Nat) (Ty.user (2:Nat))) ou)→ks≤(64:Int)∧e0=e0):=by kernel_rfl
theorem cj0 (n:Int) (m:List (Int×Int)):vc (EV []) noL Go.Proofs.Tryd.f87 cOld (n,m,())=((Option.getD (mget (fun (x y:Int)=>x==y) m n) (0:Int),m,())=(getI m n,m,())):=by kernel_rfl
theorem bC9 (x1 x2:Int) (x3 x4:List Int) (x5:List Ins) (a0:Int) (a1:List Ins) (a2 a3:List Int) (sp:Spans) (rd:Reads) (ho:Holds) (ce:List (Int×Int)) (op ks oc:Int) (cd:List RIns) (ou:List Place) (sl:List (Int×Int)):vc (EV [(96,cBody),(86,cGetA),(87,cOld)]) (aW7 x1 x2 x3 x4 x5 ho ks sl) Go.Proofs.Tryd.f73 cCalledA (x1,x2,x3,x4,x5,a0,a1,a2,a3,sp,rd,ho,ce,op,ks,oc,cd,ou,sl,())=(
 let e0:
  List Ins×
  Int×List Ins×List Int×List Int×List (Int×Span)×List (Int×List Int)×List (Place×Int)×List (Int×Int)×Int×Int×Int×List RIns×List Place×List (Int×Int)×Unit:=
  (x5,a0,a1,a2,a3,sp,rd,ho,ce,op,ks,oc,cd,ou,sl,());
 let e1:Ins:=Ins.mk (0:Int) (0:Int) [] [] [];
 let e2:List Ins:=[Ins.mk x1 x2 x3 x4 x5];
 let e3:Int:=(↑(List.length x4):Int);
  Small RU (Sigma.mk (Ty.slice (3:Nat) (Ty.int IntKind.i64)) x3)→
  Small RU (Sigma.mk (Ty.slice (3:Nat) (Ty.int IntKind.i64)) x4)→
  Small RU (Sigma.mk (Ty.slice (52:Nat) (Ty.user (0:Nat))) x5)→
  Small RU (Sigma.mk (Ty.slice (52:Nat) (Ty.user (0:Nat))) a1)→
  Small RU (Sigma.mk (Ty.slice (3:Nat) (Ty.int IntKind.i64)) a2)→
  Small RU (Sigma.mk (Ty.slice (3:Nat) (Ty.int IntKind.i64)) a3)→
  Small RU (Sigma.mk (Ty.slice (55:Nat) (Ty.user (1:Nat))) cd)→
  Small RU (Sigma.mk (Ty.slice (59:Nat) (Ty.user (2:Nat))) ou)→
  (List.length e2≤(1599289640354:Nat)∧H0 e2=true)∧
  ((0:Int)≤(0:Int)∧(0:Int)<(↑(List.length e2):Int))∧
  (∃ (p:Int×List Ins×Unit),
  x1=x1∧
  x2=x2∧
  x3=x3∧
  x4=x4∧
  x5=x5∧
  (0:Int)=(0:Int)∧
  e3=e3∧
  (0:Int)=p.1∧
  a0=a0∧
  a1=a1∧
  a2=a2∧
  a3=a3∧
  op=op∧
  ks=ks∧
  oc=oc∧
  sp=sp∧
  rd=rd∧
  ho=ho∧
  ce=ce∧
  cd=cd∧
  ou=ou∧
  sl=sl∧
  x1=x1∧
  x2=x2∧
  x3=x3∧
  x4=x4∧
  x5=x5∧
  (0:Int)=(0:Int)∧
  (0:Int)=(0:Int)∧
  e2=e2∧
  e2=p.2.1∧
  x1=x1∧
  x2=x2∧
  (0:Int)=(0:Int)∧
  (0:Int)=(0:Int)∧
  x5=x5∧
  (0:Int)≤p.1∧
  p.1≤e3∧
  p.2.1=
  [Ins.mk x1 x2 x3
  (List.map (getI sl) (List.take (Int.toNat p.1) x4)++List.drop (Int.toNat p.1) x4) x5])∧
  ∀ (p:Int×List Ins×Unit),
 let e0_1:Ins:=List.getD p.2.1 (0:Nat) e1;
 let e1_1:Bool:=decide (p.1<e3);
 let e2_1:Int:=p.1;
 let e3_1:List Ins:=p.2.1;
 let e4:Int:=(↑(List.length e0_1.to):Int);
  (0:Int)≤e2_1∧e2_1≤e3∧e3_1=[Ins.mk x1 x2 x3 (List.map (getI sl) (List.take (Int.toNat e2_1) x4)++List.drop (Int.toNat e2_1) x4) x5]→
  (e1_1=true→
  ((0:Int)≤e2_1∧e2_1<(↑(List.length e0_1.from_):Int))∧
  (True∧sl=sl∧True)∧
  ((0:Int)≤e2_1∧e2_1<(↑(List.length e0_1.from_):Int))∧
  ∃ (p':Int×List Ins×Unit),
  x1=x1∧
  x2=x2∧
  x3=x3∧
  x4=x4∧
  x5=x5∧
  (0:Int)=(0:Int)∧
  e3=e3∧
  IntKind.i64.wrap (e2_1+(1:Int))=p'.1∧
  a0=a0∧
  a1=a1∧
  a2=a2∧
  a3=a3∧
  op=op∧
  ks=ks∧
  oc=oc∧
  sp=sp∧
  rd=rd∧
  ho=ho∧
  ce=ce∧
  cd=cd∧
  ou=ou∧
  sl=sl∧
  x1=x1∧
  x2=x2∧
  x3=x3∧
  x4=x4∧
  x5=x5∧
  (0:Int)=(0:Int)∧
  (0:Int)=(0:Int)∧
  e2=e2∧
  List.set e3_1 (0:Nat)
  (Ins.mk e0_1.op e0_1.n e0_1.to
  (List.set e0_1.from_ (Int.toNat e2_1)
  (getI sl (List.getD e0_1.from_ (Int.toNat e2_1) (0:Int))))
  e0_1.body)=
  p'.2.1∧
  x1=x1∧
  x2=x2∧
  (0:Int)=(0:Int)∧
  (0:Int)=(0:Int)∧
  x5=x5∧
  ((0:Int)≤p'.1∧
  p'.1≤e3∧
  p'.2.1=
  [Ins.mk x1 x2 x3
  (List.map (getI sl) (List.take (Int.toNat p'.1) x4)++
  List.drop (Int.toNat p'.1) x4)
  x5])∧
  List.length x4-Int.toNat p'.1<List.length x4-Int.toNat e2_1)∧
  (e1_1=false→
  (∃ (p:Int×List Ins×Unit),
  x1=x1∧
  x2=x2∧
  x3=x3∧
  x4=x4∧
  x5=x5∧
  (0:Int)=(0:Int)∧
  e3=e3∧
  e2_1=e2_1∧
  e1_1=e1_1∧
  (0:Int)=(0:Int)∧
  e4=e4∧
  (0:Int)=p.1∧
  a0=a0∧
  a1=a1∧
  a2=a2∧
  a3=a3∧
  op=op∧
  ks=ks∧
  oc=oc∧
  sp=sp∧
  rd=rd∧
  ho=ho∧
  ce=ce∧
  cd=cd∧
  ou=ou∧
  sl=sl∧
  x1=x1∧
  x2=x2∧
  x3=x3∧
  x4=x4∧
  x5=x5∧
  (0:Int)=(0:Int)∧
  (0:Int)=(0:Int)∧
  e2=e2∧
  e3_1=p.2.1∧
  x1=x1∧
  x2=x2∧
  (0:Int)=(0:Int)∧
  (0:Int)=(0:Int)∧
  x5=x5∧
  (0:Int)≤p.1∧
  p.1≤(↑(List.length x3):Int)∧
  p.2.1=
  [Ins.mk x1 x2
  (List.map (fun (n:Int)=>(C7 ho ks n).n)
  (List.take (Int.toNat p.1) x3)++
  List.drop (Int.toNat p.1) x3)
  (List.map (getI sl) x4) x5])∧
  ∀ (p:Int×List Ins×Unit),
 let e0_2:Ins:=List.getD p.2.1 (0:Nat) e1;
 let e1:Int:=p.1;
 let e2_2:Bool:=decide (e1<e4);
 let e3_2:List Ins:=p.2.1;
  (0:Int)≤e1∧
  e1≤(↑(List.length x3):Int)∧
  e3_2=[Ins.mk x1 x2 (List.map (fun (n:Int)=>(C7 ho ks n).n) (List.take (Int.toNat e1) x3)++List.drop (Int.toNat e1) x3) (List.map (getI sl) x4) x5]→
  (e2_2=true→
  ((0:Int)≤e1∧e1<(↑(List.length e0_2.to):Int))∧
  (ks≤(64:Int)∧True)∧
  ((0:Int)≤e1∧e1<(↑(List.length e0_2.to):Int))∧
  ∃ (p':Int×List Ins×Unit),
  x1=x1∧
  x2=x2∧
  x3=x3∧
  x4=x4∧
  x5=x5∧
  (0:Int)=(0:Int)∧
  e3=e3∧
  e2_1=e2_1∧
  e1_1=e1_1∧
  (0:Int)=(0:Int)∧
  e4=e4∧
  IntKind.i64.wrap (e1+(1:Int))=p'.1∧
  a0=a0∧
  a1=a1∧
  a2=a2∧
  a3=a3∧
  op=op∧
  ks=ks∧
  oc=oc∧
  sp=sp∧
  rd=rd∧
  ho=ho∧
  ce=ce∧
  cd=cd∧
  ou=ou∧
  sl=sl∧
  x1=x1∧
  x2=x2∧
  x3=x3∧
  x4=x4∧
  x5=x5∧
  (0:Int)=(0:Int)∧
  (0:Int)=(0:Int)∧
  e2=e2∧
  List.set e3_2 (0:Nat)
  (Ins.mk e0_2.op e0_2.n
  (List.set e0_2.to (Int.toNat e1)
  (C7 ho ks (List.getD e0_2.to (Int.toNat e1) (0:Int))).n)
  e0_2.from_ e0_2.body)=
  p'.2.1∧
  x1=x1∧
  x2=x2∧
  (0:Int)=(0:Int)∧
  (0:Int)=(0:Int)∧
  x5=x5∧
  ((0:Int)≤p'.1∧
  p'.1≤(↑(List.length x3):Int)∧
  p'.2.1=
  [Ins.mk x1 x2
  (List.map (fun (n:Int)=>(C7 ho ks n).n)
  (List.take (Int.toNat p'.1) x3)++
  List.drop (Int.toNat p'.1) x3)
  (List.map (getI sl) x4) x5])∧
  List.length x3-Int.toNat p'.1<List.length x3-Int.toNat e1)∧
  (e2_2=false→(x1,x2,e0_2.to,e0_2.from_,e0)=(x1,x2,List.map (fun (n:Int)=>(C7 ho ks n).n) x3,List.map (getI sl) x4,e0)))):=by kernel_rfl
theorem bX7 (x1 x2:Int) (x3 x4:List Int) (x5:List Ins):vc (EV []) noL Go.Proofs.Tryd.f52 cReads (x1,x2,x3,x4,x5,())=(
 let e0:Int×Int×List Int×List Int×List Ins×Unit:=(x1,x2,x3,x4,x5,());
  Small RU (Sigma.mk (Ty.slice (3:Nat) (Ty.int IntKind.i64)) x3)→
  Small RU (Sigma.mk (Ty.slice (3:Nat) (Ty.int IntKind.i64)) x4)→Small RU (Sigma.mk (Ty.slice (52:Nat) (Ty.user (0:Nat))) x5)→e0=e0):=by kernel_rfl
theorem bO7 (st:Int) (r0:List Int) (x1 x2:Int) (x3 x4:List Int) (x5:List Ins):vc (EVy [(0,0),(1,1)] (some as5) [(61,cContains)]) (bn7 x4 r0) Go.Proofs.Tryd.f83 aW8 (st,r0,x1,x2,x3,x4,x5,())=(
 let e0:Int×List Int×Unit:=((0:Int),r0++B5 x4,());
 let e1:Int:=(↑(List.length x4):Int);
  Small RU (Sigma.mk (Ty.slice (3:Nat) (Ty.int IntKind.i64)) r0)→
  Small RU (Sigma.mk (Ty.slice (3:Nat) (Ty.int IntKind.i64)) x3)→
  Small RU (Sigma.mk (Ty.slice (3:Nat) (Ty.int IntKind.i64)) x4)→
  Small RU (Sigma.mk (Ty.slice (52:Nat) (Ty.user (0:Nat))) x5)→
  (∃ (p:Int×Int×List Int×Unit),
  x4=x4∧
  e1=e1∧
  (0:Int)=p.1∧
  st=p.2.1∧
  r0=p.2.2.1∧
  x1=x1∧x2=x2∧x3=x3∧x4=x4∧x5=x5∧(0:Int)≤p.1∧p.1≤e1∧p.2.1=(0:Int)∧p.2.2.1=r0++B5 (List.take (Int.toNat p.1) x4))∧
  ∀ (p:Int×Int×List Int×Unit),
 let e0_1:List Int:=p.2.2.1;
 let e1_1:List Int:=e0_1++[List.getD x4 (Int.toNat p.1) (0:Int)];
 let e2:Bool:=List.contains (List.take (Int.toNat p.1) x4) (List.getD x4 (Int.toNat p.1) (0:Int));
 let e3:Int:=p.1;
 let e4:Int:=p.2.1;
 let e5:Bool:=decide (e3<e1);
  (0:Int)≤e3∧e3≤e1∧e4=(0:Int)∧e0_1=r0++B5 (List.take (Int.toNat e3) x4)→
  (e5=true→
  ((0:Int)≤e3∧e3<e1)∧
  ((0:Int)≤e3∧e3≤e1)∧
  (e2=true→
  ∃ (p':Int×Int×List Int×Unit),
  x4=x4∧
  e1=e1∧
  IntKind.i64.wrap (e3+(1:Int))=p'.1∧
  e4=p'.2.1∧
  e0_1=p'.2.2.1∧
  x1=x1∧
  x2=x2∧
  x3=x3∧
  x4=x4∧
  x5=x5∧
  ((0:Int)≤p'.1∧p'.1≤e1∧p'.2.1=(0:Int)∧p'.2.2.1=r0++B5 (List.take (Int.toNat p'.1) x4))∧
  List.length x4-Int.toNat p'.1<List.length x4-Int.toNat e3)∧
  (e2=false→
  (e4=(0:Int)∧List.length e0_1≤(17592186044400:Nat))∧
  ((!true)=true→((0:Int),e1_1,())=e0)∧
  ((!true)=false→
  ∃ (p':Int×Int×List Int×Unit),
  x4=x4∧
  e1=e1∧
  IntKind.i64.wrap (e3+(1:Int))=p'.1∧
  (0:Int)=p'.2.1∧
  e1_1=p'.2.2.1∧
  x1=x1∧
  x2=x2∧
  x3=x3∧
  x4=x4∧
  x5=x5∧
  ((0:Int)≤p'.1∧p'.1≤e1∧p'.2.1=(0:Int)∧p'.2.2.1=r0++B5 (List.take (Int.toNat p'.1) x4))∧
  List.length x4-Int.toNat p'.1<List.length x4-Int.toNat e3)))∧
  (e5=false→(e4,e0_1,())=e0)):=by kernel_rfl
theorem cp5 (i x1 x2:Int) (x3 x4:List Int) (x5:List Ins) (a0:Int) (a1:List Ins) (a2 a3:List Int) (sp:Spans) (rd:Reads) (ho:Holds) (ce:List (Int×Int)) (op ks oc:Int) (cd:List RIns) (ou:List Place):vc (EVd [] itDo [(52,cReads),(54,cSlot),(84,cRoom),(85,cPutA),(73,cCalledA)]) (lDo sp rd ks a1.length i x3 x4 ⟨ho,ce,oc,cd⟩) Go.Proofs.Tryd.f53 cDo (i,x1,x2,x3,x4,x5,a0,a1,a2,a3,sp,rd,ho,ce,op,ks,oc,cd,ou,())=(
 let e0:Int:=(↑(List.length ([]++B5 x4)):Int);
 let e1:List Int:=[]++B5 x4;
 let e2:AS:=doOf sp rd ks (↑(List.length a1):Int) i (Ins.mk x1 x2 x3 x4 x5) (AS.mk ho ce oc cd);
 let e3:Int:=(↑(List.length a1):Int);
 let e4:Int:=IntKind.i64.wrap (i+(1:Int));
 let e5:Int:=(↑(List.length x3):Int);
 let e6:AS:=E5 sp rd ks e3 i (B5 x4) (AS.mk ho ce oc cd) (B5 x4);
  Small RU (Sigma.mk (Ty.slice (3:Nat) (Ty.int IntKind.i64)) x3)→
  Small RU (Sigma.mk (Ty.slice (3:Nat) (Ty.int IntKind.i64)) x4)→
  Small RU (Sigma.mk (Ty.slice (52:Nat) (Ty.user (0:Nat))) x5)→
  Small RU (Sigma.mk (Ty.slice (52:Nat) (Ty.user (0:Nat))) a1)→
  Small RU (Sigma.mk (Ty.slice (3:Nat) (Ty.int IntKind.i64)) a2)→
  Small RU (Sigma.mk (Ty.slice (3:Nat) (Ty.int IntKind.i64)) a3)→
  Small RU (Sigma.mk (Ty.slice (55:Nat) (Ty.user (1:Nat))) cd)→
  Small RU (Sigma.mk (Ty.slice (59:Nat) (Ty.user (2:Nat))) ou)→
  (∀ (xs:Int×Int×List Int×Unit),
 let e0:List Int:=xs.2.2.1;
  xs.2.1=(0:Int)∧List.length e0≤(17592186044400:Nat)→
  Small RU (Sigma.mk (Ty.slice (3:Nat) (Ty.int IntKind.i64)) e0)→
  xs.2.1=(0:Int)∧(List.length e0+List.length [xs.1])*(8:Nat)≤(140737488355328:Nat)∧(true,(0:Int),e0++[xs.1],())=as5.fn xs)∧
  ((0:Int)=(0:Int)∧List.length ([]:List Int)+List.length x4≤(17592186044400:Nat))∧
  (0:Int)=(0:Int)∧
  (∃ (p:Int×List (Place×Int)×List (Int×Int)×Int×List RIns×Unit),
  i=i∧
  x1=x1∧
  x2=x2∧
  x3=x3∧
  x4=x4∧
  x5=x5∧
  e1=e1∧
  e0=e0∧
  (0:Int)=p.1∧
  a0=a0∧
  a1=a1∧
  a2=a2∧
  a3=a3∧
  op=op∧
  ks=ks∧
  oc=p.2.2.2.1∧
  sp=sp∧
  rd=rd∧
  ho=p.2.1∧
  ce=p.2.2.1∧
  cd=p.2.2.2.2.1∧
  ou=ou∧
  x1=x1∧
  x2=x2∧
  x3=x3∧
  x4=x4∧
  x5=x5∧
  e1=e1∧
  e1=e1∧
  (0:Int)≤p.1∧
  p.1≤(↑(List.length (B5 x4)):Int)∧
  E5 sp rd ks e3 i (B5 x4) (AS.mk ho ce oc cd) (List.take (Int.toNat p.1) (B5 x4))=
  AS.mk p.2.1 p.2.2.1 p.2.2.2.1 p.2.2.2.2.1)∧
  ∀ (p:Int×List (Place×Int)×List (Int×Int)×Int×List RIns×Unit),
 let e0_1:AS:=(G4 sp rd ks e3 (AS.mk p.2.1 p.2.2.1 p.2.2.2.1 p.2.2.2.2.1) i e1).2;
 let e1_1:Int:=p.2.2.2.1;
 let e2_1:List RIns:=p.2.2.2.2.1;
 let e3_1:List (Place×Int):=p.2.1;
 let e4_1:List (Int×Int):=p.2.2.1;
 let e5_1:Bool:=decide (p.1<e0);
 let e6_1:Int:=p.1;
 let e7:Bool:=
  !((C7 e3_1 ks (List.getD e1 (Int.toNat e6_1) (0:Int))).cell==true&&((C7 e3_1 ks (List.getD e1 (Int.toNat e6_1) (0:Int))).n==(-1:Int)&&true));
 let e8:Int:=(G4 sp rd ks e3 (AS.mk e3_1 e4_1 e1_1 e2_1) i e1).1;
 let e9:Int:=(↑(List.length (B5 x4)):Int);
  (0:Int)≤e6_1∧e6_1≤e9∧E5 sp rd ks e3 i (B5 x4) (AS.mk ho ce oc cd) (List.take (Int.toNat e6_1) (B5 x4))=AS.mk e3_1 e4_1 e1_1 e2_1→
  (e5_1=true→
  ((0:Int)≤e6_1∧e6_1<e0)∧
  ks≤(64:Int)∧
  (e7=true→
  ∃ (p':Int×List (Place×Int)×List (Int×Int)×Int×List RIns×Unit),
  i=i∧
  x1=x1∧
  x2=x2∧
  x3=x3∧
  x4=x4∧
  x5=x5∧
  e1=e1∧
  e0=e0∧
  IntKind.i64.wrap (e6_1+(1:Int))=p'.1∧
  a0=a0∧
  a1=a1∧
  a2=a2∧
  a3=a3∧
  op=op∧
  ks=ks∧
  e1_1=p'.2.2.2.1∧
  sp=sp∧
  rd=rd∧
  e3_1=p'.2.1∧
  e4_1=p'.2.2.1∧
  e2_1=p'.2.2.2.2.1∧
  ou=ou∧
  x1=x1∧
  x2=x2∧
  x3=x3∧
  x4=x4∧
  x5=x5∧
  e1=e1∧
  e1=e1∧
  ((0:Int)≤p'.1∧
  p'.1≤e9∧
  E5 sp rd ks e3 i (B5 x4) (AS.mk ho ce oc cd)
  (List.take (Int.toNat p'.1) (B5 x4))=
  AS.mk p'.2.1 p'.2.2.1 p'.2.2.2.1 p'.2.2.2.2.1)∧
  List.length (B5 x4)-Int.toNat p'.1<List.length (B5 x4)-Int.toNat e6_1)∧
  (e7=false→
  ((∀ (n:Int),List.Pairwise (fun (x1 x2:Int)=>x1≤x2) (getL rd n))∧
  ((M0 sp rd ks e3 e3_1 i e1).1=none→(M0 sp rd ks e3 e3_1 i e1).2≠[])∧
  ks≤(64:Int)∧(0:Int)≤e1_1∧e1_1≤(1000000000:Int)∧List.length e2_1≤(1000000000:Nat))∧
  List.length e0_1.code≤(1000000000:Nat)∧
  ∃ (p':Int×List (Place×Int)×List (Int×Int)×Int×List RIns×Unit),
  i=i∧
  x1=x1∧
  x2=x2∧
  x3=x3∧
  x4=x4∧
  x5=x5∧
  e1=e1∧
  e0=e0∧
  IntKind.i64.wrap (e6_1+(1:Int))=p'.1∧
  a0=a0∧
  a1=a1∧
  a2=a2∧
  a3=a3∧
  op=op∧
  ks=ks∧
  e0_1.ocells=p'.2.2.2.1∧
  sp=sp∧
  rd=rd∧
  mput (E8 RU (Ty.user (2:Nat))) e0_1.holds (Place.mk false e8) (List.getD e1 (Int.toNat e6_1) (0:Int))=
  p'.2.1∧
  e0_1.cells=p'.2.2.1∧
  e0_1.code++
  [RIns.mk (1:Int) e8
  (Option.getD (mget (fun (x y:Int)=>x==y) e0_1.cells (List.getD e1 (Int.toNat e6_1) (0:Int)))
  (0:Int))
  (Ins.mk (0:Int) (0:Int) [] [] [])]=
  p'.2.2.2.2.1∧
  ou=ou∧
  x1=x1∧
  x2=x2∧
  x3=x3∧
  x4=x4∧
  x5=x5∧
  e1=e1∧
  e1=e1∧
  ((0:Int)≤p'.1∧
  p'.1≤e9∧
  E5 sp rd ks e3 i (B5 x4) (AS.mk ho ce oc cd)
  (List.take (Int.toNat p'.1) (B5 x4))=
  AS.mk p'.2.1 p'.2.2.1 p'.2.2.2.1 p'.2.2.2.2.1)∧
  List.length (B5 x4)-Int.toNat p'.1<List.length (B5 x4)-Int.toNat e6_1))∧
  (e5_1=false→
  (∃ (p:Int×List (Int×Int)×Unit),
  i=i∧
  x1=x1∧
  x2=x2∧
  x3=x3∧
  x4=x4∧
  x5=x5∧
  e1=e1∧
  e0=e0∧
  e6_1=e6_1∧
  e5_1=e5_1∧
  e1=e1∧
  e0=e0∧
  (0:Int)=p.1∧
  a0=a0∧
  a1=a1∧
  a2=a2∧
  a3=a3∧
  op=op∧
  ks=ks∧
  e1_1=e1_1∧
  sp=sp∧
  rd=rd∧
  e3_1=e3_1∧
  e4_1=e4_1∧
  e2_1=e2_1∧
  ou=ou∧
  x1=x1∧
  x2=x2∧
  x3=x3∧
  x4=x4∧
  x5=x5∧
  e1=e1∧
  e1=e1∧
  []=p.2.1∧
  (0:Int)≤p.1∧
  p.1≤e9∧p.2.1=N3 e6.holds ks (List.take (Int.toNat p.1) (B5 x4)))∧
  ∀ (p:Int×List (Int×Int)×Unit),
 let e0_2:Bool:=decide (p.1<e0);
 let e1_2:List (Int×Int):=p.2.1;
 let e2_2:Int:=p.1;
  (0:Int)≤e2_2∧e2_2≤e9∧e1_2=N3 e6.holds ks (List.take (Int.toNat e2_2) (B5 x4))→
  (e0_2=true→
  ((0:Int)≤e2_2∧e2_2<e0)∧
  ks≤(64:Int)∧
  ∃ (p':Int×List (Int×Int)×Unit),
  i=i∧
  x1=x1∧
  x2=x2∧
  x3=x3∧
  x4=x4∧
  x5=x5∧
  e1=e1∧
  e0=e0∧
  e6_1=e6_1∧
  e5_1=e5_1∧
  e1=e1∧
  e0=e0∧
  IntKind.i64.wrap (e2_2+(1:Int))=p'.1∧
  a0=a0∧
  a1=a1∧
  a2=a2∧
  a3=a3∧
  op=op∧
  ks=ks∧
  e1_1=e1_1∧
  sp=sp∧
  rd=rd∧
  e3_1=e3_1∧
  e4_1=e4_1∧
  e2_1=e2_1∧
  ou=ou∧
  x1=x1∧
  x2=x2∧
  x3=x3∧
  x4=x4∧
  x5=x5∧
  e1=e1∧
  e1=e1∧
  mput (fun (x y:Int)=>x==y) e1_2 (List.getD e1 (Int.toNat e2_2) (0:Int))
  (C7 e3_1 ks (List.getD e1 (Int.toNat e2_2) (0:Int))).n=
  p'.2.1∧
  ((0:Int)≤p'.1∧
  p'.1≤e9∧
  p'.2.1=N3 e6.holds ks (List.take (Int.toNat p'.1) (B5 x4)))∧
  List.length (B5 x4)-Int.toNat p'.1<
  List.length (B5 x4)-Int.toNat e2_2)∧
  (e0_2=false→
  (∃ (p:Int×List (Place×Int)×List (Int×Int)×Int×List RIns×Unit),
  i=i∧
  x1=x1∧
  x2=x2∧
  x3=x3∧
  x4=x4∧
  x5=x5∧
  e1=e1∧
  e0=e0∧
  e6_1=e6_1∧
  e5_1=e5_1∧
  e1=e1∧
  e0=e0∧
  e2_2=e2_2∧
  e0_2=e0_2∧
  x3=x3∧
  e5=e5∧
  (0:Int)=p.1∧
  a0=a0∧
  a1=a1∧
  a2=a2∧
  a3=a3∧
  op=op∧
  ks=ks∧
  e1_1=p.2.2.2.1∧
  sp=sp∧
  rd=rd∧
  e3_1=p.2.1∧
  e4_1=p.2.2.1∧
  e2_1=p.2.2.2.2.1∧
  ou=ou∧
  x1=x1∧
  x2=x2∧
  x3=x3∧
  x4=x4∧
  x5=x5∧
  e1=e1∧
  e1=e1∧
  e1_2=e1_2∧
  (0:Int)≤p.1∧
  p.1≤e5∧
  J8 sp rd ks e3 i x3 e6 (List.take (Int.toNat p.1) x3)=
  AS.mk p.2.1 p.2.2.1 p.2.2.2.1 p.2.2.2.2.1)∧
  ∀ (p:Int×List (Place×Int)×List (Int×Int)×Int×List RIns×Unit),
 let e0_3:AS:=(G4 sp rd ks e3 (AS.mk p.2.1 p.2.2.1 p.2.2.2.1 p.2.2.2.2.1) e4 x3).2;
 let e1_3:AS:=AS.mk p.2.1 p.2.2.1 p.2.2.2.1 p.2.2.2.2.1;
 let e2_3:Int:=p.2.2.2.1;
 let e3_2:List RIns:=p.2.2.2.2.1;
 let e4_2:List (Place×Int):=p.2.1;
 let e5_2:Int:=p.1;
 let e6_2:Bool:=decide (e5_2<e5);
  (0:Int)≤e5_2∧e5_2≤e5∧J8 sp rd ks e3 i x3 e6 (List.take (Int.toNat e5_2) x3)=e1_3→
  (e6_2=true→
  ((0:Int)≤e5_2∧e5_2<e5)∧
  ((∀ (n:Int),List.Pairwise (fun (x1 x2:Int)=>x1≤x2) (getL rd n))∧
  ((M0 sp rd ks e3 e4_2 e4 x3).1=none→(M0 sp rd ks e3 e4_2 e4 x3).2≠[])∧
  ks≤(64:Int)∧(0:Int)≤e2_3∧e2_3≤(1000000000:Int)∧List.length e3_2≤(1000000000:Nat))∧
  ∃ (p':Int×List (Place×Int)×List (Int×Int)×Int×List RIns×Unit),
  i=i∧
  x1=x1∧
  x2=x2∧
  x3=x3∧
  x4=x4∧
  x5=x5∧
  e1=e1∧
  e0=e0∧
  e6_1=e6_1∧
  e5_1=e5_1∧
  e1=e1∧
  e0=e0∧
  e2_2=e2_2∧
  e0_2=e0_2∧
  x3=x3∧
  e5=e5∧
  IntKind.i64.wrap (e5_2+(1:Int))=p'.1∧
  a0=a0∧
  a1=a1∧
  a2=a2∧
  a3=a3∧
  op=op∧
  ks=ks∧
  e0_3.ocells=p'.2.2.2.1∧
  sp=sp∧
  rd=rd∧
  mput (E8 RU (Ty.user (2:Nat))) e0_3.holds
  (Place.mk false (G4 sp rd ks e3 e1_3 e4 x3).1)
  (List.getD x3 (Int.toNat e5_2) (0:Int))=
  p'.2.1∧
  e0_3.cells=p'.2.2.1∧
  e0_3.code=p'.2.2.2.2.1∧
  ou=ou∧
  x1=x1∧
  x2=x2∧
  x3=x3∧
  x4=x4∧
  x5=x5∧
  e1=e1∧
  e1=e1∧
  e1_2=e1_2∧
  ((0:Int)≤p'.1∧
  p'.1≤e5∧
  J8 sp rd ks e3 i x3 e6
  (List.take (Int.toNat p'.1) x3)=
  AS.mk p'.2.1 p'.2.2.1 p'.2.2.2.1
  p'.2.2.2.2.1)∧
  List.length x3-Int.toNat p'.1<
  List.length x3-Int.toNat e5_2)∧
  (e6_2=false→
  (((W8 x3 x4 x5=true∧ks≤(64:Int))∧True)∧True)∧
  List.length e3_2≤(1000000000:Nat)∧
  (a0,a1,a2,a3,sp,rd,e4_2,p.2.2.1,op,ks,e2_3,
  e3_2++
  [RIns.mk (0:Int) (0:Int) (0:Int) (Ins.mk x1 x2 (List.map (fun (n:Int)=>(C7 e4_2 ks n).n) x3) (List.map (getI e1_2) x4) x5)],
  ou,())=
  (a0,a1,a2,a3,sp,rd,e2.holds,e2.cells,op,ks,e2.ocells,e2.code,ou,()))))):=by kernel_rfl
theorem Z3 (sp:Spans) (rd:Reads) (N:Int) (m:Holds) (pl:Int) (st:List Int) (r:List Nat):∀ (l:List Nat) (acc:List Held),C6 sp rd N m pl st (l++r) acc=match C6 sp rd N m pl st l acc with
  |(none,acc')=>C6 sp rd N m pl st r acc'
  |x=>x
 |[],acc=>rfl
 |s::l,acc=>by
  simp only [List.cons_append,C6]
  cases mget eqP m ⟨false,(s:Int)⟩ with
  |none=>rfl
  |some n=>
   simp only
   cases st.contains n with
   |true=>exact Z3 sp rd N m pl st r l acc
   |false=>
    simp only [cond_false]
    cases I4 (getS sp n).first (getS sp n).last pl with
    |true=>exact Z3 sp rd N m pl st r l _
    |false=>rfl
theorem ag9 (sp:Spans) (rd:Reads) (N:Int) (m:Holds) (pl:Int) (st:List Int):∀ (l:List Nat) (acc:List Held),(C6 sp rd N m pl st l acc).2.length≤acc.length+l.length
 |[],acc=>by simp [C6]
 |s::l,acc=>by
  simp only [C6]
  cases mget eqP m ⟨false,(s:Int)⟩ with
  |none=>simp
  |some n=>
   simp only
   cases st.contains n with
   |true=>have:=ag9 sp rd N m pl st l acc;simp only [cond_true,cr5];omega
   |false=>
    simp only [cond_false]
    cases I4 (getS sp n).first (getS sp n).last pl with
    |true=>have:=ag9 sp rd N m pl st l (acc++[⟨(s:Int),n,aI9 rd N n pl⟩]);simp only [cond_true,cr5,cs3,List.length_nil] at this ⊢;omega
    |false=>simp
theorem as6 {sp:Spans} {rd:Reads} {N:Int} {m:Holds} {pl:Int} {st:List Int} {k:Nat} {acc:List Held} (h:C6 sp rd N m pl st (List.range k) []=(none,acc)):C6 sp rd N m pl st (List.range (k+1)) []=C6 sp rd N m pl st [k] acc:=by
 rw [List.range_succ,Z3,h]
theorem aW9 {sp:Spans} {rd:Reads} {N:Int} {m:Holds} {pl:Int} {st:List Int} {k n:Nat} {acc:List Held} (hk:k<n) (h:C6 sp rd N m pl st (List.range k) []=(none,acc)) {i:Int} (h2:C6 sp rd N m pl st [k] acc=(some i,acc)):C6 sp rd N m pl st (List.range n) []=(some i,acc):=by
 have:List.range n=List.range (k+1)++(List.range (n-(k+1))).map ((k+1)+·):=by
  rw [←List.range_add];congr 1;omega
 rw [this,Z3,as6 h,h2]
theorem cj1 (pl:Int) (st:List Int) (a0:Int) (a1:List Ins) (a2 a3:List Int) (sp:Spans) (rd:Reads) (ho:Holds) (ce:List (Int×Int)) (op ks oc:Int) (cd:List RIns) (ou:List Place)
  (hp:ag8 rd∧ag7 sp rd ks a1.length ho pl st∧ks≤64∧0≤oc∧oc≤1000000000∧cd.length≤1000000000):vc (EV [(100,cNext),(61,cContains),(69,cAt),(101,cBest),(85,cPutA)]) (ci7 sp rd ks a1.length ho pl st) Go.Proofs.Tryd.f84 cRoom (pl,st,a0,a1,a2,a3,sp,rd,ho,ce,op,ks,oc,cd,ou,()):=by
 rw [ci8 pl st a0 a1 a2 a3 sp rd ho ce op ks oc cd ou]
 intro e0 e1 _ _ _ _ _ _
 obtain ⟨hp1,hp2,hp3,hp4,hp5,hp6⟩:=hp
 have he0:e0=((G4 sp rd ks a1.length ⟨ho,ce,oc,cd⟩ pl st).1,a0,a1,a2,a3,sp,rd,(G4 sp rd ks a1.length ⟨ho,ce,oc,cd⟩ pl st).2.holds,(G4 sp rd ks a1.length ⟨ho,ce,oc,cd⟩ pl st).2.cells,op,ks,(G4 sp rd ks a1.length ⟨ho,ce,oc,cd⟩ pl st).2.ocells,(G4 sp rd ks a1.length ⟨ho,ce,oc,cd⟩ pl st).2.code,ou,()):=rfl
 have he1:e1=(a0,a1,a2,a3,sp,rd,ho,ce,op,ks,oc,cd,ou,()):=rfl
 clear_value e0 e1
 generalize (a1.length:Int)=N at hp2 he0 ⊢
 simp only [true_and,and_true,Bool.cond_self]
 refine ⟨⟨(0,[],()),rfl,rfl,Int.le_refl _,.inr rfl,rfl⟩,?_⟩
 rintro ⟨i,l,⟨⟩⟩ ⟨h0,h1,h2⟩
 dsimp only at h0 h1 h2 ⊢
 obtain ⟨k,rfl⟩:=cq5 h0
 simp only [cq3] at h2 ⊢
 have hlen:=ag9 sp rd N ho pl st (List.range k) []
 rw [h2] at hlen
 simp only [List.length_nil,List.length_range,Nat.zero_add] at hlen
 refine ⟨fun hlt=>?_,fun hge=>?_⟩
 ·have hlt:(k:Int)<ks:=cq9 hlt
  have stop:C6 sp rd N ho pl st [k] l=(some (k:Int),l)→((k:Int),e1)=e0:=fun h=>by
   have hr:(M0 sp rd ks N ho pl st)=(some (k:Int),l):=aW9 (by omega) h2 h
   have:G4 sp rd ks N ⟨ho,ce,oc,cd⟩ pl st=((k:Int),⟨ho,ce,oc,cd⟩):=by simp only [G4,hr]
   rw [he0,this,he1]
  have next:∀ l',C6 sp rd N ho pl st [k] l=(none,l')→∃ p':Int×List Held×Unit,IntKind.i64.wrap ((k:Int)+1)=p'.1∧l'=p'.2.1∧(0≤p'.1∧(p'.1≤ks∨p'.1=0)∧C6 sp rd N ho pl st (List.range p'.1.toNat) []=(none,p'.2.1))∧ks.toNat-p'.1.toNat<ks.toNat-k:=fun l' h=>
   ⟨((k+1:Nat),l',()),by rw [F8 (by omega) (by omega)];rfl,rfl,⟨by omega,.inl (by dsimp only;omega),by dsimp only;rw [cq3,as6 h2,h]⟩,by dsimp only;omega⟩
  show ((!(mget eqP ho ⟨false,(k:Int)⟩).isSome)=true→_)∧((!(mget eqP ho ⟨false,(k:Int)⟩).isSome)=false→_)
  cases hq:mget eqP ho ⟨false,(k:Int)⟩ with
  |none=>
   refine ⟨fun _=>stop ?_,fun h=>(by cases h)⟩
   simp only [C6,hq]
  |some n=>
   refine ⟨fun h=>(by cases h),fun _=>?_⟩
   have hq':mget (E8 RU (Ty.user 2)) ho ⟨false,(k:Int)⟩=some n:=hq
   simp only [hq',Option.getD_some]
   refine ⟨fun h=>?_,fun h=>⟨fun h3=>stop ?_,fun h3=>⟨hp1,?_,?_⟩⟩⟩
   ·exact next l (by simp only [C6,hq,h,cond_true])
   ·have h3:I4 (getS sp n).first (getS sp n).last pl=false:=by simpa [getS] using h3
    simp only [C6,hq,h,h3,cond_false]
   ·simp only [cr5,List.length_nil];omega
   ·have h3:I4 (getS sp n).first (getS sp n).last pl=true:=by simpa [getS] using h3
    exact next _ (by simp only [C6,hq,h,h3,cond_false,cond_true])
 ·have hge:¬ (k:Int)<ks:=cq8 hge
  have hr:M0 sp rd ks N ho pl st=(none,l):=by
   rw [←h2]
   show C6 sp rd N ho pl st (List.range ks.toNat) []=_
   congr 2
   omega
  have hne:l≠[]:=by
   have:=hp2
   unfold ag7 at this
   rw [hr] at this
   exact this rfl
  have hR:G4 sp rd ks N ⟨ho,ce,oc,cd⟩ pl st=((L3 l).slot,as4 ⟨ho,ce,oc,cd⟩ (L3 l)):=by simp only [G4,hr]
  rw [hR] at he0
  refine ⟨hne,fun _=>hp6,?_⟩
  rw [he0]
  dsimp only [as4]
  show (_,_,_,_,_,_,_,_,(bif !(mget eqI ce (L3 l).reg).isSome then mput eqI ce (L3 l).reg oc else ce),_,_,(bif !(mget eqI ce (L3 l).reg).isSome then IntKind.i64.wrap (oc+1) else oc),(bif !(mget eqI ce (L3 l).reg).isSome then cd++[⟨2,(L3 l).slot,oc,ins0⟩] else cd),_,_)=_
  rw [F8 (by omega) (by omega)]
  cases (mget eqI ce (L3 l).reg).isSome<;>rfl
theorem bD0:D0 prog RG 84 cRoom:=E4 (A6 bC7 (A6 N6 (A6 bt9 (A6 bC8 (A6 aP8 B9))))) (fun (pl,st,a0,a1,a2,a3,sp,rd,ho,ce,op,ks,oc,cd,ou,())=>ci7 sp rd ks a1.length ho pl st) (by kernel_rfl) (by kernel_rfl) (by kernel_rfl) fun (pl,st,a0,a1,a2,a3,sp,rd,ho,ce,op,ks,oc,cd,ou,()) hp=>cj1 pl st a0 a1 a2 a3 sp rd ho ce op ks oc cd ou hp
theorem bD1:D0 prog RG 86 cGetA:=E4 (A6 av1 B9) (fun _=>noL) (by kernel_rfl) (by kernel_rfl) (by kernel_rfl) fun (n,a0,a1,a2,a3,sp,rd,ho,ce,op,ks,oc,cd,ou,()) hp=>(ci9 n a0 a1 a2 a3 sp rd ho ce op ks oc cd ou).mpr (by
 have hp:ks≤64:=hp
 intros
 simp only [true_and,and_true]
 exact hp)
theorem bD2:D0 prog RG 87 cOld:=E4 B9 (fun _=>noL) (by kernel_rfl) (by kernel_rfl) (by kernel_rfl) fun (n,m,()) _=>(cj0 n m).mpr rfl
theorem bD3 (x1 x2:Int) (x3 x4:List Int) (x5:List Ins) (a0:Int) (a1:List Ins) (a2 a3:List Int) (sp:Spans) (rd:Reads) (ho:Holds) (ce:List (Int×Int)) (op ks oc:Int) (cd:List RIns) (ou:List Place) (sl:List (Int×Int)) (hp:W8 x3 x4 x5=true∧ks≤64):
  vc (EV [(96,cBody),(86,cGetA),(87,cOld)]) (aW7 x1 x2 x3 x4 x5 ho ks sl) Go.Proofs.Tryd.f73 cCalledA (x1,x2,x3,x4,x5,a0,a1,a2,a3,sp,rd,ho,ce,op,ks,oc,cd,ou,sl,()):=by
 rw [bC9 x1 x2 x3 x4 x5 a0 a1 a2 a3 sp rd ho ce op ks oc cd ou sl]
 intro e0 e1 e2 e3 hs3 hs4 _ _ _ _ _ _
 have hl3:x3.length≤140737488355328:=hs3.len
 have hl4:x4.length≤140737488355328:=hs4.len
 clear_value e0
 dsimp only [e1,e2,e3]
 simp only [true_and,and_true]
 refine ⟨⟨by simp,?_⟩,⟨by omega,by simp⟩,⟨(0,_,()),rfl,rfl,Int.le_refl _,by dsimp only;omega,by simp⟩,?_⟩
 ·simp only [H0,Bool.and_true]
  exact (L1 _).2 (V6.1 hp.1)
 rintro ⟨i,l,⟨⟩⟩ ⟨h0,h1,h2⟩
 dsimp only at h0 h1 h2 ⊢
 subst h2
 obtain ⟨k,rfl⟩:=cq5 h0
 simp only [cq3,List.getD_cons_zero,List.set_cons_zero]
 have hA:((x4.take k).map (getI sl)).length=k:=by simp;omega
 refine ⟨fun hlt=>?_,fun hge=>?_⟩
 ·have hlt:(k:Int)<x4.length:=cq9 hlt
  rw [S0 hA (by omega),an7 hA (by omega),an8 hA (by omega)]
  refine ⟨⟨h0,hlt⟩,⟨h0,hlt⟩,((k+1:Nat),[⟨x1,x2,x3,(x4.take (k+1)).map (getI sl)++x4.drop (k+1),x5⟩],()),B7 (by omega) hl4,?_,⟨by omega,by dsimp only;omega,by dsimp only;rw [cq3]⟩,by dsimp only;omega⟩
  dsimp only
  rw [A4 (by omega) 0,List.map_append]
  rfl
 have hk:k=x4.length:=by have:¬ (k:Int)<x4.length:=cq8 hge;omega
 subst hk
 simp only [ct0,List.drop_length,List.append_nil]
 clear h0 h1 hge hA
 refine ⟨⟨(0,_,()),rfl,rfl,Int.le_refl _,by dsimp only;omega,by simp⟩,?_⟩
 rintro ⟨i,l,⟨⟩⟩ ⟨h0,h1,h2⟩
 dsimp only at h0 h1 h2 ⊢
 subst h2
 obtain ⟨k,rfl⟩:=cq5 h0
 simp only [cq3,List.getD_cons_zero,List.set_cons_zero]
 have hA:((x3.take k).map (fun n=>(C7 ho ks n).n)).length=k:=by simp;omega
 refine ⟨fun hlt=>?_,fun hge=>?_⟩
 ·have hlt:(k:Int)<x3.length:=cq9 hlt
  rw [S0 hA (by omega),an7 hA (by omega),an8 hA (by omega)]
  refine ⟨⟨h0,hlt⟩,hp.2,⟨h0,hlt⟩,((k+1:Nat),[⟨x1,x2,(x3.take (k+1)).map (fun n=>(C7 ho ks n).n)++x3.drop (k+1),x4.map (getI sl),x5⟩],()),B7 (by omega) hl3,?_,⟨by omega,by dsimp only;omega,by dsimp only;rw [cq3]⟩,by dsimp only;omega⟩
  dsimp only
  rw [A4 (by omega) 0,List.map_append]
  rfl
 ·have hk:k=x3.length:=by have:¬ (k:Int)<x3.length:=cq8 hge;omega
  subst hk
  simp only [ct0,List.drop_length,List.append_nil]
theorem aX0:D0 prog RG 73 cCalledA:=E4 (A6 au6 (A6 bD1 (A6 bD2 B9))) (fun (x1,x2,x3,x4,x5,a0,a1,a2,a3,sp,rd,ho,ce,op,ks,oc,cd,ou,sl,())=>aW7 x1 x2 x3 x4 x5 ho ks sl) (by kernel_rfl) (by kernel_rfl) (by kernel_rfl) fun (x1,x2,x3,x4,x5,a0,a1,a2,a3,sp,rd,ho,ce,op,ks,oc,cd,ou,sl,()) hp=>bD3 x1 x2 x3 x4 x5 a0 a1 a2 a3 sp rd ho ce op ks oc cd ou sl hp
theorem al2 (x:Int):∀ (l seen:List Int),F9 seen (l++[x])=F9 seen l++bif (seen++l).contains x then [] else [x]
 |[],seen=>by
  simp only [List.nil_append,F9,List.append_nil]
 |y::l,seen=>by
  have ih:=al2 x l (seen++[y])
  rw [cs8,List.singleton_append] at ih
  simp only [List.cons_append,F9,ih]
  cases seen.contains y<;>rfl
theorem aP9 (l:List Int) (x:Int):B5 (l++[x])=bif l.contains x then B5 l else B5 l++[x]:=by
 unfold B5
 rw [al2,List.nil_append]
 cases l.contains x<;>simp
theorem ah0 (l:List Int):(B5 l).length≤l.length:=by
 have key:∀ (l seen:List Int),(F9 seen l).length≤l.length:=by
  intro l
  induction l with
  |nil=>intro seen;simp [F9]
  |cons x r ih=>
   intro seen
   have:=ih (seen++[x])
   simp only [F9]
   cases seen.contains x with
   |true=>simp only [cond_true,cr5];omega
   |false=>simp only [cond_false,cr5];omega
 exact key l []
theorem aJ1:D0 prog RG 52 cReads:=E4 B9 (fun _=>noL) (by kernel_rfl) (by kernel_rfl) (by kernel_rfl) fun (x1,x2,x3,x4,x5,()) _=>(bX7 x1 x2 x3 x4 x5).mpr (by intros;rfl)
theorem bO8 (s0:Int) (r0:List Int) (x1 x2:Int) (x3 x4:List Int) (x5:List Ins) (hp:s0=0∧r0.length+x4.length≤17592186044400):vc (EVy [(0,0),(1,1)] (some as5) [(61,cContains)]) (bn7 x4 r0) Go.Proofs.Tryd.f83 aW8 (s0,r0,x1,x2,x3,x4,x5,()):=by
 rw [bO7 s0 r0 x1 x2 x3 x4 x5]
 intro e0 e1 _ _ hs4 _
 have hl4:x4.length≤140737488355328:=hs4.len
 have he0:e0=(0,r0++B5 x4,()):=rfl
 clear_value e0
 dsimp only [e1]
 simp only [true_and,and_true]
 refine ⟨⟨(0,0,r0,()),rfl,hp.1,rfl,Int.le_refl _,by dsimp only;omega,rfl,by simp [B5,F9]⟩,?_⟩
 rintro ⟨i,st,l,⟨⟩⟩ ⟨h0,h1,h2,h3⟩
 dsimp only at h0 h1 h2 h3 ⊢
 subst h2
 obtain ⟨k,rfl⟩:=cq5 h0
 simp only [cq3] at h3 ⊢
 subst h3
 refine ⟨fun hlt=>?_,fun hge=>?_⟩
 ·have hlt:(k:Int)<x4.length:=cq9 hlt
  have hs:=aP9 (x4.take k) (x4.getD k 0)
  rw [←A4 (by omega)] at hs
  have hl:=ah0 (x4.take k)
  rw [ct1] at hl
  refine ⟨⟨h0,hlt⟩,⟨h0,by omega⟩,fun q=>?_,fun q=>⟨⟨trivial,by rw [cs3];omega⟩,fun h=>(by cases h),fun _=>?_⟩⟩
  ·rw [q] at hs
   exact ⟨((k+1:Nat),0,_,()),B7 (by omega) hl4,rfl,rfl,⟨by omega,by dsimp only;omega,rfl,by dsimp only;rw [cq3,hs];rfl⟩,by dsimp only;omega⟩
  ·rw [q] at hs
   exact ⟨((k+1:Nat),0,_,()),B7 (by omega) hl4,rfl,rfl,⟨by omega,by dsimp only;omega,rfl,by dsimp only;rw [cq3,hs,cs8];rfl⟩,by dsimp only;omega⟩
 ·have hk:k=x4.length:=by have:¬ (k:Int)<x4.length:=cq8 hge;omega
  subst hk
  rw [he0,ct0]
theorem cj2:ItOk itDo:=by
 intro f k kY mp h Y' hY
 unfold itDo at h
 cases hf:Nat.beq f 83 with
 |false=>rw [hf] at h;cases h
 |true=>
  have hf:=cq0 hf
  subst hf
  simp only [Nat.beq_refl,cond_true,List.mem_cons,List.not_mem_nil,or_false,cr1] at h
  obtain ⟨rfl,rfl,rfl⟩:=h
  exact aj2 (E:=EVy [(0,0),(1,1)] (some as5) [(61,cContains)]) (bU4 _ _ _) ⟨Y8 (fun x hx=>by rcases List.mem_cons.1 hx with rfl|hx;exact N6 _;cases hx),fun _ _ _ _ _ h=>(by cases h),fun _ _ _ h=>(by cases h),fun k hk=>by cases hk;exact hY,fun _ _ _ _ h=>(by cases h)⟩ bk8 Go.Proofs.Tryd.func83 (by kernel_rfl)
    (fun p=>bn7 p.2.2.2.2.2.1 p.2.1) (fun (st,r0,x1,x2,x3,x4,x5,()) hp=>bO8 st r0 x1 x2 x3 x4 x5 hp) (by kernel_rfl) rfl
theorem bO9 (s:AS) (x:Held):(as4 s x).code.length≤s.code.length+1∧s.ocells≤(as4 s x).ocells∧(as4 s x).ocells≤s.ocells+1:=by
 unfold as4
 cases (mget eqI s.cells x.reg).isSome with
 |true=>simp only [cond_true];omega
 |false=>simp only [cond_false,cs3,cr5,List.length_nil];omega
theorem av2 (sp:Spans) (rd:Reads) (ks N:Int) (s:AS) (pl:Int) (st:List Int):(G4 sp rd ks N s pl st).2.code.length≤s.code.length+1∧s.ocells≤(G4 sp rd ks N s pl st).2.ocells∧(G4 sp rd ks N s pl st).2.ocells≤s.ocells+1:=by
 unfold G4
 split
 ·simp only;omega
 ·exact bO9 _ _
theorem bg3 (sp:Spans) (rd:Reads) (ks N i:Int) (fr:List Int) (s:AS) (n:Int):(G1 sp rd ks N i fr s n).code.length≤s.code.length+2∧s.ocells≤(G1 sp rd ks N i fr s n).ocells∧(G1 sp rd ks N i fr s n).ocells≤s.ocells+1:=by
 unfold G1
 have:=av2 sp rd ks N s i fr
 cases (C7 s.holds ks n).cell with
 |true=>simp only [cond_true,cs3,cr5,List.length_nil];omega
 |false=>simp only [cond_false];omega
theorem ad4 (sp:Spans) (rd:Reads) (ks N i:Int) (fr:List Int):∀ (l:List Int) (s:AS),(E5 sp rd ks N i fr s l).code.length≤s.code.length+2*l.length∧s.ocells≤(E5 sp rd ks N i fr s l).ocells∧(E5 sp rd ks N i fr s l).ocells≤s.ocells+l.length
 |[],s=>by simp [E5]
 |x::r,s=>by
  have h1:=ad4 sp rd ks N i fr r (G1 sp rd ks N i fr s x)
  have h2:=bg3 sp rd ks N i fr s x
  simp only [E5,List.foldl_cons,cr5] at h1 ⊢
  omega
theorem bD4 (sp:Spans) (rd:Reads) (ks N i:Int) (to:List Int) (s:AS) (n:Int):(W9 sp rd ks N i to s n).code.length≤s.code.length+1∧s.ocells≤(W9 sp rd ks N i to s n).ocells∧(W9 sp rd ks N i to s n).ocells≤s.ocells+1:=by
 have:=av2 sp rd ks N s (i+1) to
 exact this
theorem aJ2 (sp:Spans) (rd:Reads) (ks N i:Int) (to:List Int):∀ (l:List Int) (s:AS),(J8 sp rd ks N i to s l).code.length≤s.code.length+l.length∧s.ocells≤(J8 sp rd ks N i to s l).ocells∧(J8 sp rd ks N i to s l).ocells≤s.ocells+l.length
 |[],s=>by simp [J8]
 |x::r,s=>by
  have h1:=aJ2 sp rd ks N i to r (W9 sp rd ks N i to s x)
  have h2:=bD4 sp rd ks N i to s x
  simp only [J8,List.foldl_cons,cr5] at h1 ⊢
  omega
theorem bg4 (sp:Spans) (rd:Reads) (ks N i:Int) (fr:List Int) (s:AS) (l:List Int) (x:Int):E5 sp rd ks N i fr s (l++[x])=G1 sp rd ks N i fr (E5 sp rd ks N i fr s l) x:=by simp [E5]
theorem aQ0 (sp:Spans) (rd:Reads) (ks N i:Int) (to:List Int) (s:AS) (l:List Int) (x:Int):J8 sp rd ks N i to s (l++[x])=W9 sp rd ks N i to (J8 sp rd ks N i to s l) x:=by simp [J8]
theorem bg5 (m:Holds) (ks n:Int):((C7 m ks n).cell==true&&((C7 m ks n).n==(-1:Int)))=(C7 m ks n).cell:=by
 unfold C7
 split
 ·rfl
 ·rfl
theorem cp6 (i x1 x2:Int) (x3 x4:List Int) (x5:List Ins) (a0:Int) (a1:List Ins) (a2 a3:List Int) (sp:Spans) (rd:Reads) (ho:Holds) (ce:List (Int×Int)) (op ks oc:Int) (cd:List RIns) (ou:List Place)
  (hp:W8 x3 x4 x5=true∧x4.length≤17592186044400∧(B5 x4).length≤64∧x3.length≤64∧ag8 rd∧doOk sp rd ks a1.length i ⟨x1,x2,x3,x4,x5⟩ ⟨ho,ce,oc,cd⟩∧ks≤64∧0≤i∧i≤1000000∧0≤oc∧oc≤100000000∧cd.length≤100000000):
  vc (EVd [] itDo [(52,cReads),(54,cSlot),(84,cRoom),(85,cPutA),(73,cCalledA)]) (lDo sp rd ks a1.length i x3 x4 ⟨ho,ce,oc,cd⟩) Go.Proofs.Tryd.f53 cDo (i,x1,x2,x3,x4,x5,a0,a1,a2,a3,sp,rd,ho,ce,op,ks,oc,cd,ou,()):=by
 rw [cp5 i x1 x2 x3 x4 x5 a0 a1 a2 a3 sp rd ho ce op ks oc cd ou]
 obtain ⟨hp1,hp2,hp3,hp4,hp5,hp6,hp7,hp8,hp9,hp10,hp11,hp12⟩:=hp
 intro e0 e1 e2 e3 e4 e5 e6 _ hs4 _ _ _ _ _ _
 have hl4:x4.length≤140737488355328:=hs4.len
 have hdl:=ah0 x4
 have he2:e2=doOf sp rd ks e3 i ⟨x1,x2,x3,x4,x5⟩ ⟨ho,ce,oc,cd⟩:=rfl
 have he4:e4=i+1:=F8 (by omega) (by omega)
 have he6:e6=E5 sp rd ks e3 i (B5 x4) ⟨ho,ce,oc,cd⟩ (B5 x4):=rfl
 have hL6:=ad4 sp rd ks e3 i (B5 x4) (B5 x4) ⟨ho,ce,oc,cd⟩
 rw [←he6] at hL6
 have hD:e2=⟨(J8 sp rd ks e3 i x3 e6 x3).holds,(J8 sp rd ks e3 i x3 e6 x3).cells,(J8 sp rd ks e3 i x3 e6 x3).ocells,(J8 sp rd ks e3 i x3 e6 x3).code++[⟨0,0,0,⟨x1,x2,x3.map (fun n=>(C7 (J8 sp rd ks e3 i x3 e6 x3).holds ks n).n),x4.map (getI (N3 e6.holds ks (B5 x4))),x5⟩⟩]⟩:=rfl
 obtain ⟨hok1,hok2⟩:=hp6
 change ∀ k,k<(B5 x4).length→(C7 (E5 sp rd ks e3 i (B5 x4) ⟨ho,ce,oc,cd⟩ ((B5 x4).take k)).holds ks ((B5 x4).getD k 0)).cell=true→ag7 sp rd ks e3 (E5 sp rd ks e3 i (B5 x4) ⟨ho,ce,oc,cd⟩ ((B5 x4).take k)).holds i (B5 x4) at hok1
 change ∀ k,k<x3.length→ag7 sp rd ks e3 (J8 sp rd ks e3 i x3 e6 (x3.take k)).holds (i+1) x3 at hok2
 clear_value e2 e4 e6 e3
 subst he4
 dsimp only [e0,e1,e5]
 simp only [true_and,and_true,List.nil_append,Bool.and_true,bg5]
 refine ⟨?_,?_,⟨(0,ho,ce,oc,cd,()),rfl,rfl,rfl,rfl,rfl,Int.le_refl _,by dsimp only;omega,rfl⟩,?_⟩
 ·rintro ⟨n,st,l,⟨⟩⟩ ⟨h1,h2⟩ _
  dsimp only at h1 h2 ⊢
  exact ⟨h1,by simp only [cr5,List.length_nil];omega,rfl⟩
 ·simp only [List.length_nil];omega
 rintro ⟨j,m,cc,c,q,⟨⟩⟩ ⟨h0,h1,h2⟩
 dsimp only at h0 h1 h2 ⊢
 obtain ⟨k,rfl⟩:=cq5 h0
 simp only [cq3] at h2 ⊢
 have hL:=ad4 sp rd ks e3 i (B5 x4) ((B5 x4).take k) ⟨ho,ce,oc,cd⟩
 rw [h2,ct1] at hL
 dsimp only at hL
 refine ⟨fun hlt=>?_,fun hge=>?_⟩
 ·have hlt:(k:Int)<(B5 x4).length:=cq9 hlt
  have hkc:k<(B5 x4).length:=by omega
  have hok:=hok1 k hkc
  rw [h2] at hok
  have hstep:E5 sp rd ks e3 i (B5 x4) ⟨ho,ce,oc,cd⟩ ((B5 x4).take (k+1))=G1 sp rd ks e3 i (B5 x4) ⟨m,cc,c,q⟩ ((B5 x4).getD k 0):=by
   rw [A4 hkc 0,bg4,h2]
  generalize (B5 x4).getD k 0=n at hok hstep ⊢
  dsimp only at hok
  refine ⟨⟨h0,hlt⟩,hp7,fun hc=>?_,fun hc=>?_⟩
  ·have hc:(C7 m ks n).cell=false:=by simpa using hc
   have hS:G1 sp rd ks e3 i (B5 x4) ⟨m,cc,c,q⟩ n=⟨m,cc,c,q⟩:=by simp only [G1,hc,cond_false]
   exact ⟨((k+1:Nat),m,cc,c,q,()),B7 (m:=(B5 x4).length) hkc (by omega),rfl,rfl,rfl,rfl,⟨by omega,by dsimp only;omega,by dsimp only;rw [cq3,hstep,hS]⟩,by dsimp only;omega⟩
  ·have hc:(C7 m ks n).cell=true:=by simpa using hc
   have hR:=av2 sp rd ks e3 ⟨m,cc,c,q⟩ i (B5 x4)
   dsimp only at hR
   refine ⟨⟨hp5,hok hc,hp7,by omega,by omega,by omega⟩,by omega,((k+1:Nat),_,_,_,_,()),B7 (m:=(B5 x4).length) hkc (by omega),rfl,rfl,rfl,rfl,⟨by omega,by dsimp only;omega,?_⟩,by dsimp only;omega⟩
   dsimp only
   rw [cq3,hstep]
   simp only [G1,hc,cond_true]
   rfl
 have hk:k=(B5 x4).length:=by have:¬ (k:Int)<(B5 x4).length:=cq8 hge;omega
 subst hk
 rw [ct0,←he6] at h2
 clear he6 hok1 h0 h1 hge hL
 subst h2
 dsimp only at hL6 hD hok2 ⊢
 refine ⟨⟨(0,[],()),rfl,rfl,Int.le_refl _,by dsimp only;omega,rfl⟩,?_⟩
 rintro ⟨j,sl,⟨⟩⟩ ⟨h0,h1,h2⟩
 dsimp only at h0 h1 h2 ⊢
 obtain ⟨k,rfl⟩:=cq5 h0
 simp only [cq3] at h2 ⊢
 refine ⟨fun hlt=>?_,fun hge=>?_⟩
 ·have hlt:(k:Int)<(B5 x4).length:=cq9 hlt
  have hkc:k<(B5 x4).length:=by omega
  refine ⟨⟨h0,hlt⟩,hp7,((k+1:Nat),_,()),B7 (m:=(B5 x4).length) hkc (by omega),rfl,⟨by omega,by dsimp only;omega,?_⟩,by dsimp only;omega⟩
  dsimp only
  rw [cq3,A4 hkc 0,h2]
  simp only [N3,List.foldl_append,List.foldl_cons,List.foldl_nil]
 have hk:k=(B5 x4).length:=by have:¬ (k:Int)<(B5 x4).length:=cq8 hge;omega
 subst hk
 rw [ct0] at h2
 subst h2
 clear h0 h1 hge
 refine ⟨⟨(0,m,cc,c,q,()),rfl,rfl,rfl,rfl,rfl,Int.le_refl _,by dsimp only;omega,rfl⟩,?_⟩
 rintro ⟨j,m2,cc2,c2,q2,⟨⟩⟩ ⟨h0,h1,h2⟩
 dsimp only at h0 h1 h2 ⊢
 obtain ⟨k,rfl⟩:=cq5 h0
 simp only [cq3] at h2 ⊢
 have hT:=aJ2 sp rd ks e3 i x3 (x3.take k) ⟨m,cc,c,q⟩
 rw [h2,ct1] at hT
 dsimp only at hT
 refine ⟨fun hlt=>?_,fun hge=>?_⟩
 ·have hlt:(k:Int)<x3.length:=cq9 hlt
  have hkc:k<x3.length:=by omega
  have hok:=hok2 k hkc
  rw [h2] at hok
  have hstep:J8 sp rd ks e3 i x3 ⟨m,cc,c,q⟩ (x3.take (k+1))=W9 sp rd ks e3 i x3 ⟨m2,cc2,c2,q2⟩ (x3.getD k 0):=by
   rw [A4 hkc 0,aQ0,h2]
  refine ⟨⟨h0,hlt⟩,⟨hp5,hok,hp7,by omega,by omega,by omega⟩,((k+1:Nat),_,_,_,_,()),B7 (m:=x3.length) hkc (by omega),rfl,rfl,rfl,rfl,⟨by omega,by dsimp only;omega,?_⟩,by dsimp only;omega⟩
  dsimp only
  rw [cq3,hstep]
  rfl
 ·have hk:k=x3.length:=by have:¬ (k:Int)<x3.length:=cq8 hge;omega
  subst hk
  rw [ct0] at h2
  rw [h2] at hD
  refine ⟨⟨hp1,hp7⟩,by omega,?_⟩
  rw [hD]
theorem bX8:D0 prog RG 53 cDo:=bt6 cj2 (A6 aJ1 (A6 av1 (A6 bD0 (A6 aP8 (A6 aX0 B9))))) (fun (i,x1,x2,x3,x4,x5,a0,a1,a2,a3,sp,rd,ho,ce,op,ks,oc,cd,ou,())=>lDo sp rd ks a1.length i x3 x4 ⟨ho,ce,oc,cd⟩) (by kernel_rfl) (by kernel_rfl) (by kernel_rfl) fun (i,x1,x2,x3,x4,x5,a0,a1,a2,a3,sp,rd,ho,ce,op,ks,oc,cd,ou,()) hp=>cp6 i x1 x2 x3 x4 x5 a0 a1 a2 a3 sp rd ho ce op ks oc cd ou hp
def G6 (m:Reads) (l:List Int) (i:Int):Reads:=l.foldl (fun m n=>mput eqI m n (getL m n++[i])) m
def O0:List Ins→Int→Reads→Reads
 |[],_,m=>m
 |x::r,i,m=>O0 r (i+1) (G6 m (B5 x.from_) i)
def J5 (code:List Ins):Reads:=O0 code 0 []
def Z4 (a:Nat):List (Int×Int):=(List.range a).foldl (fun (m:List (Int×Int)) (k:Nat)=>mput eqI m (k:Int) (k:Int)) []
def H1 (a:Int):AS:=⟨[],Z4 a.toNat,a,[]⟩
def runA (sp:Spans) (rd:Reads) (ks N:Int):List Ins→Int→AS→AS
 |[],_,s=>s
 |x::r,i,s=>runA sp rd ks N r (i+1) (doOf sp rd ks N i x s)
def fewX (ks:Int) (x:Ins):Bool:=decide (((B5 x.from_).length:Int)≤ks)&&decide ((x.to.length:Int)≤ks)
def outA (s:AS) (ks n:Int):Place:=bif (C7 s.holds ks n).cell then ⟨true,getI s.cells n⟩ else C7 s.holds ks n
def bX9 (f:VFun) (ks:Int):AS:=runA (A7 f.params f.code f.out) (J5 f.code) ks f.code.length f.code 0 (H1 f.params)
def B6 (f:VFun) (ks:Int):RCode×Int:=
 if C0 f≠0 then (aG5,C0 f) else if ks<1∨64<ks then (aG5,2) else if f.code.all (fewX ks)=false then (aG5,9)
 else (⟨f.params,ks,(bX9 f ks).ocells,(bX9 f ks).code,f.out.map (outA (bX9 f ks) ks)⟩,0)
theorem bu6 (sp:Spans) (rd:Reads) (ks N:Int) (r:List Ins):∀ (l:List Ins) (i:Int) (s:AS),runA sp rd ks N (l++r) i s=runA sp rd ks N r (i+l.length) (runA sp rd ks N l i s)
 |[],i,s=>by simp [runA]
 |x::l,i,s=>by
  simp only [List.cons_append,runA,bu6 sp rd ks N r l,cr5]
  congr 1
  omega
theorem aJ3 (sp:Spans) (rd:Reads) (ks N:Int) (l:List Ins) (x:Ins) (s:AS):runA sp rd ks N (l++[x]) 0 s=doOf sp rd ks N l.length x (runA sp rd ks N l 0 s):=by
 rw [bu6];simp [runA]
theorem ah1 {p q:Place}:eqP p q=true↔p=q:=by
 obtain ⟨c,n⟩:=p
 obtain ⟨c',n'⟩:=q
 show ((c==c')&&((n==n')&&true))=true↔_
 simp
theorem H3 {β:Type} (m:List (Place×β)) (k:Place) (v:β) (n:Place):mget eqP (mput eqP m k v) n=if k=n then some v else mget eqP m n:=by
 induction m with
 |nil=>
  show (bif eqP k n then some v else none)=_
  by_cases h:k=n
  ·rw [if_pos h,ah1.2 h];rfl
  ·have:eqP k n=false:=by rw [Bool.eq_false_iff];exact fun h2=>h (ah1.1 h2)
   rw [if_neg h,this];rfl
 |cons x r ih=>
  obtain ⟨k',v'⟩:=x
  show mget eqP (bif eqP k' k then (k,v)::r else (k',v')::mput eqP r k v) n=if k=n then some v else bif eqP k' n then some v' else mget eqP r n
  by_cases h:k'=k
  ·subst h
   rw [ah1.2 rfl]
   show (bif eqP k' n then some v else mget eqP r n)=_
   by_cases h1:k'=n
   ·rw [if_pos h1,ah1.2 h1];rfl
   ·have:eqP k' n=false:=by rw [Bool.eq_false_iff];exact fun h2=>h1 (ah1.1 h2)
    rw [if_neg h1,this];rfl
  ·have h2:eqP k' k=false:=by rw [Bool.eq_false_iff];exact fun h2=>h (ah1.1 h2)
   rw [h2]
   show (bif eqP k' n then some v' else mget eqP (mput eqP r k v) n)=_
   rw [ih]
   by_cases h1:k'=n
   ·subst h1
    rw [show eqP k' k'=true from ah1.2 rfl,cond_true,cond_true,if_neg (fun e=>h e.symm)]
   ·have:eqP k' n=false:=by rw [Bool.eq_false_iff];exact fun h2=>h1 (ah1.1 h2)
    rw [this];rfl
def bP0 (m:Holds) (ks n:Int):Prop:=∀ a:Nat,a<ks.toNat→mget eqP m ⟨false,(a:Int)⟩≠some n
structure Fine (P:Int→Prop) (ks:Int) (m:Holds):Prop where
 inj:∀ a b:Nat,a<ks.toNat→b<ks.toNat→∀ r,mget eqP m ⟨false,(a:Int)⟩=some r→mget eqP m ⟨false,(b:Int)⟩=some r→a=b
 reg:∀ a:Nat,a<ks.toNat→∀ r,mget eqP m ⟨false,(a:Int)⟩=some r→P r
theorem X0 {m:Holds} {ks n:Int}:(C7 m ks n).cell=true↔bP0 m ks n:=by
 unfold C7 bP0
 constructor
 ·intro h a ha hm
  split at h
  ·cases h
  ·rename_i hn
   rw [List.find?_eq_none] at hn
   exact hn a (by simpa using ha) (av0.2 hm)
 ·intro h
  split
  ·rename_i s hs
   have h1:=List.find?_some hs
   have h2:=List.mem_of_find?_eq_some hs
   exact (h s (by simpa using h2) (av0.1 h1)).elim
  ·rfl
theorem aJ4 {m:Holds} {ks n:Int} (h:(C7 m ks n).cell=false):∃ a:Nat,a<ks.toNat∧C7 m ks n=⟨false,(a:Int)⟩∧mget eqP m ⟨false,(a:Int)⟩=some n:=by
 unfold C7 at h ⊢
 split at h
 ·rename_i s hs
  have h1:=List.find?_some hs
  have h2:=List.mem_of_find?_eq_some hs
  exact ⟨s,by simpa using h2,rfl,av0.1 h1⟩
 ·cases h
theorem aX1:∀ (l m:List Int),l.Nodup→(∀ x∈l,x∈m)→l.length≤m.length
 |[],_,_,_=>Nat.zero_le _
 |x::r,m,h,hs=>by
  obtain ⟨h1,h2⟩:=List.nodup_cons.1 h
  have hx:=hs x (by simp)
  have:=aX1 r (m.erase x) h2 (fun y hy=>(List.mem_erase_of_ne (fun e=>by subst e;exact h1 hy)).2 (hs y (by simp [hy])))
  rw [List.length_erase_of_mem hx] at this
  have:=List.length_pos_of_mem hx
  simp only [cr5]
  omega
theorem av3 (sp:Spans) (rd:Reads) (N:Int) (m:Holds) (pl:Int) (st:List Int):∀ (l:List Nat) (acc:List Held),C6 sp rd N m pl st l acc=(none,[])→acc=[]∧∀ s∈l,∃ n∈st,mget eqP m ⟨false,(s:Int)⟩=some n
 |[],acc,h=>by simp only [C6,cr1,true_and] at h;exact ⟨h,by simp⟩
 |s::r,acc,h=>by
  simp only [C6] at h
  cases hm:mget eqP m ⟨false,(s:Int)⟩ with
  |none=>rw [hm] at h;simp at h
  |some n=>
   rw [hm] at h
   simp only at h
   cases hc:st.contains n with
   |true=>
    rw [hc] at h
    obtain ⟨h1,h2⟩:=av3 sp rd N m pl st r acc h
    refine ⟨h1,fun x hx=>?_⟩
    rcases List.mem_cons.1 hx with rfl|hx
    ·exact ⟨n,by simpa [List.contains_iff_mem] using hc,hm⟩
    ·exact h2 x hx
   |false=>
    rw [hc] at h
    simp only [cond_false] at h
    cases hs:I4 (getS sp n).first (getS sp n).last pl with
    |true=>
     rw [hs] at h
     have:=(av3 sp rd N m pl st r _ h).1
     simp at this
    |false=>rw [hs] at h;simp at h
theorem aJ5 {P:Int→Prop} {ks:Int} {m:Holds} (F:Fine P ks m) {n:Int} (hn:bP0 m ks n) {st:List Int} (hs:n∈st) (hl:(st.length:Int)≤ks) (sp:Spans) (rd:Reads) (N pl:Int):ag7 sp rd ks N m pl st:=by
 intro h1 h2
 have h3:C6 sp rd N m pl st (List.range ks.toNat) []=(none,[]):=Prod.ext h1 h2
 obtain ⟨_,h4⟩:=av3 sp rd N m pl st _ _ h3
 let f:Nat→Int:=fun s=>(mget eqP m ⟨false,(s:Int)⟩).getD 0
 have hf:∀ s,s<ks.toNat→f s∈st∧mget eqP m ⟨false,(s:Int)⟩=some (f s):=by
  intro s hs
  obtain ⟨r,hr1,hr2⟩:=h4 s (by simpa using hs)
  have:f s=r:=by simp only [f,hr2,Option.getD_some]
  rw [this]
  exact ⟨hr1,hr2⟩
 have hnd:((List.range ks.toNat).map f).Nodup:=by
  rw [List.nodup_iff_pairwise_ne,List.pairwise_map]
  refine List.Pairwise.imp_of_mem ?_ (List.nodup_iff_pairwise_ne.1 List.nodup_range)
  intro a b ha hb hab heq
  refine hab (F.inj a b (by simpa using ha) (by simpa using hb) (f a) (hf a (by simpa using ha)).2 ?_)
  rw [heq]
  exact (hf b (by simpa using hb)).2
 have hle:=aX1 _ (st.erase n) hnd (fun x hx=>by
  obtain ⟨s,hs1,rfl⟩:=List.mem_map.1 hx
  have hs1:s<ks.toNat:=by simpa using hs1
  exact (List.mem_erase_of_ne (fun e=>hn s hs1 (by rw [(hf s hs1).2,e]))).2 (hf s hs1).1)
 rw [List.length_erase_of_mem hs,ct3,List.length_range] at hle
 have:=List.length_pos_of_mem hs
 omega
theorem Fine.put {P P':Int→Prop} {ks:Int} {m:Holds} (F:Fine P ks m) (hP:∀ r,P r→P' r) {n:Int} (hn:bP0 m ks n) (hp:P' n) (q:Int):Fine P' ks (mput eqP m ⟨false,q⟩ n):=by
 have hg:∀ (a:Nat),mget eqP (mput eqP m ⟨false,q⟩ n) ⟨false,(a:Int)⟩=if q=a then some n else mget eqP m ⟨false,(a:Int)⟩:=by
  intro a
  rw [H3]
  simp
 refine ⟨fun a b ha hb r h1 h2=>?_,fun a ha r h1=>?_⟩
 ·rw [hg] at h1 h2
  by_cases h3:q=a<;>by_cases h4:q=b
  ·omega
  ·rw [if_pos h3] at h1
   rw [if_neg h4] at h2
   simp only [cp9] at h1
   subst h1
   exact (hn b hb h2).elim
  ·rw [if_neg h3] at h1
   rw [if_pos h4] at h2
   simp only [cp9] at h2
   subst h2
   exact (hn a ha h1).elim
  ·rw [if_neg h3] at h1
   rw [if_neg h4] at h2
   exact F.inj a b ha hb r h1 h2
 ·rw [hg] at h1
  by_cases h3:q=a
  ·rw [if_pos h3] at h1
   simp only [cp9] at h1
   subst h1;exact hp
  ·rw [if_neg h3] at h1
   exact hP r (F.reg a ha r h1)
theorem Fine.mono {P P':Int→Prop} {ks:Int} {m:Holds} (F:Fine P ks m) (hP:∀ r,P r→P' r):Fine P' ks m:=⟨F.inj,fun a ha r h=>hP r (F.reg a ha r h)⟩
theorem bn8 (s:AS) (x:Held):(as4 s x).holds=s.holds:=by
 unfold as4
 cases (mget eqI s.cells x.reg).isSome<;>rfl
theorem ay5 (sp:Spans) (rd:Reads) (ks N:Int) (s:AS) (pl:Int) (st:List Int):(G4 sp rd ks N s pl st).2.holds=s.holds:=by
 unfold G4
 split
 ·rfl
 ·exact bn8 _ _
theorem aL3 (sp:Spans) (rd:Reads) (ks N i:Int) (fr:List Int) (s:AS) (n:Int):((C7 s.holds ks n).cell=true∧(G1 sp rd ks N i fr s n).holds=mput eqP s.holds ⟨false,(G4 sp rd ks N s i fr).1⟩ n)∨((C7 s.holds ks n).cell=false∧G1 sp rd ks N i fr s n=s):=by
 unfold G1
 have:=ay5 sp rd ks N s i fr
 cases h:(C7 s.holds ks n).cell with
 |true=>exact .inl ⟨rfl,by simp only [cond_true];rw [this]⟩
 |false=>exact .inr ⟨rfl,rfl⟩
theorem aj8 {P:Int→Prop} {sp:Spans} {rd:Reads} {ks N i:Int} {fr:List Int}:∀ (l:List Int) {s:AS},Fine P ks s.holds→(∀ n∈l,P n)→Fine P ks (E5 sp rd ks N i fr s l).holds
 |[],s,F,_=>F
 |n::r,s,F,h=>by
  refine aj8 r (s:=G1 sp rd ks N i fr s n) ?_ (fun x hx=>h x (by simp [hx]))
  rcases aL3 sp rd ks N i fr s n with ⟨h1,h2⟩|⟨h1,h2⟩
  ·rw [h2];exact F.put (fun _ h=>h) (X0.1 h1) (h n (by simp)) _
  ·rw [h2];exact F
theorem bg6 (sp:Spans) (rd:Reads) (ks N i:Int) (to:List Int) (s:AS) (n:Int):(W9 sp rd ks N i to s n).holds=mput eqP s.holds ⟨false,(G4 sp rd ks N s (i+1) to).1⟩ n:=by
 have:=ay5 sp rd ks N s (i+1) to
 show mput eqP (G4 sp rd ks N s (i+1) to).2.holds ⟨false,(G4 sp rd ks N s (i+1) to).1⟩ n=_
 rw [this]
theorem bu7 {P:Int→Prop} {sp:Spans} {rd:Reads} {ks N i:Int} {to:List Int} {s:AS} (F:Fine P ks s.holds) (hn:to.Nodup) (hP:∀ n∈to,¬ P n):∀ (k:Nat),k≤to.length→Fine (fun r=>P r∨r∈to.take k) ks (J8 sp rd ks N i to s (to.take k)).holds∧(∀ n,k<to.length→n=to.getD k 0→bP0 (J8 sp rd ks N i to s (to.take k)).holds ks n):=by
 intro k
 induction k with
 |zero=>
  intro _
  refine ⟨F.mono fun r h=>.inl h,fun n hk hn2 a ha hm=>?_⟩
  have:=F.reg a ha n hm
  exact hP n (by rw [hn2];exact H5 hk 0) this
 |succ k ih=>
  intro hk
  obtain ⟨h1,h2⟩:=ih (by omega)
  have hF:Fine (fun r=>P r∨r∈to.take (k+1)) ks (J8 sp rd ks N i to s (to.take (k+1))).holds:=by
   rw [A4 (by omega) 0,aQ0,bg6]
   refine h1.put (fun r h=>?_) (h2 _ (by omega) rfl) (.inr (by simp)) _
   rcases h with h|h
   ·exact .inl h
   ·exact .inr (by simp [h])
  refine ⟨hF,fun n hk2 hn2 a ha hm=>?_⟩
  rcases hF.reg a ha n hm with h3|h3
  ·exact hP n (by rw [hn2];exact H5 hk2 0) h3
  ·have hnd:=hn
   rw [←List.take_append_drop (k+1) to,List.nodup_append] at hnd
   refine hnd.2.2 n h3 n ?_ rfl
   rw [hn2,cr3,cq1 hk2]
   exact List.mem_iff_getElem.2 ⟨0,by rw [List.length_drop];omega,by simp⟩
theorem aJ6 {l:List Int} {n:Int}:n∈B5 l↔n∈l:=by
 have key:∀ (l seen:List Int),(n∈F9 seen l→n∈l)∧(n∈l→n∈F9 seen l∨n∈seen):=by
  intro l
  induction l with
  |nil=>intro seen;simp [F9]
  |cons x r ih=>
   intro seen
   obtain ⟨h1,h2⟩:=ih (seen++[x])
   simp only [F9]
   cases hc:seen.contains x with
   |true=>
    have hc:x∈seen:=by simpa [List.contains_iff_mem] using hc
    refine ⟨fun h=>by simp [h1 h],fun h=>?_⟩
    simp only [List.mem_cons] at h
    rcases h with rfl|h
    ·exact .inr hc
    ·rcases h2 h with h3|h3
     ·exact .inl h3
     ·simp only [cs9,cr0] at h3
      rcases h3 with h3|rfl
      ·exact .inr h3
      ·exact .inr hc
   |false=>
    simp only [cond_false,List.mem_cons]
    refine ⟨fun h=>?_,fun h=>?_⟩
    ·rcases h with h|h
     ·exact .inl h
     ·exact .inr (h1 h)
    ·rcases h with rfl|h
     ·exact .inl (.inl rfl)
     ·rcases h2 h with h3|h3
      ·exact .inl (.inr h3)
      ·simp only [cs9,cr0] at h3
       rcases h3 with h3|rfl
       ·exact .inr h3
       ·exact .inl (.inl rfl)
 obtain ⟨h1,h2⟩:=key l []
 exact ⟨h1,fun h=>(h2 h).resolve_right (by simp)⟩
theorem bP1 {P:Int→Prop} {sp:Spans} {rd:Reads} {ks N i:Int} {x:Ins} {s:AS} (F:Fine P ks s.holds) (hfew:fewX ks x=true) (hf:∀ n∈x.from_,P n) (hn:x.to.Nodup) (hP:∀ n∈x.to,¬ P n):
  doOk sp rd ks N i x s∧Fine (fun r=>P r∨r∈x.to) ks (doOf sp rd ks N i x s).holds:=by
 simp only [fewX,cq2,cs4] at hfew
 have hd:∀ n∈B5 x.from_,P n:=fun n hn=>hf n (aJ6.1 hn)
 have F1:=aj8 (sp:=sp) (rd:=rd) (N:=N) (i:=i) (fr:=B5 x.from_) (B5 x.from_) F hd
 refine ⟨⟨fun k hk hc=>?_,fun k hk=>?_⟩,?_⟩
 ·have Fk:=aj8 (sp:=sp) (rd:=rd) (N:=N) (i:=i) (fr:=B5 x.from_) ((B5 x.from_).take k) F (fun n hn=>hd n (List.mem_of_mem_take hn))
  exact aJ5 Fk (X0.1 hc) (H5 hk 0) hfew.1 sp rd N i
 ·obtain ⟨h1,h2⟩:=bu7 (sp:=sp) (rd:=rd) (N:=N) (i:=i) F1 hn hP k (by omega)
  exact aJ5 h1 (h2 _ hk rfl) (H5 hk 0) hfew.2 sp rd N (i+1)
 ·have:=(bu7 (sp:=sp) (rd:=rd) (N:=N) (i:=i) F1 hn hP x.to.length (Nat.le_refl _)).1
  rw [ct0] at this
  exact this
theorem bg7 {a:Int} {b:List Ins} {c:List Int} (C:Checked a b c) {ks:Int} (hfew:b.all (fewX ks)=true) (sp:Spans) (rd:Reads) (N:Int):∀ k,k≤b.length→Fine (fun r=>r<a∨r∈wr (b.take k)) ks (runA sp rd ks N (b.take k) 0 (H1 a)).holds∧(k<b.length→doOk sp rd ks N k (b.getD k ins0) (runA sp rd ks N (b.take k) 0 (H1 a))):=by
 have step:∀ k,k<b.length→Fine (fun r=>r<a∨r∈wr (b.take k)) ks (runA sp rd ks N (b.take k) 0 (H1 a)).holds→doOk sp rd ks N k (b.getD k ins0) (runA sp rd ks N (b.take k) 0 (H1 a))∧Fine (fun r=>(r<a∨r∈wr (b.take k))∨r∈(b.getD k ins0).to) ks (doOf sp rd ks N k (b.getD k ins0) (runA sp rd ks N (b.take k) 0 (H1 a))).holds:=by
  intro k hk F
  have hb:b=b.take k++b.getD k ins0::b.drop (k+1):=by
   conv=>lhs;rw [←List.take_append_drop (k+1) b,A4 hk ins0]
   simp
  have hmem:=H5 hk ins0
  refine bP1 F (ct2.1 hfew _ hmem) (fun n hn=>?_) ?_ (fun n hn=>?_)
  ·have:=C.there
   rw [hb] at this
   simpa using M4 this n hn
  ·have hnd:=E3.1 C.once
   rw [hb,T7,L6] at hnd
   exact (List.nodup_append.1 (List.nodup_append.1 hnd).2.1).1
  ·rintro (h|h)
   ·have:=C.new n (aP2.2 ⟨_,hmem,hn⟩);omega
   ·have hnd:=E3.1 C.once
    rw [hb,T7,L6] at hnd
    exact (List.nodup_append.1 hnd).2.2 n h n (List.mem_append_left _ hn) rfl
 intro k
 induction k with
 |zero=>
  intro _
  have F0:Fine (fun r=>r<a∨r∈wr (b.take 0)) ks (runA sp rd ks N (b.take 0) 0 (H1 a)).holds:=⟨fun x y _ _ r h=>by simp [runA,H1,mget] at h,fun x _ r h=>by simp [runA,H1,mget] at h⟩
  exact ⟨F0,fun hk=>(step 0 hk F0).1⟩
 |succ k ih=>
  intro hk
  obtain ⟨F,_⟩:=ih (by omega)
  have F1:=(step k (by omega) F).2
  have F2:Fine (fun r=>r<a∨r∈wr (b.take (k+1))) ks (runA sp rd ks N (b.take (k+1)) 0 (H1 a)).holds:=by
   rw [A4 (by omega) ins0,aJ3,ct1,Nat.min_eq_left (by omega)]
   refine F1.mono fun r h=>?_
   rw [T7,cs9]
   rcases h with (h|h)|h
   ·exact .inl h
   ·exact .inr (.inl h)
   ·exact .inr (.inr (by simpa [wr] using h))
  exact ⟨F2,fun hk=>(step (k+1) hk F2).1⟩
theorem bY0 (sp:Spans) (rd:Reads) (ks N i:Int) (x:Ins) (s:AS):(doOf sp rd ks N i x s).code.length≤s.code.length+2*(B5 x.from_).length+x.to.length+1∧s.ocells≤(doOf sp rd ks N i x s).ocells∧(doOf sp rd ks N i x s).ocells≤s.ocells+(B5 x.from_).length+x.to.length:=by
 have h1:=ad4 sp rd ks N i (B5 x.from_) (B5 x.from_) s
 have h2:=aJ2 sp rd ks N i x.to x.to (E5 sp rd ks N i (B5 x.from_) s (B5 x.from_))
 have hc:(doOf sp rd ks N i x s).code.length=(J8 sp rd ks N i x.to (E5 sp rd ks N i (B5 x.from_) s (B5 x.from_)) x.to).code.length+1:=by
  simp only [doOf,cs3,cr5,List.length_nil]
 have ho:(doOf sp rd ks N i x s).ocells=(J8 sp rd ks N i x.to (E5 sp rd ks N i (B5 x.from_) s (B5 x.from_)) x.to).ocells:=rfl
 rw [hc,ho]
 omega
theorem aX2 {ks:Int} (hks:ks≤64) (sp:Spans) (rd:Reads) (N:Int):∀ (l:List Ins) (i:Int) (s:AS),l.all (fewX ks)=true→(runA sp rd ks N l i s).code.length≤s.code.length+193*l.length∧s.ocells≤(runA sp rd ks N l i s).ocells∧(runA sp rd ks N l i s).ocells≤s.ocells+128*l.length
 |[],i,s,_=>by simp [runA]
 |x::r,i,s,h=>by
  simp only [List.all_cons,cq2] at h
  have h1:=h.1
  simp only [fewX,cq2,cs4] at h1
  have h2:=bY0 sp rd ks N i x s
  have h3:=aX2 hks sp rd N r (i+1) (doOf sp rd ks N i x s) h.2
  simp only [runA,cr5]
  omega
theorem bg8 (m:Reads) (k:Int) (l:List Int) (n:Int):getL (mput eqI m k l) n=if k=n then l else getL m n:=by
 unfold getL
 rw [I0]
 split<;>rfl
theorem ah2 (i:Int):∀ (l:List Int) (m:Reads),(∀ n,(getL m n).Pairwise (·≤·)∧∀ x∈getL m n,x≤i)→∀ n,(getL (G6 m l i) n).Pairwise (·≤·)∧∀ x∈getL (G6 m l i) n,x≤i
 |[],m,h,n=>h n
 |y::r,m,h,n=>by
  refine ah2 i r (mput eqI m y (getL m y++[i])) (fun k=>?_) n
  rw [bg8]
  split
  ·rename_i hy
   subst hy
   refine ⟨List.pairwise_append.2 ⟨(h y).1,by simp,fun a ha b hb=>?_⟩,fun x hx=>?_⟩
   ·simp only [cr0] at hb;subst hb;exact (h y).2 a ha
   ·simp only [cs9,cr0] at hx
    rcases hx with hx|rfl
    ·exact (h y).2 x hx
    ·exact Int.le_refl _
  ·exact h k
theorem al3:∀ (l:List Ins) (i:Int) (m:Reads),(∀ n,(getL m n).Pairwise (·≤·)∧∀ x∈getL m n,x≤i)→ag8 (O0 l i m)
 |[],i,m,h=>fun n=>(h n).1
 |x::r,i,m,h=>by
  refine al3 r (i+1) _ (fun n=>?_)
  obtain ⟨h1,h2⟩:=ah2 i (B5 x.from_) m h n
  exact ⟨h1,fun y hy=>by have:=h2 y hy;omega⟩
theorem aL4 (code:List Ins):ag8 (J5 code):=al3 code 0 [] (fun n=>by simp [getL,mget])
theorem ay6 (x:Ins):∀ (l:List Ins) (i:Int) (m:Reads),O0 (l++[x]) i m=G6 (O0 l i m) (B5 x.from_) (i+l.length)
 |[],i,m=>by simp [O0]
 |y::l,i,m=>by
  simp only [List.cons_append,O0,ay6 x l,cr5]
  congr 1
  omega
theorem aJ7 (k:Nat):Z4 (k+1)=mput eqI (Z4 k) k k:=by simp [Z4,List.range_succ]
abbrev tysR:List Ty:=[i64,inss,ints,ints,mapS,mapR,mapP,mapI,i64,i64,i64,i64,i64]
abbrev objR (b:Nat):List OPat:=[.box 79 [.ptr 2 0],.box 86 [.d b,.d (b+1),.d (b+2),.d (b+3),.map 4,.ms 3,.map 5,.map 6,.d (b+8),.d (b+9),.d (b+10),.nil,.nil],.ms (b+5),.map (b+4),.map (b+6),.map (b+7),.box 3 [.d (b+11)],.box 3 [.d (b+12)]]
abbrev ylR:List (Nat×Nat):=[(0,0),(1,1),(2,2),(4,4),(5,5),(6,6),(7,7),(8,8)]
def as7:Con RU:=⟨[one,one],i64::i64::tysR,[.d 0,.yld 0],.loop 1::objR 2,some fun p=>match p with
  |(n,st,a0,a1,a2,a3,sp,rd,ho,ce,op,ks,oc,i,many,())=>st=0∧(∀ n,(getL rd n).length≤1000001)∧0≤many∧many≤140737488356000,
 none,[one],.bool::i64::tysR,[.d 0],.loop 1::objR 2,fun p=>match p with
  |(n,st,a0,a1,a2,a3,sp,rd,ho,ce,op,ks,oc,i,many,())=>(true,0,a0,a1,a2,a3,sp,mput eqI rd n (getL rd n++[i]),ho,ce,op,ks,oc,i,many+1,()),[],ylR,[(1,1000001),(7,1000007),(8,1000008)]⟩
def aX3:Con RU:=⟨[one,one],i64::tysR++ax7,[.yld 0,.ptr 9 0],.loop 0::objR 1++[.box 52 [.d 14,.d 15,.d 16,.d 17,.d 18]],some fun p=>match p with
  |(st,a0,a1,a2,a3,sp,rd,ho,ce,op,ks,oc,i,many,x1,x2,x3,x4,x5,())=>st=0∧(∀ n,(getL rd n).length≤1000000)∧many=0,
 none,[],i64::tysR,[],.loop 0::objR 1++[.box 52 [.un,.un,.un,.un,.un]],fun p=>match p with
  |(st,a0,a1,a2,a3,sp,rd,ho,ce,op,ks,oc,i,many,x1,x2,x3,x4,x5,())=>(0,a0,a1,a2,a3,sp,G6 rd (B5 x4) i,ho,ce,op,ks,oc,i,many+(B5 x4).length,()),[],ylR,[(1,448),(7,512),(8,640)]⟩
def itAlloc:FuncId→List (Con RU×Con RU×List (Nat×Nat)):=fun f=>bif Nat.beq f 83 then [(aX3,as7,[(0,0),(1,1),(2,2),(3,3),(4,4),(5,5),(6,6),(7,7),(8,8)])] else []
def bn9 (fr:List Int) (rd:Reads) (i many:Int):Nat→St RU→Ann RU:=fun _ _=>⟨[],[.slot 8,.row 1000000,.row 1000003,.box 1000008 0],[i64,i64,mapR,i64],fun p=>0≤p.1∧p.1≤fr.length∧p.2.1=0∧p.2.2.1=G6 rd (B5 (fr.take p.1.toNat)) i∧p.2.2.2.1=many+(B5 (fr.take p.1.toNat)).length,fun p=>fr.length-p.1.toNat,[]⟩
def cAlloc:Con RU:=con [(true,4),one] [i64,inss,ints,ints,i64] [(true,5),one] [i64,i64,i64,aU3,ax6,i64] [false,false,false,false,false,false] (some fun p=>S3 p.2.1=true∧H0 p.2.1=true∧p.2.2.1.length≤8796093022200) fun p=>
 ((B6 ⟨p.1,p.2.1,p.2.2.1,p.2.2.2.1⟩ p.2.2.2.2.1).1.params,(B6 ⟨p.1,p.2.1,p.2.2.1,p.2.2.2.1⟩ p.2.2.2.2.1).1.slots,(B6 ⟨p.1,p.2.1,p.2.2.1,p.2.2.2.1⟩ p.2.2.2.2.1).1.cells,(B6 ⟨p.1,p.2.1,p.2.2.1,p.2.2.2.1⟩ p.2.2.2.2.1).1.code,(B6 ⟨p.1,p.2.1,p.2.2.1,p.2.2.2.1⟩ p.2.2.2.2.1).1.out,(B6 ⟨p.1,p.2.1,p.2.2.1,p.2.2.2.1⟩ p.2.2.2.2.1).2,())
def bP2 (a:Int) (b:List Ins) (c:List Int) (ks:Int):Nat→St RU→Ann RU:=fun k s=>match k with
 |0=>⟨[],[.slot 48,.row 2176],[i64,mapR],fun p=>0≤p.1∧p.1≤b.length∧p.2.1=O0 (b.take p.1.toNat) 0 []∧(b.take p.1.toNat).all (fewX ks)=true,fun p=>b.length-p.1.toNat,[(.seen 2176,0,0,.bool)]⟩
 |1=>⟨[],[],[],fun _=>False,fun _=>0,[]⟩
 |2=>⟨[],[.slot 86,.row 2304],[i64,mapI],fun p=>0≤p.1∧p.1≤a∧p.2.1=Z4 p.1.toNat,fun p=>a.toNat-p.1.toNat,[(.seen 2176,0,0,.bool)]⟩
 |3=>⟨[],[.slot 99,.row 2240,.row 2304,.box 2816 10,.row 900001],[i64,mapP,mapI,i64,aU3],fun p=>0≤p.1∧p.1≤b.length∧runA (A7 a b c) (J5 b) ks b.length (b.take p.1.toNat) 0 (H1 a)=⟨p.2.1,p.2.2.1,p.2.2.2.1,p.2.2.2.2.1⟩,fun p=>b.length-p.1.toNat,[(.box 2816 11,900001,55,.user 1),(.box 2816 12,900002,59,.user 2)]⟩
 |_=>⟨[],[.slot 112,.row 900002],[i64,ax6],fun p=>0≤p.1∧p.1≤c.length∧p.2.1=(c.take p.1.toNat).map (outA (runA (A7 a b c) (J5 b) ks b.length b 0 (H1 a)) ks),fun p=>c.length-p.1.toNat,[]⟩
theorem bP3 (st a0:Int) (a1:List Ins) (a2 a3:List Int) (sp:Spans) (rd:Reads) (ho:Holds) (ce:List (Int×Int)) (op ks oc i many x1 x2:Int) (x3 x4:List Int) (x5:List Ins):vc (EVy ylR (some as7) [(61,cContains)]) (bn9 x4 rd i many) Go.Proofs.Tryd.f83 aX3 (st,a0,a1,a2,a3,sp,rd,ho,ce,op,ks,oc,i,many,x1,x2,x3,x4,x5,())=(
 let e0:Int×Int×List Ins×List Int×List Int×List (Int×Span)×List (Int×List Int)×List (Place×Int)×List (Int×Int)×Int×Int×Int×Int×Int×Unit:=
  ((0:Int),a0,a1,a2,a3,sp,G6 rd (B5 x4) i,ho,ce,op,ks,oc,i,many+(↑(List.length (B5 x4)):Int),());
 let e1:Int:=(↑(List.length x4):Int);
  Small RU (Sigma.mk (Ty.slice (52:Nat) (Ty.user (0:Nat))) a1)→
  Small RU (Sigma.mk (Ty.slice (3:Nat) (Ty.int IntKind.i64)) a2)→
  Small RU (Sigma.mk (Ty.slice (3:Nat) (Ty.int IntKind.i64)) a3)→
  Small RU (Sigma.mk (Ty.slice (3:Nat) (Ty.int IntKind.i64)) x3)→
  Small RU (Sigma.mk (Ty.slice (3:Nat) (Ty.int IntKind.i64)) x4)→
  Small RU (Sigma.mk (Ty.slice (52:Nat) (Ty.user (0:Nat))) x5)→
  (∃ (p:Int×Int×List (Int×List Int)×Int×Unit),
  x4=x4∧
  e1=e1∧
  (0:Int)=p.1∧
  st=p.2.1∧
  a0=a0∧
  a1=a1∧
  a2=a2∧
  a3=a3∧
  op=op∧
  ks=ks∧
  oc=oc∧
  rd=p.2.2.1∧
  sp=sp∧
  ho=ho∧
  ce=ce∧
  i=i∧
  many=p.2.2.2.1∧
  x1=x1∧
  x2=x2∧
  x3=x3∧
  x4=x4∧
  x5=x5∧
  (0:Int)≤p.1∧
  p.1≤e1∧
  p.2.1=(0:Int)∧
  p.2.2.1=G6 rd (B5 (List.take (Int.toNat p.1) x4)) i∧
  p.2.2.2.1=many+(↑(List.length (B5 (List.take (Int.toNat p.1) x4))):Int))∧
  ∀ (p:Int×Int×List (Int×List Int)×Int×Unit),
 let e0_1:Int:=p.2.2.2.1;
 let e1_1:List (Int×List Int):=p.2.2.1;
 let e2:List (Int×List Int):=mput eqI e1_1 (List.getD x4 (Int.toNat p.1) (0:Int)) (getL e1_1 (List.getD x4 (Int.toNat p.1) (0:Int))++[i]);
 let e3:Int:=p.1;
 let e4:Int:=p.2.1;
 let e5:Bool:=decide (e3<e1);
 let e6:Bool:=List.contains (List.take (Int.toNat e3) x4) (List.getD x4 (Int.toNat e3) (0:Int));
 let e7:Int:=e0_1+(1:Int);
  (0:Int)≤e3∧e3≤e1∧e4=(0:Int)∧e1_1=G6 rd (B5 (List.take (Int.toNat e3) x4)) i∧e0_1=many+(↑(List.length (B5 (List.take (Int.toNat e3) x4))):Int)→
  (e5=true→
  ((0:Int)≤e3∧e3<e1)∧
  ((0:Int)≤e3∧e3≤e1)∧
  (e6=true→
  ∃ (p':Int×Int×List (Int×List Int)×Int×Unit),
  x4=x4∧
  e1=e1∧
  IntKind.i64.wrap (e3+(1:Int))=p'.1∧
  e4=p'.2.1∧
  a0=a0∧
  a1=a1∧
  a2=a2∧
  a3=a3∧
  op=op∧
  ks=ks∧
  oc=oc∧
  e1_1=p'.2.2.1∧
  sp=sp∧
  ho=ho∧
  ce=ce∧
  i=i∧
  e0_1=p'.2.2.2.1∧
  x1=x1∧
  x2=x2∧
  x3=x3∧
  x4=x4∧
  x5=x5∧
  ((0:Int)≤p'.1∧
  p'.1≤e1∧
  p'.2.1=(0:Int)∧
  p'.2.2.1=G6 rd (B5 (List.take (Int.toNat p'.1) x4)) i∧
  p'.2.2.2.1=many+(↑(List.length (B5 (List.take (Int.toNat p'.1) x4))):Int))∧
  List.length x4-Int.toNat p'.1<List.length x4-Int.toNat e3)∧
  (e6=false→
  (e4=(0:Int)∧(∀ (n:Int),List.length (getL e1_1 n)≤(1000001:Nat))∧(0:Int)≤e0_1∧e0_1≤(140737488356000:Int))∧
  ((!true)=true→((0:Int),a0,a1,a2,a3,sp,e2,ho,ce,op,ks,oc,i,e7,())=e0)∧
  ((!true)=false→
  ∃ (p':Int×Int×List (Int×List Int)×Int×Unit),
  x4=x4∧
  e1=e1∧
  IntKind.i64.wrap (e3+(1:Int))=p'.1∧
  (0:Int)=p'.2.1∧
  a0=a0∧
  a1=a1∧
  a2=a2∧
  a3=a3∧
  op=op∧
  ks=ks∧
  oc=oc∧
  e2=p'.2.2.1∧
  sp=sp∧
  ho=ho∧
  ce=ce∧
  i=i∧
  e7=p'.2.2.2.1∧
  x1=x1∧
  x2=x2∧
  x3=x3∧
  x4=x4∧
  x5=x5∧
  ((0:Int)≤p'.1∧
  p'.1≤e1∧
  p'.2.1=(0:Int)∧
  p'.2.2.1=G6 rd (B5 (List.take (Int.toNat p'.1) x4)) i∧
  p'.2.2.2.1=many+(↑(List.length (B5 (List.take (Int.toNat p'.1) x4))):Int))∧
  List.length x4-Int.toNat p'.1<List.length x4-Int.toNat e3)))∧
  (e5=false→(e4,a0,a1,a2,a3,sp,e1_1,ho,ce,op,ks,oc,i,e0_1,())=e0)):=by kernel_rfl
theorem bY1 (a:Int) (b:List Ins) (c d:List Int) (ks:Int):vc (EVd [] itAlloc [(41,cCheck),(51,cSpans),(52,cReads),(53,cDo),(54,cSlot)]) (bP2 a b c ks) Go.Proofs.Tryd.f15 cAlloc (a,b,c,d,ks,())=(
 let e0:Int×Int×Int×List RIns×List Place×Int×Unit:=
  ((B6 (VFun.mk a b c d) ks).1.params,(B6 (VFun.mk a b c d) ks).1.slots,(B6 (VFun.mk a b c d) ks).1.cells,(B6 (VFun.mk a b c d) ks).1.code,
  (B6 (VFun.mk a b c d) ks).1.out,(B6 (VFun.mk a b c d) ks).2,());
 let e1:Bool:=decide (ks<(1:Int))||decide (ks >(64:Int));
 let e2:Int:=(↑(List.length b):Int);
 let e3:Ins:=Ins.mk (0:Int) (0:Int) [] [] [];
 let e4:Bool:=C0 (VFun.mk a b c d) !=(0:Int);
 let e5:Int:=(↑(List.length c):Int);
 let e6:Int:=C0 (VFun.mk a b c d);
  Small RU (Sigma.mk (Ty.slice (52:Nat) (Ty.user (0:Nat))) b)→
  Small RU (Sigma.mk (Ty.slice (3:Nat) (Ty.int IntKind.i64)) c)→
  Small RU (Sigma.mk (Ty.slice (3:Nat) (Ty.int IntKind.i64)) d)→
  (e4=true→((0:Int),(0:Int),(0:Int),[],[],e6,())=e0)∧
  (e4=false→
  (e1=true→((0:Int),(0:Int),(0:Int),[],[],(2:Int),())=e0)∧
  (e1=false→
  a≤(4000:Int)∧
  (∃ (p:Int×List (Int×List Int)×Unit),
  a=a∧
  b=b∧
  c=c∧
  d=d∧
  ks=ks∧
  e6=e6∧
  e4=e4∧
  e1=e1∧
  a=a∧
  b=b∧
  c=c∧
  d=d∧
  b=b∧
  e2=e2∧
  (0:Int)=p.1∧
  a=a∧
  b=b∧
  c=c∧
  d=d∧
  (0:Int)=(0:Int)∧
  (0:Int)=(0:Int)∧
  (0:Int)=(0:Int)∧
  A7 a b c=A7 a b c∧
  []=p.2.1∧
  ([]:List (Place×Int))=[]∧
  ([]:List (Int×Int))=[]∧
  a=a∧
  b=b∧
  c=c∧
  d=d∧
  a=a∧
  ks=ks∧
  a=a∧
  (0:Int)≤p.1∧
  p.1≤e2∧
  p.2.1=O0 (List.take (Int.toNat p.1) b) (0:Int) []∧
  List.all (List.take (Int.toNat p.1) b) (fewX ks)=true)∧
  ∀ (p:Int×List (Int×List Int)×Unit),
 let e0_1:Bool:=
  decide ((0:Int)+(↑(List.length (B5 (List.getD b (Int.toNat p.1) e3).from_)):Int) >ks)||decide ((↑(List.length (List.getD b (Int.toNat p.1) e3).to):Int) >ks);
 let e1_1:List (Int×List Int):=p.2.1;
 let e2_1:Bool:=decide (p.1<e2);
 let e3_1:Int:=p.1;
  (0:Int)≤e3_1∧e3_1≤e2∧e1_1=O0 (List.take (Int.toNat e3_1) b) (0:Int) []∧List.all (List.take (Int.toNat e3_1) b) (fewX ks)=true→
  (e2_1=true→
  ((0:Int)≤e3_1∧e3_1<e2)∧
  (∀
  (xs:
  Int×
  Int×
  Int×List Ins×List Int×List Int×List (Int×Span)×List (Int×List Int)×List (Place×Int)×List (Int×Int)×Int×Int×Int×Int×Int×Unit),
 let e0:Int:=xs.2.2.2.2.2.2.2.2.2.2.2.2.2.1;
 let e1:Int×Int×Int×Unit:=xs.2.2.2.2.2.2.2.2.2.2.2.2;
 let e2:List Int:=Option.getD (mget (fun (x y:Int)=>x==y) xs.2.2.2.2.2.2.2.1 xs.1) [];
 let e3:Int×Int×Int×Int×Int×Unit:=xs.2.2.2.2.2.2.2.2.2.2;
 let e4:List (Place×Int)×List (Int×Int)×Int×Int×Int×Int×Int×Unit:=xs.2.2.2.2.2.2.2.2;
 let e5:List (Int×Span)×List (Int×List Int)×List (Place×Int)×List (Int×Int)×Int×Int×Int×Int×Int×Unit:=xs.2.2.2.2.2.2;
 let e6:List Int:=xs.2.2.2.2.2.1;
 let e7:List Int:=xs.2.2.2.2.1;
 let e8:List Ins:=xs.2.2.2.1;
 let e9:Int:=xs.1;
 let e10:
  Int×
  Int×List Ins×List Int×List Int×List (Int×Span)×List (Int×List Int)×List (Place×Int)×List (Int×Int)×Int×Int×Int×Int×Int×Unit:=
  xs.2;
  xs.2.1=(0:Int)∧
  (∀ (n:Int),List.length (getL xs.2.2.2.2.2.2.2.1 n)≤(1000001:Nat))∧
  (0:Int)≤xs.2.2.2.2.2.2.2.2.2.2.2.2.2.2.1∧xs.2.2.2.2.2.2.2.2.2.2.2.2.2.2.1≤(140737488356000:Int)→
  Small RU (Sigma.mk (Ty.slice (52:Nat) (Ty.user (0:Nat))) e8)→
  Small RU (Sigma.mk (Ty.slice (3:Nat) (Ty.int IntKind.i64)) e7)→
  Small RU (Sigma.mk (Ty.slice (3:Nat) (Ty.int IntKind.i64)) e6)→
  e10.1=(0:Int)∧
  (List.length e2+List.length [e0])*(8:Nat)≤(140737488355328:Nat)∧
  e9=e9∧
  (true,(0:Int),e10.2.1,e8,e7,e6,e5.1,mput (fun (x y:Int)=>x==y) e5.2.1 e9 (e2++[e0]),e4.1,e4.2.1,e3.1,e3.2.1,
  e1.1,e0,IntKind.i64.wrap (e1.2.2.1+(1:Int)),())=
  as7.fn xs)∧
  ((0:Int)=(0:Int)∧(∀ (n:Int),List.length (getL e1_1 n)≤(1000000:Nat))∧(0:Int)=(0:Int))∧
  (0:Int)=(0:Int)∧
  (e0_1=true→((0:Int),(0:Int),(0:Int),[],[],(9:Int),())=e0)∧
  (e0_1=false→
  ∃ (p':Int×List (Int×List Int)×Unit),
  a=a∧
  b=b∧
  c=c∧
  d=d∧
  ks=ks∧
  e6=e6∧
  e4=e4∧
  e1=e1∧
  a=a∧
  b=b∧
  c=c∧
  d=d∧
  b=b∧
  e2=e2∧
  IntKind.i64.wrap (e3_1+(1:Int))=p'.1∧
  a=a∧
  b=b∧
  c=c∧
  d=d∧
  (0:Int)=(0:Int)∧
  (0:Int)=(0:Int)∧
  (0:Int)=(0:Int)∧
  A7 a b c=A7 a b c∧
  G6 e1_1 (B5 (List.getD b (Int.toNat e3_1) e3).from_) e3_1=p'.2.1∧
  ([]:List (Place×Int))=[]∧
  ([]:List (Int×Int))=[]∧
  a=a∧
  b=b∧
  c=c∧
  d=d∧
  a=a∧
  ks=ks∧
  a=a∧
  ((0:Int)≤p'.1∧
  p'.1≤e2∧
  p'.2.1=O0 (List.take (Int.toNat p'.1) b) (0:Int) []∧
  List.all (List.take (Int.toNat p'.1) b) (fewX ks)=true)∧
  List.length b-Int.toNat p'.1<List.length b-Int.toNat e3_1))∧
  (e2_1=false→
  (∃ (p:Int×List (Int×Int)×Unit),
  a=a∧
  b=b∧
  c=c∧
  d=d∧
  ks=ks∧
  e6=e6∧
  e4=e4∧
  e1=e1∧
  a=a∧
  b=b∧
  c=c∧
  d=d∧
  b=b∧
  e2=e2∧
  e3_1=e3_1∧
  e2_1=e2_1∧
  a=a∧
  (0:Int)=p.1∧
  a=a∧
  b=b∧
  c=c∧
  d=d∧
  (0:Int)=(0:Int)∧
  (0:Int)=(0:Int)∧
  (0:Int)=(0:Int)∧
  A7 a b c=A7 a b c∧
  e1_1=e1_1∧
  ([]:List (Place×Int))=[]∧
  []=p.2.1∧
  a=a∧
  b=b∧
  c=c∧
  d=d∧a=a∧ks=ks∧a=a∧(0:Int)≤p.1∧p.1≤a∧p.2.1=Z4 (Int.toNat p.1))∧
  ∀ (p:Int×List (Int×Int)×Unit),
 let e0_2:Bool:=decide (p.1<a);
 let e1_2:Int:=p.1;
 let e2_2:List (Int×Int):=p.2.1;
  (0:Int)≤e1_2∧e1_2≤a∧e2_2=Z4 (Int.toNat e1_2)→
  (e0_2=true→
  ∃ (p':Int×List (Int×Int)×Unit),
  a=a∧
  b=b∧
  c=c∧
  d=d∧
  ks=ks∧
  e6=e6∧
  e4=e4∧
  e1=e1∧
  a=a∧
  b=b∧
  c=c∧
  d=d∧
  b=b∧
  e2=e2∧
  e3_1=e3_1∧
  e2_1=e2_1∧
  a=a∧
  IntKind.i64.wrap (e1_2+(1:Int))=p'.1∧
  a=a∧
  b=b∧
  c=c∧
  d=d∧
  (0:Int)=(0:Int)∧
  (0:Int)=(0:Int)∧
  (0:Int)=(0:Int)∧
  A7 a b c=A7 a b c∧
  e1_1=e1_1∧
  ([]:List (Place×Int))=[]∧
  mput (fun (x y:Int)=>x==y) e2_2 e1_2 e1_2=p'.2.1∧
  a=a∧
  b=b∧
  c=c∧
  d=d∧
  a=a∧
  ks=ks∧
  a=a∧
  ((0:Int)≤p'.1∧p'.1≤a∧p'.2.1=Z4 (Int.toNat p'.1))∧
  Int.toNat a-Int.toNat p'.1<Int.toNat a-Int.toNat e1_2)∧
  (e0_2=false→
  (∃ (p:Int×List (Place×Int)×List (Int×Int)×Int×List RIns×Unit),
  a=a∧
  b=b∧
  c=c∧
  d=d∧
  ks=ks∧
  e6=e6∧
  e4=e4∧
  e1=e1∧
  a=a∧
  b=b∧
  c=c∧
  d=d∧
  b=b∧
  e2=e2∧
  e3_1=e3_1∧
  e2_1=e2_1∧
  a=a∧
  e1_2=e1_2∧
  e0_2=e0_2∧
  b=b∧
  e2=e2∧
  (0:Int)=p.1∧
  a=a∧
  b=b∧
  c=c∧
  d=d∧
  (0:Int)=(0:Int)∧
  (0:Int)=(0:Int)∧
  (0:Int)=(0:Int)∧
  A7 a b c=A7 a b c∧
  e1_1=e1_1∧
  []=p.2.1∧
  e2_2=p.2.2.1∧
  a=a∧
  b=b∧
  c=c∧
  d=d∧
  a=a∧
  ks=ks∧
  a=p.2.2.2.1∧
  []=p.2.2.2.2.1∧
  ([]:List Place)=[]∧
  (0:Int)≤p.1∧
  p.1≤e2∧
  runA (A7 a b c) (J5 b) ks e2 (List.take (Int.toNat p.1) b)
  (0:Int) (H1 a)=
  AS.mk p.2.1 p.2.2.1 p.2.2.2.1
  p.2.2.2.2.1)∧
  ∀ (p:Int×List (Place×Int)×List (Int×Int)×Int×List RIns×Unit),
 let e0_3:AS:=AS.mk p.2.1 p.2.2.1 p.2.2.2.1 p.2.2.2.2.1;
 let e1_3:Int:=p.2.2.2.1;
 let e2_3:AS:=
  doOf (A7 a b c) e1_1 ks e2 p.1
  (Ins.mk (List.getD b (Int.toNat p.1) e3).op (List.getD b (Int.toNat p.1) e3).n (List.getD b (Int.toNat p.1) e3).to
  (List.getD b (Int.toNat p.1) e3).from_ (List.getD b (Int.toNat p.1) e3).body)
  e0_3;
 let e3_2:List RIns:=p.2.2.2.2.1;
 let e4_1:Int:=p.1;
 let e5_1:List (Int×Int):=p.2.2.1;
 let e6_1:List (Place×Int):=p.2.1;
 let e7:Bool:=decide (e4_1<e2);
 let e8:List Int:=B5 (List.getD b (Int.toNat e4_1) e3).from_;
 let e9:List Int:=(List.getD b (Int.toNat e4_1) e3).to;
 let e10:Int:=e4_1+(1:Int);
  (0:Int)≤e4_1∧e4_1≤e2∧runA (A7 a b c) (J5 b) ks e2 (List.take (Int.toNat e4_1) b) (0:Int) (H1 a)=e0_3→
  (e7=true→
  ((0:Int)≤e4_1∧e4_1<e2)∧
  (W8 e9 (List.getD b (Int.toNat e4_1) e3).from_ (List.getD b (Int.toNat e4_1) e3).body=true∧
  List.length (List.getD b (Int.toNat e4_1) e3).from_≤(17592186044400:Nat)∧
  List.length e8≤(64:Nat)∧
  List.length e9≤(64:Nat)∧
  (∀ (n:Int),List.Pairwise (fun (x1 x2:Int)=>x1≤x2) (getL e1_1 n))∧
  ((∀ (k:Nat),
 let e0:Option Int×List Held:=
  M0 (A7 a b c) e1_1 ks e2 (E5 (A7 a b c) e1_1 ks e2 e4_1 e8 e0_3 (List.take k e8)).holds e4_1 e8;
  k<List.length e8→
  (C7 (E5 (A7 a b c) e1_1 ks e2 e4_1 e8 e0_3 (List.take k e8)).holds ks (List.getD e8 k (0:Int))).cell=true→
  e0.1=none→e0.2≠[])∧
  ∀ (k:Nat),
 let e0:Option Int×List Held:=
  M0 (A7 a b c) e1_1 ks e2
  (J8 (A7 a b c) e1_1 ks e2 e4_1 e9 (E5 (A7 a b c) e1_1 ks e2 e4_1 e8 e0_3 e8) (List.take k e9)).holds e10 e9;
  k<List.length e9→e0.1=none→e0.2≠[])∧
  ks≤(64:Int)∧
  (0:Int)≤e4_1∧e4_1≤(1000000:Int)∧(0:Int)≤e1_3∧e1_3≤(100000000:Int)∧List.length e3_2≤(100000000:Nat))∧
  ∃ (p':Int×List (Place×Int)×List (Int×Int)×Int×List RIns×Unit),
  a=a∧
  b=b∧
  c=c∧
  d=d∧
  ks=ks∧
  e6=e6∧
  e4=e4∧
  e1=e1∧
  a=a∧
  b=b∧
  c=c∧
  d=d∧
  b=b∧
  e2=e2∧
  e3_1=e3_1∧
  e2_1=e2_1∧
  a=a∧
  e1_2=e1_2∧
  e0_2=e0_2∧
  b=b∧
  e2=e2∧
  IntKind.i64.wrap e10=p'.1∧
  a=a∧
  b=b∧
  c=c∧
  d=d∧
  (0:Int)=(0:Int)∧
  (0:Int)=(0:Int)∧
  (0:Int)=(0:Int)∧
  A7 a b c=A7 a b c∧
  e1_1=e1_1∧
  e2_3.holds=p'.2.1∧
  e2_3.cells=p'.2.2.1∧
  a=a∧
  b=b∧
  c=c∧
  d=d∧
  a=a∧
  ks=ks∧
  e2_3.ocells=p'.2.2.2.1∧
  e2_3.code=p'.2.2.2.2.1∧
  ([]:List Place)=[]∧
  ((0:Int)≤p'.1∧
  p'.1≤e2∧
  runA (A7 a b c) (J5 b) ks e2
  (List.take (Int.toNat p'.1) b) (0:Int)
  (H1 a)=
  AS.mk p'.2.1 p'.2.2.1 p'.2.2.2.1
  p'.2.2.2.2.1)∧
  List.length b-Int.toNat p'.1<
  List.length b-Int.toNat e4_1)∧
  (e7=false→
  (∃ (p:Int×List Place×Unit),
  a=a∧
  b=b∧
  c=c∧
  d=d∧
  ks=ks∧
  e6=e6∧
  e4=e4∧
  e1=e1∧
  a=a∧
  b=b∧
  c=c∧
  d=d∧
  b=b∧
  e2=e2∧
  e3_1=e3_1∧
  e2_1=e2_1∧
  a=a∧
  e1_2=e1_2∧
  e0_2=e0_2∧
  b=b∧
  e2=e2∧
  e4_1=e4_1∧
  e7=e7∧
  c=c∧
  e5=e5∧
  (0:Int)=p.1∧
  a=a∧
  b=b∧
  c=c∧
  d=d∧
  (0:Int)=(0:Int)∧
  (0:Int)=(0:Int)∧
  (0:Int)=(0:Int)∧
  A7 a b c=A7 a b c∧
  e1_1=e1_1∧
  e6_1=e6_1∧
  e5_1=e5_1∧
  a=a∧
  b=b∧
  c=c∧
  d=d∧
  a=a∧
  ks=ks∧
  e1_3=e1_3∧
  e3_2=e3_2∧
  []=p.2.1∧
  (0:Int)≤p.1∧
  p.1≤e5∧
  p.2.1=
  List.map
  (outA
  (runA (A7 a b c) (J5 b) ks e2 b
  (0:Int) (H1 a))
  ks)
  (List.take (Int.toNat p.1) c))∧
  ∀ (p:Int×List Place×Unit),
 let e0_4:Bool:=
  (C7 e6_1 ks (List.getD c (Int.toNat p.1) (0:Int))).cell==true&&
  ((C7 e6_1 ks (List.getD c (Int.toNat p.1) (0:Int))).n==(-1:Int)&&true);
 let e1_4:List Place:=
  [Place.mk (bif e0_4 then true else (C7 e6_1 ks (List.getD c (Int.toNat p.1) (0:Int))).cell)
  (bif e0_4 then Option.getD (mget (fun (x y:Int)=>x==y) e5_1 (List.getD c (Int.toNat p.1) (0:Int))) (0:Int)
  else (C7 e6_1 ks (List.getD c (Int.toNat p.1) (0:Int))).n)];
 let e2_4:List Place:=p.2.1;
 let e3:Int:=p.1;
 let e4_2:Bool:=decide (e3<e5);
  (0:Int)≤e3∧e3≤e5∧e2_4=List.map (outA (runA (A7 a b c) (J5 b) ks e2 b (0:Int) (H1 a)) ks) (List.take (Int.toNat e3) c)→
  (e4_2=true→
  ((0:Int)≤e3∧e3<e5)∧
  ks≤(64:Int)∧
  (List.length (bif e0_4 then e2_4 else e2_4)+List.length e1_4)*(16:Nat)≤(140737488355328:Nat)∧
  ∃ (p':Int×List Place×Unit),
  (bif e0_4 then a else a)=a∧
  (bif e0_4 then b else b)=b∧
  (bif e0_4 then c else c)=c∧
  (bif e0_4 then d else d)=d∧
  (bif e0_4 then ks else ks)=ks∧
  (bif e0_4 then e6 else e6)=e6∧
  (bif e0_4 then e4 else e4)=e4∧
  (bif e0_4 then e1 else e1)=e1∧
  (bif e0_4 then a else a)=a∧
  (bif e0_4 then b else b)=b∧
  (bif e0_4 then c else c)=c∧
  (bif e0_4 then d else d)=d∧
  (bif e0_4 then b else b)=b∧
  (bif e0_4 then e2 else e2)=e2∧
  (bif e0_4 then e3_1 else e3_1)=e3_1∧
  (bif e0_4 then e2_1 else e2_1)=e2_1∧
  (bif e0_4 then a else a)=a∧
  (bif e0_4 then e1_2 else e1_2)=e1_2∧
  (bif e0_4 then e0_2 else e0_2)=e0_2∧
  (bif e0_4 then b else b)=b∧
  (bif e0_4 then e2 else e2)=e2∧
  (bif e0_4 then e4_1 else e4_1)=e4_1∧
  (bif e0_4 then e7 else e7)=e7∧
  (bif e0_4 then c else c)=c∧
  (bif e0_4 then e5 else e5)=e5∧
  IntKind.i64.wrap ((bif e0_4 then e3 else e3)+(1:Int))=p'.1∧
  (bif e0_4 then a else a)=a∧
  (bif e0_4 then b else b)=b∧
  (bif e0_4 then c else c)=c∧
  (bif e0_4 then d else d)=d∧
  (bif e0_4 then (0:Int) else (0:Int))=(0:Int)∧
  (bif e0_4 then (0:Int) else (0:Int))=(0:Int)∧
  (bif e0_4 then (0:Int) else (0:Int))=(0:Int)∧
  (bif e0_4 then A7 a b c else A7 a b c)=A7 a b c∧
  (bif e0_4 then e1_1 else e1_1)=e1_1∧
  (bif e0_4 then e6_1 else e6_1)=e6_1∧
  (bif e0_4 then e5_1 else e5_1)=e5_1∧
  (bif e0_4 then a else a)=a∧
  (bif e0_4 then b else b)=b∧
  (bif e0_4 then c else c)=c∧
  (bif e0_4 then d else d)=d∧
  (bif e0_4 then a else a)=a∧
  (bif e0_4 then ks else ks)=ks∧
  (bif e0_4 then e1_3 else e1_3)=e1_3∧
  (bif e0_4 then e3_2 else e3_2)=e3_2∧
  (bif e0_4 then e2_4 else e2_4)++e1_4=
  p'.2.1∧
  ((0:Int)≤p'.1∧
  p'.1≤e5∧
  p'.2.1=
  List.map
  (outA
  (runA (A7 a b c)
  (J5 b) ks e2 b (0:Int)
  (H1 a))
  ks)
  (List.take (Int.toNat p'.1)
  c))∧
  List.length c-Int.toNat p'.1<
  List.length c-Int.toNat e3)∧
  (e4_2=false→(a,ks,e1_3,e3_2,e2_4,(0:Int),())=e0))))))):=by kernel_rfl
theorem ao1 (l:List Int):(B5 l).Nodup:=by
 have key:∀ (l seen:List Int),(F9 seen l).Nodup∧∀ x∈F9 seen l,x∉seen:=by
  intro l
  induction l with
  |nil=>intro seen;simp [F9]
  |cons y r ih=>
   intro seen
   obtain ⟨h1,h2⟩:=ih (seen++[y])
   simp only [F9]
   cases hc:seen.contains y with
   |true=>exact ⟨h1,fun x hx h=>h2 x hx (by simp [h])⟩
   |false=>
    have hc:y∉seen:=by rw [Bool.eq_false_iff,ne_eq,List.contains_iff_mem] at hc;exact hc
    simp only [cond_false]
    refine ⟨List.nodup_cons.2 ⟨fun h=>h2 y h (by simp),h1⟩,fun x hx h=>?_⟩
    rcases List.mem_cons.1 hx with rfl|hx
    ·exact hc h
    ·exact h2 x hx (by simp [h])
 exact (key l []).1
theorem aX4 (m:Reads) (l:List Int) (x i:Int):G6 m (l++[x]) i=mput eqI (G6 m l i) x (getL (G6 m l i) x++[i]):=by simp [G6]
theorem ah3 (i n:Int):∀ (l:List Int) (m:Reads),l.Nodup→(getL (G6 m l i) n).length≤(getL m n).length+(if n∈l then 1 else 0)
 |[],m,_=>by simp [G6]
 |y::r,m,h=>by
  obtain ⟨h1,h2⟩:=List.nodup_cons.1 h
  have:=ah3 i n r (mput eqI m y (getL m y++[i])) h2
  rw [bg8] at this
  show (getL (G6 (mput eqI m y (getL m y++[i])) r i) n).length≤_
  by_cases hy:y=n
  ·subst hy
   rw [if_pos rfl,if_neg h1] at this
   simp only [cs3,cr5,List.length_nil] at this
   rw [if_pos (by simp)]
   omega
  ·rw [if_neg hy] at this
   have hn:(n∈y::r)↔n∈r:=by simp [Ne.symm hy]
   simp only [hn]
   exact this
theorem aJ8 (n:Int):∀ (l:List Ins) (i:Int) (m:Reads),(getL (O0 l i m) n).length≤(getL m n).length+l.length
 |[],i,m=>by simp [O0]
 |x::r,i,m=>by
  have h1:=aJ8 n r (i+1) (G6 m (B5 x.from_) i)
  have h2:=ah3 i n (B5 x.from_) m (ao1 _)
  simp only [O0,cr5]
  split at h2<;>omega
theorem bP4 (st a0:Int) (a1:List Ins) (a2 a3:List Int) (sp:Spans) (rd:Reads) (ho:Holds) (ce:List (Int×Int)) (op ks oc i many x1 x2:Int) (x3 x4:List Int) (x5:List Ins) (hp:st=0∧(∀ n,(getL rd n).length≤1000000)∧many=0):
  vc (EVy ylR (some as7) [(61,cContains)]) (bn9 x4 rd i many) Go.Proofs.Tryd.f83 aX3 (st,a0,a1,a2,a3,sp,rd,ho,ce,op,ks,oc,i,many,x1,x2,x3,x4,x5,()):=by
 rw [bP3 st a0 a1 a2 a3 sp rd ho ce op ks oc i many x1 x2 x3 x4 x5]
 intro e0 e1 _ _ _ _ hs4 _
 have hl4:x4.length≤140737488355328:=hs4.len
 have he0:e0=(0,a0,a1,a2,a3,sp,G6 rd (B5 x4) i,ho,ce,op,ks,oc,i,many+(B5 x4).length,()):=rfl
 clear_value e0
 dsimp only [e1]
 simp only [true_and,and_true]
 refine ⟨⟨(0,0,rd,many,()),rfl,hp.1,rfl,rfl,Int.le_refl _,by dsimp only;omega,rfl,rfl,by simp [B5,F9]⟩,?_⟩
 rintro ⟨j,s0,m,mm,⟨⟩⟩ ⟨h0,h1,h2,h3,h4⟩
 dsimp only at h0 h1 h2 h3 h4 ⊢
 obtain ⟨k,rfl⟩:=cq5 h0
 simp only [cq3] at h3 h4 ⊢
 subst h2
 refine ⟨fun hlt=>?_,fun hge=>?_⟩
 ·have hlt:(k:Int)<x4.length:=cq9 hlt
  have hs:=aP9 (x4.take k) (x4.getD k 0)
  rw [←A4 (by omega)] at hs
  have hl:=ah0 (x4.take k)
  rw [ct1] at hl
  refine ⟨⟨h0,hlt⟩,⟨h0,by omega⟩,fun q=>?_,fun q=>⟨⟨rfl,fun n=>?_,by omega,by omega⟩,fun h=>(by cases h),fun _=>?_⟩⟩
  ·rw [q] at hs
   exact ⟨((k+1:Nat),0,m,mm,()),B7 (by omega) hl4,rfl,rfl,rfl,⟨by omega,by dsimp only;omega,rfl,by dsimp only;rw [cq3,hs];exact h3,by dsimp only;rw [cq3,hs];exact h4⟩,by dsimp only;omega⟩
  ·have h5:=ah3 i n (B5 (x4.take k)) rd (ao1 _)
   have h6:=hp.2.1 n
   rw [h3]
   split at h5<;>omega
  ·rw [q,cond_false] at hs
   refine ⟨((k+1:Nat),0,_,_,()),B7 (by omega) hl4,rfl,rfl,rfl,⟨by omega,by dsimp only;omega,rfl,?_,?_⟩,by dsimp only;omega⟩
   ·dsimp only
    rw [cq3,hs,aX4,←h3]
   ·dsimp only
    rw [cq3,hs,cs3,h4]
    simp only [cr5,List.length_nil]
    omega
 ·have hk:k=x4.length:=by have:¬ (k:Int)<x4.length:=cq8 hge;omega
  subst hk
  rw [ct0] at h3 h4
  rw [he0,h3,h4]
theorem bD5:ItOk itAlloc:=by
 intro f k kY mp h Y' hY
 unfold itAlloc at h
 cases hf:Nat.beq f 83 with
 |false=>rw [hf] at h;cases h
 |true=>
  have hf:=cq0 hf
  subst hf
  simp only [Nat.beq_refl,cond_true,List.mem_cons,List.not_mem_nil,or_false,cr1] at h
  obtain ⟨rfl,rfl,rfl⟩:=h
  exact aj2 (E:=EVy ylR (some as7) [(61,cContains)]) (bU4 _ _ _) ⟨Y8 (fun x hx=>by rcases List.mem_cons.1 hx with rfl|hx;exact N6 _;cases hx),fun _ _ _ _ _ h=>(by cases h),fun _ _ _ h=>(by cases h),fun k hk=>by cases hk;exact hY,fun _ _ _ _ h=>(by cases h)⟩ bk8 Go.Proofs.Tryd.func83 (by kernel_rfl)
    (fun (st,a0,a1,a2,a3,sp,rd,ho,ce,op,ks,oc,i,many,x1,x2,x3,x4,x5,())=>bn9 x4 rd i many) (fun (st,a0,a1,a2,a3,sp,rd,ho,ce,op,ks,oc,i,many,x1,x2,x3,x4,x5,()) hp=>bP4 st a0 a1 a2 a3 sp rd ho ce op ks oc i many x1 x2 x3 x4 x5 hp) (by kernel_rfl) rfl
theorem av4:∀ {l:List Ins},H0 l=true→∀ x∈l,au4 x=true
 |[],_,x,hx=>by simp at hx
 |y::r,h,x,hx=>by
  simp only [H0,cq2] at h
  rcases List.mem_cons.1 hx with rfl|hx
  ·exact h.1
  ·exact av4 h.2 x hx
theorem bY2 (a:Int) (b:List Ins) (c d:List Int) (ks:Int) (hp:S3 b=true∧H0 b=true∧c.length≤8796093022200):vc (EVd [] itAlloc [(41,cCheck),(51,cSpans),(52,cReads),(53,cDo),(54,cSlot)]) (bP2 a b c ks) Go.Proofs.Tryd.f15 cAlloc (a,b,c,d,ks,()):=by
 rw [bY1 a b c d ks]
 intro e0 e1 e2 e3 e4 e5 e6 _ _ _
 obtain ⟨hp1,hp2,hp3⟩:=hp
 have he0:e0=((B6 ⟨a,b,c,d⟩ ks).1.params,(B6 ⟨a,b,c,d⟩ ks).1.slots,(B6 ⟨a,b,c,d⟩ ks).1.cells,(B6 ⟨a,b,c,d⟩ ks).1.code,(B6 ⟨a,b,c,d⟩ ks).1.out,(B6 ⟨a,b,c,d⟩ ks).2,()):=rfl
 have he6:e6=C0 ⟨a,b,c,d⟩:=rfl
 have he4:e4=(e6 !=0):=rfl
 have he1:e1=(decide (ks<1)||decide (ks >64)):=rfl
 have he3:e3=ins0:=rfl
 have hA:B6 ⟨a,b,c,d⟩ ks=if C0 ⟨a,b,c,d⟩≠0 then (aG5,C0 ⟨a,b,c,d⟩) else if ks<1∨64<ks then (aG5,2) else if b.all (fewX ks)=false then (aG5,9)
   else (⟨a,ks,(runA (A7 a b c) (J5 b) ks b.length b 0 (H1 a)).ocells,(runA (A7 a b c) (J5 b) ks b.length b 0 (H1 a)).code,c.map (outA (runA (A7 a b c) (J5 b) ks b.length b 0 (H1 a)) ks)⟩,0):=rfl
 rw [hA] at he0
 clear hA
 clear_value e0 e1 e3 e4
 subst he3
 have hne:e4=true→((0:Int),(0:Int),(0:Int),([]:List RIns),([]:List Place),e6,())=e0:=fun h=>by
  have:C0 ⟨a,b,c,d⟩≠0:=by rw [he4] at h;simpa [he6] using h
  rw [he0,if_pos this,←he6];rfl
 refine ⟨hne,fun h4=>⟨fun h=>?_,fun h=>?_⟩⟩
 ·have hz:¬ C0 ⟨a,b,c,d⟩≠0:=by rw [he4] at h4;simpa [he6] using h4
  have hk:ks<1∨64<ks:=by rw [he1] at h;simp only [Bool.or_eq_true,cs4] at h;omega
  rw [he0,if_neg hz,if_pos hk];rfl
 have hz:C0 ⟨a,b,c,d⟩=0:=by rw [he4] at h4;simpa [he6] using h4
 have hk:1≤ks∧ks≤64:=by rw [he1] at h;simp only [Bool.or_eq_false_iff,decide_eq_false_iff_not] at h;omega
 have C:=aV2 hz
 rw [if_neg (by rw [hz];simp),if_neg (by omega)] at he0
 clear hne hz he6
 clear_value e6
 clear he4 he1 h4 h
 have hlen:=C.len
 have hpos:=C.pos
 have hfew:=C.few
 dsimp only [e2,e5]
 simp only [true_and,and_true,Bool.cond_self,Bool.and_true,bg5]
 refine ⟨C.few,⟨(0,[],()),rfl,rfl,Int.le_refl _,by dsimp only;omega,rfl,rfl⟩,?_⟩
 rintro ⟨j,rd,⟨⟩⟩ ⟨h0,h1,h2,h3⟩
 dsimp only at h0 h1 h2 h3 ⊢
 obtain ⟨k,rfl⟩:=cq5 h0
 simp only [cq3] at h2 h3 ⊢
 refine ⟨fun hlt=>?_,fun hge=>?_⟩
 ·have hlt:(k:Int)<b.length:=cq9 hlt
  have hkc:k<b.length:=by omega
  have hb:∀ x:Bool,fewX ks (b.getD k ins0)=x→b.all (fewX ks)=true→x=true:=fun x h1 h2=>by rw [←h1];exact ct2.1 h2 _ (H5 hkc _)
  have hstepR:O0 (b.take (k+1)) 0 []=G6 rd (B5 (b.getD k ins0).from_) k:=by
   rw [A4 hkc ins0,ay6,ct1,Nat.min_eq_left (by omega),←h2];simp
  have hstepA:fewX ks (b.getD k ins0)=true→(b.take (k+1)).all (fewX ks)=true:=fun h=>as0 ins0 hkc h3 h
  have hstop:fewX ks (b.getD k ins0)=false→b.all (fewX ks)=false:=fun h=>aV8 ins0 hkc h
  obtain ⟨x,hxe⟩:∃ x,b.getD k ins0=x:=⟨_,rfl⟩
  simp only [hxe] at hb hstepR hstepA hstop ⊢
  have hdec:(decide ((0:Int)+((B5 x.from_).length:Int) >ks)||decide ((x.to.length:Int) >ks))=!fewX ks x:=by
   unfold fewX
   rw [Bool.eq_iff_iff]
   simp only [Bool.or_eq_true,cs4,Bool.not_eq_true',Bool.and_eq_false_iff,decide_eq_false_iff_not]
   omega
  rw [hdec]
  refine ⟨⟨h0,hlt⟩,?_,?_,fun q=>?_,fun q=>?_⟩
  ·rintro ⟨n,st,a0,a1,a2,a3,sp,rd2,ho,ce,op,ks2,oc,i,many,⟨⟩⟩ ⟨q1,q2,q3,q4⟩ _ _ _
   dsimp only at q1 q2 q3 q4 ⊢
   have q5:=q2 n
   refine ⟨q1,?_,?_⟩
   ·show ((getL rd2 n).length+1)*8≤_
    omega
   ·rw [F8 (by omega) (by omega)]
    rfl
  ·intro n
   have:=aJ8 n (b.take k) 0 []
   rw [←h2,ct1] at this
   have hg:(getL ([]:Reads) n).length=0:=rfl
   omega
  ·have q:fewX ks x=false:=by simpa using q
   rw [he0,if_pos (hstop q)];rfl
  ·have q:fewX ks x=true:=by simpa using q
   exact ⟨((k+1:Nat),_,()),B7 hkc (by omega),rfl,⟨by omega,by dsimp only;omega,by dsimp only;rw [cq3,hstepR];rfl,by dsimp only;rw [cq3];exact hstepA q⟩,by dsimp only;omega⟩
 have hkk:k=b.length:=by have:¬ (k:Int)<b.length:=cq8 hge;omega
 subst hkk
 rw [ct0] at h2 h3
 have hrd:rd=J5 b:=h2
 subst hrd
 clear h2 h0 h1 hge
 rw [if_neg (by rw [h3];simp)] at he0
 refine ⟨⟨(0,[],()),rfl,rfl,Int.le_refl _,hpos,rfl⟩,?_⟩
 rintro ⟨j,ce,⟨⟩⟩ ⟨h0,h1,h2⟩
 dsimp only at h0 h1 h2 ⊢
 obtain ⟨k,rfl⟩:=cq5 h0
 simp only [cq3] at h2 ⊢
 subst h2
 refine ⟨fun hlt=>?_,fun hge=>?_⟩
 ·have hlt:(k:Int)<a:=cq9 hlt
  refine ⟨((k+1:Nat),Z4 (k+1),()),?_,(aJ7 k).symm,⟨by omega,by dsimp only;omega,by dsimp only;rw [cq3]⟩,by dsimp only;omega⟩
  rw [F8 (by omega) (by omega)];rfl
 have hkk:(k:Int)=a:=by have:¬ (k:Int)<a:=cq8 hge;omega
 have hst:H1 a=⟨[],Z4 k,a,[]⟩:=by
  have:a.toNat=k:=by omega
  simp only [H1,this]
 clear h0 h1 hge
 refine ⟨⟨(0,[],Z4 k,a,[],()),rfl,rfl,rfl,rfl,rfl,Int.le_refl _,by dsimp only;omega,by simp only [Int.toNat_zero,List.take_zero,runA];exact hst⟩,?_⟩
 rintro ⟨j,m,cc,oc,q,⟨⟩⟩ ⟨h0,h1,h2⟩
 dsimp only at h0 h1 h2 ⊢
 obtain ⟨k2,rfl⟩:=cq5 h0
 simp only [cq3] at h2 ⊢
 have hL:=aX2 hk.2 (A7 a b c) (J5 b) b.length (b.take k2) 0 (H1 a) (ct2.2 fun x hx=>ct2.1 h3 x (List.mem_of_mem_take hx))
 rw [h2,ct1] at hL
 simp only [H1,List.length_nil] at hL
 refine ⟨fun hlt=>?_,fun hge=>?_⟩
 ·have hlt:(k2:Int)<b.length:=cq9 hlt
  have hkc:k2<b.length:=by omega
  have hF:=(bg7 C h3 (A7 a b c) (J5 b) b.length k2 (by omega)).2 hkc
  rw [h2] at hF
  have hstep:runA (A7 a b c) (J5 b) ks b.length (b.take (k2+1)) 0 (H1 a)=doOf (A7 a b c) (J5 b) ks b.length k2 (b.getD k2 ins0) ⟨m,cc,oc,q⟩:=by
   rw [A4 hkc ins0,aJ3,ct1,Nat.min_eq_left (by omega),h2]
  have hmem:=H5 hkc ins0
  have hx1:=av4 hp2 _ hmem
  have hx2:=ct2.1 hp1 _ hmem
  have hx3:=ct2.1 h3 _ hmem
  generalize b.getD k2 ins0=x at hF hstep hx1 hx2 hx3 ⊢
  simp only [cq2,cs4] at hx2
  simp only [fewX,cq2,cs4] at hx3
  refine ⟨⟨h0,hlt⟩,⟨V6.2 ((L1 x).1 hx1),hx2.1,by omega,by omega,aL4 b,hF,hk.2,by omega,by omega,by omega,by omega,by omega⟩,((k2+1:Nat),_,_,_,_,()),B7 hkc (by omega),rfl,rfl,rfl,rfl,⟨by omega,by dsimp only;omega,?_⟩,by dsimp only;omega⟩
  dsimp only
  rw [cq3,hstep]
  rfl
 have hkk2:k2=b.length:=by have:¬ (k2:Int)<b.length:=cq8 hge;omega
 subst hkk2
 rw [ct0] at h2
 rw [h2] at he0 ⊢
 clear h0 h1 hge hL
 dsimp only at he0
 refine ⟨⟨(0,[],()),rfl,rfl,Int.le_refl _,by dsimp only;omega,rfl⟩,?_⟩
 rintro ⟨j,l,⟨⟩⟩ ⟨h0,h1,h4⟩
 dsimp only at h0 h1 h4 ⊢
 obtain ⟨k3,rfl⟩:=cq5 h0
 simp only [cq3] at h4 ⊢
 subst h4
 refine ⟨fun hlt=>?_,fun hge=>?_⟩
 ·have hlt:(k3:Int)<c.length:=cq9 hlt
  have hkc:k3<c.length:=by omega
  refine ⟨⟨h0,hlt⟩,hk.2,?_,((k3+1:Nat),_,()),B7 hkc (by omega),rfl,⟨by omega,by dsimp only;omega,?_⟩,by dsimp only;omega⟩
  ·rw [ct3,ct1]
   simp only [cr5,List.length_nil]
   omega
  ·dsimp only
   rw [cq3,A4 hkc 0,List.map_append]
   congr 1
   show _=[outA _ ks (c.getD k3 0)]
   generalize c.getD k3 0=n
   unfold outA
   dsimp only
   cases hc:(C7 m ks n).cell with
   |true=>rfl
   |false=>simp only [cond_false];rw [←hc]
 ·have hkk3:k3=c.length:=by have:¬ (k3:Int)<c.length:=cq8 hge;omega
  subst hkk3
  rw [ct0,he0]
theorem aJ9:D0 prog RG 15 cAlloc:=bt6 bD5 (A6 ad3 (A6 aI0 (A6 aJ1 (A6 bX8 (A6 av1 B9))))) (fun p=>bP2 p.1 p.2.1 p.2.2.1 p.2.2.2.2.1) (by kernel_rfl) (by kernel_rfl) (by kernel_rfl) fun (a,b,c,d,ks,()) hp=>bY2 a b c d ks hp
def insI (to:Int) (fr:List Int):Ins:=⟨1,0,[to],fr,[]⟩
def J1:VFun:=⟨2,[insI 2 [0,1],insI 3 [2,0],insI 4 [3,1],insI 5 [4,2]],[5],[]⟩
def cIns:Con RU:=con [one,one] [i64,ints] [(true,5)] ax7 [false,false,false,false,false] none fun p=>(1,0,[p.1],p.2.1,[],())
def cFour:Con RU:=con [] [] [(true,4)] ar3 [false,false,false,false] none fun _=>(2,J1.code,[5],[],())
abbrev bP5:List Ty:=[i64,i64,i64,i64,i64,ints,ints,inss]
abbrev own8:List Bool:=[false,false,false,false,false,false,false,false]
def cLoadI:Con RU:=con [one,one] [i64,i64] [(true,8)] bP5 own8 none fun p=>(1,p.1,p.2.1,0,0,[],[],[],())
def cStoreI:Con RU:=con [one,one] [i64,i64] [(true,8)] bP5 own8 none fun p=>(2,p.1,p.2.1,0,0,[],[],[],())
def cDoI:Con RU:=con [one,one] [i64,ints] [(true,8)] bP5 own8 none fun p=>(0,0,0,1,0,[p.1],p.2.1,[],())
def bY3 (x y:RIns):Bool:=(x.kind==y.kind)&&((x.kind==0)&&insB x.ins y.ins||((x.kind !=0)&&(x.slot==y.slot)&&(x.cell==y.cell)))
def X1 (l m:List RIns) (k:Nat):Bool:=(decide (l.length=m.length))&&((l.zip m).take k).all fun p=>bY3 p.1 p.2
def bo0 (l m:List RIns):Bool:=X1 l m l.length
def cSame:Con RU:=con [one,one] [aU3,aU3] [one] [.bool] [false] none fun p=>(bo0 p.1 p.2.1,())
def cj3 (l m:List RIns):Nat→St RU→Ann RU:=fun _ _=>⟨[],[.slot 5,.slot 6],[.bool,i64],fun p=>0≤p.2.1∧p.2.1≤l.length∧p.1=X1 l m p.2.1.toNat,fun p=>l.length-p.2.1.toNat,[]⟩
def cSlotted:Con RU:=con [] [] [one] [.bool] [false] none fun _=>(true,())
end Go.Rg
end
section
namespace Go.Proofs.YtknhkhdbonjhgaaDoor
open Go.ChangeShapes Go.WideShapes Go.ChangeAt Go.RowKit Go.VT
theorem own:ownKnob Tryd.prog.godebug=none:=by kernel_rfl
theorem cj4:laidOutB Tryd.prog=true:=by kernel_rfl
theorem cn7:Tryd.prog.globalNamed "sheafworks/regs.never"=some 1:=by kernel_rfl
theorem bY4:Tryd.prog.globalNamed "sheafworks/regs.nowhere"=some 0:=by kernel_rfl
theorem cn8:(Tryd.prog.globals[1]?).map (·.type)=some 107:=by kernel_rfl
theorem bY5:(Tryd.prog.globals[0]?).map (·.type)=some 59:=by kernel_rfl
abbrev bD6:List (String×DataW Unit):=[("sheafworks/regs.never",Rows.laid_sheafworks_regs_never),("sheafworks/regs.nowhere",Rows.laid_sheafworks_regs_nowhere)]
theorem bY6 (os:Os) (args:Array Value):laidMetH Tryd.prog bD6 ((World.doorLaid Tryd.prog 600 os).forCall (fun _ _=>0) ⟨#[],args,[]⟩).memory:=
 laidMetH_of_parts3 (fuel:=8) (laidMet_of_run' 8 (by kernel_rfl) (by kernel_rfl)) (by kernel_rfl) (by kernel_rfl)
theorem aK0:Tryd.prog.cellsOf 3=1:=by kernel_rfl
theorem cn9:Tryd.prog.cellsOf 4=1:=by kernel_rfl
theorem cj5:Tryd.prog.cellsOf 22=1:=by kernel_rfl
theorem bP6:Tryd.prog.cellsOf 23=1:=by kernel_rfl
theorem bo1:Tryd.prog.cellsOf 52=5:=by kernel_rfl
theorem cj6:Tryd.prog.cellsOf 59=2:=by kernel_rfl
theorem bY7:Tryd.prog.cellsOf 107=2:=by kernel_rfl
theorem co0:Tryd.prog.bytesOf 3=8:=by kernel_rfl
theorem cj7:Tryd.prog.bytesOf 52=88:=by kernel_rfl
theorem aQ1 {W:World} {g i:Nat} {v:Value} (h:W.cell? ⟨g,i,none⟩=some v):g<W.heap.size:=by
 unfold World.cell? at h
 cases hh:W.heap[g]? with
 |none=>simp [hh] at h
 |some ob=>exact (cr7.1 hh).1
theorem cj8 {W:World} (h:laidMetH Tryd.prog bD6 W):∀ g fs,(g,fs)∈Go.Rg.RG→g<W.heap.size∧∀ i f,fs.cell i=some f→W.cell? ⟨g,i,none⟩=some f:=by
 obtain ⟨ps,⟨g1,t1,cs1,fuel1,p1,q1,hg1,ht1,hv1,hd1,⟨g0,t0,cs0,fuel0,p0,q0,hg0,ht0,hv0,hd0,_⟩,_⟩,_⟩:laidMet Tryd.prog bD6 W:=h
 obtain rfl:=Option.some.inj (cn7.symm.trans hg1)
 obtain rfl:=Option.some.inj (bY4.symm.trans hg0)
 obtain rfl:=Option.some.inj (cn8.symm.trans ht1)
 obtain rfl:=Option.some.inj (bY5.symm.trans ht0)
 obtain ⟨a1,a2,n,hx,hl,hy1,hy2⟩:=trod_struct2 Tryd.underlying107 hd1
 obtain ⟨b1,b2,m,kx,kl,ky1,ky2⟩:=trod_struct2 Tryd.underlying59 hd0
 rw [bY7] at hl
 rw [cj6] at kl
 obtain ⟨u1,eu1,hu1⟩:=aO3 (cs:=cs1.toList) (j:=0) (by omega)
 obtain ⟨u2,eu2,hu2⟩:=aO3 (cs:=cs1.toList) (j:=1) (by omega)
 obtain ⟨w1,ew1,hw1⟩:=aO3 (cs:=cs0.toList) (j:=0) (by omega)
 obtain ⟨w2,ew2,hw2⟩:=aO3 (cs:=cs0.toList) (j:=1) (by omega)
 dsimp only at hy1 hy2 ky1 ky2
 rw [aK0,hu1] at hy1
 rw [aK0,hu2] at hy2
 rw [cn9,hw1] at ky1
 rw [aK0,hw2] at ky2
 obtain ⟨n1,e1,f1,_⟩:=DataW.trod_int Tryd.underlying3 hy1
 obtain ⟨n2,e2,f2,_⟩:=DataW.trod_int Tryd.underlying3 hy2
 obtain ⟨m1,e3,f3⟩:=DataW.trod_bool Tryd.underlying4 ky1
 obtain ⟨m2,e4,f4,_⟩:=DataW.trod_int Tryd.underlying3 ky2
 rw [f1,f2] at hx
 rw [f3,f4] at kx
 simp only [Rows.laid_sheafworks_regs_never,cr1,DataW.agg.injEq,List.cons.injEq,DataW.lit.injEq,Lit.int.injEq,true_and,and_true] at hx
 simp only [Rows.laid_sheafworks_regs_nowhere,cr1,DataW.agg.injEq,List.cons.injEq,DataW.lit.injEq,Lit.int.injEq,Lit.bool.injEq,true_and,and_true] at kx
 simp only [List.cons.injEq,and_true] at e1 e2 e3 e4
 rw [e1,←hx.1.1] at eu1
 rw [e2,←hx.1.2] at eu2
 rw [e3,←kx.1.1] at ew1
 rw [e4,←kx.1.2] at ew2
 have c10:W.cell? ⟨1,0,none⟩=some (.int .i64 0):=by rw [World.var?_cell hg1 hv1 0];simpa using eu1
 have c11:W.cell? ⟨1,1,none⟩=some (.int .i64 (-1)):=by rw [World.var?_cell hg1 hv1 1];simpa using eu2
 have c00:W.cell? ⟨0,0,none⟩=some (.bool true):=by rw [World.var?_cell hg0 hv0 0];simpa using ew1
 have c01:W.cell? ⟨0,1,none⟩=some (.int .i64 (-1)):=by rw [World.var?_cell hg0 hv0 1];simpa using ew2
 intro g fs hm
 simp only [Go.Rg.RG,List.mem_cons,List.not_mem_nil,or_false,cr1] at hm
 rcases hm with ⟨rfl,rfl⟩|⟨rfl,rfl⟩
 ·refine ⟨aQ1 c00,fun i f hf=>?_⟩
  match i,hf with
  |0,hf=>cases hf;exact c00
  |1,hf=>cases hf;exact c01
  |_+2,hf=>simp [Glob.cell] at hf
 ·refine ⟨aQ1 c10,fun i f hf=>?_⟩
  match i,hf with
  |0,hf=>cases hf;exact c10
  |1,hf=>cases hf;exact c11
  |_+2,hf=>simp [Glob.cell] at hf
def readL:List (TypeId×Ty):=[(3,Go.Rg.i64),(4,.bool),(52,.user 0),(23,Go.Rg.ints),(22,Go.Rg.inss)]
theorem cj9:bt3 Tryd.prog Go.Rg.RU readL:=by
 intro t ty hm
 simp only [readL,List.mem_cons,cr1,List.not_mem_nil,or_false] at hm
 rcases hm with ⟨rfl,rfl⟩|⟨rfl,rfl⟩|⟨rfl,rfl⟩|⟨rfl,rfl⟩|⟨rfl,rfl⟩
 ·exact Tryd.underlying3
 ·exact Tryd.underlying4
 ·refine ⟨_,Tryd.underlying52,bo1,rfl,fun j f ty' hf hty=>?_⟩
  match j,hf,hty with
  |0,hf,hty=>cases hf;cases hty;exact ⟨rfl,aK0,rfl,by simp [readL]⟩
  |1,hf,hty=>cases hf;cases hty;exact ⟨rfl,aK0,rfl,by simp [readL]⟩
  |2,hf,hty=>cases hf;cases hty;exact ⟨rfl,bP6,rfl,by simp [readL]⟩
  |3,hf,hty=>cases hf;cases hty;exact ⟨rfl,bP6,rfl,by simp [readL]⟩
  |4,hf,hty=>cases hf;cases hty;exact ⟨rfl,cj5,rfl,by simp [readL]⟩
  |j+5,hf,hty=>simp [Go.Rg.RU] at hty
 ·exact ⟨Tryd.underlying23,aK0,by rw [aK0];decide,by rw [co0];decide,by simp [readL]⟩
 ·exact ⟨Tryd.underlying22,bo1,by rw [bo1];decide,by rw [cj7];decide,by simp [readL]⟩
theorem ck0:bU3 Tryd.prog Go.Rg.RU readL 3 false [Go.Rg.i64]:=.inl ⟨rfl,_,rfl,rfl,by simp [readL]⟩
theorem bY8:bU3 Tryd.prog Go.Rg.RU readL 23 false [Go.Rg.ints]:=.inl ⟨rfl,_,rfl,rfl,by simp [readL]⟩
theorem as8 {H:Type} {enc:TypeId×Value→H} {W W':World} (hb:Below W.heap.size W W'):∀ {ts:List TypeId} {vs:List Value} {ds:List (DataW H)} {ps:List MemPlace},(∀ t∈ts,Tryd.prog.readableRec t=true∧t<Tryd.prog.types.size)→
  DataW.TrodAll enc Tryd.prog W 0 (fun _=>true) true ts vs ds ps→(∀ x∈ps,x.block<W.heap.size)→DataW.TrodAll enc Tryd.prog W' 0 (fun b=>decide (b<W.heap.size)) true ts vs ds ps
 |[],[],[],ps,_,h,_=>h
 |[],_::_,_,_,_,h,_=>h.elim
 |[],[],_::_,_,_,h,_=>h.elim
 |_::_,[],_,_,_,h,_=>h.elim
 |_::_,_::_,[],_,_,h,_=>h.elim
 |t::ts,v::vs,d::ds,ps,ht,h,hlt=>by
  obtain ⟨p,q,h1,h2,rfl⟩:=h
  exact ⟨p,q,Below.trod cj4 (ht t (by simp)).1 (ht t (by simp)).2 h1 hb (fun x hx=>hlt x (by simp [hx])),as8 hb (fun t' h'=>ht t' (by simp [h'])) h2 (fun x hx=>hlt x (by simp [hx])),rfl⟩
theorem bY9 {H:Type} {enc:TypeId×Value→H} {fn:Func} {s:ChangeSpec} (hs:s.vars=[]) {W W':World} {args:Array Value} {ds gs:List (DataW H)} {ak7:List MemPlace}
  (hW:DataW.Whole enc Tryd.prog fn.params.toList s.vars false W args.toList ds gs ak7) (hb:Below W.heap.size W W') (hres:fn.resultTypes=#[4])
  (hfn:s.fn H ds={ results:=[.lit (.bool true)],args:=ds }) (ht:∀ t∈fn.params.toList,Tryd.prog.readableRec t=true∧t<Tryd.prog.types.size):
  s.post enc Tryd.prog fn false true false false W args (.bool true) W':=by
 have hW':=hW
 obtain ⟨p,q,hA,hV,rfl,hfz,hnd⟩:=hW
 rw [hs] at hV
 obtain ⟨rfl,rfl⟩:gs=[]∧q=[]:=by
  cases gs with
  |nil=>exact ⟨rfl,hV⟩
  |cons g r=>exact absurd hV (by intro h;cases h)
 refine ⟨ds,[],p++[],[],p,[],hW',?_,?_,?_,hb.frame _,fun h=>by cases h⟩
 ·rw [List.append_nil,hfn,hres]
  exact trodAll_mk1 (shut_bool Tryd.underlying4 true)
 ·rw [List.append_nil,hfn]
  exact as8 hb ht hA (fun x hx=>hW'.lt x (by simp [hx]))
 ·rw [List.append_nil,hfn,hs]
  rfl
theorem aK1 {H:Type} {enc:TypeId×Value→H} {P:Program} {w:World} {base:Nat} {sp:Nat→Bool} {held:Bool}:∀ {ts:List TypeId} {vs:List Value} {ds:List (DataW H)} {ps:List MemPlace},DataW.TrodAll enc P w base sp held ts vs ds ps→ds.length=ts.length
 |[],[],[],_,_=>rfl
 |[],_::_,_,_,h=>h.elim
 |[],[],_::_,_,h=>h.elim
 |_::_,[],_,_,h=>h.elim
 |_::_,_::_,[],_,h=>h.elim
 |t::ts,v::vs,d::ds,ps,h=>by
  obtain ⟨p,q,_,h2,_⟩:=h
  simp [aK1 h2]
end Go.Proofs.YtknhkhdbonjhgaaDoor
end
section
namespace Go.Rg
open Go Go.VT
theorem co1 (a:Int) (b:List Int):vc (EV []) noL Go.Proofs.Tryd.f46 cIns (a,b,())=(
 let e0:Int×Int×List Int×List Int×List Ins×Unit:=((1:Int),(0:Int),[a],b,[],());
  Small RU (Sigma.mk (Ty.slice (3:Nat) (Ty.int IntKind.i64)) b)→e0=e0):=by kernel_rfl
theorem bZ0 (a b:Int):vc (EV []) noL Go.Proofs.Tryd.f47 cLoadI (a,b,())=(
 let e0:Int×Int×Int×Int×Int×List Int×List Int×List Ins×Unit:=((1:Int),a,b,(0:Int),(0:Int),[],[],[],());
  e0=e0):=by kernel_rfl
theorem bP7 (a b:Int):vc (EV []) noL Go.Proofs.Tryd.f48 cStoreI (a,b,())=(
 let e0:Int×Int×Int×Int×Int×List Int×List Int×List Ins×Unit:=((2:Int),a,b,(0:Int),(0:Int),[],[],[],());
  e0=e0):=by kernel_rfl
theorem co2 (a:Int) (b:List Int):vc (EV [(46,cIns)]) noL Go.Proofs.Tryd.f49 cDoI (a,b,())=(
 let e0:Int×Int×Int×Int×Int×List Int×List Int×List Ins×Unit:=((0:Int),(0:Int),(0:Int),(1:Int),(0:Int),[a],b,[],());
  Small RU (Sigma.mk (Ty.slice (3:Nat) (Ty.int IntKind.i64)) b)→e0=e0):=by kernel_rfl
theorem ck1 (l m:List RIns):vc (EV [(57,cSameIns)]) (cj3 l m) Go.Proofs.Tryd.f45 cSame (l,m,())=(
 let e0:RIns:=RIns.mk (0:Int) (0:Int) (0:Int) ins0;
 let e1:Int:=(↑(List.length l):Int);
 let e2:Int:=(↑(List.length m):Int);
  Small RU (Sigma.mk (Ty.slice (55:Nat) (Ty.user (1:Nat))) l)→
  Small RU (Sigma.mk (Ty.slice (55:Nat) (Ty.user (1:Nat))) m)→
  (∃ (p:Bool×Int×Unit),l=l∧m=m∧false=false∧(e1==e2)=p.1∧(0:Int)=p.2.1∧(0:Int)≤p.2.1∧p.2.1≤e1∧p.1=X1 l m (Int.toNat p.2.1))∧
  ∀ (p:Bool×Int×Unit),
 let e0_1:Bool:=
  (List.getD l (Int.toNat p.2.1) e0).kind==(0:Int)&&
  insB
  (Ins.mk (List.getD l (Int.toNat p.2.1) e0).ins.op (List.getD l (Int.toNat p.2.1) e0).ins.n (List.getD l (Int.toNat p.2.1) e0).ins.to
  (List.getD l (Int.toNat p.2.1) e0).ins.from_ (List.getD l (Int.toNat p.2.1) e0).ins.body)
  (Ins.mk (List.getD m (Int.toNat p.2.1) e0).ins.op (List.getD m (Int.toNat p.2.1) e0).ins.n (List.getD m (Int.toNat p.2.1) e0).ins.to
  (List.getD m (Int.toNat p.2.1) e0).ins.from_ (List.getD m (Int.toNat p.2.1) e0).ins.body);
 let e1_1:Bool:=(List.getD l (Int.toNat p.2.1) e0).kind !=(0:Int)&&(List.getD l (Int.toNat p.2.1) e0).slot==(List.getD m (Int.toNat p.2.1) e0).slot;
 let e2_1:Bool:=p.1&&decide (p.2.1<e1);
 let e3:Int:=p.2.1;
 let e4:Bool:=(List.getD l (Int.toNat e3) e0).kind==(List.getD m (Int.toNat e3) e0).kind;
  (0:Int)≤e3∧e3≤e1∧p.1=X1 l m (Int.toNat e3)→
  (e2_1=true→
  ((0:Int)≤e3∧e3<e1)∧
  ((0:Int)≤e3∧e3<e2)∧
  (e4=true→(0:Int)≤e3∧e3<e1)∧
  (e4=true→((List.getD l (Int.toNat e3) e0).kind==(0:Int))=true→(0:Int)≤e3∧e3<e1)∧
  (e4=true→((List.getD l (Int.toNat e3) e0).kind==(0:Int))=true→(0:Int)≤e3∧e3<e2)∧
  (e4=true→e0_1=false→(0:Int)≤e3∧e3<e1)∧
  (e4=true→e0_1=false→((List.getD l (Int.toNat e3) e0).kind !=(0:Int))=true→(0:Int)≤e3∧e3<e1)∧
  (e4=true→e0_1=false→((List.getD l (Int.toNat e3) e0).kind !=(0:Int))=true→(0:Int)≤e3∧e3<e2)∧
  (e4=true→e0_1=false→e1_1=true→(0:Int)≤e3∧e3<e1)∧
  (e4=true→e0_1=false→e1_1=true→(0:Int)≤e3∧e3<e2)∧
  ∃ (p':Bool×Int×Unit),
  l=l∧
  m=m∧
  false=false∧
  (e4&&(e0_1||e1_1&&(List.getD l (Int.toNat e3) e0).cell==(List.getD m (Int.toNat e3) e0).cell))=p'.1∧
  IntKind.i64.wrap (e3+(1:Int))=p'.2.1∧
  ((0:Int)≤p'.2.1∧p'.2.1≤e1∧p'.1=X1 l m (Int.toNat p'.2.1))∧
  List.length l-Int.toNat p'.2.1<List.length l-Int.toNat e3)∧
  (e2_1=false→(p.1,())=(bo0 l m,()))):=by kernel_rfl
theorem ck2:vc (EV [(46,cIns)]) noL Go.Proofs.Tryd.f50 cFour ()=(
 let e0:List Int×List Int×Unit:=([(5:Int)],[],());
  ((2:Int),
  [Ins.mk (1:Int) (0:Int) [(2:Int)] [(0:Int),(1:Int)] [],Ins.mk (1:Int) (0:Int) [(3:Int)] [(2:Int),(0:Int)] [],
  Ins.mk (1:Int) (0:Int) [(4:Int)] [(3:Int),(1:Int)] [],Ins.mk (1:Int) (0:Int) [(5:Int)] [(4:Int),(2:Int)] []],
  e0)=
  ((2:Int),J1.code,e0)):=by kernel_rfl
theorem bD7:vc (EV [(50,cFour),(33,cLive),(29,cPress),(15,cAlloc),(20,cBack),(17,cCount),(41,cCheck),(22,cValid),(47,cLoadI),(48,cStoreI),(49,cDoI),(45,cSame),(43,cEqualLists),(24,cSameVec)]) noL Go.Proofs.Tryd.f14 cSlotted ()=(
 let e0:VFun:=
  (K7
  (RCode.mk (B6 (VFun.mk (2:Int) J1.code [(5:Int)] []) (2:Int)).1.params (B6 (VFun.mk (2:Int) J1.code [(5:Int)] []) (2:Int)).1.slots
  (B6 (VFun.mk (2:Int) J1.code [(5:Int)] []) (2:Int)).1.cells (B6 (VFun.mk (2:Int) J1.code [(5:Int)] []) (2:Int)).1.code
  (B6 (VFun.mk (2:Int) J1.code [(5:Int)] []) (2:Int)).1.out)).1;
 let e1:Bool:=
  (Q3 (VFun.mk (2:Int) J1.code [(5:Int)] [])).2 !=(0:Int)||(W4 (VFun.mk (2:Int) J1.code [(5:Int)] [])).2 !=(0:Int)||
  (B6 (VFun.mk (2:Int) J1.code [(5:Int)] []) (3:Int)).2 !=(0:Int)||
  (B6 (VFun.mk (2:Int) J1.code [(5:Int)] []) (2:Int)).2 !=(0:Int)||
  (B6 (VFun.mk (2:Int) J1.code [(5:Int)] []) (1:Int)).2 !=(9:Int)||
  (K7
  (RCode.mk (B6 (VFun.mk (2:Int) J1.code [(5:Int)] []) (2:Int)).1.params (B6 (VFun.mk (2:Int) J1.code [(5:Int)] []) (2:Int)).1.slots
  (B6 (VFun.mk (2:Int) J1.code [(5:Int)] []) (2:Int)).1.cells (B6 (VFun.mk (2:Int) J1.code [(5:Int)] []) (2:Int)).1.code
  (B6 (VFun.mk (2:Int) J1.code [(5:Int)] []) (2:Int)).1.out)).2 !=
  (0:Int)||
  C0 (VFun.mk (2:Int) J1.code [(5:Int)] []) !=(0:Int)||
  L0
  (RCode.mk (B6 (VFun.mk (2:Int) J1.code [(5:Int)] []) (3:Int)).1.params (B6 (VFun.mk (2:Int) J1.code [(5:Int)] []) (3:Int)).1.slots
  (B6 (VFun.mk (2:Int) J1.code [(5:Int)] []) (3:Int)).1.cells (B6 (VFun.mk (2:Int) J1.code [(5:Int)] []) (3:Int)).1.code
  (B6 (VFun.mk (2:Int) J1.code [(5:Int)] []) (3:Int)).1.out) !=
  (0:Int);
 let e2:Bool:=
  decide
  ((Q3 (VFun.mk (2:Int) J1.code [(5:Int)] [])).1=
  [[(0:Int),(1:Int)],[(0:Int),(1:Int),(2:Int)],[(1:Int),(2:Int),(3:Int)],[(2:Int),(4:Int)],[(5:Int)]])&&
  (W4 (VFun.mk (2:Int) J1.code [(5:Int)] [])).1==(3:Int)&&
  bo0 (B6 (VFun.mk (2:Int) J1.code [(5:Int)] []) (3:Int)).1.code
  [RIns.mk (1:Int) (0:Int) (0:Int) (Ins.mk (0:Int) (0:Int) [] [] []),RIns.mk (1:Int) (1:Int) (1:Int) (Ins.mk (0:Int) (0:Int) [] [] []),
  RIns.mk (0:Int) (0:Int) (0:Int) (Ins.mk (1:Int) (0:Int) [(2:Int)] [(0:Int),(1:Int)] []),
  RIns.mk (0:Int) (0:Int) (0:Int) (Ins.mk (1:Int) (0:Int) [(0:Int)] [(2:Int),(0:Int)] []),
  RIns.mk (0:Int) (0:Int) (0:Int) (Ins.mk (1:Int) (0:Int) [(0:Int)] [(0:Int),(1:Int)] []),
  RIns.mk (0:Int) (0:Int) (0:Int) (Ins.mk (1:Int) (0:Int) [(0:Int)] [(0:Int),(2:Int)] [])]&&
  bo0 (B6 (VFun.mk (2:Int) J1.code [(5:Int)] []) (2:Int)).1.code
  [RIns.mk (1:Int) (0:Int) (0:Int) (Ins.mk (0:Int) (0:Int) [] [] []),RIns.mk (1:Int) (1:Int) (1:Int) (Ins.mk (0:Int) (0:Int) [] [] []),
  RIns.mk (0:Int) (0:Int) (0:Int) (Ins.mk (1:Int) (0:Int) [(1:Int)] [(0:Int),(1:Int)] []),
  RIns.mk (0:Int) (0:Int) (0:Int) (Ins.mk (1:Int) (0:Int) [(0:Int)] [(1:Int),(0:Int)] []),RIns.mk (2:Int) (1:Int) (2:Int) (Ins.mk (0:Int) (0:Int) [] [] []),
  RIns.mk (1:Int) (1:Int) (1:Int) (Ins.mk (0:Int) (0:Int) [] [] []),RIns.mk (0:Int) (0:Int) (0:Int) (Ins.mk (1:Int) (0:Int) [(0:Int)] [(0:Int),(1:Int)] []),
  RIns.mk (1:Int) (1:Int) (2:Int) (Ins.mk (0:Int) (0:Int) [] [] []),RIns.mk (0:Int) (0:Int) (0:Int) (Ins.mk (1:Int) (0:Int) [(0:Int)] [(0:Int),(1:Int)] [])]&&
  (B6 (VFun.mk (2:Int) J1.code [(5:Int)] []) (2:Int)).1.slots==(2:Int)&&
  (B6 (VFun.mk (2:Int) J1.code [(5:Int)] []) (2:Int)).1.cells==(3:Int)&&
  (↑(List.length (B6 (VFun.mk (2:Int) J1.code [(5:Int)] []) (2:Int)).1.out):Int)==(1:Int);
 let e3:Int×Int:=
  aG7
  (RCode.mk (B6 (VFun.mk (2:Int) J1.code [(5:Int)] []) (2:Int)).1.params (B6 (VFun.mk (2:Int) J1.code [(5:Int)] []) (2:Int)).1.slots
  (B6 (VFun.mk (2:Int) J1.code [(5:Int)] []) (2:Int)).1.cells (B6 (VFun.mk (2:Int) J1.code [(5:Int)] []) (2:Int)).1.code
  (B6 (VFun.mk (2:Int) J1.code [(5:Int)] []) (2:Int)).1.out);
 let e4:RCode:=(B6 (VFun.mk (2:Int) J1.code [(5:Int)] []) (2:Int)).1;
 let e5:VFun:=VFun.mk (2:Int) J1.code [(5:Int)] [];
 let e6:RCode:=(B6 e5 (3:Int)).1;
  (S3 J1.code=true∧H0 J1.code=true∧List.length [(5:Int)]≤(8796093022200:Nat))∧
  (S3 J1.code=true∧H0 J1.code=true∧List.length [(5:Int)]≤(8796093022200:Nat))∧
  (S3 J1.code=true∧H0 J1.code=true∧List.length [(5:Int)]≤(8796093022200:Nat))∧
  ((-9223372036854775808:Int)≤e4.slots∧e4.slots<(9223372036854775808:Int)∧Q0 e4.code=true∧List.length e4.out≤(17592186044400:Nat))∧
  (((Q3 e5).2 !=(0:Int)||(W4 e5).2 !=(0:Int)||(B6 e5 (3:Int)).2 !=(0:Int)||(B6 e5 (2:Int)).2 !=(0:Int)||
  (B6 e5 (1:Int)).2 !=(9:Int)||
  (K7 (RCode.mk e4.params e4.slots e4.cells e4.code e4.out)).2 !=(0:Int)||
  C0 e5 !=(0:Int))=
  false→
  (-9223372036854775808:Int)≤e6.slots∧e6.slots<(9223372036854775808:Int)∧Q0 e6.code=true∧List.length e6.out≤(17592186044400:Nat))∧
  (e1=true→(false,())=(true,()))∧
  (e1=false→
  (e2=true→(0:Int)≤(0:Int)∧(0:Int)<(↑(List.length e4.out):Int))∧
  (e2&&(false==false&&((↑(0:Nat):Int)==(0:Int)&&true))&&e3.1==(4:Int)&&e3.2==(1:Int)&&
  (decide (e0.params=(2:Int))&&U9 e0.code J1.code&&decide (e0.out=[(5:Int)])&&decide (e0.at_=[])),
  ())=
  (true,()))):=by kernel_rfl
theorem bg9:D0 prog RG 46 cIns:=E4 B9 (fun _=>noL) (by kernel_rfl) (by kernel_rfl) (by kernel_rfl) fun (a,b,()) _=>(co1 a b).mpr (by intros;rfl)
theorem bo2:D0 prog RG 47 cLoadI:=E4 B9 (fun _=>noL) (by kernel_rfl) (by kernel_rfl) (by kernel_rfl) fun (a,b,()) _=>(bZ0 a b).mpr rfl
theorem bh0:D0 prog RG 48 cStoreI:=E4 B9 (fun _=>noL) (by kernel_rfl) (by kernel_rfl) (by kernel_rfl) fun (a,b,()) _=>(bP7 a b).mpr rfl
theorem bP8:D0 prog RG 49 cDoI:=E4 (A6 bg9 B9) (fun _=>noL) (by kernel_rfl) (by kernel_rfl) (by kernel_rfl) fun (a,b,()) _=>(co2 a b).mpr (by intros;rfl)
theorem bD8:D0 prog RG 50 cFour:=E4 (A6 bg9 B9) (fun _=>noL) (by kernel_rfl) (by kernel_rfl) (by kernel_rfl) fun () _=>ck2.mpr (by intros;rfl)
theorem bo3 {l m:List RIns} {k:Nat} (hl:k<l.length) (h:X1 l m k=true):X1 l m (k+1)=bY3 (l.getD k rins0) (m.getD k rins0):=by
 unfold X1 at h ⊢
 simp only [cq2,cs4] at h
 obtain ⟨h1,h2⟩:=h
 have hz:k<(l.zip m).length:=by rw [List.length_zip];omega
 rw [A4 hz (rins0,rins0),List.all_append,h2,decide_eq_true h1]
 simp only [Bool.true_and,List.all_cons,List.all_nil,Bool.and_true]
 have hg:(l.zip m).getD k (rins0,rins0)=(l.getD k rins0,m.getD k rins0):=by
  rw [cr3,cq1 hz,cr3,cr3,cq1 hl,cq1 (by omega)]
  simp [List.getElem_zip]
 rw [hg]
theorem bP9 {l m:List RIns} {k:Nat} (h:X1 l m k=false):bo0 l m=false:=by
 unfold bo0
 rw [Bool.eq_false_iff] at h ⊢
 intro h2
 refine h ?_
 unfold X1 at h2 ⊢
 simp only [cq2,cs4,ct2] at h2 ⊢
 refine ⟨h2.1,fun x hx=>h2.2 x ?_⟩
 rw [List.take_of_length_le (by rw [List.length_zip];omega)]
 exact List.mem_of_mem_take hx
theorem bh1 (x:Ins):(⟨x.op,x.n,x.to,x.from_,x.body⟩:Ins)=x:=by cases x;rfl
theorem ck3 (l m:List RIns):vc (EV [(57,cSameIns)]) (cj3 l m) Go.Proofs.Tryd.f45 cSame (l,m,()):=by
 rw [ck1 l m]
 intro e0 e1 e2 hs _
 have hl:l.length≤140737488355328:=hs.len
 have hd:e0=rins0:=rfl
 clear_value e0
 subst hd
 dsimp only [e1,e2]
 simp only [true_and,and_true]
 refine ⟨⟨(X1 l m 0,0,()),?_,rfl,Int.le_refl _,by dsimp only;omega,rfl⟩,?_⟩
 ·dsimp only [X1]
  rw [List.take_zero,List.all_nil,Bool.and_true,Bool.eq_iff_iff]
  simp only [beq_iff_eq,cs4]
  omega
 rintro ⟨g,i,⟨⟩⟩ ⟨h0,h1,h2⟩
 dsimp only at h0 h1 h2 ⊢
 obtain ⟨k,rfl⟩:=cq5 h0
 simp only [cq3] at h2 ⊢
 subst h2
 refine ⟨fun h=>?_,fun h=>?_⟩
 ·simp only [cq2,cs4] at h
  obtain ⟨hg,hlt⟩:=h
  have hsucc:=bo3 (by omega) hg
  have hlm:l.length=m.length:=by
   unfold X1 at hg
   simp only [cq2,cs4] at hg
   exact hg.1
  have hm:(k:Int)<m.length:=by omega
  refine ⟨⟨h0,hlt⟩,⟨h0,hm⟩,fun _=>⟨h0,hlt⟩,fun _ _=>⟨h0,hlt⟩,fun _ _=>⟨h0,hm⟩,fun _ _=>⟨h0,hlt⟩,fun _ _ _=>⟨h0,hlt⟩,fun _ _ _=>⟨h0,hm⟩,fun _ _ _=>⟨h0,hlt⟩,fun _ _ _=>⟨h0,hm⟩,(bY3 (l.getD k rins0) (m.getD k rins0),((k+1:Nat):Int),()),by dsimp only [bY3];rw [bh1,bh1],B7 (by omega) hl,⟨by dsimp only;omega,by dsimp only;omega,?_⟩,by dsimp only;omega⟩
  dsimp only
  rw [cq3,hsucc]
 ·have key:X1 l m k=bo0 l m:=by
   cases hg:X1 l m k with
   |false=>exact (bP9 hg).symm
   |true=>
    rw [hg] at h
    simp only [Bool.true_and,decide_eq_false_iff_not] at h
    have hk:k=l.length:=by omega
    subst hk
    exact hg.symm
  rw [key]
theorem bD9:D0 prog RG 45 cSame:=E4 (A6 aU7 B9) (fun p=>cj3 p.1 p.2.1) (by kernel_rfl) (by kernel_rfl) (by kernel_rfl) fun (l,m,()) _=>ck3 l m
theorem aX5:D0 prog RG 14 cSlotted:=E4 (A6 bD8 (A6 aP3 (A6 bm8 (A6 aJ9 (A6 aP7 (A6 bl7 (A6 ad3 (A6 an9 (A6 bo2 (A6 bh0 (A6 bP8 (A6 bD9 (A6 ay9 (A6 ar4 B9)))))))))))))) (fun _=>noL) (by kernel_rfl) (by kernel_rfl) (by kernel_rfl) fun () _=>bD7.mpr (by
 refine ⟨by decide+kernel,by decide+kernel,by decide+kernel,by decide+kernel,fun _=>by decide+kernel,by decide+kernel,fun _=>⟨by decide+kernel,by decide+kernel⟩⟩)
def G0 (n b:Int):Int:=if b<1 then 0 else n % b
def cTurn:Con RU:=con [one,one] [i64,i64] [one] [i64] [false] (some fun p=>p.2.1≤4611686018427387904) fun p=>(G0 p.1 p.2.1,())
def X2 (l:List Int) (n:Int):Int:=if l=[] then 0 else l.getD (n % l.length).toNat 0
def cNth:Con RU:=con [one,one] [ints,i64] [one] [i64] [false] none fun p=>(X2 p.1 p.2.1,())
def cReadsL:Con RU:=con [(true,5)] ax7 [one] [ints] [false] (some fun p=>p.2.2.2.1.length≤17592186044400) fun p=>(C9 [] p.2.2.2.1,())
def iota (n:Nat):List Int:=(List.range n).map Int.ofNat
def bZ1 (there:List Int) (c:Int) (k:Nat):Int:=X2 there (IntKind.i64.wrap (IntKind.i64.wrap (Int.tdiv c (1+5*(k:Int)))+k))
def O1 (there:List Int) (c:Int) (n:Nat):List Int:=(List.range n).map (bZ1 there c)
def ah4 (there:List Int) (b c:Int):List Int:=if there=[] then [] else O1 there c (G0 b 4).toNat
def toK (p count:Int) (k:Nat):Int:=p+((count+k)*7+5) % 97
def Q2 (p count:Int) (n:Nat):List Int:=(List.range n).map (toK p count)
def toN (d:Int):Nat:=1+(G0 d 5).toNat / 4
abbrev BS:=List Ins×List Int×Int
def bZ2 (p:Int) (l:List Int) (i:Nat) (s:BS):BS:=
 (s.1++[⟨G0 (l.getD i 0) 15,G0 (l.getD i 0) 12,Q2 p s.2.2 (toN (l.getD (i+3) 0)),ah4 s.2.1 (l.getD (i+1) 0) (l.getD (i+2) 0),[]⟩],
  s.2.1++Q2 p s.2.2 (toN (l.getD (i+3) 0)),s.2.2+toN (l.getD (i+3) 0))
def parB (l:List Int):Int:=G0 (X2 l 0) 4
def runB (l:List Int):Nat→BS
 |0=>([],iota (parB l).toNat,0)
 |j+1=>bZ2 (parB l) l (4*j+1) (runB l j)
def goB (l:List Int) (m:Int) (j:Nat):Bool:=decide (4*j+4<l.length)&&decide ((j:Int)<m)&&decide ((runB l j).2.2<90)
def endB (l:List Int) (m:Int):Nat:=((List.range 91).find? fun j=>!goB l m j).getD 0
def outB (there:List Int):List Int:=if there=[] then [] else [X2 there (there.length-1),X2 there (there.length-3)]
def B0 (l:List Int) (m:Int):VFun:=⟨parB l,(runB l (endB l m)).1,outB (runB l (endB l m)).2.1,[]⟩
def cBuilt:Con RU:=con [one,one] [ints,i64] [(true,4)] ar3 [false,false,false,false] none fun p=>(parB p.1,(B0 p.1 p.2.1).code,(B0 p.1 p.2.1).out,[],())
def bQ0 (l:List Int) (m:Int):Nat→St RU→Ann RU:=fun n s=>match n with
 |0=>⟨[6],[.slot 7,.row 1216],[i64,ints],fun p=>0≤p.1∧p.1≤parB l∧p.2.1=iota p.1.toNat,fun p=>(parB l).toNat-p.1.toNat,[]⟩
 |1=>⟨[6],[.slot 8,.slot 9,.row 1216,.row 900001],[i64,i64,ints,inss],fun p=>∃ j:Nat,p.2.1=4*j+1∧j≤90∧(∀ i,i<j→goB l m i=true)∧(p.2.2.2.1,p.2.2.1,p.1)=runB l j,fun p=>400-p.2.1.toNat,[(.box 320 1,900001,52,.user 0)]⟩
 |2=>⟨[],[.slot 11,.row 900002],[i64,ints],fun p=>0≤p.1∧p.1≤G0 (l.getD ((s.intAt 9).toNat+1) 0) 4∧p.2.1=O1 (s.rowInts 1216) (l.getD ((s.intAt 9).toNat+2) 0) p.1.toNat∧(s.rowInts 1216=[]→p.1=0),fun p=>4-p.1.toNat,[(.box 640 3,900002,3,i64)]⟩
 |3=>⟨[],[.slot 12,.slot 8,.row 900003],[i64,i64,ints],fun p=>0≤p.1∧p.1≤toN (l.getD ((s.intAt 9).toNat+3) 0)∧p.2.1=s.intAt 8+p.1∧p.2.2.1=Q2 (parB l) (s.intAt 8) p.1.toNat,fun p=>4-p.1.toNat,[(.box 640 2,900003,3,i64)]⟩
 |_=>⟨[],[.slot 14,.row 900004],[i64,ints],fun p=>0≤p.1∧p.1≤2∧p.2.1=(outB (s.rowInts 1216)).take p.1.toNat,fun p=>2-p.1.toNat,[(.box 320 2,900004,3,i64)]⟩
def O2 (l:List Ins):Int:=l.foldl (fun k x=>max (max k ((C9 [] x.from_).length:Int)) (x.to.length:Int)) 1
def M5 (f:VFun) (n more:Int):Int:=O2 f.code+G0 n more
def cSlots:Con RU:=con [(true,4),one,one] [i64,inss,ints,ints,i64,i64] [one] [i64] [false] (some fun p=>S3 p.2.1=true∧p.2.2.2.2.2.1≤1000) fun p=>(M5 ⟨p.1,p.2.1,p.2.2.1,p.2.2.2.1⟩ p.2.2.2.2.1 p.2.2.2.2.2.1,())
def bQ1 (l:List Ins):Nat→St RU→Ann RU:=fun _ _=>⟨[],[.slot 7,.slot 8],[i64,i64],fun p=>0≤p.2.1∧p.2.1≤l.length∧p.1=O2 (l.take p.2.1.toNat),fun p=>l.length-p.2.1.toNat,[]⟩
theorem ck4 (n b:Int):vc (EV []) noL Go.Proofs.Tryd.f65 cTurn (n,b,())=(
 let e0:Bool:=decide (b<(1:Int));
 let e1:Bool:=decide (Int.tmod n b<(0:Int));
 let e2:Int×Unit:=(G0 n b,());
  (e0=true→((0:Int),())=e2)∧(e0=false→b≠(0:Int)∧(e1=true→(IntKind.i64.wrap (Int.tmod n b+b),())=e2)∧(e1=false→(Int.tmod n b,())=e2))):=by kernel_rfl
theorem co3 (l:List Int) (n:Int):vc (EV [(65,cTurn)]) noL Go.Proofs.Tryd.f66 cNth (l,n,())=(
 let e0:Int:=(↑(List.length l):Int);
  Small RU (Sigma.mk (Ty.slice (3:Nat) (Ty.int IntKind.i64)) l)→
  ((e0==(0:Int))=true→((0:Int),())=(X2 l n,()))∧
  ((e0==(0:Int))=false→e0≤(4611686018427387904:Int)∧((0:Int)≤G0 n e0∧G0 n e0<e0)∧(List.getD l (Int.toNat (G0 n e0)) (0:Int),())=(X2 l n,()))):=by kernel_rfl
theorem bQ2 (o n:Int) (t f:List Int) (b:List Ins):vc (EV [(35,cUnion)]) noL Go.Proofs.Tryd.f36 cReadsL (o,n,t,f,b,())=(Small RU (Sigma.mk (Ty.slice (3:Nat) (Ty.int IntKind.i64)) t)→
 Small RU (Sigma.mk (Ty.slice (3:Nat) (Ty.int IntKind.i64)) f)→
 Small RU (Sigma.mk (Ty.slice (52:Nat) (Ty.user (0:Nat))) b)→List.length ([]:List Int)+List.length f≤(17592186044400:Nat)∧(C9 [] f,())=(C9 [] f,())):=by kernel_rfl
theorem bZ3 (a:Int) (b:List Ins) (c d:List Int) (n k:Int):vc (EV [(36,cReadsL),(65,cTurn)]) (bQ1 b) Go.Proofs.Tryd.f27 cSlots (a,b,c,d,n,k,())=(
 let e0:Ins:=Ins.mk (0:Int) (0:Int) [] [] [];
  Small RU (Sigma.mk (Ty.slice (52:Nat) (Ty.user (0:Nat))) b)→
  Small RU (Sigma.mk (Ty.slice (3:Nat) (Ty.int IntKind.i64)) c)→
  Small RU (Sigma.mk (Ty.slice (3:Nat) (Ty.int IntKind.i64)) d)→
  (∃ (p:Int×Int×Unit),
  a=a∧
  b=b∧
  c=c∧
  d=d∧
  n=n∧
  k=k∧
  (0:Int)=(0:Int)∧
  (1:Int)=p.1∧
  (0:Int)=p.2.1∧a=a∧b=b∧c=c∧d=d∧(0:Int)≤p.2.1∧p.2.1≤(↑(List.length b):Int)∧p.1=O2 (List.take (Int.toNat p.2.1) b))∧
  ∀ (p:Int×Int×Unit),
 let e0_1:Bool:=decide (p.2.1<(↑(List.length b):Int));
 let e1:Int:=p.2.1;
  (0:Int)≤e1∧e1≤(↑(List.length b):Int)∧p.1=O2 (List.take (Int.toNat e1) b)→
  (e0_1=true→
  ((0:Int)≤e1∧e1<(↑(List.length b):Int))∧
  List.length (List.getD b (Int.toNat e1) e0).from_≤(17592186044400:Nat)∧
  ((0:Int)≤e1∧e1<(↑(List.length b):Int))∧
  ∃ (p':Int×Int×Unit),
  a=a∧
  b=b∧
  c=c∧
  d=d∧
  n=n∧
  k=k∧
  (0:Int)=(0:Int)∧
  max (max p.1 (↑(List.length (C9 [] (List.getD b (Int.toNat e1) e0).from_)):Int)) (↑(List.length (List.getD b (Int.toNat e1) e0).to):Int)=p'.1∧
  IntKind.i64.wrap (e1+(1:Int))=p'.2.1∧
  a=a∧
  b=b∧
  c=c∧
  d=d∧
  ((0:Int)≤p'.2.1∧p'.2.1≤(↑(List.length b):Int)∧p'.1=O2 (List.take (Int.toNat p'.2.1) b))∧
  List.length b-Int.toNat p'.2.1<List.length b-Int.toNat e1)∧
  (e0_1=false→k≤(4611686018427387904:Int)∧(IntKind.i64.wrap (p.1+G0 n k),())=(M5 (VFun.mk a b c d) n k,()))):=by kernel_rfl
theorem bZ4 (l:List Int) (m:Int):vc (EV [(65,cTurn),(66,cNth)]) (bQ0 l m) Go.Proofs.Tryd.f25 cBuilt (l,m,())=(
 let e0:Int:=G0 (X2 l (0:Int)) (4:Int);
 let e1:Int:=(↑(List.length l):Int);
  Small RU (Sigma.mk (Ty.slice (3:Nat) (Ty.int IntKind.i64)) l)→
  (4:Int)≤(4611686018427387904:Int)∧
  (∃ (p:Int×List Int×Unit),l=l∧m=m∧(0:Int)=p.1∧(0:Int)=(0:Int)∧e0=e0∧[]=p.2.1∧(0:Int)≤p.1∧p.1≤parB l∧p.2.1=iota (Int.toNat p.1))∧
  ∀ (p:Int×List Int×Unit),
 let e0_1:Bool:=decide (p.1<e0);
 let e1_1:Int:=p.1;
 let e2:List Int:=p.2.1;
  (0:Int)≤e1_1∧e1_1≤parB l∧e2=iota (Int.toNat e1_1)→
  (e0_1=true→
  (List.length e2+List.length [e1_1])*(8:Nat)≤(140737488355328:Nat)∧
  ∃ (p':Int×List Int×Unit),
  l=l∧
  m=m∧
  IntKind.i64.wrap (e1_1+(1:Int))=p'.1∧
  (0:Int)=(0:Int)∧
  e0=e0∧
  e2++[e1_1]=p'.2.1∧
  ((0:Int)≤p'.1∧p'.1≤parB l∧p'.2.1=iota (Int.toNat p'.1))∧Int.toNat (parB l)-Int.toNat p'.1<Int.toNat (parB l)-Int.toNat e1_1)∧
  (e0_1=false→
  (∃ (p:Int×Int×List Int×List Ins×Unit),
  l=l∧
  m=m∧
  e1_1=e1_1∧
  e0_1=e0_1∧
  (0:Int)=p.1∧
  (1:Int)=p.2.1∧
  (0:Int)=(0:Int)∧
  e0=e0∧
  e2=p.2.2.1∧
  []=p.2.2.2.1∧
  ∃ (j:Nat),
  p.2.1=(4:Int)*(↑j:Int)+(1:Int)∧
  j≤(90:Nat)∧(∀ (i:Nat),i<j→goB l m i=true)∧(p.2.2.2.1,p.2.2.1,p.1)=runB l j)∧
  ∀ (p:Int×Int×List Int×List Ins×Unit),
 let e0_2:Bool:=decide (IntKind.i64.wrap (p.2.1+(3:Int))<e1)&&decide ((↑(List.length p.2.2.2.1):Int)<m)&&decide (p.1<(90:Int));
 let e1_2:List Int:=p.2.2.1;
 let e2:List Ins:=p.2.2.2.1;
 let e3:Int:=p.2.1;
 let e4:Bool:=decide ((↑(List.length e1_2):Int) >(0:Int));
 let e5:Int:=p.1;
 let e6:Int:=G0 (List.getD l (Int.toNat (IntKind.i64.wrap (e3+(1:Int)))) (0:Int)) (4:Int);
 let e7:Int:=G0 (List.getD l (Int.toNat e3) (0:Int)) (12:Int);
 let e8:Int:=G0 (List.getD l (Int.toNat e3) (0:Int)) (15:Int);
 let e9:Int:=IntKind.i64.wrap (e3+(3:Int));
 let e10:Int:=IntKind.i64.wrap (e3+(2:Int));
 let e11:Int:=IntKind.i64.wrap ((↑(List.length e1_2):Int)-(1:Int));
 let e12:Int:=IntKind.i64.wrap (e3+(1:Int));
  (∃ (j:Nat),e3=(4:Int)*(↑j:Int)+(1:Int)∧j≤(90:Nat)∧(∀ (i:Nat),i<j→goB l m i=true)∧(e2,e1_2,e5)=runB l j)→
  (e0_2=true→
  ((0:Int)≤e3∧e3<e1)∧
  (15:Int)≤(4611686018427387904:Int)∧
  ((0:Int)≤e3∧e3<e1)∧
  (12:Int)≤(4611686018427387904:Int)∧
  (∃ (p:Int×List Int×Unit),
  l=l∧
  m=m∧
  e1_1=e1_1∧
  e0_1=e0_1∧
  e5=e5∧
  e3=e3∧
  e0_2=e0_2∧
  (0:Int)=p.1∧
  (0:Int)=(0:Int)∧
  e0=e0∧
  e1_2=e1_2∧
  e2=e2∧
  e8=e8∧
  e7=e7∧
  []=p.2.1∧
  (0:Int)≤p.1∧
  p.1≤G0 (List.getD l (Int.toNat e3+(1:Nat)) (0:Int)) (4:Int)∧
  p.2.1=O1 e1_2 (List.getD l (Int.toNat e3+(2:Nat)) (0:Int)) (Int.toNat p.1)∧(e1_2=[]→p.1=(0:Int)))∧
  ∀ (p:Int×List Int×Unit),
 let e0_3:Bool:=decide (p.1<e6)&&e4;
 let e1_3:List Int:=
  [X2 e1_2
  (IntKind.i64.wrap
  (IntKind.i64.wrap
  (Int.tdiv (List.getD l (Int.toNat e10) (0:Int)) (IntKind.i64.wrap ((1:Int)+IntKind.i64.wrap ((5:Int)*p.1))))+
  p.1))];
 let e2_1:List Int:=p.2.1;
 let e3_1:Int:=p.1;
 let e4:Int:=G0 (List.getD l (Int.toNat e3+(1:Nat)) (0:Int)) (4:Int);
 let e5_1:Int:=List.getD l (Int.toNat e3+(2:Nat)) (0:Int);
  (0:Int)≤e3_1∧e3_1≤e4∧e2_1=O1 e1_2 e5_1 (Int.toNat e3_1)∧(e1_2=[]→e3_1=(0:Int))→
  ((0:Int)≤e12∧e12<e1)∧
  (4:Int)≤(4611686018427387904:Int)∧
  (e0_3=true→
  ((0:Int)≤e10∧e10<e1)∧
  IntKind.i64.wrap ((1:Int)+IntKind.i64.wrap ((5:Int)*e3_1))≠(0:Int)∧
  (List.length e2_1+List.length e1_3)*(8:Nat)≤(140737488355328:Nat)∧
  ∃ (p':Int×List Int×Unit),
  l=l∧
  m=m∧
  e1_1=e1_1∧
  e0_1=e0_1∧
  e5=e5∧
  e3=e3∧
  e0_2=e0_2∧
  IntKind.i64.wrap (e3_1+(1:Int))=p'.1∧
  (0:Int)=(0:Int)∧
  e0=e0∧
  e1_2=e1_2∧
  e2=e2∧
  e8=e8∧
  e7=e7∧
  e2_1++e1_3=p'.2.1∧
  ((0:Int)≤p'.1∧
  p'.1≤e4∧p'.2.1=O1 e1_2 e5_1 (Int.toNat p'.1)∧(e1_2=[]→p'.1=(0:Int)))∧
  (4:Nat)-Int.toNat p'.1<(4:Nat)-Int.toNat e3_1)∧
  (e0_3=false→
  (∃ (p:Int×Int×List Int×Unit),
  l=l∧
  m=m∧
  e1_1=e1_1∧
  e0_1=e0_1∧
  e3=e3∧
  e0_2=e0_2∧
  e3_1=e3_1∧
  e0_3=e0_3∧
  (0:Int)=p.1∧
  e5=p.2.1∧
  (0:Int)=(0:Int)∧
  e0=e0∧
  e1_2=e1_2∧
  e2=e2∧
  e8=e8∧
  e7=e7∧
  e2_1=e2_1∧
  []=p.2.2.1∧
  (0:Int)≤p.1∧
  p.1≤(↑(toN (List.getD l (Int.toNat e3+(3:Nat)) (0:Int))):Int)∧
  p.2.1=e5+p.1∧p.2.2.1=Q2 (parB l) e5 (Int.toNat p.1))∧
  ∀ (p:Int×Int×List Int×Unit),
 let e0_4:Bool:=
  decide
  (p.1<
  IntKind.i64.wrap ((1:Int)+IntKind.i64.wrap (Int.tdiv (G0 (List.getD l (Int.toNat e9) (0:Int)) (5:Int)) (4:Int))));
 let e1_4:List Int:=p.2.2.1;
 let e2_2:List Int:=
  [IntKind.i64.wrap (e0+Int.tmod (IntKind.i64.wrap (IntKind.i64.wrap (p.2.1*(7:Int))+(5:Int))) (97:Int))];
 let e3_2:Int:=p.1;
 let e4:Int:=p.2.1;
 let e5_2:Int:=(↑(toN (List.getD l (Int.toNat e3+(3:Nat)) (0:Int))):Int);
  (0:Int)≤e3_2∧e3_2≤e5_2∧e4=e5+e3_2∧e1_4=Q2 (parB l) e5 (Int.toNat e3_2)→
  ((0:Int)≤e9∧e9<e1)∧
  (5:Int)≤(4611686018427387904:Int)∧
  (4:Int)≠(0:Int)∧
  (e0_4=true→
  (97:Int)≠(0:Int)∧
  (List.length e1_4+List.length e2_2)*(8:Nat)≤(140737488355328:Nat)∧
  ∃ (p':Int×Int×List Int×Unit),
  l=l∧
  m=m∧
  e1_1=e1_1∧
  e0_1=e0_1∧
  e3=e3∧
  e0_2=e0_2∧
  e3_1=e3_1∧
  e0_3=e0_3∧
  IntKind.i64.wrap (e3_2+(1:Int))=p'.1∧
  IntKind.i64.wrap (e4+(1:Int))=p'.2.1∧
  (0:Int)=(0:Int)∧
  e0=e0∧
  e1_2=e1_2∧
  e2=e2∧
  e8=e8∧
  e7=e7∧
  e2_1=e2_1∧
  e1_4++e2_2=p'.2.2.1∧
  ((0:Int)≤p'.1∧
  p'.1≤e5_2∧
  p'.2.1=e5+p'.1∧p'.2.2.1=Q2 (parB l) e5 (Int.toNat p'.1))∧
  (4:Nat)-Int.toNat p'.1<(4:Nat)-Int.toNat e3_2)∧
  (e0_4=false→
  (List.length e1_2+List.length e1_4)*(8:Nat)≤(140737488355328:Nat)∧
  (List.length e2+List.length [Ins.mk e8 e7 e1_4 e2_1 []])*(88:Nat)≤(140737488355328:Nat)∧
  ∃ (p':Int×Int×List Int×List Ins×Unit),
  l=l∧
  m=m∧
  e1_1=e1_1∧
  e0_1=e0_1∧
  e4=p'.1∧
  IntKind.i64.wrap (e3+(4:Int))=p'.2.1∧
  (0:Int)=(0:Int)∧
  e0=e0∧
  e1_2++e1_4=p'.2.2.1∧
  e2++[Ins.mk e8 e7 e1_4 e2_1 []]=p'.2.2.2.1∧
  (∃ (j:Nat),
  p'.2.1=(4:Int)*(↑j:Int)+(1:Int)∧
  j≤(90:Nat)∧
  (∀ (i:Nat),i<j→goB l m i=true)∧(p'.2.2.2.1,p'.2.2.1,p'.1)=runB l j)∧
  (400:Nat)-Int.toNat p'.2.1<(400:Nat)-Int.toNat e3)))∧
  (e0_2=false→
  (∃ (p:Int×List Int×Unit),
  l=l∧
  m=m∧
  e1_1=e1_1∧
  e0_1=e0_1∧
  e5=e5∧
  e3=e3∧
  e0_2=e0_2∧
  (0:Int)=p.1∧
  (0:Int)=(0:Int)∧
  e0=e0∧e1_2=e1_2∧e2=e2∧[]=p.2.1∧(0:Int)≤p.1∧p.1≤(2:Int)∧p.2.1=List.take (Int.toNat p.1) (outB e1_2))∧
  ∀ (p:Int×List Int×Unit),
 let e0_3:Bool:=decide (p.1<(2:Int))&&e4;
 let e1:List Int:=[X2 e1_2 (IntKind.i64.wrap (e11-IntKind.i64.wrap ((2:Int)*p.1)))];
 let e2_1:List Int:=p.2.1;
 let e3_1:Int:=p.1;
  (0:Int)≤e3_1∧e3_1≤(2:Int)∧e2_1=List.take (Int.toNat e3_1) (outB e1_2)→
  (e0_3=true→
  (List.length e2_1+List.length e1)*(8:Nat)≤(140737488355328:Nat)∧
  ∃ (p':Int×List Int×Unit),
  l=l∧
  m=m∧
  e1_1=e1_1∧
  e0_1=e0_1∧
  e5=e5∧
  e3=e3∧
  e0_2=e0_2∧
  IntKind.i64.wrap (e3_1+(1:Int))=p'.1∧
  (0:Int)=(0:Int)∧
  e0=e0∧
  e1_2=e1_2∧
  e2=e2∧
  e2_1++e1=p'.2.1∧
  ((0:Int)≤p'.1∧p'.1≤(2:Int)∧p'.2.1=List.take (Int.toNat p'.1) (outB e1_2))∧
  (2:Nat)-Int.toNat p'.1<(2:Nat)-Int.toNat e3_1)∧
  (e0_3=false→(e0,e2,e2_1,([]:List Int),())=(parB l,(B0 l m).code,(B0 l m).out,([]:List Int),()))))):=by kernel_rfl
theorem bQ3 {n b:Int} (hb:1≤b):(Int.tmod n b<0→Int.tmod n b+b=n % b)∧(¬ Int.tmod n b<0→Int.tmod n b=n % b)∧-b<Int.tmod n b:=by
 have h:=Int.tmod_eq_emod (a:=n) (b:=b)
 have h1:=Int.emod_nonneg n (b:=b) (by omega)
 have h2:=Int.emod_lt_of_pos n (b:=b) (by omega)
 split at h
 ·refine ⟨fun _=>by omega,fun _=>by omega,by omega⟩
 ·rename_i hc
  have h3:¬ n % b=0:=fun hh=>hc (.inr (Int.dvd_of_emod_eq_zero hh))
  refine ⟨fun _=>by omega,fun _=>by omega,by omega⟩
theorem ck5 (n b:Int) (hb:b≤4611686018427387904):vc (EV []) noL Go.Proofs.Tryd.f65 cTurn (n,b,()):=(ck4 n b).mpr (by
 intro e0 e1 e2
 refine ⟨fun h=>?_,fun h=>?_⟩
 ·have h:=cq9 h
  simp [e2,G0,h]
 ·have h:=cq8 h
  obtain ⟨h1,h2,h3⟩:=bQ3 (n:=n) (b:=b) (by omega)
  have ht:G0 n b=n % b:=by unfold G0;rw [if_neg h]
  refine ⟨by omega,fun hc=>?_,fun hc=>?_⟩
  ·have hc:=cq9 hc
   simp only [e2]
   rw [ht,←h1 hc,F8 (by omega) (by omega)]
  ·have hc:=cq8 hc
   simp only [e2]
   rw [ht,←h2 hc])
theorem av5:D0 prog RG 65 cTurn:=E4 B9 (fun _=>noL) (by kernel_rfl) (by kernel_rfl) (by kernel_rfl) fun (n,b,()) hp=>ck5 n b hp
theorem T8 {n b:Int} (hb:1≤b):0≤G0 n b∧G0 n b<b:=by
 unfold G0
 rw [if_neg (by omega)]
 exact ⟨Int.emod_nonneg n (by omega),Int.emod_lt_of_pos n (by omega)⟩
theorem co4 (l:List Int) (n:Int):vc (EV [(65,cTurn)]) noL Go.Proofs.Tryd.f66 cNth (l,n,()):=(co3 l n).mpr (by
 intro e0 hs
 have hl:l.length≤140737488355328:=hs.len
 refine ⟨fun h=>?_,fun h=>?_⟩
 ·have h:(l.length:Int)=0:=by simpa [e0] using h
  have:l=[]:=List.length_eq_zero_iff.1 (by omega)
  rw [this];rfl
 ·have h:¬ (l.length:Int)=0:=by simpa [e0] using h
  have hne:l≠[]:=fun hh=>h (by rw [hh];rfl)
  have ht:=T8 (n:=n) (b:=(l.length:Int)) (by omega)
  refine ⟨by dsimp only [e0];omega,ht,?_⟩
  dsimp only [e0]
  unfold X2 G0
  rw [if_neg hne,if_neg (by omega)])
theorem bQ4:D0 prog RG 66 cNth:=E4 (A6 av5 B9) (fun _=>noL) (by kernel_rfl) (by kernel_rfl) (by kernel_rfl) fun (l,n,()) _=>co4 l n
theorem bh2:D0 prog RG 36 cReadsL:=E4 (A6 bl1 B9) (fun _=>noL) (by kernel_rfl) (by kernel_rfl) (by kernel_rfl) fun (o,n,t,f,b,()) hp=>(bQ2 o n t f b).mpr (fun _ _ _=>⟨by simp only [List.length_nil,Nat.zero_add];exact hp,rfl⟩)
theorem aX6 (l:List Int):0≤parB l∧parB l<4:=T8 (by omega)
theorem bu8 (d:Int):1≤toN d∧toN d≤2:=by
 have:=T8 (n:=d) (b:=5) (by omega)
 unfold toN
 omega
theorem bQ5 (k:Nat):iota (k+1)=iota k++[(k:Int)]:=by simp [iota,List.range_succ]
theorem aK2 (k:Nat):(iota k).length=k:=by simp [iota]
theorem bE0 (p c:Int) (k:Nat):Q2 p c (k+1)=Q2 p c k++[toK p c k]:=by simp [Q2,List.range_succ]
theorem Z5 (p c:Int) (k:Nat):(Q2 p c k).length=k:=by simp [Q2]
theorem bh3 (t:List Int) (c:Int) (k:Nat):O1 t c (k+1)=O1 t c k++[bZ1 t c k]:=by simp [O1,List.range_succ]
theorem al4 (t:List Int) (c:Int) (k:Nat):(O1 t c k).length=k:=by simp [O1]
theorem aX7 (l:List Int):∀ j,(runB l j).1.length=j∧(runB l j).2.1.length≤3+2*j∧(j:Int)≤(runB l j).2.2∧(runB l j).2.2≤2*j
 |0=>by
  have:=aX6 l
  refine ⟨rfl,?_,Int.le_refl _,Int.le_refl _⟩
  show (iota _).length≤_
  rw [aK2]
  omega
 |j+1=>by
  obtain ⟨h1,h2,h3,h4⟩:=aX7 l j
  have ht:=bu8 (l.getD (4*j+1+3) 0)
  refine ⟨?_,?_,?_,?_⟩
  ·show (_++[_]).length=_
   rw [cs3,h1];rfl
  ·show (_++Q2 _ _ _).length≤_
   rw [cs3,Z5]
   omega
  ·show _≤(runB l j).2.2+_
   omega
  ·show (runB l j).2.2+_≤_
   omega
theorem ck6 {l:List Int} {m:Int} {j:Nat} (h1:j≤90) (h2:∀ i,i<j→goB l m i=true) (h3:goB l m j=false):endB l m=j:=by
 unfold endB
 have:(List.range 91).find? (fun j=>!goB l m j)=some j:=by
  rw [List.find?_eq_some_iff_getElem]
  refine ⟨by rw [h3];rfl,j,by simp;omega,by simp,fun i hi=>?_⟩
  simp only [List.getElem_range]
  rw [h2 i hi];rfl
 rw [this];rfl
end Go.Rg
end
