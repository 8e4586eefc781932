/-
What the last text of this claim uses: RgEq6, RgQ, RgR, RgS, RgEq7, RgU, RgZ, RgBa, RgEq11, RgBb, RgBc, RgEq12, RgBd, RgBe, RgEq13, RgBf, RgBg, RgBh, RgEq14, RgBi, RgBj, RgEq15, RgBk, RgBl, RgBm, RgBn, RgEq16, RgBo, RgBp, RgRow, RgEq17, RgEq18, RgBq, RgDa, RgEq22, RgBr, RgBv, RgDb.
-/
import Derived.Test.YtknhkhdbonjhgaaDoorV4
import Derived.Test.YtknhkhdbonjhgaaDoorRows
import Derived.ProofKit
import Derived.LaidMore
import Derived.Stop.Joined
import Derived.ChangeSame
set_option linter.unusedVariables false
set_option linter.unusedSimpArgs false
set_option maxRecDepth 100000
noncomputable section
section
namespace Go.Rg
open Go Go.VT
theorem bO1 (a:Int) (b:List Ins) (c d:List Int):vc (EV [(33,cLive),(61,cContains)]) (bF3 b c) Go.Proofs.Tryd.f29 cPress (a,b,c,d,())=(let e0:Bool:=(L3 (VFun.mk a b c d)).2 !=(0:Int);
 let e1:List (List Int):=(L3 (VFun.mk a b c d)).1;
 let e2:Int:=(L3 (VFun.mk a b c d)).2;
 let e3:Int:=(↑(List.length b):Int);
 let e4:Ins:=Ins.mk (0:Int) (0:Int) [] [] [];
 let e5:Int×Int×Unit:=((M2 (VFun.mk a b c d)).1,(M2 (VFun.mk a b c d)).2,());
 let e6:Int:=(↑(List.length e1):Int);
  Small RU (Sigma.mk (Ty.slice (52:Nat) (Ty.user (0:Nat))) b)→
  Small RU (Sigma.mk (Ty.slice (3:Nat) (Ty.int IntKind.i64)) c)→
  Small RU (Sigma.mk (Ty.slice (3:Nat) (Ty.int IntKind.i64)) d)→
  (e0=true→((0:Int),e2,())=e5)∧
  (e0=false→
  ((0:Int)≤(0:Int)∧(0:Int)<e6)∧
  (∃ (p:Int×Int×Unit),
  a=a∧
  b=b∧
  c=c∧
  d=d∧
  (0:Int)=(0:Int)∧
  (0:Int)=(0:Int)∧
  e1=e1∧
  e2=e2∧
  e0=e0∧
  b=b∧
  e3=e3∧
  (0:Int)=p.1∧
  (↑(List.length (List.getD e1 (0:Nat) [])):Int)=p.2.1∧
  a=a∧b=b∧c=c∧d=d∧(0:Int)≤p.1∧p.1≤e3∧p.2.1=U4 (E0 b c) b (Int.toNat p.1))∧
  ∀ (p:Int×Int×Unit),
 let e0_1:Bool:=decide (p.1<e3);
 let e1_1:Int:=(↑(List.length (List.getD b (Int.toNat p.1) e4).to):Int);
 let e2_1:Int:=p.2.1;
 let e3_1:Int:=IntKind.i64.wrap (p.1+(1:Int));
 let e4_1:List Int:=(List.getD b (Int.toNat p.1) e4).to;
 let e5_1:Int:=p.1;
 let e6_1:Int:=(List.getD b (Int.toNat e5_1) e4).n;
 let e7:Int:=(List.getD b (Int.toNat e5_1) e4).op;
 let e8:List Int:=(List.getD b (Int.toNat e5_1) e4).from_;
 let e9:List Ins:=(List.getD b (Int.toNat e5_1) e4).body;
 let e10:Nat:=List.length (List.getD b (Int.toNat e5_1) ins0).to;
  (0:Int)≤e5_1∧e5_1≤e3∧e2_1=U4 (E0 b c) b (Int.toNat e5_1)→
  (e0_1=true→
  ((0:Int)≤e5_1∧e5_1<e3)∧
  ((0:Int)≤e3_1∧e3_1<e6)∧
  (∃ (p:Int×Int×Unit),
  a=a∧
  b=b∧
  c=c∧
  d=d∧
  (0:Int)=(0:Int)∧
  (0:Int)=(0:Int)∧
  e1=e1∧
  e2=e2∧
  e0=e0∧
  b=b∧
  e3=e3∧
  e5_1=e5_1∧
  e2_1=e2_1∧
  e0_1=e0_1∧
  e5_1=e5_1∧
  e4_1=e4_1∧
  e1_1=e1_1∧
  (0:Int)=p.1∧
  (↑(List.length (List.getD e1 (Int.toNat e3_1) [])):Int)=p.2.1∧
  a=a∧
  b=b∧
  c=c∧
  d=d∧
  e7=e7∧
  e6_1=e6_1∧
  e4_1=e4_1∧
  e8=e8∧
  e9=e9∧
  (0:Int)≤p.1∧
  p.1≤(↑e10:Int)∧
  p.2.1=
  ae3 (atL b c (Int.toNat e5_1+(1:Nat)))
  (List.take (Int.toNat p.1) (List.getD b (Int.toNat e5_1) ins0).to))∧
  ∀ (p:Int×Int×Unit),
 let e0_2:Bool:=!List.contains (List.getD e1 (Int.toNat e3_1) []) (List.getD e4_1 (Int.toNat p.1) (0:Int));
 let e1_2:Int:=p.2.1;
 let e2_2:Int:=p.1;
 let e3_2:Bool:=decide (e2_2<e1_1);
 let e4:List Int:=atL b c (Int.toNat e5_1+(1:Nat));
  (0:Int)≤e2_2∧e2_2≤(↑e10:Int)∧e1_2=ae3 e4 (List.take (Int.toNat e2_2) (List.getD b (Int.toNat e5_1) ins0).to)→
  (e3_2=true→
  ((0:Int)≤e2_2∧e2_2<e1_1)∧
  ((0:Int)≤e3_1∧e3_1<e6)∧
  ∃ (p':Int×Int×Unit),
  (bif e0_2 then a else a)=a∧
  (bif e0_2 then b else b)=b∧
  (bif e0_2 then c else c)=c∧
  (bif e0_2 then d else d)=d∧
  (bif e0_2 then (0:Int) else (0:Int))=(0:Int)∧
  (bif e0_2 then (0:Int) else (0:Int))=(0:Int)∧
  (bif e0_2 then e1 else e1)=e1∧
  (bif e0_2 then e2 else e2)=e2∧
  (bif e0_2 then e0 else e0)=e0∧
  (bif e0_2 then b else b)=b∧
  (bif e0_2 then e3 else e3)=e3∧
  (bif e0_2 then e5_1 else e5_1)=e5_1∧
  (bif e0_2 then e2_1 else e2_1)=e2_1∧
  (bif e0_2 then e0_1 else e0_1)=e0_1∧
  (bif e0_2 then e5_1 else e5_1)=e5_1∧
  (bif e0_2 then e4_1 else e4_1)=e4_1∧
  (bif e0_2 then e1_1 else e1_1)=e1_1∧
  IntKind.i64.wrap ((bif e0_2 then e2_2 else e2_2)+(1:Int))=p'.1∧
  (bif e0_2 then IntKind.i64.wrap (e1_2+(1:Int)) else e1_2)=p'.2.1∧
  (bif e0_2 then a else a)=a∧
  (bif e0_2 then b else b)=b∧
  (bif e0_2 then c else c)=c∧
  (bif e0_2 then d else d)=d∧
  (bif e0_2 then e7 else e7)=e7∧
  (bif e0_2 then e6_1 else e6_1)=e6_1∧
  (bif e0_2 then e4_1 else e4_1)=e4_1∧
  (bif e0_2 then e8 else e8)=e8∧
  (bif e0_2 then e9 else e9)=e9∧
  ((0:Int)≤p'.1∧
  p'.1≤(↑e10:Int)∧
  p'.2.1=ae3 e4 (List.take (Int.toNat p'.1) (List.getD b (Int.toNat e5_1) ins0).to))∧
  e10-Int.toNat p'.1<e10-Int.toNat e2_2)∧
  (e3_2=false→
  ∃ (p':Int×Int×Unit),
  a=a∧
  b=b∧
  c=c∧
  d=d∧
  (0:Int)=(0:Int)∧
  (0:Int)=(0:Int)∧
  e1=e1∧
  e2=e2∧
  e0=e0∧
  b=b∧
  e3=e3∧
  e3_1=p'.1∧
  (if e1_2 >e2_1 then e1_2 else e2_1)=p'.2.1∧
  a=a∧
  b=b∧
  c=c∧
  d=d∧
  ((0:Int)≤p'.1∧p'.1≤e3∧p'.2.1=U4 (E0 b c) b (Int.toNat p'.1))∧
  List.length b-Int.toNat p'.1<List.length b-Int.toNat e5_1))∧
  (e0_1=false→(e2_1,(0:Int),())=e5))):=by kernel_rfl
theorem cc8 (n:Int) (m:List (Int×Int)):vc (EV []) noL Go.Proofs.Tryd.f71 cOld (n,m,())=((Option.getD (mget (fun (x y:Int)=>x==y) m n) (0:Int),m,())=(getI m n,m,())):=by kernel_rfl
theorem cc9 (n:Int) (m:List (Int×Int)):vc (EV []) noL Go.Proofs.Tryd.f74 cNew (n,m,())=(let e0:List (Int×Int):=mput (fun (x y:Int)=>x==y) m n (↑(List.length m):Int);
 (Option.getD (mget (fun (x y:Int)=>x==y) e0 n) (0:Int),e0,())=((↑(List.length m):Int),mput eqI m n (↑(List.length m):Int),())):=by kernel_rfl
theorem bu2 (x1 x2:Int) (x3 x4:List Int) (x5:List Ins) (m:List (Int×Int)):vc (EV [(96,cBody),(71,cOld),(74,cNew)]) (aR3 x1 x2 x3 x4 x5 m) Go.Proofs.Tryd.f73 cCalledP (x1,x2,x3,x4,x5,m,())=(let e0:Ins:=Ins.mk (0:Int) (0:Int) [] [] [];
 let e1:List Ins:=[Ins.mk x1 x2 x3 x4 x5];
 let e2:Int:=(↑(List.length x4):Int);
  Small RU (Sigma.mk (Ty.slice (3:Nat) (Ty.int IntKind.i64)) x3)→
  Small RU (Sigma.mk (Ty.slice (3:Nat) (Ty.int IntKind.i64)) x4)→
  Small RU (Sigma.mk (Ty.slice (52:Nat) (Ty.user (0:Nat))) x5)→
  (List.length e1≤(1599289640354:Nat)∧F3 e1=true)∧
  ((0:Int)≤(0:Int)∧(0:Int)<(↑(List.length e1):Int))∧
  (∃ (p:Int×List Ins×Unit),
  x1=x1∧
  x2=x2∧
  x3=x3∧
  x4=x4∧
  x5=x5∧
  (0:Int)=(0:Int)∧
  e2=e2∧
  (0:Int)=p.1∧
  m=m∧
  x1=x1∧
  x2=x2∧
  x3=x3∧
  x4=x4∧
  x5=x5∧
  (0:Int)=(0:Int)∧
  (0:Int)=(0:Int)∧
  e1=e1∧
  e1=p.2.1∧
  x1=x1∧
  x2=x2∧
  (0:Int)=(0:Int)∧
  (0:Int)=(0:Int)∧
  x5=x5∧
  (0:Int)≤p.1∧
  p.1≤e2∧p.2.1=[Ins.mk x1 x2 x3 (List.map (getI m) (List.take (Int.toNat p.1) x4)++List.drop (Int.toNat p.1) x4) x5])∧
  ∀ (p:Int×List Ins×Unit),
 let e0_1:Ins:=List.getD p.2.1 (0:Nat) e0;
 let e1_1:Bool:=decide (p.1<e2);
 let e2_1:Int:=p.1;
 let e3:List Ins:=p.2.1;
 let e4:Int:=(↑(List.length e0_1.to):Int);
  (0:Int)≤e2_1∧e2_1≤e2∧e3=[Ins.mk x1 x2 x3 (List.map (getI m) (List.take (Int.toNat e2_1) x4)++List.drop (Int.toNat e2_1) x4) x5]→
  (e1_1=true→
  ((0:Int)≤e2_1∧e2_1<(↑(List.length e0_1.from_):Int))∧
  (True∧m=m∧True)∧
  ((0:Int)≤e2_1∧e2_1<(↑(List.length e0_1.from_):Int))∧
  ∃ (p':Int×List Ins×Unit),
  x1=x1∧
  x2=x2∧
  x3=x3∧
  x4=x4∧
  x5=x5∧
  (0:Int)=(0:Int)∧
  e2=e2∧
  IntKind.i64.wrap (e2_1+(1:Int))=p'.1∧
  m=m∧
  x1=x1∧
  x2=x2∧
  x3=x3∧
  x4=x4∧
  x5=x5∧
  (0:Int)=(0:Int)∧
  (0:Int)=(0:Int)∧
  e1=e1∧
  List.set e3 (0:Nat)
  (Ins.mk e0_1.op e0_1.n e0_1.to (List.set e0_1.from_ (Int.toNat e2_1) (getI m (List.getD e0_1.from_ (Int.toNat e2_1) (0:Int))))
  e0_1.body)=
  p'.2.1∧
  x1=x1∧
  x2=x2∧
  (0:Int)=(0:Int)∧
  (0:Int)=(0:Int)∧
  x5=x5∧
  ((0:Int)≤p'.1∧
  p'.1≤e2∧
  p'.2.1=
  [Ins.mk x1 x2 x3 (List.map (getI m) (List.take (Int.toNat p'.1) x4)++List.drop (Int.toNat p'.1) x4) x5])∧
  List.length x4-Int.toNat p'.1<List.length x4-Int.toNat e2_1)∧
  (e1_1=false→
  (∃ (p:Int×List Ins×List (Int×Int)×Unit),
  x1=x1∧
  x2=x2∧
  x3=x3∧
  x4=x4∧
  x5=x5∧
  (0:Int)=(0:Int)∧
  e2=e2∧
  e2_1=e2_1∧
  e1_1=e1_1∧
  (0:Int)=(0:Int)∧
  e4=e4∧
  (0:Int)=p.1∧
  m=p.2.2.1∧
  x1=x1∧
  x2=x2∧
  x3=x3∧
  x4=x4∧
  x5=x5∧
  (0:Int)=(0:Int)∧
  (0:Int)=(0:Int)∧
  e1=e1∧
  e3=p.2.1∧
  x1=x1∧
  x2=x2∧
  (0:Int)=(0:Int)∧
  (0:Int)=(0:Int)∧
  x5=x5∧
  (0:Int)≤p.1∧
  p.1≤(↑(List.length x3):Int)∧
  p.2.1=
  [Ins.mk x1 x2 ((G3 m (List.take (Int.toNat p.1) x3)).1++List.drop (Int.toNat p.1) x3)
  (List.map (getI m) x4) x5]∧
  p.2.2.1=(G3 m (List.take (Int.toNat p.1) x3)).2)∧
  ∀ (p:Int×List Ins×List (Int×Int)×Unit),
 let e0:Ins:=List.getD p.2.1 (0:Nat) e0;
 let e1_2:List (Int×Int):=p.2.2.1;
 let e2_2:Int:=p.1;
 let e3:List Ins:=p.2.1;
 let e4_1:Bool:=decide (e2_2<e4);
  (0:Int)≤e2_2∧
  e2_2≤(↑(List.length x3):Int)∧
  e3=[Ins.mk x1 x2 ((G3 m (List.take (Int.toNat e2_2) x3)).1++List.drop (Int.toNat e2_2) x3) (List.map (getI m) x4) x5]∧
  e1_2=(G3 m (List.take (Int.toNat e2_2) x3)).2→
  (e4_1=true→
  ((0:Int)≤e2_2∧e2_2<(↑(List.length e0.to):Int))∧
  True∧
  ((0:Int)≤e2_2∧e2_2<(↑(List.length e0.to):Int))∧
  ∃ (p':Int×List Ins×List (Int×Int)×Unit),
  x1=x1∧
  x2=x2∧
  x3=x3∧
  x4=x4∧
  x5=x5∧
  (0:Int)=(0:Int)∧
  e2=e2∧
  e2_1=e2_1∧
  e1_1=e1_1∧
  (0:Int)=(0:Int)∧
  e4=e4∧
  IntKind.i64.wrap (e2_2+(1:Int))=p'.1∧
  mput eqI e1_2 (List.getD e0.to (Int.toNat e2_2) (0:Int)) (↑(List.length e1_2):Int)=p'.2.2.1∧
  x1=x1∧
  x2=x2∧
  x3=x3∧
  x4=x4∧
  x5=x5∧
  (0:Int)=(0:Int)∧
  (0:Int)=(0:Int)∧
  e1=e1∧
  List.set e3 (0:Nat)
  (Ins.mk e0.op e0.n (List.set e0.to (Int.toNat e2_2) (↑(List.length e1_2):Int)) e0.from_ e0.body)=
  p'.2.1∧
  x1=x1∧
  x2=x2∧
  (0:Int)=(0:Int)∧
  (0:Int)=(0:Int)∧
  x5=x5∧
  ((0:Int)≤p'.1∧
  p'.1≤(↑(List.length x3):Int)∧
  p'.2.1=
  [Ins.mk x1 x2
  ((G3 m (List.take (Int.toNat p'.1) x3)).1++List.drop (Int.toNat p'.1) x3)
  (List.map (getI m) x4) x5]∧
  p'.2.2.1=(G3 m (List.take (Int.toNat p'.1) x3)).2)∧
  List.length x3-Int.toNat p'.1<List.length x3-Int.toNat e2_2)∧
  (e4_1=false→(x1,x2,e0.to,e0.from_,x5,e1_2,())=(x1,x2,(G3 m x3).1,List.map (getI m) x4,x5,(G3 m x3).2,())))):=by kernel_rfl
theorem aE5 {l:List Int} (h:incr l) (n:Int):(ah5 l n).length=if n∈l then l.length else l.length+1:=by
 induction l with
 |nil=>simp [ah5]
 |cons x r ih=>
  obtain ⟨h1,h2⟩:=List.pairwise_cons.1 h
  simp only [ah5]
  by_cases hx:x=n
  ·simp [hx]
  ·rw [if_neg hx]
   by_cases hlt:n<x
   ·have:n∉x::r:=by
     intro hm
     rcases List.mem_cons.1 hm with hm|hm
     ·exact hx hm.symm
     ·have:=h1 n hm;omega
    simp [hlt,this]
   ·rw [if_neg hlt,cg6,ih h2]
    have:(n∈x::r)=(n∈r):=by simp [Ne.symm hx]
    simp only [this,cg6]
    split<;>omega
theorem ba0 {l:List Int} (h:incr l):∀ {m:List Int},m.Nodup→((J8 l m).length:Int)=ae3 l m:=by
 intro m
 induction m generalizing l with
 |nil=>intro _;simp [J8,ae3]
 |cons x r ih=>
  intro hn
  obtain ⟨hn1,hn2⟩:=List.nodup_cons.1 hn
  rw [show J8 l (x::r)=J8 (ah5 l x) r from rfl,ih (aK6 h x) hn2]
  unfold ae3
  have hf:(r.filter fun n=>!(ah5 l x).contains n)=r.filter fun n=>!l.contains n:=by
   apply List.filter_congr
   intro y hy
   have:(ah5 l x).contains y=l.contains y:=by
    rw [Bool.eq_iff_iff,List.contains_iff_mem,List.contains_iff_mem,aD1]
    constructor
    ·rintro (rfl|h)
     ·exact absurd hy hn1
     ·exact h
    ·exact .inr
   rw [this]
  rw [hf,aE5 h,List.filter_cons]
  by_cases hx:x∈l
  ·simp [hx]
  ·simp [hx];omega
theorem bu3 (b:List Ins) (c:List Int) {k:Nat} (h:k<b.length):U4 (E0 b c) b (k+1)=max (U4 (E0 b c) b k) ((J8 (atL b c (k+1)) (b.getD k ins0).to).length:Int):=by
 unfold U4
 have hlen:k<((E0 b c).tail.zip b).length:=by
  rw [List.length_zip,List.length_tail,J7];omega
 have hk:((E0 b c).tail.zip b).getD k ([],ins0)=(atL b c (k+1),b.getD k ins0):=by
  rw [cg4,cf2 hlen]
  simp only [Option.getD_some,List.getElem_zip]
  unfold atL
  rw [cg4,cg4,cf2 (by rw [J7];omega),cf2 h]
  simp
 rw [A4 hlen ([],ins0),hk,List.foldl_append]
 rfl
theorem bO2 {a:Int} {b:List Ins} {c:List Int} (C:Checked a b c) {k:Nat} (h:k<b.length):(b.getD k ins0).to.Nodup:=by
 have h1:=G5.1 C.once
 have h2:=bE4 h
 have h3:(wr (b.take (k+1))).Nodup:=by
  rw [←List.take_append_drop (k+1) b,U3] at h1
  exact (List.nodup_append.1 h1).1
 rw [h2] at h3
 exact (List.nodup_append.1 h3).2.1
theorem bu4 {l m:List Int} {j:Nat} (h:j<m.length):ae3 l (m.take (j+1))=if !l.contains (m.getD j 0) then ae3 l (m.take j)+1 else ae3 l (m.take j):=by
 unfold ae3
 rw [A4 h 0,List.filter_append,ch1,List.filter_cons]
 split<;>simp<;>omega
theorem bO3 (a:Int) (b:List Ins) (c d:List Int):vc (EV [(33,cLive),(61,cContains)]) (bF3 b c) Go.Proofs.Tryd.f29 cPress (a,b,c,d,()):=by
 rw [bO1 a b c d]
 intro e0 e1 e2 e3 e4 e5 e6 hb _ _
 have he5:e5=((M2 ⟨a,b,c,d⟩).1,(M2 ⟨a,b,c,d⟩).2,()):=rfl
 have he4:e4=ins0:=rfl
 have hl2:(L3 ⟨a,b,c,d⟩).2=B7 ⟨a,b,c,d⟩:=by
  unfold L3
  by_cases h:B7 ⟨a,b,c,d⟩=0
  ·rw [if_neg (by simpa using h),h]
  ·rw [if_pos h]
 refine ⟨fun h=>?_,fun h=>?_⟩
 ·have h:B7 ⟨a,b,c,d⟩≠0:=by simpa [e0,hl2] using h
  rw [he5]
  unfold M2
  rw [if_pos h]
  simp only [e2,hl2]
 have h:B7 ⟨a,b,c,d⟩=0:=by simpa [e0,hl2] using h
 have C:=aQ9 h
 have hlb:=C.len
 have he1:e1=E0 b c:=by
  show (L3 ⟨a,b,c,d⟩).1=_
  unfold L3
  rw [if_neg (by simpa using h)]
 have he5:e5=(U4 (E0 b c) b b.length,0,()):=by
  rw [he5]
  unfold M2
  rw [if_neg (by simpa using h)]
  unfold U4
  rw [List.take_of_length_le (by rw [List.length_zip];omega)]
  rfl
 have he6:e6=b.length+1:=by
  show ((List.length e1:Nat):Int)=_
  rw [he1,J7];rfl
 clear_value e5 e1 e6 e4
 subst he5 he1 he4 he6
 dsimp only [e3]
 simp only [true_and,and_true,Bool.cond_self]
 refine ⟨⟨Int.le_refl _,by omega⟩,⟨(0,_,()),rfl,rfl,Int.le_refl _,by dsimp only;omega,?_⟩,?_⟩
 ·show ((atL b c 0).length:Int)=U4 (E0 b c) b 0
  rw [W6]
  rfl
 rintro ⟨i,m,⟨⟩⟩ ⟨h0,h1,h2⟩
 dsimp only at h0 h1 h2 ⊢
 subst h2
 obtain ⟨k,rfl⟩:=cf6 h0
 simp only [cf4]
 refine ⟨fun hlt=>?_,fun hge=>?_⟩
 ·have hlt:(k:Int)<b.length:=cg0 hlt
  have hw:IntKind.i64.wrap ((k:Int)+1)=((k+1:Nat):Int):=B6 (by omega) (by omega:b.length≤140737488355328)
  rw [hw]
  simp only [cf4]
  have hto:(b.getD k ins0).to.length≤140737488355328:=aD4 (b:=b) hb (by omega)
  have hat:(E0 b c).getD (k+1) []=atL b c (k+1):=rfl
  rw [hat]
  refine ⟨⟨h0,hlt⟩,⟨by omega,by omega⟩,⟨(0,_,()),rfl,rfl,Int.le_refl _,by dsimp only;omega,by simp [ae3]⟩,?_⟩
  rintro ⟨q,n,⟨⟩⟩ ⟨q0,q1,q2⟩
  dsimp only at q0 q1 q2 ⊢
  obtain ⟨j,rfl⟩:=cf6 q0
  subst q2
  simp only [cf4]
  have hal:(atL b c (k+1)).length≤4000:=by
   have h3:=ax0 c b (k+1)
   have h4:((atL b c (k+1)).map Int.toNat).Nodup:=by
    rw [List.Nodup,List.pairwise_map]
    exact h3.imp_of_mem (fun {x y} hx hy hxy he=>by have:=aR1 C hx;have:=aR1 C hy;omega)
   have:=aw9 4000 _ h4 (fun x hx=>by
    obtain ⟨y,hy,rfl⟩:=List.mem_map.1 hx
    have:=aR1 C hy
    omega)
   simpa using this
  refine ⟨fun hc=>?_,fun hc=>?_⟩
  ·have hc:(j:Int)<(b.getD k ins0).to.length:=cg0 hc
   have hb2:ae3 (atL b c (k+1)) ((b.getD k ins0).to.take j)≤4000+j:=by
    unfold ae3
    have:=List.length_filter_le (fun n=>!(atL b c (k+1)).contains n) ((b.getD k ins0).to.take j)
    rw [ch9] at this
    omega
   have hb3:0≤ae3 (atL b c (k+1)) ((b.getD k ins0).to.take j):=by unfold ae3;omega
   refine ⟨⟨q0,hc⟩,⟨by omega,by omega⟩,((j+1:Nat),ae3 (atL b c (k+1)) ((b.getD k ins0).to.take (j+1)),()),B6 (by omega) hto,?_,⟨by omega,by dsimp only;omega,by rw [cf4]⟩,by dsimp only;omega⟩
   dsimp only
   rw [bu4 (by omega),M6 (by omega) (by omega)]
   cases (!(atL b c (k+1)).contains ((b.getD k ins0).to.getD j 0))<;>rfl
  ·have hj:j=(b.getD k ins0).to.length:=by have:¬ (j:Int)<(b.getD k ins0).to.length:=cf9 hc;omega
   subst hj
   rw [ch8]
   refine ⟨((k+1:Nat),U4 (E0 b c) b (k+1),()),rfl,?_,⟨by omega,by dsimp only;omega,by rw [cf4]⟩,by dsimp only;omega⟩
   dsimp only
   rw [bu3 b c (by omega),ba0 (ax0 c b (k+1)) (bO2 C (by omega))]
   split<;>omega
 ·have hk:k=b.length:=by have:¬ (k:Int)<b.length:=cf9 hge;omega
  subst hk
  rfl
theorem aE6:C6 prog RG 29 cPress:=E2 (A6 ar2 (A6 L8 C0)) (fun p=>bF3 p.2.1 p.2.2.1) (by kernel_rfl) (by kernel_rfl) (by kernel_rfl) fun (a,b,c,d,()) _=>bO3 a b c d
theorem bF4 (n:Int) (m:List (Int×Int)):Option.getD (mget (fun (x y:Int)=>x==y) m n) (0:Int)=getI m n:=rfl
theorem cd0 (n:Int) (m:List (Int×Int)):vc (EV []) noL Go.Proofs.Tryd.f71 cOld (n,m,()):=by
 rw [cc8 n m,bF4]
theorem ba1:C6 prog RG 71 cOld:=E2 C0 (fun _=>noL) (by kernel_rfl) (by kernel_rfl) (by kernel_rfl) fun (n,m,()) _=>cd0 n m
theorem cd1 (n:Int) (m:List (Int×Int)):vc (EV []) noL Go.Proofs.Tryd.f74 cNew (n,m,()):=by
 rw [cc9 n m]
 intro e0
 have he:e0=mput eqI m n m.length:=rfl
 clear_value e0
 subst he
 rw [bF4]
 unfold getI
 rw [L9,if_pos rfl]
 rfl
theorem bF5:C6 prog RG 74 cNew:=E2 C0 (fun _=>noL) (by kernel_rfl) (by kernel_rfl) (by kernel_rfl) fun (n,m,()) _=>cd1 n m
theorem ak7 {A l:List Int} {i:Nat} (hA:A.length=i) (h:i<l.length):(A++l.drop i).getD i 0=l.getD i 0:=by
 rw [cg4,cg4,cg9 (by omega),hA,Nat.sub_self,List.getElem?_drop,Nat.add_zero]
theorem ak8 {A l:List Int} {i:Nat} (hA:A.length=i) (h:i<l.length) (v:Int):(A++l.drop i).set i v=(A++[v])++l.drop (i+1):=by
 rw [List.set_append_right _ _ (by omega),hA,Nat.sub_self,List.drop_eq_getElem_cons h,List.set_cons_zero]
 simp
theorem P6 {A l:List Int} {i:Nat} (hA:A.length=i) (h:i≤l.length):(A++l.drop i).length=l.length:=by
 rw [ch1,List.length_drop];omega
theorem ba2 (l:List Int):∀ (m:List (Int×Int)),(G3 m l).1.length=l.length:=by
 have key:∀ (l:List Int) (s:List Int×List (Int×Int)),(l.foldl aR2 s).1.length=s.1.length+l.length:=by
  intro l
  induction l with
  |nil=>intro s;simp
  |cons x r ih=>intro s;simp [ih,aR2];omega
 intro m
 rw [G3,key]
 simp
theorem bu5 (m:List (Int×Int)) (l:List Int) (x:Int):G3 m (l++[x])=aR2 (G3 m l) x:=by simp [G3]
theorem T2 {x3 x4:List Int} {x5:List Ins}:U5 x3 x4 x5=true↔(x3.length≤17592186044416∧x4.length≤17592186044416∧x5.length≤1599289640354)∧F3 x5=true:=by
 simp only [U5,cf3,ch2]
 constructor
 ·rintro ⟨⟨⟨h1,h2⟩,h3⟩,h4⟩;exact ⟨⟨h1,h2,h3⟩,h4⟩
 ·rintro ⟨⟨h1,h2,h3⟩,h4⟩;exact ⟨⟨⟨h1,h2⟩,h3⟩,h4⟩
theorem bu6 (x1 x2:Int) (x3 x4:List Int) (x5:List Ins) (m:List (Int×Int)) (hp:U5 x3 x4 x5=true):vc (EV [(96,cBody),(71,cOld),(74,cNew)]) (aR3 x1 x2 x3 x4 x5 m) Go.Proofs.Tryd.f73 cCalledP (x1,x2,x3,x4,x5,m,()):=by
 rw [bu2 x1 x2 x3 x4 x5 m]
 intro e0 e1 e2 hs3 hs4 _
 have hl3:x3.length≤140737488355328:=hs3.len
 have hl4:x4.length≤140737488355328:=hs4.len
 dsimp only [e0,e1,e2]
 simp only [true_and,and_true]
 refine ⟨⟨by simp,?_⟩,⟨by omega,by simp⟩,⟨(0,_,()),rfl,rfl,Int.le_refl _,by dsimp only;omega,by simp⟩,?_⟩
 ·simp only [F3,Bool.and_true]
  exact (O0 _).2 (T2.1 hp)
 rintro ⟨i,l,⟨⟩⟩ ⟨h0,h1,h2⟩
 dsimp only at h0 h1 h2 ⊢
 subst h2
 obtain ⟨k,rfl⟩:=cf6 h0
 simp only [cf4,List.getD_cons_zero,List.set_cons_zero]
 have hA:((x4.take k).map (getI m)).length=k:=by simp;omega
 refine ⟨fun hlt=>?_,fun hge=>?_⟩
 ·have hlt:(k:Int)<x4.length:=cg0 hlt
  rw [P6 hA (by omega),ak7 hA (by omega),ak8 hA (by omega)]
  refine ⟨⟨h0,hlt⟩,⟨h0,hlt⟩,((k+1:Nat),[⟨x1,x2,x3,(x4.take (k+1)).map (getI m)++x4.drop (k+1),x5⟩],()),B6 (by omega) hl4,?_,⟨by omega,by dsimp only;omega,by dsimp only;rw [cf4]⟩,by dsimp only;omega⟩
  dsimp only
  rw [A4 (by omega) 0,List.map_append]
  rfl
 have hk:k=x4.length:=by have:¬ (k:Int)<x4.length:=cf9 hge;omega
 subst hk
 simp only [ch8,List.drop_length,List.append_nil]
 clear h0 h1 hge hA
 refine ⟨⟨(0,_,m,()),rfl,rfl,rfl,Int.le_refl _,by dsimp only;omega,by simp [G3],by simp [G3]⟩,?_⟩
 rintro ⟨i,l,m2,⟨⟩⟩ ⟨h0,h1,h2,h3⟩
 dsimp only at h0 h1 h2 h3 ⊢
 subst h2 h3
 obtain ⟨k,rfl⟩:=cf6 h0
 simp only [cf4,List.getD_cons_zero,List.set_cons_zero]
 have hA:(G3 m (x3.take k)).1.length=k:=by rw [ba2,ch9];omega
 refine ⟨fun hlt=>?_,fun hge=>?_⟩
 ·have hlt:(k:Int)<x3.length:=cg0 hlt
  rw [P6 hA (by omega),ak7 hA (by omega),ak8 hA (by omega)]
  have hn:G3 m (x3.take (k+1))=aR2 (G3 m (x3.take k)) (x3.getD k 0):=by rw [A4 (by omega) 0,bu5]
  refine ⟨⟨h0,hlt⟩,⟨h0,hlt⟩,((k+1:Nat),[⟨x1,x2,(G3 m (x3.take (k+1))).1++x3.drop (k+1),x4.map (getI m),x5⟩],(G3 m (x3.take (k+1))).2,()),B6 (by omega) hl3,?_,?_,⟨by omega,by dsimp only;omega,by dsimp only;rw [cf4],by dsimp only;rw [cf4]⟩,by dsimp only;omega⟩
  ·dsimp only
   rw [hn]
   rfl
  ·dsimp only
   rw [hn]
   rfl
 ·have hk:k=x3.length:=by have:¬ (k:Int)<x3.length:=cf9 hge;omega
  subst hk
  simp only [ch8,List.drop_length,List.append_nil]
theorem aR4:C6 prog RG 73 cCalledP:=E2 (A6 ar0 (A6 ba1 (A6 bF5 C0))) (fun p=>aR3 p.1 p.2.1 p.2.2.1 p.2.2.2.1 p.2.2.2.2.1 p.2.2.2.2.2.1) (by kernel_rfl) (by kernel_rfl) (by kernel_rfl) fun (x1,x2,x3,x4,x5,m,()) hp=>bu6 x1 x2 x3 x4 x5 m hp
def idm (n:Nat):List (Int×Int):=(upto n).foldl (fun m k=>mput eqI m k k) []
def bF6 (m:List (Int×Int)) (x:Ins):Ins:=⟨x.op,x.n,(G3 m x.to).1,x.from_.map (getI m),x.body⟩
def O3 (m:List (Int×Int)) (l:List Ins):List (Int×Int):=l.foldl (fun m x=>(G3 m x.to).2) m
def W8:List (Int×Int)→List Ins→List Ins
 |_,[]=>[]
 |m,x::r=>bF6 m x::W8 (G3 m x.to).2 r
def cPlain:Con RU:=con [(true,4)] at8 [(true,4),one] [i64,inss,ints,ints,i64] [false,false,false,false,false] (some fun p=>F3 p.2.1=true∧p.2.2.1.length≤17592186044416)
 fun p=>((I8 ⟨p.1,p.2.1,p.2.2.1,p.2.2.2.1⟩).1.params,(I8 ⟨p.1,p.2.1,p.2.2.1,p.2.2.2.1⟩).1.code,(I8 ⟨p.1,p.2.1,p.2.2.1,p.2.2.2.1⟩).1.out,(I8 ⟨p.1,p.2.1,p.2.2.1,p.2.2.2.1⟩).1.at_,(I8 ⟨p.1,p.2.1,p.2.2.1,p.2.2.2.1⟩).2,())
def bF7 (params:Int) (code:List Ins) (out:List Int):Nat→St RU→Ann RU:=fun k s=>match k with
 |0=>⟨[],[.slot 22,.row 1216],[i64,mapI],fun p=>0≤p.1∧(p.1≤params∨p.1=0)∧p.2.1=idm p.1.toNat,fun p=>params.toNat-p.1.toNat,[]⟩
 |1=>⟨[],[.slot 39,.row 1216,.row 7],[i64,mapI,inss],fun p=>0≤p.1∧p.1≤code.length∧p.2.1=O3 (idm params.toNat) (code.take p.1.toNat)∧p.2.2.1=W8 (idm params.toNat) (code.take p.1.toNat),fun p=>code.length-p.1.toNat,[(.box 512 1,7,52,.user 0)]⟩
 |_=>⟨[],[.slot 56,.row 2176],[i64,ints],fun p=>0≤p.1∧p.1≤out.length∧p.2.1=(out.take p.1.toNat).map (getI (O3 (idm params.toNat) code))++out.drop p.1.toNat,fun p=>out.length-p.1.toNat,[]⟩
theorem bO4 (a:Int) (b:List Ins) (c d:List Int):vc (EV [(41,cCheck),(72,cOwn),(71,cOld),(73,cCalledP)]) (bF7 a b c) Go.Proofs.Tryd.f39 cPlain (a,b,c,d,())=(let e0:Int×List Ins×List Int×List Int×Int×Unit:=
  ((I8 (VFun.mk a b c d)).1.params,(I8 (VFun.mk a b c d)).1.code,(I8 (VFun.mk a b c d)).1.out,(I8 (VFun.mk a b c d)).1.at_,(I8 (VFun.mk a b c d)).2,());
 let e1:Bool:=B7 (VFun.mk a b c d) !=(0:Int);
 let e2:Int:=(↑(List.length b):Int);
 let e3:Int:=(↑(List.length c):Int);
 let e4:Ins:=Ins.mk (0:Int) (0:Int) [] [] [];
  Small RU (Sigma.mk (Ty.slice (52:Nat) (Ty.user (0:Nat))) b)→
  Small RU (Sigma.mk (Ty.slice (3:Nat) (Ty.int IntKind.i64)) c)→
  Small RU (Sigma.mk (Ty.slice (3:Nat) (Ty.int IntKind.i64)) d)→
  (e1=true→((0:Int),[],[],[],B7 (VFun.mk a b c d),())=e0)∧
  (e1=false→
  (∃ (p:Int×List (Int×Int)×Unit),
  a=a∧
  b=b∧
  c=c∧
  d=d∧
  (0:Int)=(0:Int)∧
  B7 (VFun.mk a b c d)=B7 (VFun.mk a b c d)∧
  e1=e1∧
  a=a∧
  (0:Int)=p.1∧
  a=a∧b=b∧c=c∧d=d∧(0:Int)=(0:Int)∧[]=p.2.1∧(0:Int)≤p.1∧(p.1≤a∨p.1=(0:Int))∧p.2.1=idm (Int.toNat p.1))∧
  ∀ (p:Int×List (Int×Int)×Unit),
 let e0_1:Bool:=decide (p.1<a);
 let e1_1:Int:=p.1;
 let e2_1:List (Int×Int):=p.2.1;
  (0:Int)≤e1_1∧(e1_1≤a∨e1_1=(0:Int))∧e2_1=idm (Int.toNat e1_1)→
  (e0_1=true→
  ∃ (p':Int×List (Int×Int)×Unit),
  a=a∧
  b=b∧
  c=c∧
  d=d∧
  (0:Int)=(0:Int)∧
  B7 (VFun.mk a b c d)=B7 (VFun.mk a b c d)∧
  e1=e1∧
  a=a∧
  IntKind.i64.wrap (e1_1+(1:Int))=p'.1∧
  a=a∧
  b=b∧
  c=c∧
  d=d∧
  (0:Int)=(0:Int)∧
  mput (fun (x y:Int)=>x==y) e2_1 e1_1 e1_1=p'.2.1∧
  ((0:Int)≤p'.1∧(p'.1≤a∨p'.1=(0:Int))∧p'.2.1=idm (Int.toNat p'.1))∧
  Int.toNat a-Int.toNat p'.1<Int.toNat a-Int.toNat e1_1)∧
  (e0_1=false→
  List.length c≤(17592186044416:Nat)∧
  (∃ (p:Int×List (Int×Int)×List Ins×Unit),
  a=a∧
  b=b∧
  c=c∧
  d=d∧
  (0:Int)=(0:Int)∧
  B7 (VFun.mk a b c d)=B7 (VFun.mk a b c d)∧
  e1=e1∧
  a=a∧
  e1_1=e1_1∧
  e0_1=e0_1∧
  b=b∧
  e2=e2∧
  (0:Int)=p.1∧
  a=a∧
  b=b∧
  c=c∧
  d=d∧
  (0:Int)=(0:Int)∧
  e2_1=p.2.1∧
  c=c∧
  a=a∧
  []=p.2.2.1∧
  (0:Int)≤p.1∧
  p.1≤e2∧
  p.2.1=O3 (idm (Int.toNat a)) (List.take (Int.toNat p.1) b)∧
  p.2.2.1=W8 (idm (Int.toNat a)) (List.take (Int.toNat p.1) b))∧
  ∀ (p:Int×List (Int×Int)×List Ins×Unit),
 let e0_2:List Ins:=p.2.2.1;
 let e1_2:List Ins:=
  [Ins.mk (List.getD b (Int.toNat p.1) e4).op (List.getD b (Int.toNat p.1) e4).n (G3 p.2.1 (List.getD b (Int.toNat p.1) e4).to).1
  (List.map (getI p.2.1) (List.getD b (Int.toNat p.1) e4).from_) (List.getD b (Int.toNat p.1) e4).body];
 let e2_2:Bool:=decide (p.1<e2);
 let e3_1:List (Int×Int):=p.2.1;
 let e4_1:Int:=p.1;
  (0:Int)≤e4_1∧e4_1≤e2∧e3_1=O3 (idm (Int.toNat a)) (List.take (Int.toNat e4_1) b)∧e0_2=W8 (idm (Int.toNat a)) (List.take (Int.toNat e4_1) b)→
  (e2_2=true→
  ((0:Int)≤e4_1∧e4_1<e2)∧
  (U5 (List.getD b (Int.toNat e4_1) e4).to (List.getD b (Int.toNat e4_1) e4).from_ (List.getD b (Int.toNat e4_1) e4).body=true∧True)∧
  (List.length e0_2+List.length e1_2)*(88:Nat)≤(140737488355328:Nat)∧
  ∃ (p':Int×List (Int×Int)×List Ins×Unit),
  a=a∧
  b=b∧
  c=c∧
  d=d∧
  (0:Int)=(0:Int)∧
  B7 (VFun.mk a b c d)=B7 (VFun.mk a b c d)∧
  e1=e1∧
  a=a∧
  e1_1=e1_1∧
  e0_1=e0_1∧
  b=b∧
  e2=e2∧
  IntKind.i64.wrap (e4_1+(1:Int))=p'.1∧
  a=a∧
  b=b∧
  c=c∧
  d=d∧
  (0:Int)=(0:Int)∧
  (G3 e3_1 (List.getD b (Int.toNat e4_1) e4).to).2=p'.2.1∧
  c=c∧
  a=a∧
  e0_2++e1_2=p'.2.2.1∧
  ((0:Int)≤p'.1∧
  p'.1≤e2∧
  p'.2.1=O3 (idm (Int.toNat a)) (List.take (Int.toNat p'.1) b)∧
  p'.2.2.1=W8 (idm (Int.toNat a)) (List.take (Int.toNat p'.1) b))∧
  List.length b-Int.toNat p'.1<List.length b-Int.toNat e4_1)∧
  (e2_2=false→
  (∃ (p:Int×List Int×Unit),
  a=a∧
  b=b∧
  c=c∧
  d=d∧
  (0:Int)=(0:Int)∧
  B7 (VFun.mk a b c d)=B7 (VFun.mk a b c d)∧
  e1=e1∧
  a=a∧
  e1_1=e1_1∧
  e0_1=e0_1∧
  b=b∧
  e2=e2∧
  e4_1=e4_1∧
  e2_2=e2_2∧
  e3=e3∧
  (0:Int)=p.1∧
  a=a∧
  b=b∧
  c=c∧
  d=d∧
  (0:Int)=(0:Int)∧
  e3_1=e3_1∧
  c=p.2.1∧
  a=a∧
  e0_2=e0_2∧
  (0:Int)≤p.1∧
  p.1≤e3∧
  p.2.1=
  List.map (getI (O3 (idm (Int.toNat a)) b)) (List.take (Int.toNat p.1) c)++
  List.drop (Int.toNat p.1) c)∧
  ∀ (p:Int×List Int×Unit),
 let e0_3:List Int:=p.2.1;
 let e1_3:Int:=p.1;
 let e2_3:Bool:=decide (e1_3<e3);
  (0:Int)≤e1_3∧e1_3≤e3∧e0_3=List.map (getI (O3 (idm (Int.toNat a)) b)) (List.take (Int.toNat e1_3) c)++List.drop (Int.toNat e1_3) c→
  (e2_3=true→
  ((0:Int)≤e1_3∧e1_3<(↑(List.length e0_3):Int))∧
  (True∧e3_1=e3_1∧True)∧
  ((0:Int)≤e1_3∧e1_3<(↑(List.length e0_3):Int))∧
  ∃ (p':Int×List Int×Unit),
  a=a∧
  b=b∧
  c=c∧
  d=d∧
  (0:Int)=(0:Int)∧
  B7 (VFun.mk a b c d)=B7 (VFun.mk a b c d)∧
  e1=e1∧
  a=a∧
  e1_1=e1_1∧
  e0_1=e0_1∧
  b=b∧
  e2=e2∧
  e4_1=e4_1∧
  e2_2=e2_2∧
  e3=e3∧
  IntKind.i64.wrap (e1_3+(1:Int))=p'.1∧
  a=a∧
  b=b∧
  c=c∧
  d=d∧
  (0:Int)=(0:Int)∧
  e3_1=e3_1∧
  List.set e0_3 (Int.toNat e1_3) (getI e3_1 (List.getD e0_3 (Int.toNat e1_3) (0:Int)))=p'.2.1∧
  a=a∧
  e0_2=e0_2∧
  ((0:Int)≤p'.1∧
  p'.1≤e3∧
  p'.2.1=
  List.map (getI (O3 (idm (Int.toNat a)) b)) (List.take (Int.toNat p'.1) c)++
  List.drop (Int.toNat p'.1) c)∧
  List.length c-Int.toNat p'.1<List.length c-Int.toNat e1_3)∧
  (e2_3=false→(a,e0_2,e0_3,[],(0:Int),())=e0))))):=by kernel_rfl
theorem bh0 (m:List (Int×Int)) (l:List Ins) (x:Ins):O3 m (l++[x])=(G3 (O3 m l) x.to).2:=by simp [O3]
theorem aE7 (x:Ins):∀ (l:List Ins) (m:List (Int×Int)),W8 m (l++[x])=W8 m l++[bF6 (O3 m l) x]
 |[],m=>rfl
 |y::l,m=>by
  simp only [List.cons_append,W8,aE7 x l]
  rfl
theorem ao6:∀ (l:List Ins) (m:List (Int×Int)),(W8 m l).length=l.length
 |[],m=>rfl
 |y::l,m=>by simp [W8,ao6 l]
theorem bn5 (n:Nat):idm (n+1)=mput eqI (idm n) n n:=by
 unfold idm
 rw [aD7,List.foldl_append]
 rfl
structure Named (a:Int) (W:List Int) (m:List (Int×Int)):Prop where
 len:(m.length:Int)=a+W.length
 par:∀ n,0≤n→n<a→mget eqI m n=some n
 wr:∀ n∈W,mget eqI m n=some (a+F5 W n)
 out:∀ n,a≤n→n∉W→mget eqI m n=none
theorem bn6 {m:List (Int×Int)} {n v:Int} (h:mget eqI m n=none):(mput eqI m n v).length=m.length+1:=by
 induction m with
 |nil=>rfl
 |cons x r ih=>
  obtain ⟨k,w⟩:=x
  simp only [mget,eqI,cg3,beq_iff_eq] at h
  split at h
  ·cases h
  ·rename_i hk
   simp only [mput,eqI,cg3,beq_iff_eq,if_neg hk,cg6]
   rw [show (mput (fun x y=>x==y) r n v).length=r.length+1 from ih h]
theorem Y6 {l r:List Int} {n:Int} (h:n∈l):F5 (l++r) n=F5 l n:=by
 induction l with
 |nil=>simp at h
 |cons x l ih=>
  simp only [List.cons_append,F5]
  by_cases hx:x=n
  ·simp [hx]
  ·rw [if_neg hx,if_neg hx,ih (by simpa [Ne.symm hx] using h)]
theorem W9 {l r:List Int} {n:Int} (h:n∉l) (hr:n∈r):F5 (l++r) n=l.length+F5 r n:=by
 induction l with
 |nil=>simp
 |cons x l ih=>
  simp only [List.mem_cons,not_or] at h
  simp only [List.cons_append,F5,if_neg (Ne.symm h.1),ih h.2,cg6,Int.natCast_add]
  have:=aY6.2 hr
  rw [if_neg (by omega)]
  omega
theorem bF8 {a:Int} (h:0≤a):Named a [] (idm a.toNat):=by
 have key:∀ k:Nat,(idm k).length=k∧(∀ n:Int,0≤n→n<k→mget eqI (idm k) n=some n)∧∀ n:Int,(k:Int)≤n→mget eqI (idm k) n=none:=by
  intro k
  induction k with
  |zero=>exact ⟨rfl,fun n h1 h2=>by omega,fun n _=>rfl⟩
  |succ k ih=>
   obtain ⟨h1,h2,h3⟩:=ih
   rw [bn5]
   refine ⟨by rw [bn6 (h3 k (Int.le_refl _)),h1],fun n h4 h5=>?_,fun n h4=>?_⟩
   ·rw [L9]
    split
    ·rename_i h6;rw [h6]
    ·exact h2 n h4 (by omega)
   ·rw [L9,if_neg (by omega)]
    exact h3 n (by omega)
 obtain ⟨h1,h2,h3⟩:=key a.toNat
 exact ⟨by rw [h1];simp;omega,fun n h4 h5=>h2 n h4 (by omega),fun n hn=>by simp at hn,fun n h4 _=>h3 n (by omega)⟩
theorem bF9 {a:Int} {W:List Int} {m:List (Int×Int)} (N:Named a W m) (ha:0≤a) {x:Int} (hx:x∉W) (hxa:a≤x):Named a (W++[x]) (mput eqI m x m.length):=by
 refine ⟨?_,fun n h1 h2=>?_,fun n hn=>?_,fun n h1 h2=>?_⟩
 ·rw [bn6 (N.out x hxa hx),ch1,ch4]
  have:=N.len
  omega
 ·rw [L9,if_neg (by omega)]
  exact N.par n h1 h2
 ·rw [L9]
  by_cases h:x=n
  ·subst h
   rw [if_pos rfl,W9 hx (by simp)]
   have:=N.len
   simp [F5]
   omega
  ·rw [if_neg h]
   have hn':n∈W:=by simpa [Ne.symm h] using hn
   rw [Y6 hn']
   exact N.wr n hn'
 ·simp only [ch7,cg1,not_or] at h2
  rw [L9,if_neg (Ne.symm h2.2)]
  exact N.out n h1 h2.1
theorem aE8 {a:Int} (ha:0≤a):∀ (l W:List Int) (m:List (Int×Int)),Named a W m→(W++l).Nodup→(∀ x∈l,a≤x)→Named a (W++l) (G3 m l).2∧(G3 m l).1=l.map fun n=>a+F5 (W++l) n:=by
 have key:∀ (l W:List Int) (s:List Int×List (Int×Int)),Named a W s.2→(W++l).Nodup→(∀ x∈l,a≤x)→Named a (W++l) (l.foldl aR2 s).2∧(l.foldl aR2 s).1=s.1++l.map fun n=>a+F5 (W++l) n:=by
  intro l
  induction l with
  |nil=>intro W s N _ _;simpa using N
  |cons x r ih=>
   intro W s N hn hl
   have hx:x∉W:=by
    intro h
    exact (List.nodup_append.1 hn).2.2 x h x (by simp) rfl
   have N':=bF9 N ha hx (hl x (by simp))
   have:=ih (W++[x]) (aR2 s x) N' (by rw [ch6];exact hn) (fun y hy=>hl y (by simp [hy]))
   rw [ch6] at this
   refine ⟨this.1,?_⟩
   rw [List.foldl_cons,this.2]
   simp only [aR2,List.singleton_append,List.map_cons,ch6]
   congr 1
   have h1:F5 (W++x::r) x=W.length:=by
    rw [W9 hx (by simp)]
    simp [F5]
   rw [h1]
   have:=N.len
   rw [this]
 intro l W m N hn hl
 have:=key l W ([],m) N hn hl
 simpa [G3] using this
theorem au2 {a:Int} (ha:0≤a):∀ (l:List Ins) (W:List Int) (m:List (Int×Int)),Named a W m→(W++wr l).Nodup→(∀ x∈wr l,a≤x)→Named a (W++wr l) (O3 m l)
 |[],W,m,N,_,_=>by simpa [wr,O3] using N
 |x::r,W,m,N,hn,hl=>by
  rw [P5,←ch6] at hn ⊢
  have h1:=aE8 ha x.to W m N (List.nodup_append.1 hn).1 (fun y hy=>hl y (by rw [P5];simp [hy]))
  exact au2 ha r (W++x.to) _ h1.1 hn (fun y hy=>hl y (by rw [P5];simp [hy]))
theorem aL1 {a:Int} {W:List Int} {m:List (Int×Int)} (N:Named a W m) {n:Int} (h:(0≤n∧n<a)∨(a≤n∧n∈W)):getI m n=S0 a W n:=by
 unfold getI S0
 rcases h with h|h
 ·rw [N.par n h.1 h.2,if_pos h.2];rfl
 ·rw [N.wr n h.2,if_neg (by omega)];rfl
theorem ai2 {a:Int} {W V:List Int} {n:Int} (h:n<a∨n∈W):S0 a (W++V) n=S0 a W n:=by
 unfold S0
 split
 ·rfl
 ·rename_i h1
  rw [Y6 (h.resolve_left h1)]
theorem ba3 {a:Int} (ha:0≤a):∀ (l:List Ins) (W V:List Int) (m:List (Int×Int)),Named a W m→(W++wr l).Nodup→(∀ x∈wr l,a≤x)→E9 a W l=true→(∀ x∈l,∀ n∈x.from_,0≤n)→(∀ x∈W,a≤x)→
  W8 m l=l.map fun x=>⟨x.op,x.n,x.to.map (S0 a (W++wr l++V)),x.from_.map (S0 a (W++wr l++V)),x.body⟩
 |[],_,_,_,_,_,_,_,_,_=>rfl
 |x::r,W,V,m,N,hn,hl,ht,hf,hW=>by
  have hn':=hn
  rw [P5,←ch6] at hn'
  have hlx:∀ y∈x.to,a≤y:=fun y hy=>hl y (by rw [P5];simp [hy])
  have h1:=aE8 ha x.to W m N (List.nodup_append.1 hn').1 hlx
  simp only [E9,cf3,ci0] at ht
  have ih:=ba3 ha r (W++x.to) V _ h1.1 hn' (fun y hy=>hl y (by rw [P5];simp [hy])) ht.2 (fun y hy=>hf y (by simp [hy])) (fun y hy=>by
   rcases ch7.1 hy with h|h
   ·exact hW y h
   ·exact hlx y h)
  have hw:W++wr (x::r)++V=W++x.to++wr r++V:=by rw [P5];simp
  simp only [W8,List.map_cons]
  rw [ih,hw]
  congr 1
  simp only [bF6,Ins.mk.injEq,true_and,and_true]
  constructor
  ·rw [h1.2]
   apply List.map_congr_left
   intro n hn
   rw [show W++x.to++wr r++V=(W++x.to)++(wr r++V) by simp,ai2 (.inr (by simp [hn]))]
   unfold S0
   rw [if_neg (by have:=hlx n hn;omega)]
  ·apply List.map_congr_left
   intro n hn
   have ht1:=ht.1 n hn
   have h0:=hf x (by simp) n hn
   have hin:n<a∨n∈W:=by simpa [List.contains_iff_mem] using ht1
   rw [show W++x.to++wr r++V=W++(x.to++wr r++V) by simp,ai2 hin]
   refine aL1 N ?_
   by_cases h2:n<a
   ·exact .inl ⟨h0,h2⟩
   ·exact .inr ⟨by omega,hin.resolve_left h2⟩
theorem bu7 {b:List Ins} (h:F3 b=true) {k:Nat} (hk:k<b.length):U5 (b.getD k ins0).to (b.getD k ins0).from_ (b.getD k ins0).body=true:=
 T2.2 ((O0 _).1 (aY9 h (K4 hk ins0)))
theorem bO5 (a:Int) (b:List Ins) (c d:List Int) (hp:F3 b=true∧c.length≤17592186044416):vc (EV [(41,cCheck),(72,cOwn),(71,cOld),(73,cCalledP)]) (bF7 a b c) Go.Proofs.Tryd.f39 cPlain (a,b,c,d,()):=by
 rw [bO4 a b c d]
 intro e0 e1 e2 e3 e4 hb hc _
 have hlc:c.length≤140737488355328:=hc.len
 have he0:e0=((I8 ⟨a,b,c,d⟩).1.params,(I8 ⟨a,b,c,d⟩).1.code,(I8 ⟨a,b,c,d⟩).1.out,(I8 ⟨a,b,c,d⟩).1.at_,(I8 ⟨a,b,c,d⟩).2,()):=rfl
 have he4:e4=ins0:=rfl
 refine ⟨fun h=>?_,fun h=>?_⟩
 ·have h:B7 ⟨a,b,c,d⟩≠0:=by simpa [e1] using h
  rw [he0]
  unfold I8
  rw [if_pos h]
  rfl
 have h:B7 ⟨a,b,c,d⟩=0:=by simpa [e1] using h
 have C:=aQ9 h
 have hlb:=C.len
 have N0:=bF8 C.pos
 have hnd:=G5.1 C.once
 have hpl:=ba3 C.pos b [] [] (idm a.toNat) N0 (by simpa using hnd) C.new C.there (fun x hx n hn=>(C.fromR x hx n hn).1) (fun x hx=>by simp at hx)
 have hM:=au2 C.pos b [] (idm a.toNat) N0 (by simpa using hnd) C.new
 rw [List.nil_append] at hM
 simp only [List.nil_append,List.append_nil] at hpl
 have he0:e0=(a,W8 (idm a.toNat) b,c.map (getI (O3 (idm a.toNat) b)),[],0,()):=by
  rw [he0]
  unfold I8
  rw [if_neg (by simpa using h)]
  have:c.map (getI (O3 (idm a.toNat) b))=c.map (S0 a (wr b)):=by
   apply List.map_congr_left
   intro n hn
   refine aL1 hM ?_
   have h1:=(C.outR n hn).1
   rcases C.outT n hn with h2|h2
   ·exact .inl ⟨h1,h2⟩
   ·exact .inr ⟨C.new n h2,h2⟩
  rw [this,hpl]
 clear_value e0 e4
 subst he0 he4
 dsimp only [e2,e3]
 simp only [true_and,and_true]
 refine ⟨⟨(0,[],()),rfl,rfl,Int.le_refl _,.inr rfl,rfl⟩,?_⟩
 rintro ⟨i,m,⟨⟩⟩ ⟨h0,h1,h2⟩
 dsimp only at h0 h1 h2 ⊢
 subst h2
 obtain ⟨k,rfl⟩:=cf6 h0
 simp only [cf4]
 refine ⟨fun hlt=>?_,fun hge=>?_⟩
 ·have hlt:(k:Int)<a:=cg0 hlt
  have:=C.few
  refine ⟨((k+1:Nat),idm (k+1),()),by rw [M6 (by omega) (by omega)];rfl,?_,⟨by omega,.inl (by dsimp only;omega),by rw [cf4]⟩,by dsimp only;omega⟩
  rw [bn5]
 have hk:k=a.toNat:=by have:¬ (k:Int)<a:=cf9 hge;omega
 subst hk
 clear h0 h1 hge
 refine ⟨hp.2,⟨(0,idm a.toNat,[],()),rfl,rfl,rfl,Int.le_refl _,by dsimp only;omega,rfl,rfl⟩,?_⟩
 rintro ⟨i,m,out,⟨⟩⟩ ⟨h0,h1,h2,h3⟩
 dsimp only at h0 h1 h2 h3 ⊢
 subst h2 h3
 obtain ⟨k,rfl⟩:=cf6 h0
 simp only [cf4]
 refine ⟨fun hlt=>?_,fun hge=>?_⟩
 ·have hlt:(k:Int)<b.length:=cg0 hlt
  refine ⟨⟨h0,hlt⟩,bu7 hp.1 (by omega),?_,((k+1:Nat),O3 (idm a.toNat) (b.take (k+1)),W8 (idm a.toNat) (b.take (k+1)),()),B6 (by omega) (by omega:b.length≤140737488355328),?_,?_,⟨by omega,by dsimp only;omega,by rw [cf4],by rw [cf4]⟩,by dsimp only;omega⟩
  ·rw [ao6,ch9,ch4];omega
  ·dsimp only
   rw [A4 (by omega) ins0,bh0]
  ·dsimp only
   rw [A4 (by omega) ins0,aE7]
   rfl
 have hk:k=b.length:=by have:¬ (k:Int)<b.length:=cf9 hge;omega
 subst hk
 rw [ch8]
 clear h0 h1 hge
 refine ⟨⟨(0,c,()),rfl,rfl,Int.le_refl _,by dsimp only;omega,by simp⟩,?_⟩
 rintro ⟨i,l,⟨⟩⟩ ⟨h0,h1,h2⟩
 dsimp only at h0 h1 h2 ⊢
 subst h2
 obtain ⟨k,rfl⟩:=cf6 h0
 simp only [cf4]
 have hA:((c.take k).map (getI (O3 (idm a.toNat) b))).length=k:=by simp;omega
 refine ⟨fun hlt=>?_,fun hge=>?_⟩
 ·have hlt:(k:Int)<c.length:=cg0 hlt
  rw [P6 hA (by omega),ak7 hA (by omega),ak8 hA (by omega)]
  refine ⟨⟨h0,hlt⟩,⟨h0,hlt⟩,((k+1:Nat),(c.take (k+1)).map (getI (O3 (idm a.toNat) b))++c.drop (k+1),()),B6 (by omega) hlc,?_,⟨by omega,by dsimp only;omega,by dsimp only;rw [cf4]⟩,by dsimp only;omega⟩
  dsimp only
  rw [A4 (by omega) 0,List.map_append]
  rfl
 ·have hk:k=c.length:=by have:¬ (k:Int)<c.length:=cf9 hge;omega
  subst hk
  simp only [ch8,List.drop_length,List.append_nil]
theorem bh1:C6 prog RG 39 cPlain:=E2 (A6 U1 (A6 aY8 (A6 ba1 (A6 aR4 C0)))) (fun p=>bF7 p.1 p.2.1 p.2.2.1) (by kernel_rfl) (by kernel_rfl) (by kernel_rfl) fun (a,b,c,d,()) hp=>bO5 a b c d hp
def L5 (b:List Ins):Bool:=b.all fun x=>decide (x.from_.length≤17592186044400)&&decide (x.to.length≤17592186044400)
def G6 (n:Int) (l:List Int):Bool:=l.all fun x=>decide (0≤x)&&decide (x<n)
def ae4 (slots cells:Int) (x:RIns):Bool:=
 if x.kind=0 then G6 slots x.ins.from_&&G6 slots x.ins.to else if x.kind=1∨x.kind=2 then G6 slots [x.slot]&&G6 cells [x.cell] else false
def aa9 (slots cells:Int) (p:Place):Bool:=G6 (if p.cell then cells else slots) [p.n]
def H7 (c:RCode):Bool:=
 (G6 4001 [c.params]&&G6 65 [c.slots]&&decide (1≤c.slots)&&decide (c.params≤c.cells)&&decide (c.cells≤8000))&&c.code.all (ae4 c.slots c.cells)&&c.out.all (aa9 c.slots c.cells)
def cShaped:Con RU:=con [(true,5)] br2 [one] [.bool] [false] (some fun p=>-9223372036854775808≤p.2.1∧p.2.1<9223372036854775808) fun p=>(H7 ⟨p.1,p.2.1,p.2.2.1,p.2.2.2.1,p.2.2.2.2.1⟩,())
def bh2 (slots cells:Int) (l:List RIns) (o:List Place):Nat→St RU→Ann RU:=fun k s=>match k with
 |0=>⟨[],[.slot 36],[i64],fun p=>0≤p.1∧p.1≤l.length∧(l.take p.1.toNat).all (ae4 slots cells)=true,fun p=>l.length-p.1.toNat,[]⟩
 |_=>⟨[],[.slot 83],[i64],fun p=>0≤p.1∧p.1≤o.length∧(o.take p.1.toNat).all (aa9 slots cells)=true,fun p=>o.length-p.1.toNat,[]⟩
theorem bG0 (x1 x2 x3:Int) (l:List RIns) (o:List Place):vc (EV [(92,cIn)]) (bh2 x2 x3 l o) Go.Proofs.Tryd.f60 cShaped (x1,x2,x3,l,o,())=(
 let e0:Bool:=
  ((!List.all [x1] fun (n:den RU.T i64)=>decide ((0:Int)≤n)&&decide (n<(4001:Int)))||
  !List.all [IntKind.i64.wrap (x2-(1:Int))] fun (n:den RU.T i64)=>decide ((0:Int)≤n)&&decide (n<(64:Int)))||
  decide (x3<x1)||
  decide (x3 >(8000:Int));
 let e1:Int:=(↑(List.length l):Int);
 let e2:RIns:=RIns.mk (0:Int) (0:Int) (0:Int) ins0;
 let e3:Int:=(↑(List.length o):Int);
 let e4:Place:=Place.mk false (0:Int);
  Small RU (Sigma.mk (Ty.slice (55:Nat) (Ty.user (1:Nat))) l)→
  Small RU (Sigma.mk (Ty.slice (59:Nat) (Ty.user (2:Nat))) o)→
  (e0=true→(false,())=(H7 (RCode.mk x1 x2 x3 l o),()))∧
  (e0=false→
  (∃ (p:Int×Unit),
  x1=x1∧
  x2=x2∧
  x3=x3∧
  l=l∧
  o=o∧
  e0=e0∧
  l=l∧
  e1=e1∧
  (0:Int)=p.1∧
  x1=x1∧x2=x2∧x3=x3∧l=l∧o=o∧[x1]=[x1]∧(0:Int)≤p.1∧p.1≤e1∧List.all (List.take (Int.toNat p.1) l) (ae4 x2 x3)=true)∧
  ∀ (p:Int×Unit),
 let e0_1:Bool:=
  (!List.all [bif (List.getD l (Int.toNat p.1) e2).kind==(1:Int) then (List.getD l (Int.toNat p.1) e2).slot else (List.getD l (Int.toNat p.1) e2).slot] fun (n:den RU.T i64)=>
  decide ((0:Int)≤n)&&decide (n<bif (List.getD l (Int.toNat p.1) e2).kind==(1:Int) then x2 else x2))||
  !List.all [bif (List.getD l (Int.toNat p.1) e2).kind==(1:Int) then (List.getD l (Int.toNat p.1) e2).cell else (List.getD l (Int.toNat p.1) e2).cell] fun (n:den RU.T i64)=>
  decide ((0:Int)≤n)&&decide (n<bif (List.getD l (Int.toNat p.1) e2).kind==(1:Int) then x3 else x3);
 let e1_1:Bool:=
  (!List.all (List.getD l (Int.toNat p.1) e2).ins.from_ fun (n:den RU.T i64)=>decide ((0:Int)≤n)&&decide (n<x2))||
  !List.all (List.getD l (Int.toNat p.1) e2).ins.to fun (n:den RU.T i64)=>decide ((0:Int)≤n)&&decide (n<x2);
 let e2_1:Bool:=(List.getD l (Int.toNat p.1) e2).kind==(1:Int);
 let e3_1:Bool:=decide (p.1<e1);
 let e4_1:Bool:=bif e2_1 then e2_1 else (List.getD l (Int.toNat p.1) e2).kind==(2:Int);
 let e5:Bool:=(List.getD l (Int.toNat p.1) e2).kind==(0:Int);
  (0:Int)≤p.1∧p.1≤e1∧List.all (List.take (Int.toNat p.1) l) (ae4 x2 x3)=true→
  (e3_1=true→
  ((0:Int)≤p.1∧p.1<e1)∧
  (e5=true→
  (e1_1=true→(false,())=(H7 (RCode.mk x1 x2 x3 l o),()))∧
  (e1_1=false→
  ∃ (p':Int×Unit),
  x1=x1∧
  x2=x2∧
  x3=x3∧
  l=l∧
  o=o∧
  e0=e0∧
  l=l∧
  e1=e1∧
  IntKind.i64.wrap (p.1+(1:Int))=p'.1∧
  x1=x1∧
  x2=x2∧
  x3=x3∧
  l=l∧
  o=o∧
  [x1]=[x1]∧
  ((0:Int)≤p'.1∧p'.1≤e1∧List.all (List.take (Int.toNat p'.1) l) (ae4 x2 x3)=true)∧
  List.length l-Int.toNat p'.1<List.length l-Int.toNat p.1))∧
  (e5=false→
  (e4_1=true→
  (e0_1=true→(false,())=(H7 (RCode.mk x1 x2 x3 l o),()))∧
  (e0_1=false→
  ∃ (p':Int×Unit),
  (bif e2_1 then x1 else x1)=x1∧
  (bif e2_1 then x2 else x2)=x2∧
  (bif e2_1 then x3 else x3)=x3∧
  (bif e2_1 then l else l)=l∧
  (bif e2_1 then o else o)=o∧
  (bif e2_1 then e0 else e0)=e0∧
  (bif e2_1 then l else l)=l∧
  (bif e2_1 then e1 else e1)=e1∧
  IntKind.i64.wrap ((bif e2_1 then p.1 else p.1)+(1:Int))=p'.1∧
  (bif e2_1 then x1 else x1)=x1∧
  (bif e2_1 then x2 else x2)=x2∧
  (bif e2_1 then x3 else x3)=x3∧
  (bif e2_1 then l else l)=l∧
  (bif e2_1 then o else o)=o∧
  (bif e2_1 then [x1] else [x1])=[x1]∧
  ((0:Int)≤p'.1∧p'.1≤e1∧List.all (List.take (Int.toNat p'.1) l) (ae4 x2 x3)=true)∧
  List.length l-Int.toNat p'.1<List.length l-Int.toNat p.1))∧
  (e4_1=false→(false,())=(H7 (RCode.mk x1 x2 x3 l o),()))))∧
  (e3_1=false→
  (∃ (p_1:Int×Unit),
  x1=x1∧
  x2=x2∧
  x3=x3∧
  l=l∧
  o=o∧
  e0=e0∧
  l=l∧
  e1=e1∧
  p.1=p.1∧
  e3_1=e3_1∧
  o=o∧
  e3=e3∧
  (0:Int)=p_1.1∧
  x1=x1∧
  x2=x2∧
  x3=x3∧l=l∧o=o∧[x1]=[x1]∧(0:Int)≤p_1.1∧p_1.1≤e3∧List.all (List.take (Int.toNat p_1.1) o) (aa9 x2 x3)=true)∧
  ∀ (p_1:Int×Unit),
 let e0_2:Bool:=
  !List.all [bif (List.getD o (Int.toNat p_1.1) e4).cell then (List.getD o (Int.toNat p_1.1) e4).n else (List.getD o (Int.toNat p_1.1) e4).n] fun (n:den RU.T i64)=>
  decide ((0:Int)≤n)&&decide (n<bif (List.getD o (Int.toNat p_1.1) e4).cell then x3 else x2);
 let e1_2:Bool:=(List.getD o (Int.toNat p_1.1) e4).cell;
 let e2:Bool:=decide (p_1.1<e3);
  (0:Int)≤p_1.1∧p_1.1≤e3∧List.all (List.take (Int.toNat p_1.1) o) (aa9 x2 x3)=true→
  (e2=true→
  ((0:Int)≤p_1.1∧p_1.1<e3)∧
  (e0_2=true→(false,())=(H7 (RCode.mk x1 x2 x3 l o),()))∧
  (e0_2=false→
  ∃ (p':Int×Unit),
  (bif e1_2 then x1 else x1)=x1∧
  (bif e1_2 then x2 else x2)=x2∧
  (bif e1_2 then x3 else x3)=x3∧
  (bif e1_2 then l else l)=l∧
  (bif e1_2 then o else o)=o∧
  (bif e1_2 then e0 else e0)=e0∧
  (bif e1_2 then l else l)=l∧
  (bif e1_2 then e1 else e1)=e1∧
  (bif e1_2 then p.1 else p.1)=p.1∧
  (bif e1_2 then e3_1 else e3_1)=e3_1∧
  (bif e1_2 then o else o)=o∧
  (bif e1_2 then e3 else e3)=e3∧
  IntKind.i64.wrap ((bif e1_2 then p_1.1 else p_1.1)+(1:Int))=p'.1∧
  (bif e1_2 then x1 else x1)=x1∧
  (bif e1_2 then x2 else x2)=x2∧
  (bif e1_2 then x3 else x3)=x3∧
  (bif e1_2 then l else l)=l∧
  (bif e1_2 then o else o)=o∧
  (bif e1_2 then [x1] else [x1])=[x1]∧
  ((0:Int)≤p'.1∧p'.1≤e3∧List.all (List.take (Int.toNat p'.1) o) (aa9 x2 x3)=true)∧
  List.length o-Int.toNat p'.1<List.length o-Int.toNat p_1.1))∧
  (e2=false→(true,())=(H7 (RCode.mk x1 x2 x3 l o),()))))):=by kernel_rfl
theorem bu8 (n:Int) (l:List Int):(l.all fun x=>decide (0≤x)&&decide (x<n))=G6 n l:=rfl
theorem aR5 {α:Type} {p:α→Bool} {l:List α} {k:Nat} (d:α) (hk:k<l.length) (h:p (l.getD k d)=false):l.all p=false:=by
 rw [Bool.eq_false_iff]
 intro ha
 have:=ci0.1 ha _ (K4 hk d)
 rw [h] at this
 cases this
theorem ao7 {α:Type} {p:α→Bool} {l:List α} {k:Nat} (d:α) (hk:k<l.length) (h:(l.take k).all p=true) (h2:p (l.getD k d)=true):(l.take (k+1)).all p=true:=by
 rw [A4 hk d,List.all_append,h]
 simpa using h2
theorem bG1 (x1 x2 x3:Int) (l:List RIns) (o:List Place) (hp:-9223372036854775808≤x2∧x2<9223372036854775808):vc (EV [(92,cIn)]) (bh2 x2 x3 l o) Go.Proofs.Tryd.f60 cShaped (x1,x2,x3,l,o,()):=by
 rw [bG0 x1 x2 x3 l o]
 intro e0 e1 e2 e3 e4 hsl hso
 have hll:l.length≤140737488355328:=hsl.len
 have hlo:o.length≤140737488355328:=hso.len
 have he0:e0=!(G6 4001 [x1]&&G6 65 [x2]&&decide (1≤x2)&&decide (x1≤x3)&&decide (x3≤8000)):=by
  show (((!G6 4001 [x1])||!G6 64 [IntKind.i64.wrap (x2-1)])||decide (x3<x1)||decide (x3 >8000))=_
  have hw:G6 64 [IntKind.i64.wrap (x2-1)]=(G6 65 [x2]&&decide (1≤x2)):=by
   simp only [G6,List.all_cons,List.all_nil,Bool.and_true]
   by_cases h:x2=-9223372036854775808
   ·subst h;decide
   ·rw [M6 (by omega) (by omega),Bool.eq_iff_iff]
    simp
    omega
  have hx:decide (x3<x1)=!decide (x1≤x3):=by rw [Bool.eq_iff_iff];simp
  have hy:decide (x3 >8000)=!decide (x3≤8000):=by rw [Bool.eq_iff_iff];simp
  rw [hw,hx,hy]
  cases G6 4001 [x1]<;>cases G6 65 [x2]<;>cases decide (1≤x2)<;>cases decide (x1≤x3)<;>rfl
 have hS:H7 ⟨x1,x2,x3,l,o⟩=(!e0&&l.all (ae4 x2 x3)&&o.all (aa9 x2 x3)):=by
  rw [he0,Bool.not_not]
  rfl
 clear_value e0
 rw [hS]
 dsimp only [e1,e2,e3,e4]
 simp only [true_and,and_true,Bool.cond_self,bu8]
 refine ⟨fun h=>by rw [h];rfl,fun h=>?_⟩
 rw [h]
 simp only [Bool.not_false,Bool.true_and]
 refine ⟨⟨(0,()),rfl,Int.le_refl _,by dsimp only;omega,by simp⟩,?_⟩
 rintro ⟨i,⟨⟩⟩ ⟨h0,h1,h2⟩
 dsimp only at h0 h1 h2 ⊢
 obtain ⟨k,rfl⟩:=cf6 h0
 simp only [cf4] at h2 ⊢
 have hd:(⟨0,0,0,ins0⟩:RIns)=rins0:=rfl
 rw [hd]
 refine ⟨fun hlt=>?_,fun hge=>?_⟩
 ·have hlt:(k:Int)<l.length:=cg0 hlt
  have no:ae4 x2 x3 (l.getD k rins0)=false→(false,())=(l.all (ae4 x2 x3)&&o.all (aa9 x2 x3),()):=fun hf=>by rw [aR5 rins0 (by omega) hf];rfl
  have yes:ae4 x2 x3 (l.getD k rins0)=true→∃ p':Int×Unit,IntKind.i64.wrap ((k:Int)+1)=p'.1∧(0≤p'.1∧p'.1≤(l.length:Int)∧(l.take p'.1.toNat).all (ae4 x2 x3)=true)∧l.length-p'.1.toNat<l.length-k:=fun ht=>
   ⟨((k+1:Nat),()),B6 (by omega) hll,⟨by omega,by dsimp only;omega,by dsimp only;rw [cf4];exact ao7 rins0 (by omega) h2 ht⟩,by dsimp only;omega⟩
  generalize l.getD k rins0=x at no yes ⊢
  refine ⟨⟨h0,hlt⟩,fun hk=>?_,fun hk=>?_⟩
  ·have hk:x.kind=0:=eq_of_beq hk
   have hi:ae4 x2 x3 x=(G6 x2 x.ins.from_&&G6 x2 x.ins.to):=by simp only [ae4,if_pos hk]
   rw [hi] at no yes
   refine ⟨fun h3=>no ?_,fun h3=>yes ?_⟩
   ·revert h3;cases G6 x2 x.ins.from_<;>cases G6 x2 x.ins.to<;>simp
   ·revert h3;cases G6 x2 x.ins.from_<;>cases G6 x2 x.ins.to<;>simp
  ·have hk:¬ x.kind=0:=by simpa using hk
   refine ⟨fun h3=>?_,fun h3=>?_⟩
   ·have h3:x.kind=1∨x.kind=2:=by
     by_cases h4:x.kind=1
     ·exact .inl h4
     ·right
      rw [show (x.kind==1)=false from beq_eq_false_iff_ne.2 h4] at h3
      exact eq_of_beq h3
    have hi:ae4 x2 x3 x=(G6 x2 [x.slot]&&G6 x3 [x.cell]):=by simp only [ae4,if_neg hk,if_pos h3]
    rw [hi] at no yes
    refine ⟨fun h3=>no ?_,fun h3=>yes ?_⟩
    ·revert h3;cases G6 x2 [x.slot]<;>cases G6 x3 [x.cell]<;>simp
    ·revert h3;cases G6 x2 [x.slot]<;>cases G6 x3 [x.cell]<;>simp
   ·have h3:¬ (x.kind=1∨x.kind=2):=by
     rintro (h4|h4)
     ·rw [h4] at h3;cases h3
     ·rw [h4] at h3;cases h3
    exact no (by simp only [ae4,if_neg hk,if_neg h3])
 ·have hk:k=l.length:=by have:¬ (k:Int)<l.length:=cf9 hge;omega
  subst hk
  rw [ch8] at h2
  rw [h2]
  simp only [Bool.true_and]
  refine ⟨⟨(0,()),rfl,Int.le_refl _,by dsimp only;omega,by simp⟩,?_⟩
  rintro ⟨i,⟨⟩⟩ ⟨i0,i1,i2⟩
  dsimp only at i0 i1 i2 ⊢
  obtain ⟨j,rfl⟩:=cf6 i0
  simp only [cf4] at i2 ⊢
  have hd:(⟨false,0⟩:Place)=place0:=rfl
  rw [hd]
  refine ⟨fun hlt=>?_,fun hge=>?_⟩
  ·have hlt:(j:Int)<o.length:=cg0 hlt
   have hpl:∀ x:Place,G6 (bif x.cell then x3 else x2) [x.n]=aa9 x2 x3 x:=fun x=>by
    unfold aa9
    cases x.cell<;>rfl
   rw [hpl]
   refine ⟨⟨i0,hlt⟩,fun hf=>?_,fun ht=>⟨((j+1:Nat),()),B6 (by omega) hlo,⟨by omega,by dsimp only;omega,?_⟩,by dsimp only;omega⟩⟩
   ·rw [aR5 place0 (by omega) (Bool.not_eq_true' _▸hf)]
   ·dsimp only
    rw [cf4]
    exact ao7 place0 (by omega) i2 (Bool.not_eq_false' _▸ht)
  ·have hj:j=o.length:=by have:¬ (j:Int)<o.length:=cf9 hge;omega
   subst hj
   rw [ch8] at i2
   rw [i2]
theorem ba4:C6 prog RG 60 cShaped:=E2 (A6 bM8 C0) (fun p=>bh2 p.2.1 p.2.2.1 p.2.2.2.1 p.2.2.2.2.1) (by kernel_rfl) (by kernel_rfl) (by kernel_rfl) fun (x1,x2,x3,l,o,()) hp=>bG1 x1 x2 x3 l o hp
abbrev Holds:=List (Place×Int)
def getF (m:Holds) (n:Int):Int:=(mget eqP m ⟨false,n⟩).getD 0
def cGetF:Con RU:=⟨[one,one],[i64,mapP],[.d 0,.ptr 0 0],[.box 83 [.map 1],.map 1],none,none,[one],[i64,mapP],[.d 0],[.box 83 [.map 1],.map 1],fun p=>(getF p.2.1 p.1,p.2),[0,1],[],[]⟩
def cNewF:Con RU:=⟨[one,one,one],[i64,i64,mapP],[.d 0,.ptr 0 0,.ptr 1 0],[.box 3 [.d 1],.box 83 [.map 2],.map 2],some fun p=>0≤p.2.1∧p.2.1≤4611686018427387904,none,[one],[i64,i64,mapP],[.d 0],[.box 3 [.d 1],.box 83 [.map 2],.map 2],
 fun p=>(p.2.1,p.2.1+1,mput eqP p.2.2.1 ⟨false,p.1⟩ p.2.1,()),[1],[],[]⟩
def bh3 (s:List Int×Int×Holds) (n:Int):List Int×Int×Holds:=(s.1++[s.2.1],s.2.1+1,mput eqP s.2.2 ⟨false,n⟩ s.2.1)
def E7 (nx:Int) (m:Holds) (l:List Int):List Int×Int×Holds:=l.foldl bh3 ([],nx,m)
def cCalledF:Con RU:=⟨[(true,5),one,one],[i64,i64,ints,ints,inss,i64,mapP],[.d 0,.d 1,.d 2,.d 3,.d 4,.clo 90 [0,1],.clo 91 [1]],[.box 3 [.d 5],.box 83 [.map 2],.map 6],some fun p=>U5 p.2.2.1 p.2.2.2.1 p.2.2.2.2.1=true∧0≤p.2.2.2.2.2.1∧p.2.2.2.2.2.1≤2305843009213693952,none,
 [(true,5)],[i64,i64,ints,ints,inss,i64,mapP],[.d 0,.d 1,.d 2,.d 3,.d 4],[.box 3 [.d 5],.box 83 [.map 2],.map 6],
 fun p=>(p.1,p.2.1,(E7 p.2.2.2.2.2.1 p.2.2.2.2.2.2.1 p.2.2.1).1,p.2.2.2.1.map (getF p.2.2.2.2.2.2.1),p.2.2.2.2.1,(E7 p.2.2.2.2.2.1 p.2.2.2.2.2.2.1 p.2.2.1).2.1,(E7 p.2.2.2.2.2.1 p.2.2.2.2.2.2.1 p.2.2.1).2.2,()),[1],[],[]⟩
def aR6 (x1 x2:Int) (x3 x4:List Int) (x5:List Ins) (nx:Int) (m:Holds):Nat→St RU→Ann RU:=fun k s=>match k with
 |0=>⟨[],[.slot 20,.row 896],[i64,inss],fun p=>0≤p.1∧p.1≤x4.length∧p.2.1=[⟨x1,x2,x3,(x4.take p.1.toNat).map (getF m)++x4.drop p.1.toNat,x5⟩],fun p=>x4.length-p.1.toNat,[]⟩
 |_=>⟨[],[.slot 36,.row 896,.box 1000000 0,.row 1000002],[i64,inss,i64,mapP],fun p=>0≤p.1∧p.1≤x3.length∧p.2.1=[⟨x1,x2,(E7 nx m (x3.take p.1.toNat)).1++x3.drop p.1.toNat,x4.map (getF m),x5⟩]∧p.2.2.1=(E7 nx m (x3.take p.1.toNat)).2.1∧p.2.2.2.1=(E7 nx m (x3.take p.1.toNat)).2.2,fun p=>x3.length-p.1.toNat,[]⟩
theorem bX1 (n:Int) (m:Holds):vc (EV []) noL Go.Proofs.Tryd.f91 cGetF (n,m,())=((Option.getD (mget (E1 RU (Ty.user (2:Nat))) m (Place.mk false n)) (0:Int),m,())=(getF m n,m,())):=by kernel_rfl
theorem bX2 (n nx:Int) (m:Holds):vc (EV []) noL Go.Proofs.Tryd.f90 cNewF (n,nx,m,())=(
 let e0:Int:=IntKind.i64.wrap (nx+(1:Int));
  (IntKind.i64.wrap (e0-(1:Int)),e0,mput (E1 RU (Ty.user (2:Nat))) m (Place.mk false n) nx,())=(nx,nx+(1:Int),mput eqP m (Place.mk false n) nx,())):=by kernel_rfl
theorem bu9 (x1 x2:Int) (x3 x4:List Int) (x5:List Ins) (nx:Int) (m:Holds):vc (EV [(96,cBody),(91,cGetF),(90,cNewF)]) (aR6 x1 x2 x3 x4 x5 nx m) Go.Proofs.Tryd.f73 cCalledF (x1,x2,x3,x4,x5,nx,m,())=(
 let e0:Ins:=Ins.mk (0:Int) (0:Int) [] [] [];
 let e1:List Ins:=[Ins.mk x1 x2 x3 x4 x5];
 let e2:Int:=(↑(List.length x4):Int);
  Small RU (Sigma.mk (Ty.slice (3:Nat) (Ty.int IntKind.i64)) x3)→
  Small RU (Sigma.mk (Ty.slice (3:Nat) (Ty.int IntKind.i64)) x4)→
  Small RU (Sigma.mk (Ty.slice (52:Nat) (Ty.user (0:Nat))) x5)→
  (List.length e1≤(1599289640354:Nat)∧F3 e1=true)∧
  ((0:Int)≤(0:Int)∧(0:Int)<(↑(List.length e1):Int))∧
  (∃ (p:Int×List Ins×Unit),
  x1=x1∧
  x2=x2∧
  x3=x3∧
  x4=x4∧
  x5=x5∧
  (0:Int)=(0:Int)∧
  e2=e2∧
  (0:Int)=p.1∧
  nx=nx∧
  m=m∧
  x1=x1∧
  x2=x2∧
  x3=x3∧
  x4=x4∧
  x5=x5∧
  (0:Int)=(0:Int)∧
  (0:Int)=(0:Int)∧
  e1=e1∧
  e1=p.2.1∧
  x1=x1∧
  x2=x2∧
  (0:Int)=(0:Int)∧
  (0:Int)=(0:Int)∧
  x5=x5∧
  (0:Int)≤p.1∧
  p.1≤e2∧p.2.1=[Ins.mk x1 x2 x3 (List.map (getF m) (List.take (Int.toNat p.1) x4)++List.drop (Int.toNat p.1) x4) x5])∧
  ∀ (p:Int×List Ins×Unit),
 let e0_1:Ins:=List.getD p.2.1 (0:Nat) e0;
 let e1_1:Bool:=decide (p.1<e2);
 let e2_1:Int:=p.1;
 let e3:List Ins:=p.2.1;
 let e4:Int:=(↑(List.length e0_1.to):Int);
  (0:Int)≤e2_1∧e2_1≤e2∧e3=[Ins.mk x1 x2 x3 (List.map (getF m) (List.take (Int.toNat e2_1) x4)++List.drop (Int.toNat e2_1) x4) x5]→
  (e1_1=true→
  ((0:Int)≤e2_1∧e2_1<(↑(List.length e0_1.from_):Int))∧
  (True∧m=m∧True)∧
  ((0:Int)≤e2_1∧e2_1<(↑(List.length e0_1.from_):Int))∧
  ∃ (p':Int×List Ins×Unit),
  x1=x1∧
  x2=x2∧
  x3=x3∧
  x4=x4∧
  x5=x5∧
  (0:Int)=(0:Int)∧
  e2=e2∧
  IntKind.i64.wrap (e2_1+(1:Int))=p'.1∧
  nx=nx∧
  m=m∧
  x1=x1∧
  x2=x2∧
  x3=x3∧
  x4=x4∧
  x5=x5∧
  (0:Int)=(0:Int)∧
  (0:Int)=(0:Int)∧
  e1=e1∧
  List.set e3 (0:Nat)
  (Ins.mk e0_1.op e0_1.n e0_1.to (List.set e0_1.from_ (Int.toNat e2_1) (getF m (List.getD e0_1.from_ (Int.toNat e2_1) (0:Int))))
  e0_1.body)=
  p'.2.1∧
  x1=x1∧
  x2=x2∧
  (0:Int)=(0:Int)∧
  (0:Int)=(0:Int)∧
  x5=x5∧
  ((0:Int)≤p'.1∧
  p'.1≤e2∧
  p'.2.1=
  [Ins.mk x1 x2 x3 (List.map (getF m) (List.take (Int.toNat p'.1) x4)++List.drop (Int.toNat p'.1) x4) x5])∧
  List.length x4-Int.toNat p'.1<List.length x4-Int.toNat e2_1)∧
  (e1_1=false→
  (∃ (p:Int×List Ins×Int×List (Place×Int)×Unit),
  x1=x1∧
  x2=x2∧
  x3=x3∧
  x4=x4∧
  x5=x5∧
  (0:Int)=(0:Int)∧
  e2=e2∧
  e2_1=e2_1∧
  e1_1=e1_1∧
  (0:Int)=(0:Int)∧
  e4=e4∧
  (0:Int)=p.1∧
  nx=p.2.2.1∧
  m=p.2.2.2.1∧
  x1=x1∧
  x2=x2∧
  x3=x3∧
  x4=x4∧
  x5=x5∧
  (0:Int)=(0:Int)∧
  (0:Int)=(0:Int)∧
  e1=e1∧
  e3=p.2.1∧
  x1=x1∧
  x2=x2∧
  (0:Int)=(0:Int)∧
  (0:Int)=(0:Int)∧
  x5=x5∧
  (0:Int)≤p.1∧
  p.1≤(↑(List.length x3):Int)∧
  p.2.1=
  [Ins.mk x1 x2 ((E7 nx m (List.take (Int.toNat p.1) x3)).1++List.drop (Int.toNat p.1) x3)
  (List.map (getF m) x4) x5]∧
  p.2.2.1=(E7 nx m (List.take (Int.toNat p.1) x3)).2.1∧
  p.2.2.2.1=(E7 nx m (List.take (Int.toNat p.1) x3)).2.2)∧
  ∀ (p:Int×List Ins×Int×List (Place×Int)×Unit),
 let e0_2:Int:=p.2.2.1;
 let e1_2:Ins:=List.getD p.2.1 (0:Nat) e0;
 let e2_2:List (Place×Int):=p.2.2.2.1;
 let e3:Int:=p.1;
 let e4_1:List Ins:=p.2.1;
 let e5:Bool:=decide (e3<e4);
 let e6:Int×List (Place×Int):=(E7 nx m (List.take (Int.toNat e3) x3)).2;
  (0:Int)≤e3∧
  e3≤(↑(List.length x3):Int)∧
  e4_1=[Ins.mk x1 x2 ((E7 nx m (List.take (Int.toNat e3) x3)).1++List.drop (Int.toNat e3) x3) (List.map (getF m) x4) x5]∧e0_2=e6.1∧e2_2=e6.2→
  (e5=true→
  ((0:Int)≤e3∧e3<(↑(List.length e1_2.to):Int))∧
  (((0:Int)≤e0_2∧e0_2≤(4611686018427387904:Int))∧True)∧
  ((0:Int)≤e3∧e3<(↑(List.length e1_2.to):Int))∧
  ∃ (p':Int×List Ins×Int×List (Place×Int)×Unit),
  x1=x1∧
  x2=x2∧
  x3=x3∧
  x4=x4∧
  x5=x5∧
  (0:Int)=(0:Int)∧
  e2=e2∧
  e2_1=e2_1∧
  e1_1=e1_1∧
  (0:Int)=(0:Int)∧
  e4=e4∧
  IntKind.i64.wrap (e3+(1:Int))=p'.1∧
  e0_2+(1:Int)=p'.2.2.1∧
  mput eqP e2_2 (Place.mk false (List.getD e1_2.to (Int.toNat e3) (0:Int))) e0_2=p'.2.2.2.1∧
  x1=x1∧
  x2=x2∧
  x3=x3∧
  x4=x4∧
  x5=x5∧
  (0:Int)=(0:Int)∧
  (0:Int)=(0:Int)∧
  e1=e1∧
  List.set e4_1 (0:Nat) (Ins.mk e1_2.op e1_2.n (List.set e1_2.to (Int.toNat e3) e0_2) e1_2.from_ e1_2.body)=
  p'.2.1∧
  x1=x1∧
  x2=x2∧
  (0:Int)=(0:Int)∧
  (0:Int)=(0:Int)∧
  x5=x5∧
  ((0:Int)≤p'.1∧
  p'.1≤(↑(List.length x3):Int)∧
  p'.2.1=
  [Ins.mk x1 x2
  ((E7 nx m (List.take (Int.toNat p'.1) x3)).1++List.drop (Int.toNat p'.1) x3)
  (List.map (getF m) x4) x5]∧
  p'.2.2.1=(E7 nx m (List.take (Int.toNat p'.1) x3)).2.1∧
  p'.2.2.2.1=(E7 nx m (List.take (Int.toNat p'.1) x3)).2.2)∧
  List.length x3-Int.toNat p'.1<List.length x3-Int.toNat e3)∧
  (e5=false→
  (x1,x2,e1_2.to,e1_2.from_,x5,e0_2,e2_2,())=(x1,x2,(E7 nx m x3).1,List.map (getF m) x4,x5,(E7 nx m x3).2.1,(E7 nx m x3).2.2,())))):=by kernel_rfl
theorem bX3 (n:Int) (m:Holds):vc (EV []) noL Go.Proofs.Tryd.f91 cGetF (n,m,()):=by
 rw [bX1 n m]
 rfl
theorem bv0:C6 prog RG 91 cGetF:=E2 C0 (fun _=>noL) (by kernel_rfl) (by kernel_rfl) (by kernel_rfl) fun (n,m,()) _=>bX3 n m
theorem bX4 (n nx:Int) (m:Holds) (hp:0≤nx∧nx≤4611686018427387904):vc (EV []) noL Go.Proofs.Tryd.f90 cNewF (n,nx,m,()):=by
 rw [bX2 n nx m]
 dsimp only
 rw [M6 (n:=nx+1) (by omega) (by omega),show nx+1-1=nx by omega,M6 (by omega) (by omega)]
 rfl
theorem bv1:C6 prog RG 90 cNewF:=E2 C0 (fun _=>noL) (by kernel_rfl) (by kernel_rfl) (by kernel_rfl) fun (n,nx,m,()) hp=>bX4 n nx m hp
theorem bh4 (nx:Int) (m:Holds) (l:List Int) (x:Int):E7 nx m (l++[x])=bh3 (E7 nx m l) x:=by simp [E7]
theorem ab0 (nx:Int) (m:Holds) (l:List Int):(E7 nx m l).1.length=l.length∧(E7 nx m l).2.1=nx+l.length:=by
 have key:∀ (l:List Int) (s:List Int×Int×Holds),(l.foldl bh3 s).1.length=s.1.length+l.length∧(l.foldl bh3 s).2.1=s.2.1+l.length:=by
  intro l
  induction l with
  |nil=>intro s;simp
  |cons x r ih=>
   intro s
   have:=ih (bh3 s x)
   simp only [List.foldl_cons,cg6,bh3,ch1,List.length_nil] at this ⊢
   omega
 have:=key l ([],nx,m)
 simpa [E7] using this
theorem bv2 (x1 x2:Int) (x3 x4:List Int) (x5:List Ins) (nx:Int) (m:Holds) (hp:U5 x3 x4 x5=true∧0≤nx∧nx≤2305843009213693952):vc (EV [(96,cBody),(91,cGetF),(90,cNewF)]) (aR6 x1 x2 x3 x4 x5 nx m) Go.Proofs.Tryd.f73 cCalledF (x1,x2,x3,x4,x5,nx,m,()):=by
 rw [bu9 x1 x2 x3 x4 x5 nx m]
 intro e0 e1 e2 hs3 hs4 _
 have hl3:x3.length≤140737488355328:=hs3.len
 have hl4:x4.length≤140737488355328:=hs4.len
 dsimp only [e0,e1,e2]
 simp only [true_and,and_true]
 refine ⟨⟨by simp,?_⟩,⟨by omega,by simp⟩,⟨(0,_,()),rfl,rfl,Int.le_refl _,by dsimp only;omega,by simp⟩,?_⟩
 ·simp only [F3,Bool.and_true]
  exact (O0 _).2 (T2.1 hp.1)
 rintro ⟨i,l,⟨⟩⟩ ⟨h0,h1,h2⟩
 dsimp only at h0 h1 h2 ⊢
 subst h2
 obtain ⟨k,rfl⟩:=cf6 h0
 simp only [cf4,List.getD_cons_zero,List.set_cons_zero]
 have hA:((x4.take k).map (getF m)).length=k:=by simp;omega
 refine ⟨fun hlt=>?_,fun hge=>?_⟩
 ·have hlt:(k:Int)<x4.length:=cg0 hlt
  rw [P6 hA (by omega),ak7 hA (by omega),ak8 hA (by omega)]
  refine ⟨⟨h0,hlt⟩,⟨h0,hlt⟩,((k+1:Nat),[⟨x1,x2,x3,(x4.take (k+1)).map (getF m)++x4.drop (k+1),x5⟩],()),B6 (by omega) hl4,?_,⟨by omega,by dsimp only;omega,by dsimp only;rw [cf4]⟩,by dsimp only;omega⟩
  dsimp only
  rw [A4 (by omega) 0,List.map_append]
  rfl
 have hk:k=x4.length:=by have:¬ (k:Int)<x4.length:=cf9 hge;omega
 subst hk
 simp only [ch8,List.drop_length,List.append_nil]
 clear h0 h1 hge hA
 refine ⟨⟨(0,_,nx,m,()),rfl,rfl,rfl,rfl,Int.le_refl _,by dsimp only;omega,by simp [E7],by simp [E7],by simp [E7]⟩,?_⟩
 rintro ⟨i,l,nx2,m2,⟨⟩⟩ ⟨h0,h1,h2,h3,h4⟩
 dsimp only at h0 h1 h2 h3 h4 ⊢
 subst h2 h3 h4
 obtain ⟨k,rfl⟩:=cf6 h0
 simp only [cf4,List.getD_cons_zero,List.set_cons_zero]
 have hN:=ab0 nx m (x3.take k)
 have hA:(E7 nx m (x3.take k)).1.length=k:=by rw [hN.1,ch9];omega
 have hB:(E7 nx m (x3.take k)).2.1=nx+k:=by rw [hN.2,ch9];omega
 refine ⟨fun hlt=>?_,fun hge=>?_⟩
 ·have hlt:(k:Int)<x3.length:=cg0 hlt
  rw [P6 hA (by omega),ak7 hA (by omega),ak8 hA (by omega)]
  have hn:E7 nx m (x3.take (k+1))=bh3 (E7 nx m (x3.take k)) (x3.getD k 0):=by rw [A4 (by omega) 0,bh4]
  refine ⟨⟨h0,hlt⟩,⟨by rw [hB];omega,by rw [hB];omega⟩,⟨h0,hlt⟩,((k+1:Nat),[⟨x1,x2,(E7 nx m (x3.take (k+1))).1++x3.drop (k+1),x4.map (getF m),x5⟩],(E7 nx m (x3.take (k+1))).2.1,(E7 nx m (x3.take (k+1))).2.2,()),B6 (by omega) hl3,?_,?_,?_,⟨by omega,by dsimp only;omega,by dsimp only;rw [cf4],by dsimp only;rw [cf4],by dsimp only;rw [cf4]⟩,by dsimp only;omega⟩
  ·dsimp only;rw [hn];rfl
  ·dsimp only;rw [hn];rfl
  ·dsimp only;rw [hn];rfl
 ·have hk:k=x3.length:=by have:¬ (k:Int)<x3.length:=cf9 hge;omega
  subst hk
  simp only [ch8,List.drop_length,List.append_nil]
theorem aR7:C6 prog RG 73 cCalledF:=E2 (A6 ar0 (A6 bv0 (A6 bv1 C0))) (fun p=>aR6 p.1 p.2.1 p.2.2.1 p.2.2.2.1 p.2.2.2.2.1 p.2.2.2.2.2.1 p.2.2.2.2.2.2.1) (by kernel_rfl) (by kernel_rfl) (by kernel_rfl) fun (x1,x2,x3,x4,x5,nx,m,()) hp=>bv2 x1 x2 x3 x4 x5 nx m hp
abbrev SF:=Holds×List Ins×Int
def J1 (s:SF) (x:RIns):SF×Bool:=
 bif x.kind==0 then
  (bif x.ins.from_.all (isP (s.1,())) then (((E7 s.2.2 s.1 x.ins.to).2.2,s.2.1++[⟨x.ins.op,x.ins.n,(E7 s.2.2 s.1 x.ins.to).1,x.ins.from_.map (getF s.1),x.ins.body⟩],(E7 s.2.2 s.1 x.ins.to).2.1),true) else (s,false))
 else match mget eqP s.1 (bif x.kind==2 then ⟨false,x.slot⟩ else ⟨true,x.cell⟩) with
  |none=>(s,false)
  |some n=>((mput eqP s.1 (bif x.kind==2 then ⟨true,x.cell⟩ else ⟨false,x.slot⟩) n,s.2),true)
def H8:List RIns→SF→SF×Bool
 |[],s=>(s,true)
 |x::r,s=>bif (J1 s x).2 then H8 r (J1 s x).1 else (s,false)
def R6 (m:Holds):List Place→List Int×Bool
 |[]=>([],true)
 |p::r=>match mget eqP m p with
  |none=>([],false)
  |some n=>(n::(R6 m r).1,(R6 m r).2)
def Q0 (n:Nat):Holds:=(List.range n).foldl (fun (m:Holds) (i:Nat)=>mput eqP m ⟨true,(i:Int)⟩ (i:Int)) []
def F6 (a:Int):SF:=(Q0 a.toNat,[],a)
def B9 (c:RCode):VFun×Bool:=
 bif (H8 c.code (F6 c.params)).2 then (⟨c.params,(H8 c.code (F6 c.params)).1.2.1,(R6 (H8 c.code (F6 c.params)).1.1 c.out).1,[]⟩,(R6 (H8 c.code (F6 c.params)).1.1 c.out).2)
 else (⟨c.params,(H8 c.code (F6 c.params)).1.2.1,[],[]⟩,false)
def K7 (l:List RIns):Bool:=l.all fun x=>aQ0 x.ins
def cFollow:Con RU:=con [(true,5)] br2 [(true,4),one] [i64,inss,ints,ints,.bool] [false,false,false,false,false] (some fun p=>0≤p.1∧p.1≤4000∧p.2.2.2.1.length≤16000∧K7 p.2.2.2.1=true∧p.2.2.2.2.1.length≤17592186044400) fun p=>
 ((B9 ⟨p.1,p.2.1,p.2.2.1,p.2.2.2.1,p.2.2.2.2.1⟩).1.params,(B9 ⟨p.1,p.2.1,p.2.2.1,p.2.2.2.1,p.2.2.2.2.1⟩).1.code,(B9 ⟨p.1,p.2.1,p.2.2.1,p.2.2.2.1,p.2.2.2.2.1⟩).1.out,(B9 ⟨p.1,p.2.1,p.2.2.1,p.2.2.2.1,p.2.2.2.2.1⟩).1.at_,(B9 ⟨p.1,p.2.1,p.2.2.1,p.2.2.2.1,p.2.2.2.2.1⟩).2,())
def bh5 (a:Int) (code:List RIns) (out:List Place):Nat→St RU→Ann RU:=fun k s=>match k with
 |0=>⟨[],[.slot 21,.row 1152],[i64,mapP],fun p=>0≤p.1∧p.1≤a∧p.2.1=Q0 p.1.toNat,fun p=>a.toNat-p.1.toNat,[]⟩
 |1=>⟨[],[.slot 37,.row 1152,.box 448 0,.row 900001],[i64,mapP,i64,inss],fun p=>0≤p.1∧p.1≤code.length∧H8 (code.take p.1.toNat) (F6 a)=((p.2.1,p.2.2.2.1,p.2.2.1),true),fun p=>code.length-p.1.toNat,[(.box 384 1,900001,52,.user 0)]⟩
 |_=>⟨[],[.slot 88,.row 900002],[i64,ints],fun p=>0≤p.1∧p.1≤out.length∧R6 (H8 code (F6 a)).1.1 (out.take p.1.toNat)=(p.2.1,true),fun p=>out.length-p.1.toNat,[(.box 384 2,900002,3,i64)]⟩
def H4 (c:RCode):Int:=
 if 16000<c.code.length then 3 else if H7 c=false then 2 else if (c.code.all fun x=>x.kind !=0||D3 x.ins.to)=false then 5 else if (B9 c).2=false then 4 else 0
def cValid:Con RU:=con [(true,5)] br2 [one] [i64] [false] (some fun p=>-9223372036854775808≤p.2.1∧p.2.1<9223372036854775808∧K7 p.2.2.2.1=true∧p.2.2.2.2.1.length≤17592186044400) fun p=>(H4 ⟨p.1,p.2.1,p.2.2.1,p.2.2.2.1,p.2.2.2.2.1⟩,())
def bG2 (code:List RIns):Nat→St RU→Ann RU:=fun k s=>match k with
 |0=>⟨[],[.slot 19],[i64],fun p=>0≤p.1∧p.1≤code.length∧((code.take p.1.toNat).all fun x=>x.kind !=0||D3 x.ins.to)=true,fun p=>code.length-p.1.toNat,[]⟩
 |_=>⟨[],[.slot 27],[i64],fun p=>0≤p.1∧p.1≤(code.getD (s.intAt 19).toNat rins0).ins.to.length∧((code.getD (s.intAt 19).toNat rins0).kind≠0∨D3 ((code.getD (s.intAt 19).toNat rins0).ins.to.take p.1.toNat)=true),fun p=>(code.getD (s.intAt 19).toNat rins0).ins.to.length-p.1.toNat,[]⟩
def I2 (a:Int) (l:List Ins):Int:=l.foldl (fun n x=>n+x.to.length) a
def H2 (c:RCode):VFun×Int:=
 if H4 c≠0 then (vfun0,H4 c) else if 4000<I2 c.params (B9 c).1.code∨4000<(B9 c).1.code.length then (vfun0,9) else ((B9 c).1,0)
def cBack:Con RU:=con [(true,5)] br2 [(true,4),one] [i64,inss,ints,ints,i64] [false,false,false,false,false] (some fun p=>-9223372036854775808≤p.2.1∧p.2.1<9223372036854775808∧K7 p.2.2.2.1=true∧p.2.2.2.2.1.length≤17592186044400) fun p=>
 ((H2 ⟨p.1,p.2.1,p.2.2.1,p.2.2.2.1,p.2.2.2.2.1⟩).1.params,(H2 ⟨p.1,p.2.1,p.2.2.1,p.2.2.2.1,p.2.2.2.2.1⟩).1.code,(H2 ⟨p.1,p.2.1,p.2.2.1,p.2.2.2.1,p.2.2.2.2.1⟩).1.out,(H2 ⟨p.1,p.2.1,p.2.2.1,p.2.2.2.1,p.2.2.2.2.1⟩).1.at_,(H2 ⟨p.1,p.2.1,p.2.2.1,p.2.2.2.1,p.2.2.2.2.1⟩).2,())
def bX5 (a:Int) (code:List Ins):Nat→St RU→Ann RU:=fun k s=>⟨[],[.slot 26,.slot 7],[i64,i64],fun p=>0≤p.1∧p.1≤code.length∧p.2.1=I2 a (code.take p.1.toNat),fun p=>code.length-p.1.toNat,[]⟩
theorem bG3 (a b c:Int) (code:List RIns) (out:List Place):vc (EV [(78,cAll 89 tysP objP [0] isP),(73,cCalledF)]) (bh5 a code out) Go.Proofs.Tryd.f58 cFollow (a,b,c,code,out,())=(
 let e0:Int×List Ins×List Int×List Int×Bool×Unit:=
  ((B9 (RCode.mk a b c code out)).1.params,(B9 (RCode.mk a b c code out)).1.code,(B9 (RCode.mk a b c code out)).1.out,(B9 (RCode.mk a b c code out)).1.at_,
  (B9 (RCode.mk a b c code out)).2,());
 let e1:Int:=(↑(List.length code):Int);
 let e2:RIns:=RIns.mk (0:Int) (0:Int) (0:Int) ins0;
 let e3:Int:=(↑(List.length out):Int);
 let e4:Place:=Place.mk false (0:Int);
  Small RU (Sigma.mk (Ty.slice (55:Nat) (Ty.user (1:Nat))) code)→
  Small RU (Sigma.mk (Ty.slice (59:Nat) (Ty.user (2:Nat))) out)→
  (∃ (p:Int×List (Place×Int)×Unit),
  a=a∧
  b=b∧
  c=c∧
  code=code∧
  out=out∧
  false=false∧
  a=a∧
  (0:Int)=p.1∧
  a=a∧b=b∧c=c∧code=code∧out=out∧(0:Int)=(0:Int)∧[]=p.2.1∧(0:Int)≤p.1∧p.1≤a∧p.2.1=Q0 (Int.toNat p.1))∧
  ∀ (p:Int×List (Place×Int)×Unit),
 let e0_1:Bool:=decide (p.1<a);
 let e1_1:Int:=p.1;
 let e2_1:List (Place×Int):=p.2.1;
  (0:Int)≤e1_1∧e1_1≤a∧e2_1=Q0 (Int.toNat e1_1)→
  (e0_1=true→
  ∃ (p':Int×List (Place×Int)×Unit),
  a=a∧
  b=b∧
  c=c∧
  code=code∧
  out=out∧
  false=false∧
  a=a∧
  IntKind.i64.wrap (e1_1+(1:Int))=p'.1∧
  a=a∧
  b=b∧
  c=c∧
  code=code∧
  out=out∧
  (0:Int)=(0:Int)∧
  mput (E1 RU (Ty.user (2:Nat))) e2_1 (Place.mk true e1_1) e1_1=p'.2.1∧
  ((0:Int)≤p'.1∧p'.1≤a∧p'.2.1=Q0 (Int.toNat p'.1))∧Int.toNat a-Int.toNat p'.1<Int.toNat a-Int.toNat e1_1)∧
  (e0_1=false→
  (∃ (p:Int×List (Place×Int)×Int×List Ins×Unit),
  a=a∧
  b=b∧
  c=c∧
  code=code∧
  out=out∧
  a=a∧
  e1_1=e1_1∧
  e0_1=e0_1∧
  code=code∧
  e1=e1∧
  (0:Int)=p.1∧
  a=a∧
  b=b∧
  c=c∧
  code=code∧
  out=out∧
  (0:Int)=(0:Int)∧
  e2_1=p.2.1∧
  a=a∧
  a=p.2.2.1∧
  []=p.2.2.2.1∧
  (0:Int)≤p.1∧
  p.1≤e1∧H8 (List.take (Int.toNat p.1) code) (F6 a)=((p.2.1,p.2.2.2.1,p.2.2.1),true))∧
  ∀ (p:Int×List (Place×Int)×Int×List Ins×Unit),
 let e0_2:Bool:=(List.getD code (Int.toNat p.1) e2).kind==(2:Int);
 let e1_2:List Ins:=
  [Ins.mk (bif e0_2 then (List.getD code (Int.toNat p.1) e2).ins.op else (List.getD code (Int.toNat p.1) e2).ins.op)
  (bif e0_2 then (List.getD code (Int.toNat p.1) e2).ins.n else (List.getD code (Int.toNat p.1) e2).ins.n)
  (E7 (bif e0_2 then p.2.2.1 else p.2.2.1) (bif e0_2 then p.2.1 else p.2.1)
  (bif e0_2 then (List.getD code (Int.toNat p.1) e2).ins.to else (List.getD code (Int.toNat p.1) e2).ins.to)).1
  (List.map (getF (bif e0_2 then p.2.1 else p.2.1)) (bif e0_2 then (List.getD code (Int.toNat p.1) e2).ins.from_ else (List.getD code (Int.toNat p.1) e2).ins.from_))
  (bif e0_2 then (List.getD code (Int.toNat p.1) e2).ins.body else (List.getD code (Int.toNat p.1) e2).ins.body)];
 let e2_2:List Ins:=bif e0_2 then p.2.2.2.1 else p.2.2.2.1;
 let e3_1:List (Place×Int):=bif e0_2 then p.2.1 else p.2.1;
 let e4_1:Int:=bif e0_2 then p.2.2.1 else p.2.2.1;
 let e5:List Ins:=p.2.2.2.1;
 let e6:List (Place×Int):=p.2.1;
 let e7:Bool:=decide (p.1<e1);
 let e8:Int:=p.1;
 let e9:Int:=p.2.2.1;
 let e10:Bool:=
  !Option.isSome
  (mget (E1 RU (Ty.user (2:Nat))) e3_1
  (Place.mk (bif e0_2 then false else true) (bif e0_2 then (List.getD code (Int.toNat e8) e2).slot else (List.getD code (Int.toNat e8) e2).cell)));
 let e11:Int×List (Place×Int):=(E7 e4_1 e3_1 (bif e0_2 then (List.getD code (Int.toNat e8) e2).ins.to else (List.getD code (Int.toNat e8) e2).ins.to)).2;
 let e12:Bool:=!List.all (bif e0_2 then (List.getD code (Int.toNat e8) e2).ins.from_ else (List.getD code (Int.toNat e8) e2).ins.from_) (isP (e3_1,()));
 let e13:Bool:=(bif e0_2 then (List.getD code (Int.toNat e8) e2).kind else (List.getD code (Int.toNat e8) e2).kind) !=(0:Int);
 let e14:Ins:=(List.getD code (Int.toNat e8) e2).ins;
  (0:Int)≤e8∧e8≤e1∧H8 (List.take (Int.toNat e8) code) (F6 a)=((e6,e5,e9),true)→
  (e7=true→
  ((0:Int)≤e8∧e8<e1)∧
  (e13=true→
  (e10=true→(bif e0_2 then a else a,e2_2,[],[],false,())=e0)∧
  (e10=false→
  ∃ (p':Int×List (Place×Int)×Int×List Ins×Unit),
  (bif e0_2 then a else a)=a∧
  (bif e0_2 then b else b)=b∧
  (bif e0_2 then c else c)=c∧
  (bif e0_2 then code else code)=code∧
  (bif e0_2 then out else out)=out∧
  (bif e0_2 then a else a)=a∧
  (bif e0_2 then e1_1 else e1_1)=e1_1∧
  (bif e0_2 then e0_1 else e0_1)=e0_1∧
  (bif e0_2 then code else code)=code∧
  (bif e0_2 then e1 else e1)=e1∧
  IntKind.i64.wrap ((bif e0_2 then e8 else e8)+(1:Int))=p'.1∧
  (bif e0_2 then a else a)=a∧
  (bif e0_2 then b else b)=b∧
  (bif e0_2 then c else c)=c∧
  (bif e0_2 then code else code)=code∧
  (bif e0_2 then out else out)=out∧
  (bif e0_2 then (0:Int) else (0:Int))=(0:Int)∧
  mput (E1 RU (Ty.user (2:Nat))) e3_1
  (Place.mk (bif e0_2 then true else false)
  (bif e0_2 then (List.getD code (Int.toNat e8) e2).cell else (List.getD code (Int.toNat e8) e2).slot))
  (Option.getD
  (mget (E1 RU (Ty.user (2:Nat))) e3_1
  (Place.mk (bif e0_2 then false else true)
  (bif e0_2 then (List.getD code (Int.toNat e8) e2).slot else (List.getD code (Int.toNat e8) e2).cell)))
  (0:Int))=
  p'.2.1∧
  (bif e0_2 then a else a)=a∧
  e4_1=p'.2.2.1∧
  e2_2=p'.2.2.2.1∧
  ((0:Int)≤p'.1∧
  p'.1≤e1∧
  H8 (List.take (Int.toNat p'.1) code) (F6 a)=((p'.2.1,p'.2.2.2.1,p'.2.2.1),true))∧
  List.length code-Int.toNat p'.1<List.length code-Int.toNat e8))∧
  (e13=false→
  (True∧e3_1=e3_1∧True)∧
  (e12=true→(bif e0_2 then a else a,e2_2,[],[],false,())=e0)∧
  (e12=false→
  ((U5 (bif e0_2 then e14.to else e14.to) (bif e0_2 then e14.from_ else e14.from_) (bif e0_2 then e14.body else e14.body)=true∧
  (0:Int)≤e4_1∧e4_1≤(2305843009213693952:Int))∧
  True)∧
  (List.length e2_2+List.length e1_2)*(88:Nat)≤(140737488355328:Nat)∧
  ∃ (p':Int×List (Place×Int)×Int×List Ins×Unit),
  (bif e0_2 then a else a)=a∧
  (bif e0_2 then b else b)=b∧
  (bif e0_2 then c else c)=c∧
  (bif e0_2 then code else code)=code∧
  (bif e0_2 then out else out)=out∧
  (bif e0_2 then a else a)=a∧
  (bif e0_2 then e1_1 else e1_1)=e1_1∧
  (bif e0_2 then e0_1 else e0_1)=e0_1∧
  (bif e0_2 then code else code)=code∧
  (bif e0_2 then e1 else e1)=e1∧
  IntKind.i64.wrap ((bif e0_2 then e8 else e8)+(1:Int))=p'.1∧
  (bif e0_2 then a else a)=a∧
  (bif e0_2 then b else b)=b∧
  (bif e0_2 then c else c)=c∧
  (bif e0_2 then code else code)=code∧
  (bif e0_2 then out else out)=out∧
  (bif e0_2 then (0:Int) else (0:Int))=(0:Int)∧
  e11.2=p'.2.1∧
  (bif e0_2 then a else a)=a∧
  e11.1=p'.2.2.1∧
  e2_2++e1_2=p'.2.2.2.1∧
  ((0:Int)≤p'.1∧
  p'.1≤e1∧
  H8 (List.take (Int.toNat p'.1) code) (F6 a)=
  ((p'.2.1,p'.2.2.2.1,p'.2.2.1),true))∧
  List.length code-Int.toNat p'.1<List.length code-Int.toNat e8)))∧
  (e7=false→
  (∃ (p:Int×List Int×Unit),
  a=a∧
  b=b∧
  c=c∧
  code=code∧
  out=out∧
  a=a∧
  e1_1=e1_1∧
  e0_1=e0_1∧
  code=code∧
  e1=e1∧
  e8=e8∧
  e7=e7∧
  out=out∧
  e3=e3∧
  (0:Int)=p.1∧
  a=a∧
  b=b∧
  c=c∧
  code=code∧
  out=out∧
  (0:Int)=(0:Int)∧
  e6=e6∧
  a=a∧
  e9=e9∧
  e5=e5∧
  []=p.2.1∧
  (0:Int)≤p.1∧
  p.1≤e3∧R6 (H8 code (F6 a)).1.1 (List.take (Int.toNat p.1) out)=(p.2.1,true))∧
  ∀ (p:Int×List Int×Unit),
 let e0_3:List Int:=
  [Option.getD (mget (E1 RU (Ty.user (2:Nat))) e6 (Place.mk (List.getD out (Int.toNat p.1) e4).cell (List.getD out (Int.toNat p.1) e4).n)) (0:Int)];
 let e1_3:List Int:=p.2.1;
 let e2:Bool:=!Option.isSome (mget (E1 RU (Ty.user (2:Nat))) e6 (Place.mk (List.getD out (Int.toNat p.1) e4).cell (List.getD out (Int.toNat p.1) e4).n));
 let e3_2:Bool:=decide (p.1<e3);
 let e4:Int:=p.1;
 let e5_1:List (Place×Int):=(H8 code (F6 a)).1.1;
  (0:Int)≤e4∧e4≤e3∧R6 e5_1 (List.take (Int.toNat e4) out)=(e1_3,true)→
  (e3_2=true→
  ((0:Int)≤e4∧e4<e3)∧
  (e2=true→(a,e5,e1_3,[],false,())=e0)∧
  (e2=false→
  (List.length e1_3+List.length e0_3)*(8:Nat)≤(140737488355328:Nat)∧
  ∃ (p':Int×List Int×Unit),
  a=a∧
  b=b∧
  c=c∧
  code=code∧
  out=out∧
  a=a∧
  e1_1=e1_1∧
  e0_1=e0_1∧
  code=code∧
  e1=e1∧
  e8=e8∧
  e7=e7∧
  out=out∧
  e3=e3∧
  IntKind.i64.wrap (e4+(1:Int))=p'.1∧
  a=a∧
  b=b∧
  c=c∧
  code=code∧
  out=out∧
  (0:Int)=(0:Int)∧
  e6=e6∧
  a=a∧
  e9=e9∧
  e5=e5∧
  e1_3++e0_3=p'.2.1∧
  ((0:Int)≤p'.1∧
  p'.1≤e3∧R6 e5_1 (List.take (Int.toNat p'.1) out)=(p'.2.1,true))∧
  List.length out-Int.toNat p'.1<List.length out-Int.toNat e4))∧
  (e3_2=false→(a,e5,e1_3,[],true,())=e0)))):=by kernel_rfl
theorem bO6 (a b c:Int) (code:List RIns) (out:List Place):vc (EV [(60,cShaped),(61,cContains),(58,cFollow)]) (bG2 code) Go.Proofs.Tryd.f22 cValid (a,b,c,code,out,())=(
 let e0:Bool:=decide ((↑(List.length code):Int) >(16000:Int));
 let e1:RIns:=RIns.mk (0:Int) (0:Int) (0:Int) ins0;
 let e2:Int×Unit:=(H4 (RCode.mk a b c code out),());
 let e3:Int:=(↑(List.length code):Int);
 let e4:Bool:=!H7 (RCode.mk a b c code out);
  Small RU (Sigma.mk (Ty.slice (55:Nat) (Ty.user (1:Nat))) code)→
  Small RU (Sigma.mk (Ty.slice (59:Nat) (Ty.user (2:Nat))) out)→
  (e0=true→((3:Int),())=e2)∧
  (e0=false→
  ((-9223372036854775808:Int)≤b∧b<(9223372036854775808:Int))∧
  (e4=true→((2:Int),())=e2)∧
  (e4=false→
  (∃ (p:Int×Unit),
  a=a∧
  b=b∧
  c=c∧
  code=code∧
  out=out∧
  e0=e0∧
  e4=e4∧
  code=code∧
  e3=e3∧
  (0:Int)=p.1∧
  a=a∧
  b=b∧
  c=c∧
  code=code∧
  out=out∧
  (0:Int)≤p.1∧p.1≤e3∧(List.all (List.take (Int.toNat p.1) code) fun (x:RIns)=>x.kind !=(0:Int)||D3 x.ins.to)=true)∧
  ∀ (p:Int×Unit),
 let e0_1:Bool:=decide (p.1<e3);
 let e1_1:Int:=(↑(List.length (List.getD code (Int.toNat p.1) e1).ins.to):Int);
 let e2_1:Ins:=(List.getD code (Int.toNat p.1) e1).ins;
 let e3_1:Nat:=List.length (List.getD code (Int.toNat p.1) rins0).ins.to;
 let e4_1:Int:=(List.getD code (Int.toNat p.1) e1).kind;
  (0:Int)≤p.1∧p.1≤e3∧(List.all (List.take (Int.toNat p.1) code) fun (x:RIns)=>x.kind !=(0:Int)||D3 x.ins.to)=true→
  (e0_1=true→
  ((0:Int)≤p.1∧p.1<e3)∧
  (∃ (p_1:Int×Unit),
  a=a∧
  b=b∧
  c=c∧
  code=code∧
  out=out∧
  e0=e0∧
  e4=e4∧
  code=code∧
  e3=e3∧
  p.1=p.1∧
  e0_1=e0_1∧
  e2_1.to=e2_1.to∧
  e1_1=e1_1∧
  (0:Int)=p_1.1∧
  a=a∧
  b=b∧
  c=c∧
  code=code∧
  out=out∧
  e4_1=e4_1∧
  (List.getD code (Int.toNat p.1) e1).slot=(List.getD code (Int.toNat p.1) e1).slot∧
  (List.getD code (Int.toNat p.1) e1).cell=(List.getD code (Int.toNat p.1) e1).cell∧
  e2_1.op=e2_1.op∧
  e2_1.n=e2_1.n∧
  e2_1.to=e2_1.to∧
  e2_1.from_=e2_1.from_∧
  e2_1.body=e2_1.body∧
  (0:Int)≤p_1.1∧
  p_1.1≤(↑e3_1:Int)∧
  ((List.getD code (Int.toNat p.1) rins0).kind≠(0:Int)∨
  D3 (List.take (Int.toNat p_1.1) (List.getD code (Int.toNat p.1) rins0).ins.to)=true))∧
  ∀ (p_1:Int×Unit),
 let e0_2:Bool:=e4_1==(0:Int)&&List.contains (List.take (Int.toNat p_1.1) e2_1.to) (List.getD e2_1.to (Int.toNat p_1.1) (0:Int));
 let e1_2:Bool:=decide (p_1.1<e1_1);
  (0:Int)≤p_1.1∧
  p_1.1≤(↑e3_1:Int)∧
  ((List.getD code (Int.toNat p.1) rins0).kind≠(0:Int)∨D3 (List.take (Int.toNat p_1.1) (List.getD code (Int.toNat p.1) rins0).ins.to)=true)→
  (e1_2=true→
  ((0:Int)≤p_1.1∧p_1.1<e1_1)∧
  ((e4_1==(0:Int))=true→(0:Int)≤p_1.1∧p_1.1≤e1_1)∧
  (e0_2=true→((5:Int),())=e2)∧
  (e0_2=false→
  ∃ (p':Int×Unit),
  a=a∧
  b=b∧
  c=c∧
  code=code∧
  out=out∧
  e0=e0∧
  e4=e4∧
  code=code∧
  e3=e3∧
  p.1=p.1∧
  e0_1=e0_1∧
  e2_1.to=e2_1.to∧
  e1_1=e1_1∧
  IntKind.i64.wrap (p_1.1+(1:Int))=p'.1∧
  a=a∧
  b=b∧
  c=c∧
  code=code∧
  out=out∧
  e4_1=e4_1∧
  (List.getD code (Int.toNat p.1) e1).slot=(List.getD code (Int.toNat p.1) e1).slot∧
  (List.getD code (Int.toNat p.1) e1).cell=(List.getD code (Int.toNat p.1) e1).cell∧
  e2_1.op=e2_1.op∧
  e2_1.n=e2_1.n∧
  e2_1.to=e2_1.to∧
  e2_1.from_=e2_1.from_∧
  e2_1.body=e2_1.body∧
  ((0:Int)≤p'.1∧
  p'.1≤(↑e3_1:Int)∧
  ((List.getD code (Int.toNat p.1) rins0).kind≠(0:Int)∨
  D3 (List.take (Int.toNat p'.1) (List.getD code (Int.toNat p.1) rins0).ins.to)=
  true))∧
  e3_1-Int.toNat p'.1<e3_1-Int.toNat p_1.1))∧
  (e1_2=false→
  ∃ (p':Int×Unit),
  a=a∧
  b=b∧
  c=c∧
  code=code∧
  out=out∧
  e0=e0∧
  e4=e4∧
  code=code∧
  e3=e3∧
  IntKind.i64.wrap (p.1+(1:Int))=p'.1∧
  a=a∧
  b=b∧
  c=c∧
  code=code∧
  out=out∧
  ((0:Int)≤p'.1∧
  p'.1≤e3∧
  (List.all (List.take (Int.toNat p'.1) code) fun (x:RIns)=>x.kind !=(0:Int)||D3 x.ins.to)=true)∧
  List.length code-Int.toNat p'.1<List.length code-Int.toNat p.1))∧
  (e0_1=false→
  ((0:Int)≤a∧a≤(4000:Int)∧List.length code≤(16000:Nat)∧K7 code=true∧List.length out≤(17592186044400:Nat))∧
  ((!(B9 (RCode.mk a b c code out)).2)=true→((4:Int),())=e2)∧((!(B9 (RCode.mk a b c code out)).2)=false→((0:Int),())=e2))))):=by kernel_rfl
theorem bX6 (a b c:Int) (code:List RIns) (out:List Place):vc (EV [(22,cValid),(58,cFollow)]) (bX5 a (B9 ⟨a,b,c,code,out⟩).1.code) Go.Proofs.Tryd.f20 cBack (a,b,c,code,out,())=(
 let e0:Int×List Ins×List Int×List Int×Int×Unit:=
  ((H2 (RCode.mk a b c code out)).1.params,(H2 (RCode.mk a b c code out)).1.code,(H2 (RCode.mk a b c code out)).1.out,(H2 (RCode.mk a b c code out)).1.at_,
  (H2 (RCode.mk a b c code out)).2,());
 let e1:Int:=(↑(List.length (B9 (RCode.mk a b c code out)).1.code):Int);
 let e2:List Ins:=(B9 (RCode.mk a b c code out)).1.code;
 let e3:Bool:=H4 (RCode.mk a b c code out) !=(0:Int);
 let e4:Int:=(B9 (RCode.mk a b c code out)).1.params;
 let e5:List Int:=(B9 (RCode.mk a b c code out)).1.at_;
 let e6:List Int:=(B9 (RCode.mk a b c code out)).1.out;
 let e7:Int:=H4 (RCode.mk a b c code out);
  Small RU (Sigma.mk (Ty.slice (55:Nat) (Ty.user (1:Nat))) code)→
  Small RU (Sigma.mk (Ty.slice (59:Nat) (Ty.user (2:Nat))) out)→
  ((-9223372036854775808:Int)≤b∧b<(9223372036854775808:Int)∧K7 code=true∧List.length out≤(17592186044400:Nat))∧
  (e3=true→((0:Int),[],[],[],e7,())=e0)∧
  (e3=false→
  ((0:Int)≤a∧a≤(4000:Int)∧List.length code≤(16000:Nat)∧K7 code=true∧List.length out≤(17592186044400:Nat))∧
  (∃ (p:Int×Int×Unit),
  a=a∧
  b=b∧
  c=c∧
  code=code∧
  out=out∧
  (0:Int)=(0:Int)∧
  e7=e7∧
  e3=e3∧
  e2=e2∧
  e1=e1∧
  (0:Int)=p.1∧
  e4=p.2.1∧
  a=a∧
  b=b∧
  c=c∧
  code=code∧
  out=out∧
  (0:Int)=(0:Int)∧
  e4=e4∧e2=e2∧e6=e6∧e5=e5∧(0:Int)≤p.1∧p.1≤e1∧p.2.1=I2 a (List.take (Int.toNat p.1) e2))∧
  ∀ (p:Int×Int×Unit),
 let e0_1:Bool:=decide (p.2.1 >(4000:Int))||decide (e1 >(4000:Int));
 let e1_1:Bool:=decide (p.1<e1);
 let e2_1:Int:=p.1;
  (0:Int)≤e2_1∧e2_1≤e1∧p.2.1=I2 a (List.take (Int.toNat e2_1) e2)→
  (e1_1=true→
  ((0:Int)≤e2_1∧e2_1<e1)∧
  ∃ (p':Int×Int×Unit),
  a=a∧
  b=b∧
  c=c∧
  code=code∧
  out=out∧
  (0:Int)=(0:Int)∧
  e7=e7∧
  e3=e3∧
  e2=e2∧
  e1=e1∧
  IntKind.i64.wrap (e2_1+(1:Int))=p'.1∧
  IntKind.i64.wrap (p.2.1+(↑(List.length (List.getD e2 (Int.toNat e2_1) (Ins.mk (0:Int) (0:Int) [] [] [])).to):Int))=p'.2.1∧
  a=a∧
  b=b∧
  c=c∧
  code=code∧
  out=out∧
  (0:Int)=(0:Int)∧
  e4=e4∧
  e2=e2∧
  e6=e6∧
  e5=e5∧
  ((0:Int)≤p'.1∧p'.1≤e1∧p'.2.1=I2 a (List.take (Int.toNat p'.1) e2))∧
  List.length e2-Int.toNat p'.1<List.length e2-Int.toNat e2_1)∧
  (e1_1=false→(e0_1=true→((0:Int),[],[],[],(9:Int),())=e0)∧(e0_1=false→(e4,e2,e6,e5,(0:Int),())=e0)))):=by kernel_rfl
theorem ba5 {s:SF} {x:RIns} (h:(J1 s x).2=false):J1 s x=(s,false):=by
 revert h
 unfold J1
 cases x.kind==0 with
 |true=>
  simp only [cond_true]
  cases x.ins.from_.all (isP (s.1,())) with
  |true=>intro h;cases h
  |false=>intro _;rfl
 |false=>
  simp only [cond_false]
  cases mget eqP s.1 (bif x.kind==2 then ⟨false,x.slot⟩ else ⟨true,x.cell⟩) with
  |none=>intro _;rfl
  |some n=>intro h;cases h
theorem bG4 (s:SF) (x:RIns):H8 [x] s=J1 s x:=by
 simp only [H8]
 cases h:(J1 s x).2 with
 |true=>simp only [cond_true];rw [←h]
 |false=>simp only [cond_false];exact (ba5 h).symm
theorem aE9 (r:List RIns):∀ (l:List RIns) (s:SF),H8 (l++r) s=bif (H8 l s).2 then H8 r (H8 l s).1 else H8 l s
 |[],s=>rfl
 |x::l,s=>by
  simp only [List.cons_append,H8]
  cases (J1 s x).2 with
  |true=>simp only [cond_true];exact aE9 r l _
  |false=>rfl
theorem aL2 {l:List RIns} {k:Nat} {s s':SF} (hk:k<l.length) (h:H8 (l.take k) s=(s',true)):H8 (l.take (k+1)) s=J1 s' (l.getD k rins0):=by
 rw [A4 hk rins0,aE9,h]
 exact bG4 _ _
theorem bv3 {l:List RIns} {k:Nat} {s s':SF} (hk:k<l.length) (h:H8 (l.take k) s=(s',true)) (h2:(J1 s' (l.getD k rins0)).2=false):H8 l s=(s',false):=by
 have hs:=aL2 hk h
 rw [ba5 h2] at hs
 conv=>lhs;rw [←List.take_append_drop (k+1) l]
 rw [aE9,hs]
 rfl
theorem bv4 (s:SF) (x:RIns) (hx:x.ins.to.length≤17592186044416):(J1 s x).1.2.1.length≤s.2.1.length+1∧s.2.2≤(J1 s x).1.2.2∧(J1 s x).1.2.2≤s.2.2+17592186044416:=by
 unfold J1
 cases x.kind==0 with
 |true=>
  simp only [cond_true]
  cases x.ins.from_.all (isP (s.1,())) with
  |true=>
   have:=(ab0 s.2.2 s.1 x.ins.to).2
   simp only [cond_true,ch1,cg6,List.length_nil]
   omega
  |false=>simp only [cond_false];omega
 |false=>
  simp only [cond_false]
  cases mget eqP s.1 (bif x.kind==2 then ⟨false,x.slot⟩ else ⟨true,x.cell⟩) with
  |none=>simp only;omega
  |some n=>simp only;omega
theorem aF0:∀ (l:List RIns) (s:SF),K7 l=true→(H8 l s).1.2.1.length≤s.2.1.length+l.length∧s.2.2≤(H8 l s).1.2.2∧(H8 l s).1.2.2≤s.2.2+l.length*17592186044416
 |[],s,_=>by simp [H8]
 |x::r,s,h=>by
  simp only [K7,List.all_cons,cf3] at h
  have h1:=bv4 s x ((O0 _).1 h.1).1.1
  have h2:=aF0 r (J1 s x).1 h.2
  simp only [H8]
  cases hs:(J1 s x).2 with
  |true=>simp only [cond_true,cg6];omega
  |false=>simp only [cond_false,cg6];omega
theorem aF1 (m:Holds) (r:List Place):∀ (l:List Place),R6 m (l++r)=bif (R6 m l).2 then ((R6 m l).1++(R6 m r).1,(R6 m r).2) else R6 m l
 |[]=>rfl
 |p::l=>by
  simp only [List.cons_append,R6]
  cases mget eqP m p with
  |none=>rfl
  |some n=>
   simp only [aF1 m r l]
   cases h:(R6 m l).2 with
   |true=>rfl
   |false=>simp only [cond_false,h]
theorem ba6 (m:Holds):∀ (l:List Place),(R6 m l).1.length≤l.length
 |[]=>by simp [R6]
 |p::l=>by
  simp only [R6]
  split
  ·simp
  ·have:=ba6 m l
   simp only [cg6];omega
theorem aR8 (n:Nat):Q0 (n+1)=mput eqP (Q0 n) ⟨true,n⟩ n:=by
 simp [Q0,List.range_succ]
theorem bG5 (a b c:Int) (code:List RIns) (out:List Place) (hp:0≤a∧a≤4000∧code.length≤16000∧K7 code=true∧out.length≤17592186044400):vc (EV [(78,cAll 89 tysP objP [0] isP),(73,cCalledF)]) (bh5 a code out) Go.Proofs.Tryd.f58 cFollow (a,b,c,code,out,()):=by
 rw [bG3 a b c code out]
 intro e0 e1 e2 e3 e4 hsl hso
 obtain ⟨hp1,hp2,hp3,hp4,hp5⟩:=hp
 have hd:e2=rins0:=rfl
 have hno:∀ s:SF,H8 code (F6 a)=(s,false)→e0=(a,s.2.1,[],[],false,()):=by
  intro s hs
  have:B9 ⟨a,b,c,code,out⟩=(⟨a,s.2.1,[],[]⟩,false):=by simp only [B9,hs];rfl
  simp only [e0,this]
 have hyes:∀ s:SF,H8 code (F6 a)=(s,true)→e0=(a,s.2.1,(R6 s.1 out).1,[],(R6 s.1 out).2,()):=by
  intro s hs
  have:B9 ⟨a,b,c,code,out⟩=(⟨a,s.2.1,(R6 s.1 out).1,[]⟩,(R6 s.1 out).2):=by simp only [B9,hs];rfl
  simp only [e0,this]
 clear_value e0
 rw [hd]
 clear_value e2
 dsimp only [e1,e3,e4]
 simp only [true_and,and_true,Bool.cond_self]
 refine ⟨⟨(0,[],()),rfl,rfl,Int.le_refl _,hp1,rfl⟩,?_⟩
 rintro ⟨i,m,⟨⟩⟩ ⟨h0,h1,h2⟩
 dsimp only at h0 h1 h2 ⊢
 obtain ⟨k,rfl⟩:=cf6 h0
 simp only [cf4] at h2 ⊢
 subst h2
 refine ⟨fun hlt=>?_,fun hge=>?_⟩
 ·have hlt:(k:Int)<a:=cg0 hlt
  refine ⟨((k+1:Nat),Q0 (k+1),()),?_,aR8 k |>.symm,⟨by omega,by dsimp only;omega,by dsimp only;rw [cf4]⟩,by dsimp only;omega⟩
  rw [M6 (by omega) (by omega)];rfl
 have hk:a.toNat=k:=by have:¬ (k:Int)<a:=cf9 hge;omega
 have hst:F6 a=(Q0 k,[],a):=by unfold F6;rw [hk]
 clear h0 h1 hge
 refine ⟨⟨(0,_,a,[],()),rfl,rfl,rfl,rfl,Int.le_refl _,by dsimp only;omega,by simp only [Int.toNat_zero,List.take_zero,H8,hst];rfl⟩,?_⟩
 rintro ⟨i,m,nx,cd,⟨⟩⟩ ⟨h0,h1,h2⟩
 dsimp only at h0 h1 h2 ⊢
 obtain ⟨j,rfl⟩:=cf6 h0
 simp only [cf4,Bool.cond_self] at h2 ⊢
 have hjl:j≤code.length:=by omega
 have hb:=aF0 (code.take j) (F6 a) (by
  unfold K7 at hp4 ⊢
  exact ci0.2 fun x hx=>ci0.1 hp4 x (List.mem_of_mem_take hx))
 rw [h2] at hb
 simp only [F6,List.length_nil,ch9] at hb
 refine ⟨fun hlt=>?_,fun hge=>?_⟩
 ·have hlt:(j:Int)<code.length:=cg0 hlt
  have hjc:j<code.length:=by omega
  have hstop:=fun h=>hno _ (bv3 hjc h2 h)
  have hstep:=aL2 hjc h2
  have hok:aQ0 (code.getD j rins0).ins=true:=ci0.1 hp4 _ (K4 hjc _)
  have next:∀ s:SF,J1 (m,cd,nx) (code.getD j rins0)=(s,true)→∃ p':Int×List (Place×Int)×Int×List Ins×Unit,IntKind.i64.wrap ((j:Int)+1)=p'.1∧s.1=p'.2.1∧s.2.2=p'.2.2.1∧s.2.1=p'.2.2.2.1∧
    (0≤p'.1∧p'.1≤(code.length:Int)∧H8 (code.take p'.1.toNat) (F6 a)=((p'.2.1,p'.2.2.2.1,p'.2.2.1),true))∧code.length-p'.1.toNat<code.length-j:=fun s hs=>
   ⟨((j+1:Nat),s.1,s.2.2,s.2.1,()),B6 hjc (by omega),rfl,rfl,rfl,⟨by omega,by dsimp only;omega,by dsimp only;rw [cf4,hstep,hs]⟩,by dsimp only;omega⟩
  generalize code.getD j rins0=x at hstop hstep hok next ⊢
  refine ⟨⟨h0,hlt⟩,fun hk0=>?_,fun hk0=>?_⟩
  ·have hk0:(x.kind==0)=false:=by simpa [bne] using hk0
   have hpl:(Place.mk (bif x.kind==2 then false else true) (bif x.kind==2 then x.slot else x.cell))=(bif x.kind==2 then ⟨false,x.slot⟩ else ⟨true,x.cell⟩):=by cases x.kind==2<;>rfl
   have hpl2:(Place.mk (bif x.kind==2 then true else false) (bif x.kind==2 then x.cell else x.slot))=(bif x.kind==2 then ⟨true,x.cell⟩ else ⟨false,x.slot⟩):=by cases x.kind==2<;>rfl
   rw [hpl,hpl2]
   have hS:J1 (m,cd,nx) x=match mget eqP m (bif x.kind==2 then ⟨false,x.slot⟩ else ⟨true,x.cell⟩) with
     |none=>((m,cd,nx),false)
     |some n=>((mput eqP m (bif x.kind==2 then ⟨true,x.cell⟩ else ⟨false,x.slot⟩) n,cd,nx),true):=by
    simp only [J1,hk0,cond_false]
    try rfl
   generalize (bif x.kind==2 then (⟨false,x.slot⟩:Place) else ⟨true,x.cell⟩)=q at hS ⊢
   generalize (bif x.kind==2 then (⟨true,x.cell⟩:Place) else ⟨false,x.slot⟩)=q2 at hS ⊢
   show ((!(mget eqP m q).isSome)=true→_)∧((!(mget eqP m q).isSome)=false→_)
   cases hq:mget eqP m q with
   |none=>
    rw [hq] at hS
    refine ⟨fun _=>?_,fun h=>(by cases h)⟩
    exact (hstop (by rw [hS])).symm
   |some v=>
    rw [hq] at hS
    refine ⟨fun h=>(by cases h),fun _=>?_⟩
    have hq':mget (E1 RU (Ty.user 2)) m q=some v:=hq
    obtain ⟨p',q1,q2',q3,q4,q5⟩:=next _ hS
    exact ⟨p',q1,by rw [hq'];exact q2',q3,q4,q5⟩
  ·have hk0:(x.kind==0)=true:=by simpa [bne] using hk0
   have hS:J1 (m,cd,nx) x=bif x.ins.from_.all (isP (m,())) then (((E7 nx m x.ins.to).2.2,cd++[⟨x.ins.op,x.ins.n,(E7 nx m x.ins.to).1,x.ins.from_.map (getF m),x.ins.body⟩],(E7 nx m x.ins.to).2.1),true) else ((m,cd,nx),false):=by
    simp only [J1,hk0,cond_true]
   cases hq:x.ins.from_.all (isP (m,())) with
   |false=>
    rw [hq] at hS
    refine ⟨fun _=>(hstop (by rw [hS];rfl)).symm,fun h=>(by cases h)⟩
   |true=>
    rw [hq] at hS
    refine ⟨fun h=>(by cases h),fun _=>⟨⟨T2.2 ((O0 _).1 hok),by omega,?_⟩,?_,?_⟩⟩
    ·omega
    ·simp only [cg6,List.length_nil];omega
    ·obtain ⟨p',q1,q2',q3,q4,q5⟩:=next _ hS
     exact ⟨p',q1,q2',q3,q4,q5⟩
 have hjj:j=code.length:=by have:¬ (j:Int)<code.length:=cf9 hge;omega
 subst hjj
 rw [ch8] at h2
 rw [h2]
 have hyes:=hyes _ h2
 dsimp only at hyes ⊢
 clear h0 h1 hge hno h2
 refine ⟨⟨(0,[],()),rfl,rfl,Int.le_refl _,by dsimp only;omega,rfl⟩,?_⟩
 rintro ⟨i,l,⟨⟩⟩ ⟨h0,h1,h2⟩
 dsimp only at h0 h1 h2 ⊢
 obtain ⟨j,rfl⟩:=cf6 h0
 simp only [cf4] at h2 ⊢
 have hjl:j≤out.length:=by omega
 have hlen:=ba6 m (out.take j)
 rw [h2,ch9] at hlen
 refine ⟨fun hlt=>?_,fun hge=>?_⟩
 ·have hlt:(j:Int)<out.length:=cg0 hlt
  have hjc:j<out.length:=by omega
  have hcut:out=out.take j++(out.getD j ⟨false,0⟩::out.drop (j+1)):=by
   conv=>lhs;rw [←List.take_append_drop (j+1) out,A4 hjc ⟨false,0⟩]
   simp
  generalize hx:out.getD j ⟨false,0⟩=x at hcut ⊢
  obtain ⟨xc,xn⟩:=x
  refine ⟨⟨h0,hlt⟩,?_⟩
  show ((!(mget eqP m ⟨xc,xn⟩).isSome)=true→_)∧((!(mget eqP m ⟨xc,xn⟩).isSome)=false→_)
  cases hq:mget eqP m ⟨xc,xn⟩ with
  |none=>
   refine ⟨fun _=>?_,fun h=>(by cases h)⟩
   have:R6 m out=(l,false):=by
    rw [hcut,aF1,h2]
    simp only [cond_true,R6,hq,List.append_nil]
   rw [hyes,this]
  |some v=>
   refine ⟨fun h=>(by cases h),fun _=>⟨by simp only [cg6,List.length_nil] at hlen ⊢;omega,((j+1:Nat),l++[v],()),B6 hjc (by omega),?_,⟨by omega,by dsimp only;omega,?_⟩,by dsimp only;omega⟩⟩
   ·have hq':mget (E1 RU (Ty.user 2)) m ⟨xc,xn⟩=some v:=hq
    rw [hq'];rfl
   ·dsimp only
    rw [cf4,A4 hjc ⟨false,0⟩,hx,aF1,h2]
    simp only [cond_true,R6,hq]
 ·have hjj:j=out.length:=by have:¬ (j:Int)<out.length:=cf9 hge;omega
  subst hjj
  rw [ch8] at h2
  rw [hyes,h2]
theorem au3:C6 prog RG 58 cFollow:=E2 (A6 bs8 (A6 aR7 C0)) (fun p=>bh5 p.1 p.2.2.2.1 p.2.2.2.2.1) (by kernel_rfl) (by kernel_rfl) (by kernel_rfl) fun (a,b,c,code,out,()) hp=>bG5 a b c code out hp
theorem ar3 (a:Int) (l r:List Ins):I2 a (l++r)=I2 (I2 a l) r:=by simp [I2]
theorem aF2:∀ (l:List Ins) (a:Int),a≤I2 a l
 |[],a=>Int.le_refl _
 |x::r,a=>by
  have:=aF2 r (a+x.to.length)
  simp only [I2,List.foldl_cons] at this ⊢
  omega
theorem bh6 (l:List Ins) (k:Nat) (a:Int):I2 a (l.take k)≤I2 a l:=by
 conv=>rhs;rw [←List.take_append_drop k l]
 rw [ar3]
 exact aF2 _ _
theorem bh7 {a:Int} {s:SF} (h:s.2.2=I2 a s.2.1) (x:RIns):(J1 s x).1.2.2=I2 a (J1 s x).1.2.1:=by
 unfold J1
 cases x.kind==0 with
 |true=>
  simp only [cond_true]
  cases x.ins.from_.all (isP (s.1,())) with
  |true=>
   have:=ab0 s.2.2 s.1 x.ins.to
   simp only [cond_true,ar3,←h]
   simp only [I2,List.foldl_cons,List.foldl_nil]
   rw [this.2,this.1]
  |false=>exact h
 |false=>
  simp only [cond_false]
  cases mget eqP s.1 (bif x.kind==2 then ⟨false,x.slot⟩ else ⟨true,x.cell⟩) with
  |none=>exact h
  |some n=>exact h
theorem aL3 {a:Int}:∀ (l:List RIns) {s:SF},s.2.2=I2 a s.2.1→(H8 l s).1.2.2=I2 a (H8 l s).1.2.1
 |[],s,h=>h
 |x::r,s,h=>by
  simp only [H8]
  cases (J1 s x).2 with
  |true=>exact aL3 r (bh7 h x)
  |false=>exact h
theorem ao8 (c:RCode):(B9 c).1.params=c.params∧(B9 c).1.code=(H8 c.code (F6 c.params)).1.2.1:=by
 unfold B9
 cases (H8 c.code (F6 c.params)).2<;>exact ⟨rfl,rfl⟩
theorem aR9 {c:RCode} (h0:0≤c.params∧c.params≤4000) (hl:c.code.length≤16000) (hi:K7 c.code=true):(B9 c).1.code.length≤16000∧I2 c.params (B9 c).1.code≤281474976714656000∧((B9 c).2=true→I2 c.params (B9 c).1.code=(H8 c.code (F6 c.params)).1.2.2):=by
 rw [(ao8 c).2]
 have h1:=aF0 c.code (F6 c.params) hi
 have h2:=aL3 c.code (a:=c.params) (s:=F6 c.params) rfl
 simp only [F6,List.length_nil] at h1 h2 ⊢
 rw [←h2]
 refine ⟨by omega,by omega,fun _=>rfl⟩
theorem aS0 (l:List Int) (x:Int):D3 (l++[x])=(D3 l&&!l.contains x):=by
 rw [Bool.eq_iff_iff,G5,cf3,G5,List.nodup_append]
 simp
 intro _
 exact ⟨fun h hx=>h x hx rfl,fun h a ha e=>h (e▸ha)⟩
theorem ba7 {l r:List Int} (h:D3 l=false):D3 (l++r)=false:=by
 rw [Bool.eq_false_iff] at h ⊢
 intro hh
 exact h (G5.2 (List.nodup_append.1 (G5.1 hh)).1)
theorem bO7 (a b c:Int) (code:List RIns) (out:List Place) (hp:-9223372036854775808≤b∧b<9223372036854775808∧K7 code=true∧out.length≤17592186044400):vc (EV [(60,cShaped),(61,cContains),(58,cFollow)]) (bG2 code) Go.Proofs.Tryd.f22 cValid (a,b,c,code,out,()):=by
 rw [bO6 a b c code out]
 intro e0 e1 e2 e3 e4 hsl hso
 obtain ⟨hp1,hp2,hp3,hp4⟩:=hp
 have hd:e1=rins0:=rfl
 have he2:e2=(H4 ⟨a,b,c,code,out⟩,()):=rfl
 have he4:e4=!H7 ⟨a,b,c,code,out⟩:=rfl
 have he0:e0=decide ((16000:Int)<(code.length:Int)):=rfl
 simp only [H4] at he2
 clear_value e0 e1 e2 e4
 subst hd
 dsimp only [e3]
 simp only [true_and,and_true]
 have hins:∀ k,k<code.length→aQ0 (code.getD k rins0).ins=true:=fun k hk=>ci0.1 hp3 _ (K4 hk _)
 refine ⟨fun h=>?_,fun h=>⟨⟨hp1,hp2⟩,fun h2=>?_,fun h2=>?_⟩⟩
 ·rw [he0] at h
  have h:(16000:Int)<code.length:=cg0 h
  rw [he2,if_pos (by omega)]
 ·rw [he0] at h
  have h:¬ (16000:Int)<code.length:=cf9 h
  rw [he4,Bool.not_eq_true'] at h2
  rw [he2,if_neg (by omega),if_pos h2]
 rw [he0] at h
 have h:¬ (16000:Int)<code.length:=cf9 h
 rw [he4,Bool.not_eq_false'] at h2
 rw [if_neg (by omega),h2,if_neg (by simp)] at he2
 refine ⟨⟨(0,()),rfl,Int.le_refl _,by dsimp only;omega,by simp⟩,?_⟩
 rintro ⟨i,⟨⟩⟩ ⟨h0,h1,h3⟩
 dsimp only at h0 h1 h3 ⊢
 obtain ⟨k,rfl⟩:=cf6 h0
 simp only [cf4] at h3 ⊢
 refine ⟨fun hlt=>?_,fun hge=>?_⟩
 ·have hlt:(k:Int)<code.length:=cg0 hlt
  have hkc:k<code.length:=by omega
  have hx:=(O0 _).1 (hins k hkc)
  have no:(code.getD k rins0).kind=0→D3 (code.getD k rins0).ins.to=false→((5:Int),())=e2:=fun q1 q2=>by
   have:(code.all fun x=>x.kind !=0||D3 x.ins.to)=false:=aR5 rins0 hkc (by rw [q1,q2];rfl)
   rw [he2,this,if_pos rfl]
  have yes:((code.getD k rins0).kind≠0∨D3 (code.getD k rins0).ins.to=true)→∃ p':Int×Unit,IntKind.i64.wrap ((k:Int)+1)=p'.1∧(0≤p'.1∧p'.1≤(code.length:Int)∧((code.take p'.1.toNat).all fun x=>x.kind !=0||D3 x.ins.to)=true)∧code.length-p'.1.toNat<code.length-k:=fun q=>
   ⟨((k+1:Nat),()),B6 hkc (by omega),⟨by omega,by dsimp only;omega,by
    dsimp only;rw [cf4]
    refine ao7 rins0 hkc h3 ?_
    rcases q with q|q
    ·exact (Bool.or_eq_true_iff ..).2 (.inl (bne_iff_ne.2 q))
    ·rw [q];simp⟩,by dsimp only;omega⟩
  obtain ⟨x,hxe⟩:∃ x,code.getD k rins0=x:=⟨_,rfl⟩
  simp only [hxe] at hx no yes ⊢
  refine ⟨⟨h0,hlt⟩,⟨(0,()),rfl,Int.le_refl _,by dsimp only;omega,.inr (by simp [D3])⟩,?_⟩
  rintro ⟨i,⟨⟩⟩ ⟨g0,g1,g2⟩
  dsimp only at g0 g1 g2 ⊢
  obtain ⟨j,rfl⟩:=cf6 g0
  simp only [cf4] at g2 ⊢
  refine ⟨fun glt=>?_,fun gge=>?_⟩
  ·have glt:(j:Int)<x.ins.to.length:=cg0 glt
   have hjc:j<x.ins.to.length:=by omega
   have hsn:=aS0 (x.ins.to.take j) (x.ins.to.getD j 0)
   rw [←A4 hjc] at hsn
   refine ⟨⟨g0,glt⟩,fun _=>⟨g0,by omega⟩,fun hq=>?_,fun hq=>?_⟩
   ·simp only [cf3,beq_iff_eq] at hq
    refine no hq.1 ?_
    rw [hq.2] at hsn
    have h5:D3 (x.ins.to.take (j+1))=false:=by rw [hsn];simp
    have:=ba7 (r:=x.ins.to.drop (j+1)) h5
    rwa [List.take_append_drop] at this
   ·refine ⟨((j+1:Nat),()),B6 hjc (by have:=hx.1.1;omega),⟨by omega,by dsimp only;omega,?_⟩,by dsimp only;omega⟩
    dsimp only
    rw [cf4]
    rcases g2 with g2|g2
    ·exact .inl g2
    ·by_cases hk:x.kind=0
     ·right
      simp only [hk,beq_self_eq_true,Bool.true_and] at hq
      rw [hsn,g2,hq];rfl
     ·exact .inl hk
  ·have hj:j=x.ins.to.length:=by have:¬ (j:Int)<x.ins.to.length:=cf9 gge;omega
   subst hj
   rw [ch8] at g2
   exact yes g2
 ·have hk:k=code.length:=by have:¬ (k:Int)<code.length:=cf9 hge;omega
  subst hk
  rw [ch8] at h3
  rw [h3,if_neg (by simp)] at he2
  have hsh:0≤a∧a≤4000:=by
   simp only [H7,G6,cf3,List.all_cons,List.all_nil,ch2] at h2
   omega
  refine ⟨⟨hsh.1,hsh.2,by omega,hp3,hp4⟩,fun q=>?_,fun q=>?_⟩
  ·rw [Bool.not_eq_true'] at q
   rw [he2,if_pos q]
  ·rw [Bool.not_eq_false'] at q
   rw [he2,q,if_neg (by simp)]
theorem ak9:C6 prog RG 22 cValid:=E2 (A6 ba4 (A6 L8 (A6 au3 C0))) (fun p=>bG2 p.2.2.2.1) (by kernel_rfl) (by kernel_rfl) (by kernel_rfl) fun (a,b,c,code,out,()) hp=>bO7 a b c code out hp
theorem ba8 {c:RCode} (h:H4 c=0):c.code.length≤16000∧H7 c=true∧(c.code.all fun x=>x.kind !=0||D3 x.ins.to)=true∧(B9 c).2=true:=by
 unfold H4 at h
 split at h
 ·cases h
 ·split at h
  ·cases h
  ·split at h
   ·cases h
   ·split at h
    ·cases h
    ·rename_i h1 h2 h3 h4
     exact ⟨by omega,(Bool.not_eq_false _▸h2),(Bool.not_eq_false _▸h3),(Bool.not_eq_false _▸h4)⟩
theorem aS1 {c:RCode} (h:H7 c=true):0≤c.params∧c.params≤4000:=by
 simp only [H7,G6,cf3,List.all_cons,List.all_nil,ch2] at h
 omega
theorem bX7 (a b c:Int) (code:List RIns) (out:List Place) (hp:-9223372036854775808≤b∧b<9223372036854775808∧K7 code=true∧out.length≤17592186044400):vc (EV [(22,cValid),(58,cFollow)]) (bX5 a (B9 ⟨a,b,c,code,out⟩).1.code) Go.Proofs.Tryd.f20 cBack (a,b,c,code,out,()):=by
 rw [bX6 a b c code out]
 intro e0 e1 e2 e3 e4 e5 e6 e7 hsl hso
 have hb:e0=((H2 ⟨a,b,c,code,out⟩).1.params,(H2 ⟨a,b,c,code,out⟩).1.code,(H2 ⟨a,b,c,code,out⟩).1.out,(H2 ⟨a,b,c,code,out⟩).1.at_,(H2 ⟨a,b,c,code,out⟩).2,()):=rfl
 have he7:e7=H4 ⟨a,b,c,code,out⟩:=rfl
 have he3:e3=(e7 !=0):=rfl
 clear_value e0 e3
 dsimp only [e1,e2,e4,e5,e6]
 simp only [true_and,and_true]
 refine ⟨hp,fun h=>?_,fun h=>?_⟩
 ·have hne:H4 ⟨a,b,c,code,out⟩≠0:=by
   rw [←he7];rw [he3] at h;simpa using h
  have:H2 ⟨a,b,c,code,out⟩=(vfun0,H4 ⟨a,b,c,code,out⟩):=by simp only [H2,if_pos hne]
  rw [hb,this,he7];rfl
 have hz:H4 ⟨a,b,c,code,out⟩=0:=by
  rw [←he7];rw [he3] at h;simpa using h
 obtain ⟨h1,h2,h3,h4⟩:=ba8 hz
 have hpar:=aS1 h2
 have hm:=aR9 hpar h1 hp.2.2.1
 have hB:H2 ⟨a,b,c,code,out⟩=if 4000<I2 a (B9 ⟨a,b,c,code,out⟩).1.code∨4000<(B9 ⟨a,b,c,code,out⟩).1.code.length then (vfun0,9) else ((B9 ⟨a,b,c,code,out⟩).1,0):=by simp only [H2,hz,ne_eq,not_true_eq_false,if_false]
 have hpa:=(ao8 ⟨a,b,c,code,out⟩).1
 rw [hB] at hb
 obtain ⟨f,hf⟩:∃ f,B9 ⟨a,b,c,code,out⟩=f:=⟨_,rfl⟩
 simp only [hf] at hb hm h4 hpa ⊢
 obtain ⟨⟨fa,fc,fo,ft⟩,fb⟩:=f
 dsimp only at hb hm h4 hpa ⊢
 subst hpa
 refine ⟨⟨hpar.1,hpar.2,h1,hp.2.2.1,hp.2.2.2⟩,⟨(0,fa,()),rfl,rfl,Int.le_refl _,by dsimp only;omega,by simp [I2]⟩,?_⟩
 rintro ⟨i,n,⟨⟩⟩ ⟨g0,g1,g2⟩
 dsimp only at g0 g1 g2 ⊢
 obtain ⟨k,rfl⟩:=cf6 g0
 simp only [cf4] at g2 ⊢
 subst g2
 refine ⟨fun hlt=>?_,fun hge=>?_⟩
 ·have hlt:(k:Int)<fc.length:=cg0 hlt
  have hkc:k<fc.length:=by omega
  have hs:I2 fa (fc.take (k+1))=I2 fa (fc.take k)+((fc.getD k ins0).to.length:Int):=by
   rw [A4 hkc ins0,ar3];rfl
  have hle:=bh6 fc (k+1) fa
  have hge:=aF2 (fc.take k) fa
  have hpar1:0≤fa:=hpar.1
  refine ⟨⟨g0,hlt⟩,((k+1:Nat),I2 fa (fc.take (k+1)),()),B6 hkc (by omega),?_,⟨by omega,by dsimp only;omega,by dsimp only;rw [cf4]⟩,by dsimp only;omega⟩
  show IntKind.i64.wrap (I2 fa (fc.take k)+((fc.getD k ins0).to.length:Int))=_
  rw [←hs,M6 (by omega) (by omega)]
 ·have hk:k=fc.length:=by have:¬ (k:Int)<fc.length:=cf9 hge;omega
  subst hk
  rw [ch8]
  refine ⟨fun q=>?_,fun q=>?_⟩
  ·simp only [Bool.or_eq_true,ch2] at q
   have:4000<I2 fa fc∨4000<fc.length:=by omega
   rw [if_pos this] at hb
   exact hb.symm
  ·simp only [Bool.or_eq_false_iff,decide_eq_false_iff_not] at q
   have:¬ (4000<I2 fa fc∨4000<fc.length):=by omega
   rw [if_neg this] at hb
   exact hb.symm
theorem aL4:C6 prog RG 20 cBack:=E2 (A6 ak9 (A6 au3 C0)) (fun p=>bX5 p.1 (B9 ⟨p.1,p.2.1,p.2.2.1,p.2.2.2.1,p.2.2.2.2.1⟩).1.code) (by kernel_rfl) (by kernel_rfl) (by kernel_rfl) fun (a,b,c,code,out,()) hp=>bX7 a b c code out hp
abbrev Reads:=List (Int×List Int)
abbrev mapR:Ty:=.map i64 ints
def getL (r:Reads) (n:Int):List Int:=(mget eqI r n).getD []
def aF3 (rd:Reads) (N reg from_:Int):Int:=((getL rd reg).find? (fun x=>decide (from_≤x))).getD N
def bG6:Place:=⟨true,-1⟩
def ai3 (m:Holds) (reg:Int) (s:Nat):Bool:=decide (mget eqP m ⟨false,(s:Int)⟩=some reg)
def D6 (m:Holds) (ks reg:Int):Place:=match (List.range ks.toNat).find? (ai3 m reg) with
 |some s=>⟨false,(s:Int)⟩
 |none=>bG6
def held0:Held:=⟨0,0,0⟩
def ar4 (x y:Held):Bool:=decide (x.next >y.next)||(x.next==y.next&&decide (x.reg >y.reg))
def O4 (x y:Held):Held:=bif ar4 y x then y else x
def L4 (l:List Held):Held:=l.tail.foldl O4 (l.headD held0)
structure AS where
 holds:Holds
 cells:List (Int×Int)
 ocells:Int
 code:List RIns
def C7 (sp:Spans) (rd:Reads) (N:Int) (m:Holds) (place:Int) (stay:List Int):List Nat→List Held→Option Int×List Held
 |[],acc=>(none,acc)
 |s::r,acc=>match mget eqP m ⟨false,(s:Int)⟩ with
  |none=>(some (s:Int),acc)
  |some n=>bif stay.contains n then C7 sp rd N m place stay r acc else bif O5 (getS sp n).first (getS sp n).last place then C7 sp rd N m place stay r (acc++[⟨(s:Int),n,aF3 rd N n place⟩]) else (some (s:Int),acc)
def L2 (sp:Spans) (rd:Reads) (ks N:Int) (m:Holds) (place:Int) (stay:List Int):Option Int×List Held:=C7 sp rd N m place stay (List.range ks.toNat) []
def au4 (sp:Spans) (rd:Reads) (ks N:Int) (m:Holds) (place:Int) (stay:List Int):Prop:=(L2 sp rd ks N m place stay).1=none→(L2 sp rd ks N m place stay).2≠[]
def aS2 (s:AS) (x:Held):AS:=bif (mget eqI s.cells x.reg).isSome then s else ⟨s.holds,mput eqI s.cells x.reg s.ocells,s.ocells+1,s.code++[⟨2,x.slot,s.ocells,ins0⟩]⟩
def G1 (sp:Spans) (rd:Reads) (ks N:Int) (s:AS) (place:Int) (stay:List Int):Int×AS:=
 match (L2 sp rd ks N s.holds place stay).1 with
 |some i=>(i,s)
 |none=>((L4 (L2 sp rd ks N s.holds place stay).2).slot,aS2 s (L4 (L2 sp rd ks N s.holds place stay).2))
def E8:List Int→List Int→List Int
 |_,[]=>[]
 |seen,x::r=>bif seen.contains x then E8 (seen++[x]) r else x::E8 (seen++[x]) r
def B4 (l:List Int):List Int:=E8 [] l
def J5 (sp:Spans) (rd:Reads) (ks N i:Int) (fr:List Int) (s:AS) (n:Int):AS:=
 bif (D6 s.holds ks n).cell then
  (match G1 sp rd ks N s i fr with
  |(q,t)=>⟨mput eqP t.holds ⟨false,q⟩ n,t.cells,t.ocells,t.code++[⟨1,q,getI t.cells n,ins0⟩]⟩)
 else s
def au5 (sp:Spans) (rd:Reads) (ks N i:Int) (to:List Int) (s:AS) (n:Int):AS:=
 match G1 sp rd ks N s (i+1) to with
 |(q,t)=>⟨mput eqP t.holds ⟨false,q⟩ n,t.cells,t.ocells,t.code⟩
def E5 (sp:Spans) (rd:Reads) (ks N i:Int) (fr:List Int) (s:AS) (l:List Int):AS:=l.foldl (J5 sp rd ks N i fr) s
def P7 (sp:Spans) (rd:Reads) (ks N i:Int) (to:List Int) (s:AS) (l:List Int):AS:=l.foldl (au5 sp rd ks N i to) s
def ab1 (m:Holds) (ks:Int) (l:List Int):List (Int×Int):=l.foldl (fun mm n=>mput eqI mm n (D6 m ks n).n) []
def doOf (sp:Spans) (rd:Reads) (ks N i:Int) (x:Ins) (s:AS):AS:=
 match E5 sp rd ks N i (B4 x.from_) s (B4 x.from_) with
 |s1=>match P7 sp rd ks N i x.to s1 x.to with
  |s2=>⟨s2.holds,s2.cells,s2.ocells,s2.code++[⟨0,0,0,⟨x.op,x.n,x.to.map (fun n=>(D6 s2.holds ks n).n),x.from_.map (getI (ab1 s1.holds ks (B4 x.from_))),x.body⟩⟩]⟩
def doOk (sp:Spans) (rd:Reads) (ks N i:Int) (x:Ins) (s:AS):Prop:=
 (∀ k,k<(B4 x.from_).length→(D6 (E5 sp rd ks N i (B4 x.from_) s ((B4 x.from_).take k)).holds ks ((B4 x.from_).getD k 0)).cell=true→au4 sp rd ks N (E5 sp rd ks N i (B4 x.from_) s ((B4 x.from_).take k)).holds i (B4 x.from_))∧
 (∀ k,k<x.to.length→au4 sp rd ks N (P7 sp rd ks N i x.to (E5 sp rd ks N i (B4 x.from_) s (B4 x.from_)) (x.to.take k)).holds (i+1) x.to)
def ae5 (rd:Reads):Prop:=∀ n,(getL rd n).Pairwise (·≤·)
abbrev tysA:List Ty:=[i64,inss,ints,ints,mapS,mapR,mapP,mapI,i64,i64,i64,aH0,ao3]
abbrev objA (j b:Nat):List OPat:=[.box 86 [.d b,.d (b+1),.d (b+2),.d (b+3),.map (j+1),.map (j+2),.map (j+3),.map (j+4),.d (b+8),.d (b+9),.d (b+10),.row (j+5),.row (j+6)],.map (b+4),.map (b+5),.map (b+6),.map (b+7),.row (b+11),.row (b+12)]
def cIsNaN:Con RU:=con [one] [i64] [one] [.bool] [false] none fun p=>(false,())
def cLess:Con RU:=con [one,one] [i64,i64] [one] [.bool] [false] none fun p=>(decide (p.1<p.2.1),())
def cBin:Con RU:=⟨[one,one],[ints,i64],[.d 0,.d 1],[],some fun p=>p.1.Pairwise (·≤·),none,[one,one],[i64],[.d 0,.un],[],fun p=>(((p.1.takeWhile (fun x=>decide (x<p.2.1))).length:Int),()),[],[],[]⟩
def lBin (l:List Int) (t:Int):Nat→St RU→Ann RU:=fun _ _=>⟨[],[.slot 7,.slot 8],[i64,i64],fun p=>0≤p.1∧p.1≤p.2.1∧p.2.1≤l.length∧(∀ x∈l.take p.1.toNat,x<t)∧(∀ x∈l.drop p.2.1.toNat,t≤x),fun p=>(p.2.1-p.1).toNat,[]⟩
def cSlot:Con RU:=⟨[one,one],i64::tysA,[.ptr 0 0,.d 0],objA 0 1,some fun p=>p.2.2.2.2.2.2.2.2.2.2.1≤64,none,[(true,2)],.bool::i64::tysA,[.d 0,.d 1],objA 0 2,fun p=>((D6 p.2.2.2.2.2.2.2.1 p.2.2.2.2.2.2.2.2.2.2.1 p.1).cell,(D6 p.2.2.2.2.2.2.2.1 p.2.2.2.2.2.2.2.2.2.2.1 p.1).n,p.2),[],[],[]⟩
def bX8 (ho:Holds) (ks reg:Int):Nat→St RU→Ann RU:=fun _ _=>⟨[],[.slot 14],[i64],fun p=>0≤p.1∧(p.1≤ks∨p.1=0)∧∀ s∈List.range p.1.toNat,ai3 ho reg s=false,fun p=>ks.toNat-p.1.toNat,[]⟩
def cPutA:Con RU:=⟨[one,(true,8)],[i64,i64,i64,i64,i64,ints,ints,inss]++tysA,[.ptr 0 0,.d 0,.d 1,.d 2,.d 3,.d 4,.d 5,.d 6,.d 7],objA 0 8,some fun p=>p.2.2.2.2.2.2.2.2.2.2.2.2.2.2.2.2.2.2.2.1.length≤1000000000,none,[],tysA,[],objA 0 0,
 fun p=>match p with
  |(k,s,c,o,n,t,f,b,a0,a1,a2,a3,sp,rd,ho,ce,op,ks,oc,cd,ou,())=>(a0,a1,a2,a3,sp,rd,ho,ce,op,ks,oc,cd++[⟨k,s,c,⟨o,n,t,f,b⟩⟩],ou,()),[],[],[]⟩
def cNext:Con RU:=⟨[one,one,one],i64::i64::tysA,[.ptr 0 0,.d 0,.d 1],objA 0 2,some fun p=>ae5 p.2.2.2.2.2.2.2.1,none,[one],i64::tysA,[.d 0],objA 0 1,fun p=>(aF3 p.2.2.2.2.2.2.2.1 p.2.2.2.1.length p.1 p.2.1,p.2.2),[],[],[]⟩
def cBetter:Con RU:=con [(true,3),(true,3)] [i64,i64,i64,i64,i64,i64] [one] [.bool] [false] none fun p=>(ar4 ⟨p.1,p.2.1,p.2.2.1⟩ ⟨p.2.2.2.1,p.2.2.2.2.1,p.2.2.2.2.2.1⟩,())
def cBest:Con RU:=⟨[(true,1),one],[cb3],[.fn 102,.d 0],[],some fun p=>p.1≠[],none,[(true,3)],[i64,i64,i64],[.d 0,.d 1,.d 2],[],fun p=>((L4 p.1).slot,(L4 p.1).reg,(L4 p.1).next,()),[],[],[]⟩
def bX9 (l:List Held):Nat→St RU→Ann RU:=fun _ _=>⟨[],[.slot 14,.box 320 0,.box 320 1,.box 320 2],[i64,i64,i64,i64],fun p=>0≤p.1∧p.1≤l.tail.length∧(⟨p.2.1,p.2.2.1,p.2.2.2.1⟩:Held)=(l.tail.take p.1.toNat).foldl O4 (l.headD held0),fun p=>l.tail.length-p.1.toNat,[]⟩
theorem bO8 (a:Int):vc (EV []) noL Go.Proofs.Tryd.f110 cIsNaN (a,())=((a !=a,())=(false,())):=by kernel_rfl
theorem bG7 (a:Int):vc (EV []) noL Go.Proofs.Tryd.f111 cIsNaN (a,())=((a !=a,())=(false,())):=by kernel_rfl
theorem bY0 (a b:Int):vc (EV [(111,cIsNaN)]) noL Go.Proofs.Tryd.f109 cLess (a,b,())=(
 let e0:Bool:=decide (a<b);
  (false&&!false||e0,())=(e0,())):=by kernel_rfl
theorem cd2 (l:List Int) (t:Int):vc (EV [(109,cLess),(110,cIsNaN)]) (lBin l t) Go.Proofs.Tryd.f107 cBin (l,t,())=(
 let e0:Int:=(↑(List.length l):Int);
 let e1:Int:=(2:Int) ^ (1:Nat);
  Small RU (Sigma.mk (Ty.slice (3:Nat) (Ty.int IntKind.i64)) l)→
  (∃ (p:Int×Int×Unit),
  l=l∧
  t=t∧
  (0:Int)=(0:Int)∧
  false=false∧
  e0=e0∧
  (0:Int)=p.1∧
  e0=p.2.1∧
  (0:Int)≤p.1∧
  p.1≤p.2.1∧p.2.1≤e0∧(∀ (x:Int),List.Mem x (List.take (Int.toNat p.1) l)→x<t)∧∀ (x:Int),List.Mem x (List.drop (Int.toNat p.2.1) l)→t≤x)∧
  ∀ (p:Int×Int×Unit),
 let e0_1:Bool:=decide (List.getD l (Int.toNat (IntKind.i64.wrap (Int.fdiv (IntKind.wrap IntKind.u64 (IntKind.i64.wrap (p.1+p.2.1))) e1))) (0:Int)<t);
 let e1:Int:=IntKind.i64.wrap (Int.fdiv (IntKind.wrap IntKind.u64 (IntKind.i64.wrap (p.1+p.2.1))) e1);
 let e2:Bool:=decide (p.1<p.2.1);
 let e3:Int:=p.2.1;
 let e4:Int:=p.1;
  ((0:Int)≤e4∧e4≤e3∧e3≤e0∧(∀ (x:Int),List.Mem x (List.take (Int.toNat e4) l)→x<t)∧∀ (x:Int),List.Mem x (List.drop (Int.toNat e3) l)→t≤x)→
  (e2=true→
  (0:Int)≤(1:Int)∧
  ((0:Int)≤e1∧e1<e0)∧
  ∃ (p':Int×Int×Unit),
  (bif e0_1 then l else l)=l∧
  (bif e0_1 then t else t)=t∧
  (bif e0_1 then (0:Int) else (0:Int))=(0:Int)∧
  (bif e0_1 then false else false)=false∧
  (bif e0_1 then e0 else e0)=e0∧
  (bif e0_1 then IntKind.i64.wrap (e1+(1:Int)) else e4)=p'.1∧
  (bif e0_1 then e3 else e1)=p'.2.1∧
  ((0:Int)≤p'.1∧
  p'.1≤p'.2.1∧
  p'.2.1≤e0∧(∀ (x:Int),List.Mem x (List.take (Int.toNat p'.1) l)→x<t)∧∀ (x:Int),List.Mem x (List.drop (Int.toNat p'.2.1) l)→t≤x)∧
  Int.toNat (p'.2.1-p'.1)<Int.toNat (e3-e4))∧
  (e2=false→
  (decide (e4<e0)=true→(0:Int)≤e4∧e4<e0)∧
  (decide (e4<e0)=true→(List.getD l (Int.toNat e4) (0:Int)==t)=false→(0:Int)≤e4∧e4<e0)∧
  (e4,())=((↑(List.length (List.takeWhile (fun (x:den RU.T i64)=>decide (x<t)) l)):Int),()))):=by kernel_rfl
theorem bY1 (reg a0:Int) (a1:List Ins) (a2 a3:List Int) (sp:Spans) (rd:Reads) (ho:Holds) (ce:List (Int×Int)) (op ks oc:Int) (cd:List RIns) (ou:List Place):vc (EV []) (bX8 ho ks reg) Go.Proofs.Tryd.f54 cSlot (reg,a0,a1,a2,a3,sp,rd,ho,ce,op,ks,oc,cd,ou,())=(
 let e0:Int×List Ins×List Int×List Int×List (Int×Span)×List (Int×List Int)×List (Place×Int)×List (Int×Int)×Int×Int×Int×List RIns×List Place×Unit:=
  (a0,a1,a2,a3,sp,rd,ho,ce,op,ks,oc,cd,ou,());
 let e1:Bool×Int×Int×List Ins×List Int×List Int×List (Int×Span)×List (Int×List Int)×List (Place×Int)×List (Int×Int)×Int×Int×Int×List RIns×List Place×Unit:=
  ((D6 ho ks reg).cell,(D6 ho ks reg).n,e0);
  Small RU (Sigma.mk (Ty.slice (52:Nat) (Ty.user (0:Nat))) a1)→
  Small RU (Sigma.mk (Ty.slice (3:Nat) (Ty.int IntKind.i64)) a2)→
  Small RU (Sigma.mk (Ty.slice (3:Nat) (Ty.int IntKind.i64)) a3)→
  Small RU (Sigma.mk (Ty.slice (55:Nat) (Ty.user (1:Nat))) cd)→
  Small RU (Sigma.mk (Ty.slice (59:Nat) (Ty.user (2:Nat))) ou)→
  (∃ (p:Int×Unit),
  reg=reg∧
  ks=ks∧
  (0:Int)=p.1∧
  a0=a0∧
  a1=a1∧
  a2=a2∧
  a3=a3∧
  op=op∧
  ks=ks∧
  oc=oc∧
  sp=sp∧
  rd=rd∧
  ho=ho∧
  ce=ce∧
  cd=cd∧
  ou=ou∧
  false=false∧
  (0:Int)=(0:Int)∧
  (0:Int)≤p.1∧(p.1≤ks∨p.1=(0:Int))∧∀ (s:Nat),List.Mem s (List.range (Int.toNat p.1))→ai3 ho reg s=false)∧
  ∀ (p:Int×Unit),
 let e0_1:Bool:=
  Option.isSome (mget (E1 RU (Ty.user (2:Nat))) ho (Place.mk false p.1))&&Option.getD (mget (E1 RU (Ty.user (2:Nat))) ho (Place.mk false p.1)) (0:Int)==reg;
 let e1_1:Bool:=decide (p.1<ks);
  ((0:Int)≤p.1∧(p.1≤ks∨p.1=(0:Int))∧∀ (s:Nat),List.Mem s (List.range (Int.toNat p.1))→ai3 ho reg s=false)→
  (e1_1=true→
  (e0_1=true→(false,p.1,e0)=e1)∧
  (e0_1=false→
  ∃ (p':Int×Unit),
  reg=reg∧
  ks=ks∧
  IntKind.i64.wrap (p.1+(1:Int))=p'.1∧
  a0=a0∧
  a1=a1∧
  a2=a2∧
  a3=a3∧
  op=op∧
  ks=ks∧
  oc=oc∧
  sp=sp∧
  rd=rd∧
  ho=ho∧
  ce=ce∧
  cd=cd∧
  ou=ou∧
  false=false∧
  (0:Int)=(0:Int)∧
  ((0:Int)≤p'.1∧
  (p'.1≤ks∨p'.1=(0:Int))∧∀ (s:Nat),List.Mem s (List.range (Int.toNat p'.1))→ai3 ho reg s=false)∧
  Int.toNat ks-Int.toNat p'.1<Int.toNat ks-Int.toNat p.1))∧
  (e1_1=false→(true,(-1:Int),e0)=e1)):=by kernel_rfl
theorem bY2 (k s c o n:Int) (t f:List Int) (b:List Ins) (a0:Int) (a1:List Ins) (a2 a3:List Int) (sp:Spans) (rd:Reads) (ho:Holds) (ce:List (Int×Int)) (op ks oc:Int) (cd:List RIns) (ou:List Place):vc (EV []) noL Go.Proofs.Tryd.f85 cPutA (k,s,c,o,n,t,f,b,a0,a1,a2,a3,sp,rd,ho,ce,op,ks,oc,cd,ou,())=(
 let e0:List RIns:=[RIns.mk k s c (Ins.mk o n t f b)];
  Small RU (Sigma.mk (Ty.slice (3:Nat) (Ty.int IntKind.i64)) t)→
  Small RU (Sigma.mk (Ty.slice (3:Nat) (Ty.int IntKind.i64)) f)→
  Small RU (Sigma.mk (Ty.slice (52:Nat) (Ty.user (0:Nat))) b)→
  Small RU (Sigma.mk (Ty.slice (52:Nat) (Ty.user (0:Nat))) a1)→
  Small RU (Sigma.mk (Ty.slice (3:Nat) (Ty.int IntKind.i64)) a2)→
  Small RU (Sigma.mk (Ty.slice (3:Nat) (Ty.int IntKind.i64)) a3)→
  Small RU (Sigma.mk (Ty.slice (55:Nat) (Ty.user (1:Nat))) cd)→
  Small RU (Sigma.mk (Ty.slice (59:Nat) (Ty.user (2:Nat))) ou)→
  (List.length cd+List.length e0)*(112:Nat)≤(140737488355328:Nat)∧
  (a0,a1,a2,a3,sp,rd,ho,ce,op,ks,oc,cd++e0,ou,())=(a0,a1,a2,a3,sp,rd,ho,ce,op,ks,oc,cd++e0,ou,())):=by kernel_rfl
theorem bY3 (reg fr a0:Int) (a1:List Ins) (a2 a3:List Int) (sp:Spans) (rd:Reads) (ho:Holds) (ce:List (Int×Int)) (op ks oc:Int) (cd:List RIns) (ou:List Place):vc (EV [(107,cBin)]) noL Go.Proofs.Tryd.f100 cNext (reg,fr,a0,a1,a2,a3,sp,rd,ho,ce,op,ks,oc,cd,ou,())=(
 let e0:Int:=(↑(List.length (List.takeWhile (fun (x:den RU.T i64)=>decide (x<fr)) (Option.getD (mget (fun (x y:Int)=>x==y) rd reg) []))):Int);
 let e1:Int×List Ins×List Int×List Int×List (Int×Span)×List (Int×List Int)×List (Place×Int)×List (Int×Int)×Int×Int×Int×List RIns×List Place×Unit:=
  (a0,a1,a2,a3,sp,rd,ho,ce,op,ks,oc,cd,ou,());
 let e2:Int×Int×List Ins×List Int×List Int×List (Int×Span)×List (Int×List Int)×List (Place×Int)×List (Int×Int)×Int×Int×Int×List RIns×List Place×Unit:=
  (aF3 rd (↑(List.length a1):Int) reg fr,e1);
 let e3:List Int:=Option.getD (mget (fun (x y:Int)=>x==y) rd reg) [];
  Small RU (Sigma.mk (Ty.slice (52:Nat) (Ty.user (0:Nat))) a1)→
  Small RU (Sigma.mk (Ty.slice (3:Nat) (Ty.int IntKind.i64)) a2)→
  Small RU (Sigma.mk (Ty.slice (3:Nat) (Ty.int IntKind.i64)) a3)→
  Small RU (Sigma.mk (Ty.slice (55:Nat) (Ty.user (1:Nat))) cd)→
  Small RU (Sigma.mk (Ty.slice (59:Nat) (Ty.user (2:Nat))) ou)→
  List.Pairwise (fun (x1 x2:den RU.T i64)=>x1≤x2) e3∧
  ((e0==(↑(List.length e3):Int))=true→((↑(List.length a1):Int),e1)=e2)∧
  ((e0==(↑(List.length e3):Int))=false→((0:Int)≤e0∧e0<(↑(List.length e3):Int))∧(List.getD e3 (Int.toNat e0) (0:Int),e1)=e2)):=by kernel_rfl
theorem bG8 (a b c d e f:Int):vc (EV []) noL Go.Proofs.Tryd.f102 cBetter (a,b,c,d,e,f,())=((decide (c >f)||c==f&&decide (b >e),())=(ar4 (Held.mk a b c) (Held.mk d e f),())):=by kernel_rfl
theorem bY4 (l:List Held):vc (EV [(102,cBetter)]) (bX9 l) Go.Proofs.Tryd.f101 cBest (l,())=(
 let e0:Int:=(↑(List.length (List.drop (1:Nat) l)):Int);
 let e1:Held:=List.getD l (0:Nat) (Held.mk (0:Int) (0:Int) (0:Int));
 let e2:List Held:=List.drop (1:Nat) l;
 let e3:Value:=Value.func (Fn.func (102:Nat)) #[] #[];
  Small RU (Sigma.mk (Ty.slice (131:Nat) (Ty.user (4:Nat))) l)→
  ((0:Int)≤(0:Int)∧(0:Int)<(↑(List.length l):Int))∧
  ((0:Int)≤(1:Int)∧(1:Int)≤(↑(List.length l):Int))∧
  (∃ (p:Int×Int×Int×Int×Unit),
  e3=e3∧
  l=l∧
  e2=e2∧
  e0=e0∧
  (0:Int)=p.1∧
  e3=e3∧
  (0:Int)=(0:Int)∧
  (0:Int)=(0:Int)∧
  (0:Int)=(0:Int)∧
  e1.slot=p.2.1∧
  e1.reg=p.2.2.1∧
  e1.next=p.2.2.2.1∧
  (0:Int)≤p.1∧
  p.1≤(↑(List.length (List.tail l)):Int)∧
  Held.mk p.2.1 p.2.2.1 p.2.2.2.1=List.foldl O4 (List.headD l held0) (List.take (Int.toNat p.1) (List.tail l)))∧
  ∀ (p:Int×Int×Int×Int×Unit),
 let e0_1:Bool:=
  ar4
  (Held.mk (List.getD e2 (Int.toNat p.1) (Held.mk (0:Int) (0:Int) (0:Int))).slot (List.getD e2 (Int.toNat p.1) (Held.mk (0:Int) (0:Int) (0:Int))).reg
  (List.getD e2 (Int.toNat p.1) (Held.mk (0:Int) (0:Int) (0:Int))).next)
  (Held.mk p.2.1 p.2.2.1 p.2.2.2.1);
 let e1:Held:=List.getD e2 (Int.toNat p.1) (Held.mk (0:Int) (0:Int) (0:Int));
 let e2_1:Int:=p.1;
 let e3_1:Int:=p.2.2.2.1;
 let e4:Int:=p.2.2.1;
 let e5:Int:=p.2.1;
 let e6:Bool:=decide (e2_1<e0);
  (0:Int)≤e2_1∧e2_1≤(↑(List.length (List.tail l)):Int)∧Held.mk e5 e4 e3_1=List.foldl O4 (List.headD l held0) (List.take (Int.toNat e2_1) (List.tail l))→
  (e6=true→
  ((0:Int)≤e2_1∧e2_1<e0)∧
  ∃ (p':Int×Int×Int×Int×Unit),
  e3=e3∧
  (bif e0_1 then l else l)=l∧
  (bif e0_1 then e2 else e2)=e2∧
  (bif e0_1 then e0 else e0)=e0∧
  IntKind.i64.wrap ((bif e0_1 then e2_1 else e2_1)+(1:Int))=p'.1∧
  e3=e3∧
  (bif e0_1 then (0:Int) else (0:Int))=(0:Int)∧
  (bif e0_1 then (0:Int) else (0:Int))=(0:Int)∧
  (bif e0_1 then (0:Int) else (0:Int))=(0:Int)∧
  (bif e0_1 then e1.slot else e5)=p'.2.1∧
  (bif e0_1 then e1.reg else e4)=p'.2.2.1∧
  (bif e0_1 then e1.next else e3_1)=p'.2.2.2.1∧
  ((0:Int)≤p'.1∧
  p'.1≤(↑(List.length (List.tail l)):Int)∧
  Held.mk p'.2.1 p'.2.2.1 p'.2.2.2.1=List.foldl O4 (List.headD l held0) (List.take (Int.toNat p'.1) (List.tail l)))∧
  List.length (List.tail l)-Int.toNat p'.1<List.length (List.tail l)-Int.toNat e2_1)∧
  (e6=false→(e5,e4,e3_1,())=((L4 l).slot,(L4 l).reg,(L4 l).next,()))):=by kernel_rfl
theorem bh8:C6 prog RG 110 cIsNaN:=E2 C0 (fun _=>noL) (by kernel_rfl) (by kernel_rfl) (by kernel_rfl) fun (a,()) _=>(bO8 a).mpr (by rw [bne_self_eq_false])
theorem ba9:C6 prog RG 111 cIsNaN:=E2 C0 (fun _=>noL) (by kernel_rfl) (by kernel_rfl) (by kernel_rfl) fun (a,()) _=>(bG7 a).mpr (by rw [bne_self_eq_false])
theorem bv5:C6 prog RG 109 cLess:=E2 (A6 ba9 C0) (fun _=>noL) (by kernel_rfl) (by kernel_rfl) (by kernel_rfl) fun (a,b,()) _=>(bY0 a b).mpr (by dsimp only;rw [Bool.false_and,Bool.false_or])
theorem aS3 {l:List Int} {t:Int} {k:Nat} (hk:k≤l.length) (h1:∀ x∈l.take k,x<t) (h2:∀ x∈l.drop k,t≤x):l.takeWhile (fun x=>decide (x<t))=l.take k:=by
 induction l generalizing k with
 |nil=>simp
 |cons x r ih=>
  cases k with
  |zero=>
   have:=h2 x (by simp)
   rw [List.takeWhile_cons_of_neg (by simp;omega)]
   rfl
  |succ k=>
   have hx:=h1 x (by simp)
   rw [List.takeWhile_cons_of_pos (by simpa using hx),List.take_succ_cons,ih (by simpa using hk) (fun y hy=>h1 y (by simp [hy])) (fun y hy=>h2 y (by simpa using hy))]
theorem bb0 {l:List Int} (h:l.Pairwise (·≤·)) {i j:Nat} (hij:i≤j) (hj:j<l.length):l.getD i 0≤l.getD j 0:=by
 rw [cg4,cg4,cf2 (by omega),cf2 hj]
 rcases Nat.lt_or_eq_of_le hij with h1|h1
 ·exact List.pairwise_iff_getElem.1 h i j (by omega) hj h1
 ·subst h1;exact Int.le_refl _
theorem aS4 {l:List Int} {k:Nat} {x:Int} (h:x∈l.take k):∃ i,i<k∧i<l.length∧x=l.getD i 0:=by
 obtain ⟨i,hi,rfl⟩:=List.mem_iff_getElem.1 h
 rw [ch9] at hi
 exact ⟨i,by omega,by omega,by rw [List.getElem_take,cg4,cf2 (by omega)];rfl⟩
theorem aS5 {l:List Int} {k:Nat} {x:Int} (h:x∈l.drop k):∃ i,k≤i∧i<l.length∧x=l.getD i 0:=by
 obtain ⟨i,hi,rfl⟩:=List.mem_iff_getElem.1 h
 rw [List.length_drop] at hi
 exact ⟨k+i,by omega,by omega,by rw [List.getElem_drop,cg4,cf2 (by omega)];rfl⟩
theorem cd3 (l:List Int) (t:Int) (hp:l.Pairwise (·≤·)):vc (EV [(109,cLess),(110,cIsNaN)]) (lBin l t) Go.Proofs.Tryd.f107 cBin (l,t,()):=by
 rw [cd2 l t]
 intro e0 e1 hs
 have hl:l.length≤140737488355328:=hs.len
 have he1:e1=2:=rfl
 dsimp only [e0]
 simp only [true_and,and_true,Bool.cond_self,he1]
 clear_value e1
 refine ⟨⟨(0,(l.length:Int),()),rfl,rfl,Int.le_refl _,by dsimp only;omega,Int.le_refl _,fun x hx=>?_,fun x hx=>?_⟩,?_⟩
 ·change x∈l.take 0 at hx;simp at hx
 ·dsimp only at hx;change x∈l.drop (l.length:Int).toNat at hx;simp at hx
 rintro ⟨i,j,⟨⟩⟩ ⟨h0,h1,h2,h3,h4⟩
 dsimp only at h0 h1 h2 h3 h4 ⊢
 have h3:∀ x∈l.take i.toNat,x<t:=h3
 have h4:∀ x∈l.drop j.toNat,t≤x:=h4
 obtain ⟨i,rfl⟩:=cf6 h0
 obtain ⟨j,rfl⟩:=cf6 (Int.le_trans h0 h1)
 simp only [cf4] at h3 h4 ⊢
 refine ⟨fun hlt=>?_,fun hge=>?_⟩
 ·have hlt:(i:Int)<j:=cg0 hlt
  have hm:IntKind.i64.wrap (Int.fdiv (IntKind.u64.wrap (IntKind.i64.wrap ((i:Int)+j))) 2)=((i+j) / 2:Nat):=by
   rw [M6 (n:=(i:Int)+j) (by omega) (by omega)]
   have hu:IntKind.u64.wrap ((i:Int)+j)=(i:Int)+j:=by
    simp only [IntKind.wrap,IntKind.bits,IntKind.signed,Bool.false_and,Bool.false_eq_true,if_false]
    omega
   rw [hu,Int.fdiv_eq_ediv_of_nonneg _ (by omega),M6 (by omega) (by omega)]
   omega
  rw [hm]
  have hmid:i≤(i+j) / 2∧(i+j) / 2<j:=by omega
  generalize (i+j) / 2=m at hmid ⊢
  simp only [cf4]
  refine ⟨by omega,⟨by omega,by omega⟩,?_⟩
  cases hb:decide (l.getD m 0<t) with
  |true=>
   have hb:l.getD m 0<t:=cg0 hb
   simp only [cond_true]
   refine ⟨((m+1:Nat),(j:Int),()),B6 (m:=l.length) (by omega) hl,rfl,⟨by omega,by dsimp only;omega,by dsimp only;omega,fun x hx=>?_,fun x hx=>h4 x hx⟩,by dsimp only;omega⟩
   have hx:x∈l.take ((m+1:Nat):Int).toNat:=hx
   rw [cf4] at hx
   obtain ⟨q,hq1,hq2,rfl⟩:=aS4 hx
   have:=bb0 hp (i:=q) (j:=m) (by omega) (by omega)
   omega
  |false=>
   have hb:¬ l.getD m 0<t:=cf9 hb
   simp only [cond_false]
   refine ⟨((i:Int),(m:Int),()),rfl,rfl,⟨by omega,by dsimp only;omega,by dsimp only;omega,fun x hx=>h3 x hx,fun x hx=>?_⟩,by dsimp only;omega⟩
   have hx:x∈l.drop ((m:Nat):Int).toNat:=hx
   rw [cf4] at hx
   obtain ⟨q,hq1,hq2,rfl⟩:=aS5 hx
   have:=bb0 hp (i:=m) (j:=q) (by omega) (by omega)
   omega
 ·have hij:i=j:=by have:¬ (i:Int)<j:=cf9 hge;omega
  subst hij
  refine ⟨fun q=>⟨h0,cg0 q⟩,fun q _=>⟨h0,cg0 q⟩,?_⟩
  have:=aS3 (by omega) h3 h4
  have h9:(List.takeWhile (fun (x:den RU.T i64)=>decide (x<t)) l).length=i:=by
   show (List.takeWhile (fun (x:Int)=>decide (x<t)) l).length=i
   rw [this,ch9];omega
  rw [h9]
theorem bG9:C6 prog RG 107 cBin:=E2 (A6 bv5 (A6 bh8 C0)) (fun p=>lBin p.1 p.2.1) (by kernel_rfl) (by kernel_rfl) (by kernel_rfl) fun (l,t,()) hp=>cd3 l t hp
theorem aL5 {m:Holds} {reg:Int} {s:Nat}:ai3 m reg s=true↔mget eqP m ⟨false,(s:Int)⟩=some reg:=by simp [ai3]
theorem bv6 {p:Nat→Bool} {n s:Nat} (h1:∀ x∈List.range s,p x=false) (hs:s<n) (h2:p s=true):(List.range n).find? p=some s:=by
 rw [List.find?_range_eq_some]
 exact ⟨h2,by simpa using hs,fun j hj=>by have:=h1 j (by simpa using hj);simp [this]⟩
theorem aF4 {p:Nat→Bool} {n:Nat} (h1:∀ x∈List.range n,p x=false):(List.range n).find? p=none:=by
 rw [List.find?_eq_none]
 intro x hx
 rw [h1 x hx]
 simp
theorem bY5 (reg a0:Int) (a1:List Ins) (a2 a3:List Int) (sp:Spans) (rd:Reads) (ho:Holds) (ce:List (Int×Int)) (op ks oc:Int) (cd:List RIns) (ou:List Place) (hp:ks≤64):vc (EV []) (bX8 ho ks reg) Go.Proofs.Tryd.f54 cSlot (reg,a0,a1,a2,a3,sp,rd,ho,ce,op,ks,oc,cd,ou,()):=by
 rw [bY1 reg a0 a1 a2 a3 sp rd ho ce op ks oc cd ou]
 intro e0 e1 _ _ _ _ _
 have he1:e1=((D6 ho ks reg).cell,(D6 ho ks reg).n,e0):=rfl
 clear_value e1 e0
 simp only [true_and,and_true]
 refine ⟨⟨(0,()),rfl,Int.le_refl _,.inr rfl,fun s hs=>?_⟩,?_⟩
 ·change s∈List.range 0 at hs;simp at hs
 rintro ⟨i,⟨⟩⟩ ⟨h0,h1,h2⟩
 dsimp only at h0 h1 h2 ⊢
 have h2:∀ s∈List.range i.toNat,ai3 ho reg s=false:=h2
 obtain ⟨i,rfl⟩:=cf6 h0
 simp only [cf4] at h2 ⊢
 have hb:((mget (E1 RU (Ty.user 2)) ho ⟨false,(i:Int)⟩).isSome&&(mget (E1 RU (Ty.user 2)) ho ⟨false,(i:Int)⟩).getD 0==reg)=ai3 ho reg i:=by
  show ((mget eqP ho ⟨false,(i:Int)⟩).isSome&&(mget eqP ho ⟨false,(i:Int)⟩).getD 0==reg)=decide (mget eqP ho ⟨false,(i:Int)⟩=some reg)
  cases mget eqP ho ⟨false,(i:Int)⟩ with
  |none=>rfl
  |some v=>rw [Bool.eq_iff_iff];simp
 rw [hb]
 refine ⟨fun hlt=>?_,fun hge=>?_⟩
 ·have hlt:(i:Int)<ks:=cg0 hlt
  refine ⟨fun q=>?_,fun q=>?_⟩
  ·rw [he1,show D6 ho ks reg=⟨false,(i:Int)⟩ by unfold D6;rw [bv6 h2 (by omega) q]]
  ·refine ⟨((i+1:Nat),()),?_,⟨by omega,.inl (by dsimp only;omega),fun s hs=>?_⟩,by dsimp only;omega⟩
   ·rw [M6 (by omega) (by omega)];rfl
   ·have hs:s∈List.range ((i+1:Nat):Int).toNat:=hs
    rw [cf4,List.range_succ,ch7] at hs
    rcases hs with hs|hs
    ·exact h2 s hs
    ·simp only [cg1] at hs
     rw [hs];exact q
 ·have hge:¬ (i:Int)<ks:=cf9 hge
  have hk:List.range ks.toNat=List.range (min i ks.toNat):=by congr 1;omega
  have hn:(List.range ks.toNat).find? (ai3 ho reg)=none:=aF4 (fun x hx=>h2 x (by simp at hx ⊢;omega))
  rw [he1,show D6 ho ks reg=bG6 by unfold D6;rw [hn]]
  rfl
theorem ar5:C6 prog RG 54 cSlot:=E2 C0 (fun p=>bX8 p.2.2.2.2.2.2.2.1 p.2.2.2.2.2.2.2.2.2.2.1 p.1) (by kernel_rfl) (by kernel_rfl) (by kernel_rfl) fun (reg,a0,a1,a2,a3,sp,rd,ho,ce,op,ks,oc,cd,ou,()) hp=>bY5 reg a0 a1 a2 a3 sp rd ho ce op ks oc cd ou hp
theorem aL6:C6 prog RG 85 cPutA:=E2 C0 (fun _=>noL) (by kernel_rfl) (by kernel_rfl) (by kernel_rfl) fun (k,s,c,o,n,t,f,b,a0,a1,a2,a3,sp,rd,ho,ce,op,ks,oc,cd,ou,()) hp=>(bY2 k s c o n t f b a0 a1 a2 a3 sp rd ho ce op ks oc cd ou).mpr (by
 have hp:cd.length≤1000000000:=hp
 intro e0 _ _ _ _ _ _ _ _
 exact ⟨by show (cd.length+1)*112≤_;omega,rfl⟩)
theorem bb1 {t:Int}:∀ (l:List Int),l.find? (fun x=>decide (t≤x))=l[(l.takeWhile (fun x=>decide (x<t))).length]?
 |[]=>rfl
 |x::r=>by
  by_cases h:x<t
  ·rw [List.find?_cons_of_neg (by simpa using h),List.takeWhile_cons_of_pos (by simpa using h)]
   simp only [cg6,List.getElem?_cons_succ]
   exact bb1 r
  ·rw [List.find?_cons_of_pos (by simp;omega),List.takeWhile_cons_of_neg (by simpa using h)]
   rfl
theorem bv7:C6 prog RG 100 cNext:=E2 (A6 bG9 C0) (fun _=>noL) (by kernel_rfl) (by kernel_rfl) (by kernel_rfl) fun (reg,fr,a0,a1,a2,a3,sp,rd,ho,ce,op,ks,oc,cd,ou,()) hp=>(bY3 reg fr a0 a1 a2 a3 sp rd ho ce op ks oc cd ou).mpr (by
 have hp:ae5 rd:=hp
 intro e0 e1 e2 e3 _ _ _ _ _
 have he3:e3=getL rd reg:=rfl
 have he0:e0=((e3.takeWhile (fun x=>decide (x<fr))).length:Int):=rfl
 have he2:e2=(aF3 rd a1.length reg fr,e1):=rfl
 have hN:aF3 rd a1.length reg fr=(e3[(e3.takeWhile (fun x=>decide (x<fr))).length]?).getD a1.length:=by
  rw [←bb1];rfl
 have hle:(e3.takeWhile (fun x=>decide (x<fr))).length≤e3.length:=(List.takeWhile_prefix _).length_le
 rw [hN] at he2
 clear_value e2 e1
 refine ⟨hp reg,fun q=>?_,fun q=>?_⟩
 ·rw [he0] at q
  have q:(e3.takeWhile (fun x=>decide (x<fr))).length=e3.length:=by have:=eq_of_beq q;omega
  rw [he2,List.getElem?_eq_none (by omega)]
  rfl
 ·rw [he0] at q ⊢
  have q:¬ (e3.takeWhile (fun x=>decide (x<fr))).length=e3.length:=by have:=beq_eq_false_iff_ne.1 q;omega
  refine ⟨by omega,?_⟩
  rw [he2,cf4,cg4,cf2 (by omega)]
  rfl)
theorem bb2:C6 prog RG 102 cBetter:=E2 C0 (fun _=>noL) (by kernel_rfl) (by kernel_rfl) (by kernel_rfl) fun (a,b,c,d,e,f,()) _=>(bG8 a b c d e f).mpr rfl
theorem bY6 (l:List Held) (hp:l≠[]):vc (EV [(102,cBetter)]) (bX9 l) Go.Proofs.Tryd.f101 cBest (l,()):=by
 rw [bY4 l]
 intro e0 e1 e2 e3 hs
 have hl:l.length≤140737488355328:=hs.len
 have hpos:0<l.length:=by cases l with|nil=>exact absurd rfl hp|cons=>simp
 have he2:e2=l.tail:=List.drop_one
 have hlt:l.tail.length=l.length-1:=by simp
 have he1:e1=l.headD held0:=by
  show l.getD 0 held0=_
  cases l<;>rfl
 have he0:e0=(e2.length:Int):=rfl
 clear_value e0 e1 e2
 subst he0 he1 he2
 dsimp only [e3]
 simp only [true_and,and_true,Bool.cond_self]
 have hd:(⟨0,0,0⟩:Held)=held0:=rfl
 rw [hd]
 refine ⟨by omega,by omega,⟨(0,(l.headD held0).slot,(l.headD held0).reg,(l.headD held0).next,()),rfl,rfl,rfl,rfl,Int.le_refl _,by dsimp only;omega,rfl⟩,?_⟩
 rintro ⟨i,a,b,c,⟨⟩⟩ ⟨h0,h1,h2⟩
 dsimp only at h0 h1 h2 ⊢
 obtain ⟨k,rfl⟩:=cf6 h0
 simp only [cf4] at h2 ⊢
 refine ⟨fun hlt2=>?_,fun hge=>?_⟩
 ·have hlt2:(k:Int)<l.tail.length:=cg0 hlt2
  have hn:(l.tail.take (k+1)).foldl O4 (l.headD held0)=O4 ⟨a,b,c⟩ (l.tail.getD k held0):=by
   rw [A4 (by omega) held0,List.foldl_append,←h2];rfl
  generalize l.tail.getD k held0=y at hn ⊢
  refine ⟨⟨h0,hlt2⟩,((k+1:Nat),(O4 ⟨a,b,c⟩ y).slot,(O4 ⟨a,b,c⟩ y).reg,(O4 ⟨a,b,c⟩ y).next,()),B6 (m:=l.length) (by omega) hl,?_,?_,?_,⟨by omega,by dsimp only;omega,by dsimp only;rw [cf4,hn]⟩,by dsimp only;omega⟩
  all_goals
   show (bif ar4 ⟨y.slot,y.reg,y.next⟩ ⟨a,b,c⟩ then _ else _)=_
   dsimp only [O4]
   rw [show (⟨y.slot,y.reg,y.next⟩:Held)=y from rfl]
   cases ar4 y ⟨a,b,c⟩<;>rfl
 ·have hk:k=l.tail.length:=by have:¬ (k:Int)<l.tail.length:=cf9 hge;omega
  subst hk
  rw [ch8] at h2
  rw [L4,←h2]
theorem bv8:C6 prog RG 101 cBest:=E2 (A6 bb2 C0) (fun p=>bX9 p.1) (by kernel_rfl) (by kernel_rfl) (by kernel_rfl) fun (l,()) hp=>bY6 l hp
def cRoom:Con RU:=⟨[one,one,one],i64::ints::tysA,[.ptr 0 0,.d 0,.d 1],objA 0 2,some fun p=>match p with
  |(pl,st,a0,a1,a2,a3,sp,rd,ho,ce,op,ks,oc,cd,ou,())=>ae5 rd∧au4 sp rd ks a1.length ho pl st∧ks≤64∧0≤oc∧oc≤1000000000∧cd.length≤1000000000,
 none,[one],i64::tysA,[.d 0],objA 0 1,fun p=>match p with
  |(pl,st,a0,a1,a2,a3,sp,rd,ho,ce,op,ks,oc,cd,ou,())=>((G1 sp rd ks a1.length ⟨ho,ce,oc,cd⟩ pl st).1,a0,a1,a2,a3,sp,rd,(G1 sp rd ks a1.length ⟨ho,ce,oc,cd⟩ pl st).2.holds,(G1 sp rd ks a1.length ⟨ho,ce,oc,cd⟩ pl st).2.cells,op,ks,(G1 sp rd ks a1.length ⟨ho,ce,oc,cd⟩ pl st).2.ocells,(G1 sp rd ks a1.length ⟨ho,ce,oc,cd⟩ pl st).2.code,ou,()),[],[],[]⟩
def bY7 (sp:Spans) (rd:Reads) (ks N:Int) (ho:Holds) (pl:Int) (st:List Int):Nat→St RU→Ann RU:=fun _ _=>⟨[8],[.slot 22,.row 900001],[i64,cb3],fun p=>0≤p.1∧(p.1≤ks∨p.1=0)∧C7 sp rd N ho pl st (List.range p.1.toNat) []=(none,p.2.1),fun p=>ks.toNat-p.1.toNat,[(.slot 8,900001,131,.user 4)]⟩
def cGetA:Con RU:=⟨[one,one],i64::tysA,[.d 0,.ptr 0 0],.box 79 [.ptr 1 0]::objA 1 1,some fun p=>p.2.2.2.2.2.2.2.2.2.2.1≤64,none,[one],i64::tysA,[.d 0],.box 79 [.ptr 1 0]::objA 1 1,fun p=>((D6 p.2.2.2.2.2.2.2.1 p.2.2.2.2.2.2.2.2.2.2.1 p.1).n,p.2),[0],[],[]⟩
def cCalledA:Con RU:=⟨[(true,5),one,one],aC8++tysA++[mapI],[.d 0,.d 1,.d 2,.d 3,.d 4,.clo 86 [0],.clo 87 [8]],.box 79 [.ptr 1 0]::objA 1 5++[.box 84 [.map 9],.map 18],some fun p=>match p with
  |(x1,x2,x3,x4,x5,a0,a1,a2,a3,sp,rd,ho,ce,op,ks,oc,cd,ou,sl,())=>U5 x3 x4 x5=true∧ks≤64,none,
 [(true,5)],aC8++tysA++[mapI],[.d 0,.d 1,.d 2,.d 3,.d 4],.box 79 [.ptr 1 0]::objA 1 5++[.box 84 [.map 9],.map 18],
 fun p=>match p with
  |(x1,x2,x3,x4,x5,a0,a1,a2,a3,sp,rd,ho,ce,op,ks,oc,cd,ou,sl,())=>(x1,x2,x3.map (fun n=>(D6 ho ks n).n),x4.map (getI sl),x5,a0,a1,a2,a3,sp,rd,ho,ce,op,ks,oc,cd,ou,sl,()),[0,8],[],[]⟩
def aS6 (x1 x2:Int) (x3 x4:List Int) (x5:List Ins) (ho:Holds) (ks:Int) (sl:List (Int×Int)):Nat→St RU→Ann RU:=fun k s=>match k with
 |0=>⟨[],[.slot 20,.row 896],[i64,inss],fun p=>0≤p.1∧p.1≤x4.length∧p.2.1=[⟨x1,x2,x3,(x4.take p.1.toNat).map (getI sl)++x4.drop p.1.toNat,x5⟩],fun p=>x4.length-p.1.toNat,[]⟩
 |_=>⟨[],[.slot 36,.row 896],[i64,inss],fun p=>0≤p.1∧p.1≤x3.length∧p.2.1=[⟨x1,x2,(x3.take p.1.toNat).map (fun n=>(D6 ho ks n).n)++x3.drop p.1.toNat,x4.map (getI sl),x5⟩],fun p=>x3.length-p.1.toNat,[]⟩
def cReads:Con RU:=⟨[(true,5)],aC8,[.d 0,.d 1,.d 2,.d 3,.d 4],[],none,none,[one],aC8,[.clo 83 [0]],[.box 52 [.d 0,.d 1,.d 2,.d 3,.d 4]],fun p=>p,[],[],[]⟩
def ao9:Con RU:=⟨[one,one],[i64,i64,ints],[.d 0,.yld 0],[.loop 1,.box 23 [.row 2],.row 2],some fun p=>p.2.1=0∧p.2.2.1.length≤17592186044400,none,[one],[.bool,i64,ints],[.d 0],[.loop 1,.box 23 [.row 2],.row 2],fun p=>(true,0,p.2.2.1++[p.1],()),[],[(0,0),(1,1)],[(1,1000001)]⟩
def aS7:Con RU:=⟨[one,one],[i64,ints,i64,i64,ints,ints,inss],[.yld 0,.ptr 3 0],[.loop 0,.box 23 [.row 2],.row 1,.box 52 [.d 2,.d 3,.d 4,.d 5,.d 6]],some fun p=>p.1=0∧p.2.1.length+p.2.2.2.2.2.1.length≤17592186044400,none,[],[i64,ints],[],[.loop 0,.box 23 [.row 2],.row 1,.box 52 [.un,.un,.un,.un,.un]],
 fun p=>(0,p.2.1++B4 p.2.2.2.2.2.1,()),[],[(0,0),(1,1)],[(1,384)]⟩
def itDo:FuncId→List (Con RU×Con RU×List (Nat×Nat)):=fun f=>bif Nat.beq f 83 then [(aS7,ao9,[(0,0),(1,1),(2,2)])] else []
def bh9 (fr:List Int) (r0:List Int):Nat→St RU→Ann RU:=fun _ _=>⟨[],[.slot 8,.row 1000000,.row 1000002],[i64,i64,ints],fun p=>0≤p.1∧p.1≤fr.length∧p.2.1=0∧p.2.2.1=r0++B4 (fr.take p.1.toNat),fun p=>fr.length-p.1.toNat,[]⟩
def cDo:Con RU:=⟨[one,one,(true,5)],i64::aC8++tysA,[.ptr 0 0,.d 0,.d 1,.d 2,.d 3,.d 4,.d 5],objA 0 6,some fun p=>match p with
  |(i,x1,x2,x3,x4,x5,a0,a1,a2,a3,sp,rd,ho,ce,op,ks,oc,cd,ou,())=>U5 x3 x4 x5=true∧x4.length≤17592186044400∧(B4 x4).length≤64∧x3.length≤64∧ae5 rd∧doOk sp rd ks a1.length i ⟨x1,x2,x3,x4,x5⟩ ⟨ho,ce,oc,cd⟩∧ks≤64∧0≤i∧i≤1000000∧0≤oc∧oc≤100000000∧cd.length≤100000000,
 none,[],tysA,[],objA 0 0,fun p=>match p with
  |(i,x1,x2,x3,x4,x5,a0,a1,a2,a3,sp,rd,ho,ce,op,ks,oc,cd,ou,())=>(a0,a1,a2,a3,sp,rd,(doOf sp rd ks a1.length i ⟨x1,x2,x3,x4,x5⟩ ⟨ho,ce,oc,cd⟩).holds,(doOf sp rd ks a1.length i ⟨x1,x2,x3,x4,x5⟩ ⟨ho,ce,oc,cd⟩).cells,op,ks,(doOf sp rd ks a1.length i ⟨x1,x2,x3,x4,x5⟩ ⟨ho,ce,oc,cd⟩).ocells,(doOf sp rd ks a1.length i ⟨x1,x2,x3,x4,x5⟩ ⟨ho,ce,oc,cd⟩).code,ou,()),[],[],[]⟩
def lDo (sp:Spans) (rd:Reads) (ks N i:Int) (x3 x4:List Int) (s0:AS):Nat→St RU→Ann RU:=fun k s=>match k with
 |0=>⟨[],[],[],fun _=>False,fun _=>0,[(.box 384 0,900001,3,i64)]⟩
 |1=>⟨[],[.slot 27,.row 1000003,.row 1000004,.box 1000000 10,.row 1000005],[i64,mapP,mapI,i64,aH0],fun p=>0≤p.1∧p.1≤(B4 x4).length∧E5 sp rd ks N i (B4 x4) s0 ((B4 x4).take p.1.toNat)=⟨p.2.1,p.2.2.1,p.2.2.2.1,p.2.2.2.2.1⟩,fun p=>(B4 x4).length-p.1.toNat,[(.cell 384 0,0,3,i64),(.row 25,0,3,i64)]⟩
 |2=>⟨[],[.slot 61,.row 3712],[i64,mapI],fun p=>0≤p.1∧p.1≤(B4 x4).length∧p.2.1=ab1 (E5 sp rd ks N i (B4 x4) s0 (B4 x4)).holds ks ((B4 x4).take p.1.toNat),fun p=>(B4 x4).length-p.1.toNat,[]⟩
 |_=>⟨[],[.slot 75,.row 1000003,.row 1000004,.box 1000000 10,.row 1000005],[i64,mapP,mapI,i64,aH0],fun p=>0≤p.1∧p.1≤x3.length∧P7 sp rd ks N i x3 (E5 sp rd ks N i (B4 x4) s0 (B4 x4)) (x3.take p.1.toNat)=⟨p.2.1,p.2.2.1,p.2.2.2.1,p.2.2.2.2.1⟩,fun p=>x3.length-p.1.toNat,[]⟩
theorem bY8 (pl:Int) (st:List Int) (a0:Int) (a1:List Ins) (a2 a3:List Int) (sp:Spans) (rd:Reads) (ho:Holds) (ce:List (Int×Int)) (op ks oc:Int) (cd:List RIns) (ou:List Place):vc (EV [(100,cNext),(61,cContains),(69,cAt),(101,cBest),(85,cPutA)]) (bY7 sp rd ks a1.length ho pl st) Go.Proofs.Tryd.f84 cRoom (pl,st,a0,a1,a2,a3,sp,rd,ho,ce,op,ks,oc,cd,ou,())=(
 let e0:Int×Int×List Ins×List Int×List Int×List (Int×Span)×List (Int×List Int)×List (Place×Int)×List (Int×Int)×Int×Int×Int×List RIns×List Place×Unit:=
  ((G1 sp rd ks (↑(List.length a1):Int) (AS.mk ho ce oc cd) pl st).1,a0,a1,a2,a3,sp,rd,(G1 sp rd ks (↑(List.length a1):Int) (AS.mk ho ce oc cd) pl st).2.holds,
  (G1 sp rd ks (↑(List.length a1):Int) (AS.mk ho ce oc cd) pl st).2.cells,op,ks,(G1 sp rd ks (↑(List.length a1):Int) (AS.mk ho ce oc cd) pl st).2.ocells,
  (G1 sp rd ks (↑(List.length a1):Int) (AS.mk ho ce oc cd) pl st).2.code,ou,());
 let e1:Int×List Ins×List Int×List Int×List (Int×Span)×List (Int×List Int)×List (Place×Int)×List (Int×Int)×Int×Int×Int×List RIns×List Place×Unit:=
  (a0,a1,a2,a3,sp,rd,ho,ce,op,ks,oc,cd,ou,());
  Small RU (Sigma.mk (Ty.slice (3:Nat) (Ty.int IntKind.i64)) st)→
  Small RU (Sigma.mk (Ty.slice (52:Nat) (Ty.user (0:Nat))) a1)→
  Small RU (Sigma.mk (Ty.slice (3:Nat) (Ty.int IntKind.i64)) a2)→
  Small RU (Sigma.mk (Ty.slice (3:Nat) (Ty.int IntKind.i64)) a3)→
  Small RU (Sigma.mk (Ty.slice (55:Nat) (Ty.user (1:Nat))) cd)→
  Small RU (Sigma.mk (Ty.slice (59:Nat) (Ty.user (2:Nat))) ou)→
  (∃ (p:Int×List Held×Unit),
  pl=pl∧
  st=st∧
  ks=ks∧
  (0:Int)=p.1∧
  a0=a0∧
  a1=a1∧
  a2=a2∧
  a3=a3∧
  op=op∧
  ks=ks∧
  oc=oc∧
  sp=sp∧
  rd=rd∧
  ho=ho∧
  ce=ce∧
  cd=cd∧
  ou=ou∧
  []=p.2.1∧
  (0:Int)≤p.1∧
  (p.1≤ks∨p.1=(0:Int))∧C7 sp rd (↑(List.length a1):Int) ho pl st (List.range (Int.toNat p.1)) []=(none,p.2.1))∧
  ∀ (p:Int×List Held×Unit),
 let e0_1:Bool:=!Option.isSome (mget (fun (x y:Int)=>x==y) ce (L4 p.2.1).reg);
 let e1_1:Bool:=
  !O5
  (Option.getD (mget (fun (x y:Int)=>x==y) sp (Option.getD (mget (E1 RU (Ty.user (2:Nat))) ho (Place.mk false p.1)) (0:Int))) (Span.mk (0:Int) (0:Int))).first
  (Option.getD (mget (fun (x y:Int)=>x==y) sp (Option.getD (mget (E1 RU (Ty.user (2:Nat))) ho (Place.mk false p.1)) (0:Int))) (Span.mk (0:Int) (0:Int))).last pl;
 let e2:List Held:=p.2.1;
 let e3:List Held:=
  [Held.mk p.1 (Option.getD (mget (E1 RU (Ty.user (2:Nat))) ho (Place.mk false p.1)) (0:Int))
  (aF3 rd (↑(List.length a1):Int) (Option.getD (mget (E1 RU (Ty.user (2:Nat))) ho (Place.mk false p.1)) (0:Int)) pl)];
 let e4:Int:=p.1;
 let e5:Bool:=List.contains st (Option.getD (mget (E1 RU (Ty.user (2:Nat))) ho (Place.mk false e4)) (0:Int));
 let e6:Bool:=decide (e4<ks);
 let e7:Bool:=!Option.isSome (mget (E1 RU (Ty.user (2:Nat))) ho (Place.mk false e4));
  (0:Int)≤e4∧(e4≤ks∨e4=(0:Int))∧C7 sp rd (↑(List.length a1):Int) ho pl st (List.range (Int.toNat e4)) []=(none,e2)→
  (e6=true→
  (e7=true→(e4,e1)=e0)∧
  (e7=false→
  (e5=true→
  ∃ (p':Int×List Held×Unit),
  pl=pl∧
  st=st∧
  ks=ks∧
  IntKind.i64.wrap (e4+(1:Int))=p'.1∧
  a0=a0∧
  a1=a1∧
  a2=a2∧
  a3=a3∧
  op=op∧
  ks=ks∧
  oc=oc∧
  sp=sp∧
  rd=rd∧
  ho=ho∧
  ce=ce∧
  cd=cd∧
  ou=ou∧
  e2=p'.2.1∧
  ((0:Int)≤p'.1∧
  (p'.1≤ks∨p'.1=(0:Int))∧
  C7 sp rd (↑(List.length a1):Int) ho pl st (List.range (Int.toNat p'.1)) []=(none,p'.2.1))∧
  Int.toNat ks-Int.toNat p'.1<Int.toNat ks-Int.toNat e4)∧
  (e5=false→
  (e1_1=true→(e4,e1)=e0)∧
  (e1_1=false→
  (∀ (n:Int),List.Pairwise (fun (x1 x2:Int)=>x1≤x2) (getL rd n))∧
  (List.length e2+List.length e3)*(24:Nat)≤(140737488355328:Nat)∧
  ∃ (p':Int×List Held×Unit),
  pl=pl∧
  st=st∧
  ks=ks∧
  IntKind.i64.wrap (e4+(1:Int))=p'.1∧
  a0=a0∧
  a1=a1∧
  a2=a2∧
  a3=a3∧
  op=op∧
  ks=ks∧
  oc=oc∧
  sp=sp∧
  rd=rd∧
  ho=ho∧
  ce=ce∧
  cd=cd∧
  ou=ou∧
  e2++e3=p'.2.1∧
  ((0:Int)≤p'.1∧
  (p'.1≤ks∨p'.1=(0:Int))∧
  C7 sp rd (↑(List.length a1):Int) ho pl st (List.range (Int.toNat p'.1)) []=(none,p'.2.1))∧
  Int.toNat ks-Int.toNat p'.1<Int.toNat ks-Int.toNat e4))))∧
  (e6=false→
  e2≠[]∧
  (e0_1=true→List.length cd≤(1000000000:Nat))∧
  (bif e0_1 then (L4 e2).slot else (L4 e2).slot,bif e0_1 then a0 else a0,bif e0_1 then a1 else a1,bif e0_1 then a2 else a2,bif e0_1 then a3 else a3,
  bif e0_1 then sp else sp,bif e0_1 then rd else rd,bif e0_1 then ho else ho,bif e0_1 then mput (fun (x y:Int)=>x==y) ce (L4 e2).reg oc else ce,
  bif e0_1 then op else op,bif e0_1 then ks else ks,bif e0_1 then IntKind.i64.wrap (oc+(1:Int)) else oc,
  bif e0_1 then cd++[RIns.mk (2:Int) (L4 e2).slot oc (Ins.mk (0:Int) (0:Int) [] [] [])] else cd,bif e0_1 then ou else ou,())=
  e0)):=by kernel_rfl
theorem bY9 (n a0:Int) (a1:List Ins) (a2 a3:List Int) (sp:Spans) (rd:Reads) (ho:Holds) (ce:List (Int×Int)) (op ks oc:Int) (cd:List RIns) (ou:List Place):vc (EV [(54,cSlot)]) noL Go.Proofs.Tryd.f86 cGetA (n,a0,a1,a2,a3,sp,rd,ho,ce,op,ks,oc,cd,ou,())=(
 let e0:Int×Int×List Ins×List Int×List Int×List (Int×Span)×List (Int×List Int)×List (Place×Int)×List (Int×Int)×Int×Int×Int×List RIns×List Place×Unit:=
  ((D6 ho ks n).n,a0,a1,a2,a3,sp,rd,ho,ce,op,ks,oc,cd,ou,());
  Small RU (Sigma.mk (Ty.slice (52:Nat) (Ty.user (0:Nat))) a1)→
  Small RU (Sigma.mk (Ty.slice (3:Nat) (Ty.int IntKind.i64)) a2)→
  Small RU (Sigma.mk (Ty.slice (3:Nat) (Ty.int IntKind.i64)) a3)→
  Small RU (Sigma.mk (Ty.slice (55:Nat) (Ty.user (1:Nat))) cd)→Small RU (Sigma.mk (Ty.slice (59:Nat) (Ty.user (2:Nat))) ou)→ks≤(64:Int)∧e0=e0):=by kernel_rfl
theorem bZ0 (n:Int) (m:List (Int×Int)):vc (EV []) noL Go.Proofs.Tryd.f87 cOld (n,m,())=((Option.getD (mget (fun (x y:Int)=>x==y) m n) (0:Int),m,())=(getI m n,m,())):=by kernel_rfl
theorem bv9 (x1 x2:Int) (x3 x4:List Int) (x5:List Ins) (a0:Int) (a1:List Ins) (a2 a3:List Int) (sp:Spans) (rd:Reads) (ho:Holds) (ce:List (Int×Int)) (op ks oc:Int) (cd:List RIns) (ou:List Place) (sl:List (Int×Int)):vc (EV [(96,cBody),(86,cGetA),(87,cOld)]) (aS6 x1 x2 x3 x4 x5 ho ks sl) Go.Proofs.Tryd.f73 cCalledA (x1,x2,x3,x4,x5,a0,a1,a2,a3,sp,rd,ho,ce,op,ks,oc,cd,ou,sl,())=(
 let e0:
  List Ins×
  Int×List Ins×List Int×List Int×List (Int×Span)×List (Int×List Int)×List (Place×Int)×List (Int×Int)×Int×Int×Int×List RIns×List Place×List (Int×Int)×Unit:=
  (x5,a0,a1,a2,a3,sp,rd,ho,ce,op,ks,oc,cd,ou,sl,());
 let e1:Ins:=Ins.mk (0:Int) (0:Int) [] [] [];
 let e2:List Ins:=[Ins.mk x1 x2 x3 x4 x5];
 let e3:Int:=(↑(List.length x4):Int);
  Small RU (Sigma.mk (Ty.slice (3:Nat) (Ty.int IntKind.i64)) x3)→
  Small RU (Sigma.mk (Ty.slice (3:Nat) (Ty.int IntKind.i64)) x4)→
  Small RU (Sigma.mk (Ty.slice (52:Nat) (Ty.user (0:Nat))) x5)→
  Small RU (Sigma.mk (Ty.slice (52:Nat) (Ty.user (0:Nat))) a1)→
  Small RU (Sigma.mk (Ty.slice (3:Nat) (Ty.int IntKind.i64)) a2)→
  Small RU (Sigma.mk (Ty.slice (3:Nat) (Ty.int IntKind.i64)) a3)→
  Small RU (Sigma.mk (Ty.slice (55:Nat) (Ty.user (1:Nat))) cd)→
  Small RU (Sigma.mk (Ty.slice (59:Nat) (Ty.user (2:Nat))) ou)→
  (List.length e2≤(1599289640354:Nat)∧F3 e2=true)∧
  ((0:Int)≤(0:Int)∧(0:Int)<(↑(List.length e2):Int))∧
  (∃ (p:Int×List Ins×Unit),
  x1=x1∧
  x2=x2∧
  x3=x3∧
  x4=x4∧
  x5=x5∧
  (0:Int)=(0:Int)∧
  e3=e3∧
  (0:Int)=p.1∧
  a0=a0∧
  a1=a1∧
  a2=a2∧
  a3=a3∧
  op=op∧
  ks=ks∧
  oc=oc∧
  sp=sp∧
  rd=rd∧
  ho=ho∧
  ce=ce∧
  cd=cd∧
  ou=ou∧
  sl=sl∧
  x1=x1∧
  x2=x2∧
  x3=x3∧
  x4=x4∧
  x5=x5∧
  (0:Int)=(0:Int)∧
  (0:Int)=(0:Int)∧
  e2=e2∧
  e2=p.2.1∧
  x1=x1∧
  x2=x2∧
  (0:Int)=(0:Int)∧
  (0:Int)=(0:Int)∧
  x5=x5∧
  (0:Int)≤p.1∧
  p.1≤e3∧
  p.2.1=
  [Ins.mk x1 x2 x3
  (List.map (getI sl) (List.take (Int.toNat p.1) x4)++List.drop (Int.toNat p.1) x4) x5])∧
  ∀ (p:Int×List Ins×Unit),
 let e0_1:Ins:=List.getD p.2.1 (0:Nat) e1;
 let e1_1:Bool:=decide (p.1<e3);
 let e2_1:Int:=p.1;
 let e3_1:List Ins:=p.2.1;
 let e4:Int:=(↑(List.length e0_1.to):Int);
  (0:Int)≤e2_1∧e2_1≤e3∧e3_1=[Ins.mk x1 x2 x3 (List.map (getI sl) (List.take (Int.toNat e2_1) x4)++List.drop (Int.toNat e2_1) x4) x5]→
  (e1_1=true→
  ((0:Int)≤e2_1∧e2_1<(↑(List.length e0_1.from_):Int))∧
  (True∧sl=sl∧True)∧
  ((0:Int)≤e2_1∧e2_1<(↑(List.length e0_1.from_):Int))∧
  ∃ (p':Int×List Ins×Unit),
  x1=x1∧
  x2=x2∧
  x3=x3∧
  x4=x4∧
  x5=x5∧
  (0:Int)=(0:Int)∧
  e3=e3∧
  IntKind.i64.wrap (e2_1+(1:Int))=p'.1∧
  a0=a0∧
  a1=a1∧
  a2=a2∧
  a3=a3∧
  op=op∧
  ks=ks∧
  oc=oc∧
  sp=sp∧
  rd=rd∧
  ho=ho∧
  ce=ce∧
  cd=cd∧
  ou=ou∧
  sl=sl∧
  x1=x1∧
  x2=x2∧
  x3=x3∧
  x4=x4∧
  x5=x5∧
  (0:Int)=(0:Int)∧
  (0:Int)=(0:Int)∧
  e2=e2∧
  List.set e3_1 (0:Nat)
  (Ins.mk e0_1.op e0_1.n e0_1.to
  (List.set e0_1.from_ (Int.toNat e2_1)
  (getI sl (List.getD e0_1.from_ (Int.toNat e2_1) (0:Int))))
  e0_1.body)=
  p'.2.1∧
  x1=x1∧
  x2=x2∧
  (0:Int)=(0:Int)∧
  (0:Int)=(0:Int)∧
  x5=x5∧
  ((0:Int)≤p'.1∧
  p'.1≤e3∧
  p'.2.1=
  [Ins.mk x1 x2 x3
  (List.map (getI sl) (List.take (Int.toNat p'.1) x4)++
  List.drop (Int.toNat p'.1) x4)
  x5])∧
  List.length x4-Int.toNat p'.1<List.length x4-Int.toNat e2_1)∧
  (e1_1=false→
  (∃ (p:Int×List Ins×Unit),
  x1=x1∧
  x2=x2∧
  x3=x3∧
  x4=x4∧
  x5=x5∧
  (0:Int)=(0:Int)∧
  e3=e3∧
  e2_1=e2_1∧
  e1_1=e1_1∧
  (0:Int)=(0:Int)∧
  e4=e4∧
  (0:Int)=p.1∧
  a0=a0∧
  a1=a1∧
  a2=a2∧
  a3=a3∧
  op=op∧
  ks=ks∧
  oc=oc∧
  sp=sp∧
  rd=rd∧
  ho=ho∧
  ce=ce∧
  cd=cd∧
  ou=ou∧
  sl=sl∧
  x1=x1∧
  x2=x2∧
  x3=x3∧
  x4=x4∧
  x5=x5∧
  (0:Int)=(0:Int)∧
  (0:Int)=(0:Int)∧
  e2=e2∧
  e3_1=p.2.1∧
  x1=x1∧
  x2=x2∧
  (0:Int)=(0:Int)∧
  (0:Int)=(0:Int)∧
  x5=x5∧
  (0:Int)≤p.1∧
  p.1≤(↑(List.length x3):Int)∧
  p.2.1=
  [Ins.mk x1 x2
  (List.map (fun (n:Int)=>(D6 ho ks n).n)
  (List.take (Int.toNat p.1) x3)++
  List.drop (Int.toNat p.1) x3)
  (List.map (getI sl) x4) x5])∧
  ∀ (p:Int×List Ins×Unit),
 let e0_2:Ins:=List.getD p.2.1 (0:Nat) e1;
 let e1:Int:=p.1;
 let e2_2:Bool:=decide (e1<e4);
 let e3_2:List Ins:=p.2.1;
  (0:Int)≤e1∧
  e1≤(↑(List.length x3):Int)∧
  e3_2=[Ins.mk x1 x2 (List.map (fun (n:Int)=>(D6 ho ks n).n) (List.take (Int.toNat e1) x3)++List.drop (Int.toNat e1) x3) (List.map (getI sl) x4) x5]→
  (e2_2=true→
  ((0:Int)≤e1∧e1<(↑(List.length e0_2.to):Int))∧
  (ks≤(64:Int)∧True)∧
  ((0:Int)≤e1∧e1<(↑(List.length e0_2.to):Int))∧
  ∃ (p':Int×List Ins×Unit),
  x1=x1∧
  x2=x2∧
  x3=x3∧
  x4=x4∧
  x5=x5∧
  (0:Int)=(0:Int)∧
  e3=e3∧
  e2_1=e2_1∧
  e1_1=e1_1∧
  (0:Int)=(0:Int)∧
  e4=e4∧
  IntKind.i64.wrap (e1+(1:Int))=p'.1∧
  a0=a0∧
  a1=a1∧
  a2=a2∧
  a3=a3∧
  op=op∧
  ks=ks∧
  oc=oc∧
  sp=sp∧
  rd=rd∧
  ho=ho∧
  ce=ce∧
  cd=cd∧
  ou=ou∧
  sl=sl∧
  x1=x1∧
  x2=x2∧
  x3=x3∧
  x4=x4∧
  x5=x5∧
  (0:Int)=(0:Int)∧
  (0:Int)=(0:Int)∧
  e2=e2∧
  List.set e3_2 (0:Nat)
  (Ins.mk e0_2.op e0_2.n
  (List.set e0_2.to (Int.toNat e1)
  (D6 ho ks (List.getD e0_2.to (Int.toNat e1) (0:Int))).n)
  e0_2.from_ e0_2.body)=
  p'.2.1∧
  x1=x1∧
  x2=x2∧
  (0:Int)=(0:Int)∧
  (0:Int)=(0:Int)∧
  x5=x5∧
  ((0:Int)≤p'.1∧
  p'.1≤(↑(List.length x3):Int)∧
  p'.2.1=
  [Ins.mk x1 x2
  (List.map (fun (n:Int)=>(D6 ho ks n).n)
  (List.take (Int.toNat p'.1) x3)++
  List.drop (Int.toNat p'.1) x3)
  (List.map (getI sl) x4) x5])∧
  List.length x3-Int.toNat p'.1<List.length x3-Int.toNat e1)∧
  (e2_2=false→(x1,x2,e0_2.to,e0_2.from_,e0)=(x1,x2,List.map (fun (n:Int)=>(D6 ho ks n).n) x3,List.map (getI sl) x4,e0)))):=by kernel_rfl
theorem bO9 (x1 x2:Int) (x3 x4:List Int) (x5:List Ins):vc (EV []) noL Go.Proofs.Tryd.f52 cReads (x1,x2,x3,x4,x5,())=(
 let e0:Int×Int×List Int×List Int×List Ins×Unit:=(x1,x2,x3,x4,x5,());
  Small RU (Sigma.mk (Ty.slice (3:Nat) (Ty.int IntKind.i64)) x3)→
  Small RU (Sigma.mk (Ty.slice (3:Nat) (Ty.int IntKind.i64)) x4)→Small RU (Sigma.mk (Ty.slice (52:Nat) (Ty.user (0:Nat))) x5)→e0=e0):=by kernel_rfl
theorem bH0 (st:Int) (r0:List Int) (x1 x2:Int) (x3 x4:List Int) (x5:List Ins):vc (EVy [(0,0),(1,1)] (some ao9) [(61,cContains)]) (bh9 x4 r0) Go.Proofs.Tryd.f83 aS7 (st,r0,x1,x2,x3,x4,x5,())=(
 let e0:Int×List Int×Unit:=((0:Int),r0++B4 x4,());
 let e1:Int:=(↑(List.length x4):Int);
  Small RU (Sigma.mk (Ty.slice (3:Nat) (Ty.int IntKind.i64)) r0)→
  Small RU (Sigma.mk (Ty.slice (3:Nat) (Ty.int IntKind.i64)) x3)→
  Small RU (Sigma.mk (Ty.slice (3:Nat) (Ty.int IntKind.i64)) x4)→
  Small RU (Sigma.mk (Ty.slice (52:Nat) (Ty.user (0:Nat))) x5)→
  (∃ (p:Int×Int×List Int×Unit),
  x4=x4∧
  e1=e1∧
  (0:Int)=p.1∧
  st=p.2.1∧
  r0=p.2.2.1∧
  x1=x1∧x2=x2∧x3=x3∧x4=x4∧x5=x5∧(0:Int)≤p.1∧p.1≤e1∧p.2.1=(0:Int)∧p.2.2.1=r0++B4 (List.take (Int.toNat p.1) x4))∧
  ∀ (p:Int×Int×List Int×Unit),
 let e0_1:List Int:=p.2.2.1;
 let e1_1:List Int:=e0_1++[List.getD x4 (Int.toNat p.1) (0:Int)];
 let e2:Bool:=List.contains (List.take (Int.toNat p.1) x4) (List.getD x4 (Int.toNat p.1) (0:Int));
 let e3:Int:=p.1;
 let e4:Int:=p.2.1;
 let e5:Bool:=decide (e3<e1);
  (0:Int)≤e3∧e3≤e1∧e4=(0:Int)∧e0_1=r0++B4 (List.take (Int.toNat e3) x4)→
  (e5=true→
  ((0:Int)≤e3∧e3<e1)∧
  ((0:Int)≤e3∧e3≤e1)∧
  (e2=true→
  ∃ (p':Int×Int×List Int×Unit),
  x4=x4∧
  e1=e1∧
  IntKind.i64.wrap (e3+(1:Int))=p'.1∧
  e4=p'.2.1∧
  e0_1=p'.2.2.1∧
  x1=x1∧
  x2=x2∧
  x3=x3∧
  x4=x4∧
  x5=x5∧
  ((0:Int)≤p'.1∧p'.1≤e1∧p'.2.1=(0:Int)∧p'.2.2.1=r0++B4 (List.take (Int.toNat p'.1) x4))∧
  List.length x4-Int.toNat p'.1<List.length x4-Int.toNat e3)∧
  (e2=false→
  (e4=(0:Int)∧List.length e0_1≤(17592186044400:Nat))∧
  ((!true)=true→((0:Int),e1_1,())=e0)∧
  ((!true)=false→
  ∃ (p':Int×Int×List Int×Unit),
  x4=x4∧
  e1=e1∧
  IntKind.i64.wrap (e3+(1:Int))=p'.1∧
  (0:Int)=p'.2.1∧
  e1_1=p'.2.2.1∧
  x1=x1∧
  x2=x2∧
  x3=x3∧
  x4=x4∧
  x5=x5∧
  ((0:Int)≤p'.1∧p'.1≤e1∧p'.2.1=(0:Int)∧p'.2.2.1=r0++B4 (List.take (Int.toNat p'.1) x4))∧
  List.length x4-Int.toNat p'.1<List.length x4-Int.toNat e3)))∧
  (e5=false→(e4,e0_1,())=e0)):=by kernel_rfl
theorem ce7 (i x1 x2:Int) (x3 x4:List Int) (x5:List Ins) (a0:Int) (a1:List Ins) (a2 a3:List Int) (sp:Spans) (rd:Reads) (ho:Holds) (ce:List (Int×Int)) (op ks oc:Int) (cd:List RIns) (ou:List Place):vc (EVd [] itDo [(52,cReads),(54,cSlot),(84,cRoom),(85,cPutA),(73,cCalledA)]) (lDo sp rd ks a1.length i x3 x4 ⟨ho,ce,oc,cd⟩) Go.Proofs.Tryd.f53 cDo (i,x1,x2,x3,x4,x5,a0,a1,a2,a3,sp,rd,ho,ce,op,ks,oc,cd,ou,())=(
 let e0:Int:=(↑(List.length ([]++B4 x4)):Int);
 let e1:List Int:=[]++B4 x4;
 let e2:AS:=doOf sp rd ks (↑(List.length a1):Int) i (Ins.mk x1 x2 x3 x4 x5) (AS.mk ho ce oc cd);
 let e3:Int:=(↑(List.length a1):Int);
 let e4:Int:=IntKind.i64.wrap (i+(1:Int));
 let e5:Int:=(↑(List.length x3):Int);
 let e6:AS:=E5 sp rd ks e3 i (B4 x4) (AS.mk ho ce oc cd) (B4 x4);
  Small RU (Sigma.mk (Ty.slice (3:Nat) (Ty.int IntKind.i64)) x3)→
  Small RU (Sigma.mk (Ty.slice (3:Nat) (Ty.int IntKind.i64)) x4)→
  Small RU (Sigma.mk (Ty.slice (52:Nat) (Ty.user (0:Nat))) x5)→
  Small RU (Sigma.mk (Ty.slice (52:Nat) (Ty.user (0:Nat))) a1)→
  Small RU (Sigma.mk (Ty.slice (3:Nat) (Ty.int IntKind.i64)) a2)→
  Small RU (Sigma.mk (Ty.slice (3:Nat) (Ty.int IntKind.i64)) a3)→
  Small RU (Sigma.mk (Ty.slice (55:Nat) (Ty.user (1:Nat))) cd)→
  Small RU (Sigma.mk (Ty.slice (59:Nat) (Ty.user (2:Nat))) ou)→
  (∀ (xs:Int×Int×List Int×Unit),
 let e0:List Int:=xs.2.2.1;
  xs.2.1=(0:Int)∧List.length e0≤(17592186044400:Nat)→
  Small RU (Sigma.mk (Ty.slice (3:Nat) (Ty.int IntKind.i64)) e0)→
  xs.2.1=(0:Int)∧(List.length e0+List.length [xs.1])*(8:Nat)≤(140737488355328:Nat)∧(true,(0:Int),e0++[xs.1],())=ao9.fn xs)∧
  ((0:Int)=(0:Int)∧List.length ([]:List Int)+List.length x4≤(17592186044400:Nat))∧
  (0:Int)=(0:Int)∧
  (∃ (p:Int×List (Place×Int)×List (Int×Int)×Int×List RIns×Unit),
  i=i∧
  x1=x1∧
  x2=x2∧
  x3=x3∧
  x4=x4∧
  x5=x5∧
  e1=e1∧
  e0=e0∧
  (0:Int)=p.1∧
  a0=a0∧
  a1=a1∧
  a2=a2∧
  a3=a3∧
  op=op∧
  ks=ks∧
  oc=p.2.2.2.1∧
  sp=sp∧
  rd=rd∧
  ho=p.2.1∧
  ce=p.2.2.1∧
  cd=p.2.2.2.2.1∧
  ou=ou∧
  x1=x1∧
  x2=x2∧
  x3=x3∧
  x4=x4∧
  x5=x5∧
  e1=e1∧
  e1=e1∧
  (0:Int)≤p.1∧
  p.1≤(↑(List.length (B4 x4)):Int)∧
  E5 sp rd ks e3 i (B4 x4) (AS.mk ho ce oc cd) (List.take (Int.toNat p.1) (B4 x4))=
  AS.mk p.2.1 p.2.2.1 p.2.2.2.1 p.2.2.2.2.1)∧
  ∀ (p:Int×List (Place×Int)×List (Int×Int)×Int×List RIns×Unit),
 let e0_1:AS:=(G1 sp rd ks e3 (AS.mk p.2.1 p.2.2.1 p.2.2.2.1 p.2.2.2.2.1) i e1).2;
 let e1_1:Int:=p.2.2.2.1;
 let e2_1:List RIns:=p.2.2.2.2.1;
 let e3_1:List (Place×Int):=p.2.1;
 let e4_1:List (Int×Int):=p.2.2.1;
 let e5_1:Bool:=decide (p.1<e0);
 let e6_1:Int:=p.1;
 let e7:Bool:=
  !((D6 e3_1 ks (List.getD e1 (Int.toNat e6_1) (0:Int))).cell==true&&((D6 e3_1 ks (List.getD e1 (Int.toNat e6_1) (0:Int))).n==(-1:Int)&&true));
 let e8:Int:=(G1 sp rd ks e3 (AS.mk e3_1 e4_1 e1_1 e2_1) i e1).1;
 let e9:Int:=(↑(List.length (B4 x4)):Int);
  (0:Int)≤e6_1∧e6_1≤e9∧E5 sp rd ks e3 i (B4 x4) (AS.mk ho ce oc cd) (List.take (Int.toNat e6_1) (B4 x4))=AS.mk e3_1 e4_1 e1_1 e2_1→
  (e5_1=true→
  ((0:Int)≤e6_1∧e6_1<e0)∧
  ks≤(64:Int)∧
  (e7=true→
  ∃ (p':Int×List (Place×Int)×List (Int×Int)×Int×List RIns×Unit),
  i=i∧
  x1=x1∧
  x2=x2∧
  x3=x3∧
  x4=x4∧
  x5=x5∧
  e1=e1∧
  e0=e0∧
  IntKind.i64.wrap (e6_1+(1:Int))=p'.1∧
  a0=a0∧
  a1=a1∧
  a2=a2∧
  a3=a3∧
  op=op∧
  ks=ks∧
  e1_1=p'.2.2.2.1∧
  sp=sp∧
  rd=rd∧
  e3_1=p'.2.1∧
  e4_1=p'.2.2.1∧
  e2_1=p'.2.2.2.2.1∧
  ou=ou∧
  x1=x1∧
  x2=x2∧
  x3=x3∧
  x4=x4∧
  x5=x5∧
  e1=e1∧
  e1=e1∧
  ((0:Int)≤p'.1∧
  p'.1≤e9∧
  E5 sp rd ks e3 i (B4 x4) (AS.mk ho ce oc cd)
  (List.take (Int.toNat p'.1) (B4 x4))=
  AS.mk p'.2.1 p'.2.2.1 p'.2.2.2.1 p'.2.2.2.2.1)∧
  List.length (B4 x4)-Int.toNat p'.1<List.length (B4 x4)-Int.toNat e6_1)∧
  (e7=false→
  ((∀ (n:Int),List.Pairwise (fun (x1 x2:Int)=>x1≤x2) (getL rd n))∧
  ((L2 sp rd ks e3 e3_1 i e1).1=none→(L2 sp rd ks e3 e3_1 i e1).2≠[])∧
  ks≤(64:Int)∧(0:Int)≤e1_1∧e1_1≤(1000000000:Int)∧List.length e2_1≤(1000000000:Nat))∧
  List.length e0_1.code≤(1000000000:Nat)∧
  ∃ (p':Int×List (Place×Int)×List (Int×Int)×Int×List RIns×Unit),
  i=i∧
  x1=x1∧
  x2=x2∧
  x3=x3∧
  x4=x4∧
  x5=x5∧
  e1=e1∧
  e0=e0∧
  IntKind.i64.wrap (e6_1+(1:Int))=p'.1∧
  a0=a0∧
  a1=a1∧
  a2=a2∧
  a3=a3∧
  op=op∧
  ks=ks∧
  e0_1.ocells=p'.2.2.2.1∧
  sp=sp∧
  rd=rd∧
  mput (E1 RU (Ty.user (2:Nat))) e0_1.holds (Place.mk false e8) (List.getD e1 (Int.toNat e6_1) (0:Int))=
  p'.2.1∧
  e0_1.cells=p'.2.2.1∧
  e0_1.code++
  [RIns.mk (1:Int) e8
  (Option.getD (mget (fun (x y:Int)=>x==y) e0_1.cells (List.getD e1 (Int.toNat e6_1) (0:Int)))
  (0:Int))
  (Ins.mk (0:Int) (0:Int) [] [] [])]=
  p'.2.2.2.2.1∧
  ou=ou∧
  x1=x1∧
  x2=x2∧
  x3=x3∧
  x4=x4∧
  x5=x5∧
  e1=e1∧
  e1=e1∧
  ((0:Int)≤p'.1∧
  p'.1≤e9∧
  E5 sp rd ks e3 i (B4 x4) (AS.mk ho ce oc cd)
  (List.take (Int.toNat p'.1) (B4 x4))=
  AS.mk p'.2.1 p'.2.2.1 p'.2.2.2.1 p'.2.2.2.2.1)∧
  List.length (B4 x4)-Int.toNat p'.1<List.length (B4 x4)-Int.toNat e6_1))∧
  (e5_1=false→
  (∃ (p:Int×List (Int×Int)×Unit),
  i=i∧
  x1=x1∧
  x2=x2∧
  x3=x3∧
  x4=x4∧
  x5=x5∧
  e1=e1∧
  e0=e0∧
  e6_1=e6_1∧
  e5_1=e5_1∧
  e1=e1∧
  e0=e0∧
  (0:Int)=p.1∧
  a0=a0∧
  a1=a1∧
  a2=a2∧
  a3=a3∧
  op=op∧
  ks=ks∧
  e1_1=e1_1∧
  sp=sp∧
  rd=rd∧
  e3_1=e3_1∧
  e4_1=e4_1∧
  e2_1=e2_1∧
  ou=ou∧
  x1=x1∧
  x2=x2∧
  x3=x3∧
  x4=x4∧
  x5=x5∧
  e1=e1∧
  e1=e1∧
  []=p.2.1∧
  (0:Int)≤p.1∧
  p.1≤e9∧p.2.1=ab1 e6.holds ks (List.take (Int.toNat p.1) (B4 x4)))∧
  ∀ (p:Int×List (Int×Int)×Unit),
 let e0_2:Bool:=decide (p.1<e0);
 let e1_2:List (Int×Int):=p.2.1;
 let e2_2:Int:=p.1;
  (0:Int)≤e2_2∧e2_2≤e9∧e1_2=ab1 e6.holds ks (List.take (Int.toNat e2_2) (B4 x4))→
  (e0_2=true→
  ((0:Int)≤e2_2∧e2_2<e0)∧
  ks≤(64:Int)∧
  ∃ (p':Int×List (Int×Int)×Unit),
  i=i∧
  x1=x1∧
  x2=x2∧
  x3=x3∧
  x4=x4∧
  x5=x5∧
  e1=e1∧
  e0=e0∧
  e6_1=e6_1∧
  e5_1=e5_1∧
  e1=e1∧
  e0=e0∧
  IntKind.i64.wrap (e2_2+(1:Int))=p'.1∧
  a0=a0∧
  a1=a1∧
  a2=a2∧
  a3=a3∧
  op=op∧
  ks=ks∧
  e1_1=e1_1∧
  sp=sp∧
  rd=rd∧
  e3_1=e3_1∧
  e4_1=e4_1∧
  e2_1=e2_1∧
  ou=ou∧
  x1=x1∧
  x2=x2∧
  x3=x3∧
  x4=x4∧
  x5=x5∧
  e1=e1∧
  e1=e1∧
  mput (fun (x y:Int)=>x==y) e1_2 (List.getD e1 (Int.toNat e2_2) (0:Int))
  (D6 e3_1 ks (List.getD e1 (Int.toNat e2_2) (0:Int))).n=
  p'.2.1∧
  ((0:Int)≤p'.1∧
  p'.1≤e9∧
  p'.2.1=ab1 e6.holds ks (List.take (Int.toNat p'.1) (B4 x4)))∧
  List.length (B4 x4)-Int.toNat p'.1<
  List.length (B4 x4)-Int.toNat e2_2)∧
  (e0_2=false→
  (∃ (p:Int×List (Place×Int)×List (Int×Int)×Int×List RIns×Unit),
  i=i∧
  x1=x1∧
  x2=x2∧
  x3=x3∧
  x4=x4∧
  x5=x5∧
  e1=e1∧
  e0=e0∧
  e6_1=e6_1∧
  e5_1=e5_1∧
  e1=e1∧
  e0=e0∧
  e2_2=e2_2∧
  e0_2=e0_2∧
  x3=x3∧
  e5=e5∧
  (0:Int)=p.1∧
  a0=a0∧
  a1=a1∧
  a2=a2∧
  a3=a3∧
  op=op∧
  ks=ks∧
  e1_1=p.2.2.2.1∧
  sp=sp∧
  rd=rd∧
  e3_1=p.2.1∧
  e4_1=p.2.2.1∧
  e2_1=p.2.2.2.2.1∧
  ou=ou∧
  x1=x1∧
  x2=x2∧
  x3=x3∧
  x4=x4∧
  x5=x5∧
  e1=e1∧
  e1=e1∧
  e1_2=e1_2∧
  (0:Int)≤p.1∧
  p.1≤e5∧
  P7 sp rd ks e3 i x3 e6 (List.take (Int.toNat p.1) x3)=
  AS.mk p.2.1 p.2.2.1 p.2.2.2.1 p.2.2.2.2.1)∧
  ∀ (p:Int×List (Place×Int)×List (Int×Int)×Int×List RIns×Unit),
 let e0_3:AS:=(G1 sp rd ks e3 (AS.mk p.2.1 p.2.2.1 p.2.2.2.1 p.2.2.2.2.1) e4 x3).2;
 let e1_3:AS:=AS.mk p.2.1 p.2.2.1 p.2.2.2.1 p.2.2.2.2.1;
 let e2_3:Int:=p.2.2.2.1;
 let e3_2:List RIns:=p.2.2.2.2.1;
 let e4_2:List (Place×Int):=p.2.1;
 let e5_2:Int:=p.1;
 let e6_2:Bool:=decide (e5_2<e5);
  (0:Int)≤e5_2∧e5_2≤e5∧P7 sp rd ks e3 i x3 e6 (List.take (Int.toNat e5_2) x3)=e1_3→
  (e6_2=true→
  ((0:Int)≤e5_2∧e5_2<e5)∧
  ((∀ (n:Int),List.Pairwise (fun (x1 x2:Int)=>x1≤x2) (getL rd n))∧
  ((L2 sp rd ks e3 e4_2 e4 x3).1=none→(L2 sp rd ks e3 e4_2 e4 x3).2≠[])∧
  ks≤(64:Int)∧(0:Int)≤e2_3∧e2_3≤(1000000000:Int)∧List.length e3_2≤(1000000000:Nat))∧
  ∃ (p':Int×List (Place×Int)×List (Int×Int)×Int×List RIns×Unit),
  i=i∧
  x1=x1∧
  x2=x2∧
  x3=x3∧
  x4=x4∧
  x5=x5∧
  e1=e1∧
  e0=e0∧
  e6_1=e6_1∧
  e5_1=e5_1∧
  e1=e1∧
  e0=e0∧
  e2_2=e2_2∧
  e0_2=e0_2∧
  x3=x3∧
  e5=e5∧
  IntKind.i64.wrap (e5_2+(1:Int))=p'.1∧
  a0=a0∧
  a1=a1∧
  a2=a2∧
  a3=a3∧
  op=op∧
  ks=ks∧
  e0_3.ocells=p'.2.2.2.1∧
  sp=sp∧
  rd=rd∧
  mput (E1 RU (Ty.user (2:Nat))) e0_3.holds
  (Place.mk false (G1 sp rd ks e3 e1_3 e4 x3).1)
  (List.getD x3 (Int.toNat e5_2) (0:Int))=
  p'.2.1∧
  e0_3.cells=p'.2.2.1∧
  e0_3.code=p'.2.2.2.2.1∧
  ou=ou∧
  x1=x1∧
  x2=x2∧
  x3=x3∧
  x4=x4∧
  x5=x5∧
  e1=e1∧
  e1=e1∧
  e1_2=e1_2∧
  ((0:Int)≤p'.1∧
  p'.1≤e5∧
  P7 sp rd ks e3 i x3 e6
  (List.take (Int.toNat p'.1) x3)=
  AS.mk p'.2.1 p'.2.2.1 p'.2.2.2.1
  p'.2.2.2.2.1)∧
  List.length x3-Int.toNat p'.1<
  List.length x3-Int.toNat e5_2)∧
  (e6_2=false→
  (((U5 x3 x4 x5=true∧ks≤(64:Int))∧True)∧True)∧
  List.length e3_2≤(1000000000:Nat)∧
  (a0,a1,a2,a3,sp,rd,e4_2,p.2.2.1,op,ks,e2_3,
  e3_2++
  [RIns.mk (0:Int) (0:Int) (0:Int) (Ins.mk x1 x2 (List.map (fun (n:Int)=>(D6 e4_2 ks n).n) x3) (List.map (getI e1_2) x4) x5)],
  ou,())=
  (a0,a1,a2,a3,sp,rd,e2.holds,e2.cells,op,ks,e2.ocells,e2.code,ou,()))))):=by kernel_rfl
theorem X0 (sp:Spans) (rd:Reads) (N:Int) (m:Holds) (pl:Int) (st:List Int) (r:List Nat):∀ (l:List Nat) (acc:List Held),C7 sp rd N m pl st (l++r) acc=match C7 sp rd N m pl st l acc with
  |(none,acc')=>C7 sp rd N m pl st r acc'
  |x=>x
 |[],acc=>rfl
 |s::l,acc=>by
  simp only [List.cons_append,C7]
  cases mget eqP m ⟨false,(s:Int)⟩ with
  |none=>rfl
  |some n=>
   simp only
   cases st.contains n with
   |true=>exact X0 sp rd N m pl st r l acc
   |false=>
    simp only [cond_false]
    cases O5 (getS sp n).first (getS sp n).last pl with
    |true=>exact X0 sp rd N m pl st r l _
    |false=>rfl
theorem ae6 (sp:Spans) (rd:Reads) (N:Int) (m:Holds) (pl:Int) (st:List Int):∀ (l:List Nat) (acc:List Held),(C7 sp rd N m pl st l acc).2.length≤acc.length+l.length
 |[],acc=>by simp [C7]
 |s::l,acc=>by
  simp only [C7]
  cases mget eqP m ⟨false,(s:Int)⟩ with
  |none=>simp
  |some n=>
   simp only
   cases st.contains n with
   |true=>have:=ae6 sp rd N m pl st l acc;simp only [cond_true,cg6];omega
   |false=>
    simp only [cond_false]
    cases O5 (getS sp n).first (getS sp n).last pl with
    |true=>have:=ae6 sp rd N m pl st l (acc++[⟨(s:Int),n,aF3 rd N n pl⟩]);simp only [cond_true,cg6,ch1,List.length_nil] at this ⊢;omega
    |false=>simp
theorem ap0 {sp:Spans} {rd:Reads} {N:Int} {m:Holds} {pl:Int} {st:List Int} {k:Nat} {acc:List Held} (h:C7 sp rd N m pl st (List.range k) []=(none,acc)):C7 sp rd N m pl st (List.range (k+1)) []=C7 sp rd N m pl st [k] acc:=by
 rw [List.range_succ,X0,h]
theorem aS8 {sp:Spans} {rd:Reads} {N:Int} {m:Holds} {pl:Int} {st:List Int} {k n:Nat} {acc:List Held} (hk:k<n) (h:C7 sp rd N m pl st (List.range k) []=(none,acc)) {i:Int} (h2:C7 sp rd N m pl st [k] acc=(some i,acc)):C7 sp rd N m pl st (List.range n) []=(some i,acc):=by
 have:List.range n=List.range (k+1)++(List.range (n-(k+1))).map ((k+1)+·):=by
  rw [←List.range_add];congr 1;omega
 rw [this,X0,ap0 h,h2]
theorem bZ1 (pl:Int) (st:List Int) (a0:Int) (a1:List Ins) (a2 a3:List Int) (sp:Spans) (rd:Reads) (ho:Holds) (ce:List (Int×Int)) (op ks oc:Int) (cd:List RIns) (ou:List Place)
  (hp:ae5 rd∧au4 sp rd ks a1.length ho pl st∧ks≤64∧0≤oc∧oc≤1000000000∧cd.length≤1000000000):vc (EV [(100,cNext),(61,cContains),(69,cAt),(101,cBest),(85,cPutA)]) (bY7 sp rd ks a1.length ho pl st) Go.Proofs.Tryd.f84 cRoom (pl,st,a0,a1,a2,a3,sp,rd,ho,ce,op,ks,oc,cd,ou,()):=by
 rw [bY8 pl st a0 a1 a2 a3 sp rd ho ce op ks oc cd ou]
 intro e0 e1 _ _ _ _ _ _
 obtain ⟨hp1,hp2,hp3,hp4,hp5,hp6⟩:=hp
 have he0:e0=((G1 sp rd ks a1.length ⟨ho,ce,oc,cd⟩ pl st).1,a0,a1,a2,a3,sp,rd,(G1 sp rd ks a1.length ⟨ho,ce,oc,cd⟩ pl st).2.holds,(G1 sp rd ks a1.length ⟨ho,ce,oc,cd⟩ pl st).2.cells,op,ks,(G1 sp rd ks a1.length ⟨ho,ce,oc,cd⟩ pl st).2.ocells,(G1 sp rd ks a1.length ⟨ho,ce,oc,cd⟩ pl st).2.code,ou,()):=rfl
 have he1:e1=(a0,a1,a2,a3,sp,rd,ho,ce,op,ks,oc,cd,ou,()):=rfl
 clear_value e0 e1
 generalize (a1.length:Int)=N at hp2 he0 ⊢
 simp only [true_and,and_true,Bool.cond_self]
 refine ⟨⟨(0,[],()),rfl,rfl,Int.le_refl _,.inr rfl,rfl⟩,?_⟩
 rintro ⟨i,l,⟨⟩⟩ ⟨h0,h1,h2⟩
 dsimp only at h0 h1 h2 ⊢
 obtain ⟨k,rfl⟩:=cf6 h0
 simp only [cf4] at h2 ⊢
 have hlen:=ae6 sp rd N ho pl st (List.range k) []
 rw [h2] at hlen
 simp only [List.length_nil,List.length_range,Nat.zero_add] at hlen
 refine ⟨fun hlt=>?_,fun hge=>?_⟩
 ·have hlt:(k:Int)<ks:=cg0 hlt
  have stop:C7 sp rd N ho pl st [k] l=(some (k:Int),l)→((k:Int),e1)=e0:=fun h=>by
   have hr:(L2 sp rd ks N ho pl st)=(some (k:Int),l):=aS8 (by omega) h2 h
   have:G1 sp rd ks N ⟨ho,ce,oc,cd⟩ pl st=((k:Int),⟨ho,ce,oc,cd⟩):=by simp only [G1,hr]
   rw [he0,this,he1]
  have next:∀ l',C7 sp rd N ho pl st [k] l=(none,l')→∃ p':Int×List Held×Unit,IntKind.i64.wrap ((k:Int)+1)=p'.1∧l'=p'.2.1∧(0≤p'.1∧(p'.1≤ks∨p'.1=0)∧C7 sp rd N ho pl st (List.range p'.1.toNat) []=(none,p'.2.1))∧ks.toNat-p'.1.toNat<ks.toNat-k:=fun l' h=>
   ⟨((k+1:Nat),l',()),by rw [M6 (by omega) (by omega)];rfl,rfl,⟨by omega,.inl (by dsimp only;omega),by dsimp only;rw [cf4,ap0 h2,h]⟩,by dsimp only;omega⟩
  show ((!(mget eqP ho ⟨false,(k:Int)⟩).isSome)=true→_)∧((!(mget eqP ho ⟨false,(k:Int)⟩).isSome)=false→_)
  cases hq:mget eqP ho ⟨false,(k:Int)⟩ with
  |none=>
   refine ⟨fun _=>stop ?_,fun h=>(by cases h)⟩
   simp only [C7,hq]
  |some n=>
   refine ⟨fun h=>(by cases h),fun _=>?_⟩
   have hq':mget (E1 RU (Ty.user 2)) ho ⟨false,(k:Int)⟩=some n:=hq
   simp only [hq',Option.getD_some]
   refine ⟨fun h=>?_,fun h=>⟨fun h3=>stop ?_,fun h3=>⟨hp1,?_,?_⟩⟩⟩
   ·exact next l (by simp only [C7,hq,h,cond_true])
   ·have h3:O5 (getS sp n).first (getS sp n).last pl=false:=by simpa [getS] using h3
    simp only [C7,hq,h,h3,cond_false]
   ·simp only [cg6,List.length_nil];omega
   ·have h3:O5 (getS sp n).first (getS sp n).last pl=true:=by simpa [getS] using h3
    exact next _ (by simp only [C7,hq,h,h3,cond_false,cond_true])
 ·have hge:¬ (k:Int)<ks:=cf9 hge
  have hr:L2 sp rd ks N ho pl st=(none,l):=by
   rw [←h2]
   show C7 sp rd N ho pl st (List.range ks.toNat) []=_
   congr 2
   omega
  have hne:l≠[]:=by
   have:=hp2
   unfold au4 at this
   rw [hr] at this
   exact this rfl
  have hR:G1 sp rd ks N ⟨ho,ce,oc,cd⟩ pl st=((L4 l).slot,aS2 ⟨ho,ce,oc,cd⟩ (L4 l)):=by simp only [G1,hr]
  rw [hR] at he0
  refine ⟨hne,fun _=>hp6,?_⟩
  rw [he0]
  dsimp only [aS2]
  show (_,_,_,_,_,_,_,_,(bif !(mget eqI ce (L4 l).reg).isSome then mput eqI ce (L4 l).reg oc else ce),_,_,(bif !(mget eqI ce (L4 l).reg).isSome then IntKind.i64.wrap (oc+1) else oc),(bif !(mget eqI ce (L4 l).reg).isSome then cd++[⟨2,(L4 l).slot,oc,ins0⟩] else cd),_,_)=_
  rw [M6 (by omega) (by omega)]
  cases (mget eqI ce (L4 l).reg).isSome<;>rfl
theorem bw0:C6 prog RG 84 cRoom:=E2 (A6 bv7 (A6 L8 (A6 bn2 (A6 bv8 (A6 aL6 C0))))) (fun (pl,st,a0,a1,a2,a3,sp,rd,ho,ce,op,ks,oc,cd,ou,())=>bY7 sp rd ks a1.length ho pl st) (by kernel_rfl) (by kernel_rfl) (by kernel_rfl) fun (pl,st,a0,a1,a2,a3,sp,rd,ho,ce,op,ks,oc,cd,ou,()) hp=>bZ1 pl st a0 a1 a2 a3 sp rd ho ce op ks oc cd ou hp
theorem bw1:C6 prog RG 86 cGetA:=E2 (A6 ar5 C0) (fun _=>noL) (by kernel_rfl) (by kernel_rfl) (by kernel_rfl) fun (n,a0,a1,a2,a3,sp,rd,ho,ce,op,ks,oc,cd,ou,()) hp=>(bY9 n a0 a1 a2 a3 sp rd ho ce op ks oc cd ou).mpr (by
 have hp:ks≤64:=hp
 intros
 simp only [true_and,and_true]
 exact hp)
theorem bw2:C6 prog RG 87 cOld:=E2 C0 (fun _=>noL) (by kernel_rfl) (by kernel_rfl) (by kernel_rfl) fun (n,m,()) _=>(bZ0 n m).mpr rfl
theorem bw3 (x1 x2:Int) (x3 x4:List Int) (x5:List Ins) (a0:Int) (a1:List Ins) (a2 a3:List Int) (sp:Spans) (rd:Reads) (ho:Holds) (ce:List (Int×Int)) (op ks oc:Int) (cd:List RIns) (ou:List Place) (sl:List (Int×Int)) (hp:U5 x3 x4 x5=true∧ks≤64):
  vc (EV [(96,cBody),(86,cGetA),(87,cOld)]) (aS6 x1 x2 x3 x4 x5 ho ks sl) Go.Proofs.Tryd.f73 cCalledA (x1,x2,x3,x4,x5,a0,a1,a2,a3,sp,rd,ho,ce,op,ks,oc,cd,ou,sl,()):=by
 rw [bv9 x1 x2 x3 x4 x5 a0 a1 a2 a3 sp rd ho ce op ks oc cd ou sl]
 intro e0 e1 e2 e3 hs3 hs4 _ _ _ _ _ _
 have hl3:x3.length≤140737488355328:=hs3.len
 have hl4:x4.length≤140737488355328:=hs4.len
 clear_value e0
 dsimp only [e1,e2,e3]
 simp only [true_and,and_true]
 refine ⟨⟨by simp,?_⟩,⟨by omega,by simp⟩,⟨(0,_,()),rfl,rfl,Int.le_refl _,by dsimp only;omega,by simp⟩,?_⟩
 ·simp only [F3,Bool.and_true]
  exact (O0 _).2 (T2.1 hp.1)
 rintro ⟨i,l,⟨⟩⟩ ⟨h0,h1,h2⟩
 dsimp only at h0 h1 h2 ⊢
 subst h2
 obtain ⟨k,rfl⟩:=cf6 h0
 simp only [cf4,List.getD_cons_zero,List.set_cons_zero]
 have hA:((x4.take k).map (getI sl)).length=k:=by simp;omega
 refine ⟨fun hlt=>?_,fun hge=>?_⟩
 ·have hlt:(k:Int)<x4.length:=cg0 hlt
  rw [P6 hA (by omega),ak7 hA (by omega),ak8 hA (by omega)]
  refine ⟨⟨h0,hlt⟩,⟨h0,hlt⟩,((k+1:Nat),[⟨x1,x2,x3,(x4.take (k+1)).map (getI sl)++x4.drop (k+1),x5⟩],()),B6 (by omega) hl4,?_,⟨by omega,by dsimp only;omega,by dsimp only;rw [cf4]⟩,by dsimp only;omega⟩
  dsimp only
  rw [A4 (by omega) 0,List.map_append]
  rfl
 have hk:k=x4.length:=by have:¬ (k:Int)<x4.length:=cf9 hge;omega
 subst hk
 simp only [ch8,List.drop_length,List.append_nil]
 clear h0 h1 hge hA
 refine ⟨⟨(0,_,()),rfl,rfl,Int.le_refl _,by dsimp only;omega,by simp⟩,?_⟩
 rintro ⟨i,l,⟨⟩⟩ ⟨h0,h1,h2⟩
 dsimp only at h0 h1 h2 ⊢
 subst h2
 obtain ⟨k,rfl⟩:=cf6 h0
 simp only [cf4,List.getD_cons_zero,List.set_cons_zero]
 have hA:((x3.take k).map (fun n=>(D6 ho ks n).n)).length=k:=by simp;omega
 refine ⟨fun hlt=>?_,fun hge=>?_⟩
 ·have hlt:(k:Int)<x3.length:=cg0 hlt
  rw [P6 hA (by omega),ak7 hA (by omega),ak8 hA (by omega)]
  refine ⟨⟨h0,hlt⟩,hp.2,⟨h0,hlt⟩,((k+1:Nat),[⟨x1,x2,(x3.take (k+1)).map (fun n=>(D6 ho ks n).n)++x3.drop (k+1),x4.map (getI sl),x5⟩],()),B6 (by omega) hl3,?_,⟨by omega,by dsimp only;omega,by dsimp only;rw [cf4]⟩,by dsimp only;omega⟩
  dsimp only
  rw [A4 (by omega) 0,List.map_append]
  rfl
 ·have hk:k=x3.length:=by have:¬ (k:Int)<x3.length:=cf9 hge;omega
  subst hk
  simp only [ch8,List.drop_length,List.append_nil]
theorem aS9:C6 prog RG 73 cCalledA:=E2 (A6 ar0 (A6 bw1 (A6 bw2 C0))) (fun (x1,x2,x3,x4,x5,a0,a1,a2,a3,sp,rd,ho,ce,op,ks,oc,cd,ou,sl,())=>aS6 x1 x2 x3 x4 x5 ho ks sl) (by kernel_rfl) (by kernel_rfl) (by kernel_rfl) fun (x1,x2,x3,x4,x5,a0,a1,a2,a3,sp,rd,ho,ce,op,ks,oc,cd,ou,sl,()) hp=>bw3 x1 x2 x3 x4 x5 a0 a1 a2 a3 sp rd ho ce op ks oc cd ou sl hp
theorem ai4 (x:Int):∀ (l seen:List Int),E8 seen (l++[x])=E8 seen l++bif (seen++l).contains x then [] else [x]
 |[],seen=>by
  simp only [List.nil_append,E8,List.append_nil]
 |y::l,seen=>by
  have ih:=ai4 x l (seen++[y])
  rw [ch6,List.singleton_append] at ih
  simp only [List.cons_append,E8,ih]
  cases seen.contains y<;>rfl
theorem aL7 (l:List Int) (x:Int):B4 (l++[x])=bif l.contains x then B4 l else B4 l++[x]:=by
 unfold B4
 rw [ai4,List.nil_append]
 cases l.contains x<;>simp
theorem ae7 (l:List Int):(B4 l).length≤l.length:=by
 have key:∀ (l seen:List Int),(E8 seen l).length≤l.length:=by
  intro l
  induction l with
  |nil=>intro seen;simp [E8]
  |cons x r ih=>
   intro seen
   have:=ih (seen++[x])
   simp only [E8]
   cases seen.contains x with
   |true=>simp only [cond_true,cg6];omega
   |false=>simp only [cond_false,cg6];omega
 exact key l []
theorem aF5:C6 prog RG 52 cReads:=E2 C0 (fun _=>noL) (by kernel_rfl) (by kernel_rfl) (by kernel_rfl) fun (x1,x2,x3,x4,x5,()) _=>(bO9 x1 x2 x3 x4 x5).mpr (by intros;rfl)
theorem bH1 (s0:Int) (r0:List Int) (x1 x2:Int) (x3 x4:List Int) (x5:List Ins) (hp:s0=0∧r0.length+x4.length≤17592186044400):vc (EVy [(0,0),(1,1)] (some ao9) [(61,cContains)]) (bh9 x4 r0) Go.Proofs.Tryd.f83 aS7 (s0,r0,x1,x2,x3,x4,x5,()):=by
 rw [bH0 s0 r0 x1 x2 x3 x4 x5]
 intro e0 e1 _ _ hs4 _
 have hl4:x4.length≤140737488355328:=hs4.len
 have he0:e0=(0,r0++B4 x4,()):=rfl
 clear_value e0
 dsimp only [e1]
 simp only [true_and,and_true]
 refine ⟨⟨(0,0,r0,()),rfl,hp.1,rfl,Int.le_refl _,by dsimp only;omega,rfl,by simp [B4,E8]⟩,?_⟩
 rintro ⟨i,st,l,⟨⟩⟩ ⟨h0,h1,h2,h3⟩
 dsimp only at h0 h1 h2 h3 ⊢
 subst h2
 obtain ⟨k,rfl⟩:=cf6 h0
 simp only [cf4] at h3 ⊢
 subst h3
 refine ⟨fun hlt=>?_,fun hge=>?_⟩
 ·have hlt:(k:Int)<x4.length:=cg0 hlt
  have hs:=aL7 (x4.take k) (x4.getD k 0)
  rw [←A4 (by omega)] at hs
  have hl:=ae7 (x4.take k)
  rw [ch9] at hl
  refine ⟨⟨h0,hlt⟩,⟨h0,by omega⟩,fun q=>?_,fun q=>⟨⟨trivial,by rw [ch1];omega⟩,fun h=>(by cases h),fun _=>?_⟩⟩
  ·rw [q] at hs
   exact ⟨((k+1:Nat),0,_,()),B6 (by omega) hl4,rfl,rfl,⟨by omega,by dsimp only;omega,rfl,by dsimp only;rw [cf4,hs];rfl⟩,by dsimp only;omega⟩
  ·rw [q] at hs
   exact ⟨((k+1:Nat),0,_,()),B6 (by omega) hl4,rfl,rfl,⟨by omega,by dsimp only;omega,rfl,by dsimp only;rw [cf4,hs,ch6];rfl⟩,by dsimp only;omega⟩
 ·have hk:k=x4.length:=by have:¬ (k:Int)<x4.length:=cf9 hge;omega
  subst hk
  rw [he0,ch8]
theorem bZ2:ItOk itDo:=by
 intro f k kY mp h Y' hY
 unfold itDo at h
 cases hf:Nat.beq f 83 with
 |false=>rw [hf] at h;cases h
 |true=>
  have hf:=cf1 hf
  subst hf
  simp only [Nat.beq_refl,cond_true,List.mem_cons,List.not_mem_nil,or_false,cg2] at h
  obtain ⟨rfl,rfl,rfl⟩:=h
  exact ag8 (E:=EVy [(0,0),(1,1)] (some ao9) [(61,cContains)]) (bL8 _ _ _) ⟨W2 (fun x hx=>by rcases List.mem_cons.1 hx with rfl|hx;exact L8 _;cases hx),fun _ _ _ _ _ h=>(by cases h),fun _ _ _ h=>(by cases h),fun k hk=>by cases hk;exact hY,fun _ _ _ _ h=>(by cases h)⟩ bf2 Go.Proofs.Tryd.func83 (by kernel_rfl)
    (fun p=>bh9 p.2.2.2.2.2.1 p.2.1) (fun (st,r0,x1,x2,x3,x4,x5,()) hp=>bH1 st r0 x1 x2 x3 x4 x5 hp) (by kernel_rfl) rfl
theorem bH2 (s:AS) (x:Held):(aS2 s x).code.length≤s.code.length+1∧s.ocells≤(aS2 s x).ocells∧(aS2 s x).ocells≤s.ocells+1:=by
 unfold aS2
 cases (mget eqI s.cells x.reg).isSome with
 |true=>simp only [cond_true];omega
 |false=>simp only [cond_false,ch1,cg6,List.length_nil];omega
theorem ar6 (sp:Spans) (rd:Reads) (ks N:Int) (s:AS) (pl:Int) (st:List Int):(G1 sp rd ks N s pl st).2.code.length≤s.code.length+1∧s.ocells≤(G1 sp rd ks N s pl st).2.ocells∧(G1 sp rd ks N s pl st).2.ocells≤s.ocells+1:=by
 unfold G1
 split
 ·simp only;omega
 ·exact bH2 _ _
theorem bb3 (sp:Spans) (rd:Reads) (ks N i:Int) (fr:List Int) (s:AS) (n:Int):(J5 sp rd ks N i fr s n).code.length≤s.code.length+2∧s.ocells≤(J5 sp rd ks N i fr s n).ocells∧(J5 sp rd ks N i fr s n).ocells≤s.ocells+1:=by
 unfold J5
 have:=ar6 sp rd ks N s i fr
 cases (D6 s.holds ks n).cell with
 |true=>simp only [cond_true,ch1,cg6,List.length_nil];omega
 |false=>simp only [cond_false];omega
theorem ab2 (sp:Spans) (rd:Reads) (ks N i:Int) (fr:List Int):∀ (l:List Int) (s:AS),(E5 sp rd ks N i fr s l).code.length≤s.code.length+2*l.length∧s.ocells≤(E5 sp rd ks N i fr s l).ocells∧(E5 sp rd ks N i fr s l).ocells≤s.ocells+l.length
 |[],s=>by simp [E5]
 |x::r,s=>by
  have h1:=ab2 sp rd ks N i fr r (J5 sp rd ks N i fr s x)
  have h2:=bb3 sp rd ks N i fr s x
  simp only [E5,List.foldl_cons,cg6] at h1 ⊢
  omega
theorem bw4 (sp:Spans) (rd:Reads) (ks N i:Int) (to:List Int) (s:AS) (n:Int):(au5 sp rd ks N i to s n).code.length≤s.code.length+1∧s.ocells≤(au5 sp rd ks N i to s n).ocells∧(au5 sp rd ks N i to s n).ocells≤s.ocells+1:=by
 have:=ar6 sp rd ks N s (i+1) to
 exact this
theorem aF6 (sp:Spans) (rd:Reads) (ks N i:Int) (to:List Int):∀ (l:List Int) (s:AS),(P7 sp rd ks N i to s l).code.length≤s.code.length+l.length∧s.ocells≤(P7 sp rd ks N i to s l).ocells∧(P7 sp rd ks N i to s l).ocells≤s.ocells+l.length
 |[],s=>by simp [P7]
 |x::r,s=>by
  have h1:=aF6 sp rd ks N i to r (au5 sp rd ks N i to s x)
  have h2:=bw4 sp rd ks N i to s x
  simp only [P7,List.foldl_cons,cg6] at h1 ⊢
  omega
theorem bb4 (sp:Spans) (rd:Reads) (ks N i:Int) (fr:List Int) (s:AS) (l:List Int) (x:Int):E5 sp rd ks N i fr s (l++[x])=J5 sp rd ks N i fr (E5 sp rd ks N i fr s l) x:=by simp [E5]
theorem aL8 (sp:Spans) (rd:Reads) (ks N i:Int) (to:List Int) (s:AS) (l:List Int) (x:Int):P7 sp rd ks N i to s (l++[x])=au5 sp rd ks N i to (P7 sp rd ks N i to s l) x:=by simp [P7]
theorem bb5 (m:Holds) (ks n:Int):((D6 m ks n).cell==true&&((D6 m ks n).n==(-1:Int)))=(D6 m ks n).cell:=by
 unfold D6
 split
 ·rfl
 ·rfl
theorem ce8 (i x1 x2:Int) (x3 x4:List Int) (x5:List Ins) (a0:Int) (a1:List Ins) (a2 a3:List Int) (sp:Spans) (rd:Reads) (ho:Holds) (ce:List (Int×Int)) (op ks oc:Int) (cd:List RIns) (ou:List Place)
  (hp:U5 x3 x4 x5=true∧x4.length≤17592186044400∧(B4 x4).length≤64∧x3.length≤64∧ae5 rd∧doOk sp rd ks a1.length i ⟨x1,x2,x3,x4,x5⟩ ⟨ho,ce,oc,cd⟩∧ks≤64∧0≤i∧i≤1000000∧0≤oc∧oc≤100000000∧cd.length≤100000000):
  vc (EVd [] itDo [(52,cReads),(54,cSlot),(84,cRoom),(85,cPutA),(73,cCalledA)]) (lDo sp rd ks a1.length i x3 x4 ⟨ho,ce,oc,cd⟩) Go.Proofs.Tryd.f53 cDo (i,x1,x2,x3,x4,x5,a0,a1,a2,a3,sp,rd,ho,ce,op,ks,oc,cd,ou,()):=by
 rw [ce7 i x1 x2 x3 x4 x5 a0 a1 a2 a3 sp rd ho ce op ks oc cd ou]
 obtain ⟨hp1,hp2,hp3,hp4,hp5,hp6,hp7,hp8,hp9,hp10,hp11,hp12⟩:=hp
 intro e0 e1 e2 e3 e4 e5 e6 _ hs4 _ _ _ _ _ _
 have hl4:x4.length≤140737488355328:=hs4.len
 have hdl:=ae7 x4
 have he2:e2=doOf sp rd ks e3 i ⟨x1,x2,x3,x4,x5⟩ ⟨ho,ce,oc,cd⟩:=rfl
 have he4:e4=i+1:=M6 (by omega) (by omega)
 have he6:e6=E5 sp rd ks e3 i (B4 x4) ⟨ho,ce,oc,cd⟩ (B4 x4):=rfl
 have hL6:=ab2 sp rd ks e3 i (B4 x4) (B4 x4) ⟨ho,ce,oc,cd⟩
 rw [←he6] at hL6
 have hD:e2=⟨(P7 sp rd ks e3 i x3 e6 x3).holds,(P7 sp rd ks e3 i x3 e6 x3).cells,(P7 sp rd ks e3 i x3 e6 x3).ocells,(P7 sp rd ks e3 i x3 e6 x3).code++[⟨0,0,0,⟨x1,x2,x3.map (fun n=>(D6 (P7 sp rd ks e3 i x3 e6 x3).holds ks n).n),x4.map (getI (ab1 e6.holds ks (B4 x4))),x5⟩⟩]⟩:=rfl
 obtain ⟨hok1,hok2⟩:=hp6
 change ∀ k,k<(B4 x4).length→(D6 (E5 sp rd ks e3 i (B4 x4) ⟨ho,ce,oc,cd⟩ ((B4 x4).take k)).holds ks ((B4 x4).getD k 0)).cell=true→au4 sp rd ks e3 (E5 sp rd ks e3 i (B4 x4) ⟨ho,ce,oc,cd⟩ ((B4 x4).take k)).holds i (B4 x4) at hok1
 change ∀ k,k<x3.length→au4 sp rd ks e3 (P7 sp rd ks e3 i x3 e6 (x3.take k)).holds (i+1) x3 at hok2
 clear_value e2 e4 e6 e3
 subst he4
 dsimp only [e0,e1,e5]
 simp only [true_and,and_true,List.nil_append,Bool.and_true,bb5]
 refine ⟨?_,?_,⟨(0,ho,ce,oc,cd,()),rfl,rfl,rfl,rfl,rfl,Int.le_refl _,by dsimp only;omega,rfl⟩,?_⟩
 ·rintro ⟨n,st,l,⟨⟩⟩ ⟨h1,h2⟩ _
  dsimp only at h1 h2 ⊢
  exact ⟨h1,by simp only [cg6,List.length_nil];omega,rfl⟩
 ·simp only [List.length_nil];omega
 rintro ⟨j,m,cc,c,q,⟨⟩⟩ ⟨h0,h1,h2⟩
 dsimp only at h0 h1 h2 ⊢
 obtain ⟨k,rfl⟩:=cf6 h0
 simp only [cf4] at h2 ⊢
 have hL:=ab2 sp rd ks e3 i (B4 x4) ((B4 x4).take k) ⟨ho,ce,oc,cd⟩
 rw [h2,ch9] at hL
 dsimp only at hL
 refine ⟨fun hlt=>?_,fun hge=>?_⟩
 ·have hlt:(k:Int)<(B4 x4).length:=cg0 hlt
  have hkc:k<(B4 x4).length:=by omega
  have hok:=hok1 k hkc
  rw [h2] at hok
  have hstep:E5 sp rd ks e3 i (B4 x4) ⟨ho,ce,oc,cd⟩ ((B4 x4).take (k+1))=J5 sp rd ks e3 i (B4 x4) ⟨m,cc,c,q⟩ ((B4 x4).getD k 0):=by
   rw [A4 hkc 0,bb4,h2]
  generalize (B4 x4).getD k 0=n at hok hstep ⊢
  dsimp only at hok
  refine ⟨⟨h0,hlt⟩,hp7,fun hc=>?_,fun hc=>?_⟩
  ·have hc:(D6 m ks n).cell=false:=by simpa using hc
   have hS:J5 sp rd ks e3 i (B4 x4) ⟨m,cc,c,q⟩ n=⟨m,cc,c,q⟩:=by simp only [J5,hc,cond_false]
   exact ⟨((k+1:Nat),m,cc,c,q,()),B6 (m:=(B4 x4).length) hkc (by omega),rfl,rfl,rfl,rfl,⟨by omega,by dsimp only;omega,by dsimp only;rw [cf4,hstep,hS]⟩,by dsimp only;omega⟩
  ·have hc:(D6 m ks n).cell=true:=by simpa using hc
   have hR:=ar6 sp rd ks e3 ⟨m,cc,c,q⟩ i (B4 x4)
   dsimp only at hR
   refine ⟨⟨hp5,hok hc,hp7,by omega,by omega,by omega⟩,by omega,((k+1:Nat),_,_,_,_,()),B6 (m:=(B4 x4).length) hkc (by omega),rfl,rfl,rfl,rfl,⟨by omega,by dsimp only;omega,?_⟩,by dsimp only;omega⟩
   dsimp only
   rw [cf4,hstep]
   simp only [J5,hc,cond_true]
   rfl
 have hk:k=(B4 x4).length:=by have:¬ (k:Int)<(B4 x4).length:=cf9 hge;omega
 subst hk
 rw [ch8,←he6] at h2
 clear he6 hok1 h0 h1 hge hL
 subst h2
 dsimp only at hL6 hD hok2 ⊢
 refine ⟨⟨(0,[],()),rfl,rfl,Int.le_refl _,by dsimp only;omega,rfl⟩,?_⟩
 rintro ⟨j,sl,⟨⟩⟩ ⟨h0,h1,h2⟩
 dsimp only at h0 h1 h2 ⊢
 obtain ⟨k,rfl⟩:=cf6 h0
 simp only [cf4] at h2 ⊢
 refine ⟨fun hlt=>?_,fun hge=>?_⟩
 ·have hlt:(k:Int)<(B4 x4).length:=cg0 hlt
  have hkc:k<(B4 x4).length:=by omega
  refine ⟨⟨h0,hlt⟩,hp7,((k+1:Nat),_,()),B6 (m:=(B4 x4).length) hkc (by omega),rfl,⟨by omega,by dsimp only;omega,?_⟩,by dsimp only;omega⟩
  dsimp only
  rw [cf4,A4 hkc 0,h2]
  simp only [ab1,List.foldl_append,List.foldl_cons,List.foldl_nil]
 have hk:k=(B4 x4).length:=by have:¬ (k:Int)<(B4 x4).length:=cf9 hge;omega
 subst hk
 rw [ch8] at h2
 subst h2
 clear h0 h1 hge
 refine ⟨⟨(0,m,cc,c,q,()),rfl,rfl,rfl,rfl,rfl,Int.le_refl _,by dsimp only;omega,rfl⟩,?_⟩
 rintro ⟨j,m2,cc2,c2,q2,⟨⟩⟩ ⟨h0,h1,h2⟩
 dsimp only at h0 h1 h2 ⊢
 obtain ⟨k,rfl⟩:=cf6 h0
 simp only [cf4] at h2 ⊢
 have hT:=aF6 sp rd ks e3 i x3 (x3.take k) ⟨m,cc,c,q⟩
 rw [h2,ch9] at hT
 dsimp only at hT
 refine ⟨fun hlt=>?_,fun hge=>?_⟩
 ·have hlt:(k:Int)<x3.length:=cg0 hlt
  have hkc:k<x3.length:=by omega
  have hok:=hok2 k hkc
  rw [h2] at hok
  have hstep:P7 sp rd ks e3 i x3 ⟨m,cc,c,q⟩ (x3.take (k+1))=au5 sp rd ks e3 i x3 ⟨m2,cc2,c2,q2⟩ (x3.getD k 0):=by
   rw [A4 hkc 0,aL8,h2]
  refine ⟨⟨h0,hlt⟩,⟨hp5,hok,hp7,by omega,by omega,by omega⟩,((k+1:Nat),_,_,_,_,()),B6 (m:=x3.length) hkc (by omega),rfl,rfl,rfl,rfl,⟨by omega,by dsimp only;omega,?_⟩,by dsimp only;omega⟩
  dsimp only
  rw [cf4,hstep]
  rfl
 ·have hk:k=x3.length:=by have:¬ (k:Int)<x3.length:=cf9 hge;omega
  subst hk
  rw [ch8] at h2
  rw [h2] at hD
  refine ⟨⟨hp1,hp7⟩,by omega,?_⟩
  rw [hD]
theorem bP0:C6 prog RG 53 cDo:=bm8 bZ2 (A6 aF5 (A6 ar5 (A6 bw0 (A6 aL6 (A6 aS9 C0))))) (fun (i,x1,x2,x3,x4,x5,a0,a1,a2,a3,sp,rd,ho,ce,op,ks,oc,cd,ou,())=>lDo sp rd ks a1.length i x3 x4 ⟨ho,ce,oc,cd⟩) (by kernel_rfl) (by kernel_rfl) (by kernel_rfl) fun (i,x1,x2,x3,x4,x5,a0,a1,a2,a3,sp,rd,ho,ce,op,ks,oc,cd,ou,()) hp=>ce8 i x1 x2 x3 x4 x5 a0 a1 a2 a3 sp rd ho ce op ks oc cd ou hp
def F7 (m:Reads) (l:List Int) (i:Int):Reads:=l.foldl (fun m n=>mput eqI m n (getL m n++[i])) m
def M3:List Ins→Int→Reads→Reads
 |[],_,m=>m
 |x::r,i,m=>M3 r (i+1) (F7 m (B4 x.from_) i)
def K0 (code:List Ins):Reads:=M3 code 0 []
def ae8 (a:Nat):List (Int×Int):=(List.range a).foldl (fun (m:List (Int×Int)) (k:Nat)=>mput eqI m (k:Int) (k:Int)) []
def J2 (a:Int):AS:=⟨[],ae8 a.toNat,a,[]⟩
def runA (sp:Spans) (rd:Reads) (ks N:Int):List Ins→Int→AS→AS
 |[],_,s=>s
 |x::r,i,s=>runA sp rd ks N r (i+1) (doOf sp rd ks N i x s)
def fewX (ks:Int) (x:Ins):Bool:=decide (((B4 x.from_).length:Int)≤ks)&&decide ((x.to.length:Int)≤ks)
def outA (s:AS) (ks n:Int):Place:=bif (D6 s.holds ks n).cell then ⟨true,getI s.cells n⟩ else D6 s.holds ks n
def bZ3 (f:VFun) (ks:Int):AS:=runA (A8 f.params f.code f.out) (K0 f.code) ks f.code.length f.code 0 (J2 f.params)
def B8 (f:VFun) (ks:Int):RCode×Int:=
 if B7 f≠0 then (rcode0,B7 f) else if ks<1∨64<ks then (rcode0,2) else if f.code.all (fewX ks)=false then (rcode0,9)
 else (⟨f.params,ks,(bZ3 f ks).ocells,(bZ3 f ks).code,f.out.map (outA (bZ3 f ks) ks)⟩,0)
theorem bn7 (sp:Spans) (rd:Reads) (ks N:Int) (r:List Ins):∀ (l:List Ins) (i:Int) (s:AS),runA sp rd ks N (l++r) i s=runA sp rd ks N r (i+l.length) (runA sp rd ks N l i s)
 |[],i,s=>by simp [runA]
 |x::l,i,s=>by
  simp only [List.cons_append,runA,bn7 sp rd ks N r l,cg6]
  congr 1
  omega
theorem bb6 (sp:Spans) (rd:Reads) (ks N:Int) (l:List Ins) (x:Ins) (s:AS):runA sp rd ks N (l++[x]) 0 s=doOf sp rd ks N l.length x (runA sp rd ks N l 0 s):=by
 rw [bn7];simp [runA]
theorem ae9 {p q:Place}:eqP p q=true↔p=q:=by
 obtain ⟨c,n⟩:=p
 obtain ⟨c',n'⟩:=q
 show ((c==c')&&((n==n')&&true))=true↔_
 simp
theorem bw5 {β:Type} (m:List (Place×β)) (k:Place) (v:β) (n:Place):mget eqP (mput eqP m k v) n=if k=n then some v else mget eqP m n:=by
 induction m with
 |nil=>
  show (bif eqP k n then some v else none)=_
  by_cases h:k=n
  ·rw [if_pos h,ae9.2 h];rfl
  ·have:eqP k n=false:=by rw [Bool.eq_false_iff];exact fun h2=>h (ae9.1 h2)
   rw [if_neg h,this];rfl
 |cons x r ih=>
  obtain ⟨k',v'⟩:=x
  show mget eqP (bif eqP k' k then (k,v)::r else (k',v')::mput eqP r k v) n=if k=n then some v else bif eqP k' n then some v' else mget eqP r n
  by_cases h:k'=k
  ·subst h
   rw [ae9.2 rfl]
   show (bif eqP k' n then some v else mget eqP r n)=_
   by_cases h1:k'=n
   ·rw [if_pos h1,ae9.2 h1];rfl
   ·have:eqP k' n=false:=by rw [Bool.eq_false_iff];exact fun h2=>h1 (ae9.1 h2)
    rw [if_neg h1,this];rfl
  ·have h2:eqP k' k=false:=by rw [Bool.eq_false_iff];exact fun h2=>h (ae9.1 h2)
   rw [h2]
   show (bif eqP k' n then some v' else mget eqP (mput eqP r k v) n)=_
   rw [ih]
   by_cases h1:k'=n
   ·subst h1
    rw [show eqP k' k'=true from ae9.2 rfl,cond_true,cond_true,if_neg (fun e=>h e.symm)]
   ·have:eqP k' n=false:=by rw [Bool.eq_false_iff];exact fun h2=>h1 (ae9.1 h2)
    rw [this];rfl
def bH3 (m:Holds) (ks n:Int):Prop:=∀ a:Nat,a<ks.toNat→mget eqP m ⟨false,(a:Int)⟩≠some n
structure Fine (P:Int→Prop) (ks:Int) (m:Holds):Prop where
 inj:∀ a b:Nat,a<ks.toNat→b<ks.toNat→∀ r,mget eqP m ⟨false,(a:Int)⟩=some r→mget eqP m ⟨false,(b:Int)⟩=some r→a=b
 reg:∀ a:Nat,a<ks.toNat→∀ r,mget eqP m ⟨false,(a:Int)⟩=some r→P r
theorem aF7 {m:Holds} {ks n:Int}:(D6 m ks n).cell=true↔bH3 m ks n:=by
 unfold D6 bH3
 constructor
 ·intro h a ha hm
  split at h
  ·cases h
  ·rename_i hn
   rw [List.find?_eq_none] at hn
   exact hn a (by simpa using ha) (aL5.2 hm)
 ·intro h
  split
  ·rename_i s hs
   have h1:=List.find?_some hs
   have h2:=List.mem_of_find?_eq_some hs
   exact (h s (by simpa using h2) (aL5.1 h1)).elim
  ·rfl
theorem bn8:∀ (l m:List Int),l.Nodup→(∀ x∈l,x∈m)→l.length≤m.length
 |[],_,_,_=>Nat.zero_le _
 |x::r,m,h,hs=>by
  obtain ⟨h1,h2⟩:=List.nodup_cons.1 h
  have hx:=hs x (by simp)
  have:=bn8 r (m.erase x) h2 (fun y hy=>(List.mem_erase_of_ne (fun e=>by subst e;exact h1 hy)).2 (hs y (by simp [hy])))
  rw [List.length_erase_of_mem hx] at this
  have:=List.length_pos_of_mem hx
  simp only [cg6]
  omega
theorem ar7 (sp:Spans) (rd:Reads) (N:Int) (m:Holds) (pl:Int) (st:List Int):∀ (l:List Nat) (acc:List Held),C7 sp rd N m pl st l acc=(none,[])→acc=[]∧∀ s∈l,∃ n∈st,mget eqP m ⟨false,(s:Int)⟩=some n
 |[],acc,h=>by simp only [C7,cg2,true_and] at h;exact ⟨h,by simp⟩
 |s::r,acc,h=>by
  simp only [C7] at h
  cases hm:mget eqP m ⟨false,(s:Int)⟩ with
  |none=>rw [hm] at h;simp at h
  |some n=>
   rw [hm] at h
   simp only at h
   cases hc:st.contains n with
   |true=>
    rw [hc] at h
    obtain ⟨h1,h2⟩:=ar7 sp rd N m pl st r acc h
    refine ⟨h1,fun x hx=>?_⟩
    rcases List.mem_cons.1 hx with rfl|hx
    ·exact ⟨n,by simpa [List.contains_iff_mem] using hc,hm⟩
    ·exact h2 x hx
   |false=>
    rw [hc] at h
    simp only [cond_false] at h
    cases hs:O5 (getS sp n).first (getS sp n).last pl with
    |true=>
     rw [hs] at h
     have:=(ar7 sp rd N m pl st r _ h).1
     simp at this
    |false=>rw [hs] at h;simp at h
theorem bb7 {P:Int→Prop} {ks:Int} {m:Holds} (F:Fine P ks m) {n:Int} (hn:bH3 m ks n) {st:List Int} (hs:n∈st) (hl:(st.length:Int)≤ks) (sp:Spans) (rd:Reads) (N pl:Int):au4 sp rd ks N m pl st:=by
 intro h1 h2
 have h3:C7 sp rd N m pl st (List.range ks.toNat) []=(none,[]):=Prod.ext h1 h2
 obtain ⟨_,h4⟩:=ar7 sp rd N m pl st _ _ h3
 let f:Nat→Int:=fun s=>(mget eqP m ⟨false,(s:Int)⟩).getD 0
 have hf:∀ s,s<ks.toNat→f s∈st∧mget eqP m ⟨false,(s:Int)⟩=some (f s):=by
  intro s hs
  obtain ⟨r,hr1,hr2⟩:=h4 s (by simpa using hs)
  have:f s=r:=by simp only [f,hr2,Option.getD_some]
  rw [this]
  exact ⟨hr1,hr2⟩
 have hnd:((List.range ks.toNat).map f).Nodup:=by
  rw [List.nodup_iff_pairwise_ne,List.pairwise_map]
  refine List.Pairwise.imp_of_mem ?_ (List.nodup_iff_pairwise_ne.1 List.nodup_range)
  intro a b ha hb hab heq
  refine hab (F.inj a b (by simpa using ha) (by simpa using hb) (f a) (hf a (by simpa using ha)).2 ?_)
  rw [heq]
  exact (hf b (by simpa using hb)).2
 have hle:=bn8 _ (st.erase n) hnd (fun x hx=>by
  obtain ⟨s,hs1,rfl⟩:=List.mem_map.1 hx
  have hs1:s<ks.toNat:=by simpa using hs1
  exact (List.mem_erase_of_ne (fun e=>hn s hs1 (by rw [(hf s hs1).2,e]))).2 (hf s hs1).1)
 rw [List.length_erase_of_mem hs,ci1,List.length_range] at hle
 have:=List.length_pos_of_mem hs
 omega
theorem Fine.put {P P':Int→Prop} {ks:Int} {m:Holds} (F:Fine P ks m) (hP:∀ r,P r→P' r) {n:Int} (hn:bH3 m ks n) (hp:P' n) (q:Int):Fine P' ks (mput eqP m ⟨false,q⟩ n):=by
 have hg:∀ (a:Nat),mget eqP (mput eqP m ⟨false,q⟩ n) ⟨false,(a:Int)⟩=if q=a then some n else mget eqP m ⟨false,(a:Int)⟩:=by
  intro a
  rw [bw5]
  simp
 refine ⟨fun a b ha hb r h1 h2=>?_,fun a ha r h1=>?_⟩
 ·rw [hg] at h1 h2
  by_cases h3:q=a<;>by_cases h4:q=b
  ·omega
  ·rw [if_pos h3] at h1
   rw [if_neg h4] at h2
   simp only [cf0] at h1
   subst h1
   exact (hn b hb h2).elim
  ·rw [if_neg h3] at h1
   rw [if_pos h4] at h2
   simp only [cf0] at h2
   subst h2
   exact (hn a ha h1).elim
  ·rw [if_neg h3] at h1
   rw [if_neg h4] at h2
   exact F.inj a b ha hb r h1 h2
 ·rw [hg] at h1
  by_cases h3:q=a
  ·rw [if_pos h3] at h1
   simp only [cf0] at h1
   subst h1;exact hp
  ·rw [if_neg h3] at h1
   exact hP r (F.reg a ha r h1)
theorem Fine.mono {P P':Int→Prop} {ks:Int} {m:Holds} (F:Fine P ks m) (hP:∀ r,P r→P' r):Fine P' ks m:=⟨F.inj,fun a ha r h=>hP r (F.reg a ha r h)⟩
theorem bi0 (s:AS) (x:Held):(aS2 s x).holds=s.holds:=by
 unfold aS2
 cases (mget eqI s.cells x.reg).isSome<;>rfl
theorem au6 (sp:Spans) (rd:Reads) (ks N:Int) (s:AS) (pl:Int) (st:List Int):(G1 sp rd ks N s pl st).2.holds=s.holds:=by
 unfold G1
 split
 ·rfl
 ·exact bi0 _ _
theorem aH3 (sp:Spans) (rd:Reads) (ks N i:Int) (fr:List Int) (s:AS) (n:Int):((D6 s.holds ks n).cell=true∧(J5 sp rd ks N i fr s n).holds=mput eqP s.holds ⟨false,(G1 sp rd ks N s i fr).1⟩ n)∨((D6 s.holds ks n).cell=false∧J5 sp rd ks N i fr s n=s):=by
 unfold J5
 have:=au6 sp rd ks N s i fr
 cases h:(D6 s.holds ks n).cell with
 |true=>exact .inl ⟨rfl,by simp only [cond_true];rw [this]⟩
 |false=>exact .inr ⟨rfl,rfl⟩
theorem ar8 {P:Int→Prop} {sp:Spans} {rd:Reads} {ks N i:Int} {fr:List Int}:∀ (l:List Int) {s:AS},Fine P ks s.holds→(∀ n∈l,P n)→Fine P ks (E5 sp rd ks N i fr s l).holds
 |[],s,F,_=>F
 |n::r,s,F,h=>by
  refine ar8 r (s:=J5 sp rd ks N i fr s n) ?_ (fun x hx=>h x (by simp [hx]))
  rcases aH3 sp rd ks N i fr s n with ⟨h1,h2⟩|⟨h1,h2⟩
  ·rw [h2];exact F.put (fun _ h=>h) (aF7.1 h1) (h n (by simp)) _
  ·rw [h2];exact F
theorem bb8 (sp:Spans) (rd:Reads) (ks N i:Int) (to:List Int) (s:AS) (n:Int):(au5 sp rd ks N i to s n).holds=mput eqP s.holds ⟨false,(G1 sp rd ks N s (i+1) to).1⟩ n:=by
 have:=au6 sp rd ks N s (i+1) to
 show mput eqP (G1 sp rd ks N s (i+1) to).2.holds ⟨false,(G1 sp rd ks N s (i+1) to).1⟩ n=_
 rw [this]
theorem bn9 {P:Int→Prop} {sp:Spans} {rd:Reads} {ks N i:Int} {to:List Int} {s:AS} (F:Fine P ks s.holds) (hn:to.Nodup) (hP:∀ n∈to,¬ P n):∀ (k:Nat),k≤to.length→Fine (fun r=>P r∨r∈to.take k) ks (P7 sp rd ks N i to s (to.take k)).holds∧(∀ n,k<to.length→n=to.getD k 0→bH3 (P7 sp rd ks N i to s (to.take k)).holds ks n):=by
 intro k
 induction k with
 |zero=>
  intro _
  refine ⟨F.mono fun r h=>.inl h,fun n hk hn2 a ha hm=>?_⟩
  have:=F.reg a ha n hm
  exact hP n (by rw [hn2];exact K4 hk 0) this
 |succ k ih=>
  intro hk
  obtain ⟨h1,h2⟩:=ih (by omega)
  have hF:Fine (fun r=>P r∨r∈to.take (k+1)) ks (P7 sp rd ks N i to s (to.take (k+1))).holds:=by
   rw [A4 (by omega) 0,aL8,bb8]
   refine h1.put (fun r h=>?_) (h2 _ (by omega) rfl) (.inr (by simp)) _
   rcases h with h|h
   ·exact .inl h
   ·exact .inr (by simp [h])
  refine ⟨hF,fun n hk2 hn2 a ha hm=>?_⟩
  rcases hF.reg a ha n hm with h3|h3
  ·exact hP n (by rw [hn2];exact K4 hk2 0) h3
  ·have hnd:=hn
   rw [←List.take_append_drop (k+1) to,List.nodup_append] at hnd
   refine hnd.2.2 n h3 n ?_ rfl
   rw [hn2,cg4,cf2 hk2]
   exact List.mem_iff_getElem.2 ⟨0,by rw [List.length_drop];omega,by simp⟩
theorem bH4 {l:List Int} {n:Int}:n∈B4 l↔n∈l:=by
 have key:∀ (l seen:List Int),(n∈E8 seen l→n∈l)∧(n∈l→n∈E8 seen l∨n∈seen):=by
  intro l
  induction l with
  |nil=>intro seen;simp [E8]
  |cons x r ih=>
   intro seen
   obtain ⟨h1,h2⟩:=ih (seen++[x])
   simp only [E8]
   cases hc:seen.contains x with
   |true=>
    have hc:x∈seen:=by simpa [List.contains_iff_mem] using hc
    refine ⟨fun h=>by simp [h1 h],fun h=>?_⟩
    simp only [List.mem_cons] at h
    rcases h with rfl|h
    ·exact .inr hc
    ·rcases h2 h with h3|h3
     ·exact .inl h3
     ·simp only [ch7,cg1] at h3
      rcases h3 with h3|rfl
      ·exact .inr h3
      ·exact .inr hc
   |false=>
    simp only [cond_false,List.mem_cons]
    refine ⟨fun h=>?_,fun h=>?_⟩
    ·rcases h with h|h
     ·exact .inl h
     ·exact .inr (h1 h)
    ·rcases h with rfl|h
     ·exact .inl (.inl rfl)
     ·rcases h2 h with h3|h3
      ·exact .inl (.inr h3)
      ·simp only [ch7,cg1] at h3
       rcases h3 with h3|rfl
       ·exact .inr h3
       ·exact .inl (.inl rfl)
 obtain ⟨h1,h2⟩:=key l []
 exact ⟨h1,fun h=>(h2 h).resolve_right (by simp)⟩
theorem bZ4 {P:Int→Prop} {sp:Spans} {rd:Reads} {ks N i:Int} {x:Ins} {s:AS} (F:Fine P ks s.holds) (hfew:fewX ks x=true) (hf:∀ n∈x.from_,P n) (hn:x.to.Nodup) (hP:∀ n∈x.to,¬ P n):
  doOk sp rd ks N i x s∧Fine (fun r=>P r∨r∈x.to) ks (doOf sp rd ks N i x s).holds:=by
 simp only [fewX,cf3,ch2] at hfew
 have hd:∀ n∈B4 x.from_,P n:=fun n hn=>hf n (bH4.1 hn)
 have F1:=ar8 (sp:=sp) (rd:=rd) (N:=N) (i:=i) (fr:=B4 x.from_) (B4 x.from_) F hd
 refine ⟨⟨fun k hk hc=>?_,fun k hk=>?_⟩,?_⟩
 ·have Fk:=ar8 (sp:=sp) (rd:=rd) (N:=N) (i:=i) (fr:=B4 x.from_) ((B4 x.from_).take k) F (fun n hn=>hd n (List.mem_of_mem_take hn))
  exact bb7 Fk (aF7.1 hc) (K4 hk 0) hfew.1 sp rd N i
 ·obtain ⟨h1,h2⟩:=bn9 (sp:=sp) (rd:=rd) (N:=N) (i:=i) F1 hn hP k (by omega)
  exact bb7 h1 (h2 _ hk rfl) (K4 hk 0) hfew.2 sp rd N (i+1)
 ·have:=(bn9 (sp:=sp) (rd:=rd) (N:=N) (i:=i) F1 hn hP x.to.length (Nat.le_refl _)).1
  rw [ch8] at this
  exact this
theorem bH5 {a:Int} {b:List Ins} {c:List Int} (C:Checked a b c) {ks:Int} (hfew:b.all (fewX ks)=true) (sp:Spans) (rd:Reads) (N:Int):∀ k,k≤b.length→Fine (fun r=>r<a∨r∈wr (b.take k)) ks (runA sp rd ks N (b.take k) 0 (J2 a)).holds∧(k<b.length→doOk sp rd ks N k (b.getD k ins0) (runA sp rd ks N (b.take k) 0 (J2 a))):=by
 have step:∀ k,k<b.length→Fine (fun r=>r<a∨r∈wr (b.take k)) ks (runA sp rd ks N (b.take k) 0 (J2 a)).holds→doOk sp rd ks N k (b.getD k ins0) (runA sp rd ks N (b.take k) 0 (J2 a))∧Fine (fun r=>(r<a∨r∈wr (b.take k))∨r∈(b.getD k ins0).to) ks (doOf sp rd ks N k (b.getD k ins0) (runA sp rd ks N (b.take k) 0 (J2 a))).holds:=by
  intro k hk F
  have hb:b=b.take k++b.getD k ins0::b.drop (k+1):=by
   conv=>lhs;rw [←List.take_append_drop (k+1) b,A4 hk ins0]
   simp
  have hmem:=K4 hk ins0
  refine bZ4 F (ci0.1 hfew _ hmem) (fun n hn=>?_) ?_ (fun n hn=>?_)
  ·have:=C.there
   rw [hb] at this
   simpa using W7 this n hn
  ·have hnd:=G5.1 C.once
   rw [hb,U3,P5] at hnd
   exact (List.nodup_append.1 (List.nodup_append.1 hnd).2.1).1
  ·rintro (h|h)
   ·have:=C.new n (cc7.2 ⟨_,hmem,hn⟩);omega
   ·have hnd:=G5.1 C.once
    rw [hb,U3,P5] at hnd
    exact (List.nodup_append.1 hnd).2.2 n h n (List.mem_append_left _ hn) rfl
 intro k
 induction k with
 |zero=>
  intro _
  have F0:Fine (fun r=>r<a∨r∈wr (b.take 0)) ks (runA sp rd ks N (b.take 0) 0 (J2 a)).holds:=⟨fun x y _ _ r h=>by simp [runA,J2,mget] at h,fun x _ r h=>by simp [runA,J2,mget] at h⟩
  exact ⟨F0,fun hk=>(step 0 hk F0).1⟩
 |succ k ih=>
  intro hk
  obtain ⟨F,_⟩:=ih (by omega)
  have F1:=(step k (by omega) F).2
  have F2:Fine (fun r=>r<a∨r∈wr (b.take (k+1))) ks (runA sp rd ks N (b.take (k+1)) 0 (J2 a)).holds:=by
   rw [A4 (by omega) ins0,bb6,ch9,Nat.min_eq_left (by omega)]
   refine F1.mono fun r h=>?_
   rw [U3,ch7]
   rcases h with (h|h)|h
   ·exact .inl h
   ·exact .inr (.inl h)
   ·exact .inr (.inr (by simpa [wr] using h))
  exact ⟨F2,fun hk=>(step (k+1) hk F2).1⟩
theorem bP1 (sp:Spans) (rd:Reads) (ks N i:Int) (x:Ins) (s:AS):(doOf sp rd ks N i x s).code.length≤s.code.length+2*(B4 x.from_).length+x.to.length+1∧s.ocells≤(doOf sp rd ks N i x s).ocells∧(doOf sp rd ks N i x s).ocells≤s.ocells+(B4 x.from_).length+x.to.length:=by
 have h1:=ab2 sp rd ks N i (B4 x.from_) (B4 x.from_) s
 have h2:=aF6 sp rd ks N i x.to x.to (E5 sp rd ks N i (B4 x.from_) s (B4 x.from_))
 have hc:(doOf sp rd ks N i x s).code.length=(P7 sp rd ks N i x.to (E5 sp rd ks N i (B4 x.from_) s (B4 x.from_)) x.to).code.length+1:=by
  simp only [doOf,ch1,cg6,List.length_nil]
 have ho:(doOf sp rd ks N i x s).ocells=(P7 sp rd ks N i x.to (E5 sp rd ks N i (B4 x.from_) s (B4 x.from_)) x.to).ocells:=rfl
 rw [hc,ho]
 omega
theorem bo0 {ks:Int} (hks:ks≤64) (sp:Spans) (rd:Reads) (N:Int):∀ (l:List Ins) (i:Int) (s:AS),l.all (fewX ks)=true→(runA sp rd ks N l i s).code.length≤s.code.length+193*l.length∧s.ocells≤(runA sp rd ks N l i s).ocells∧(runA sp rd ks N l i s).ocells≤s.ocells+128*l.length
 |[],i,s,_=>by simp [runA]
 |x::r,i,s,h=>by
  simp only [List.all_cons,cf3] at h
  have h1:=h.1
  simp only [fewX,cf3,ch2] at h1
  have h2:=bP1 sp rd ks N i x s
  have h3:=bo0 hks sp rd N r (i+1) (doOf sp rd ks N i x s) h.2
  simp only [runA,cg6]
  omega
theorem bb9 (m:Reads) (k:Int) (l:List Int) (n:Int):getL (mput eqI m k l) n=if k=n then l else getL m n:=by
 unfold getL
 rw [L9]
 split<;>rfl
theorem af0 (i:Int):∀ (l:List Int) (m:Reads),(∀ n,(getL m n).Pairwise (·≤·)∧∀ x∈getL m n,x≤i)→∀ n,(getL (F7 m l i) n).Pairwise (·≤·)∧∀ x∈getL (F7 m l i) n,x≤i
 |[],m,h,n=>h n
 |y::r,m,h,n=>by
  refine af0 i r (mput eqI m y (getL m y++[i])) (fun k=>?_) n
  rw [bb9]
  split
  ·rename_i hy
   subst hy
   refine ⟨List.pairwise_append.2 ⟨(h y).1,by simp,fun a ha b hb=>?_⟩,fun x hx=>?_⟩
   ·simp only [cg1] at hb;subst hb;exact (h y).2 a ha
   ·simp only [ch7,cg1] at hx
    rcases hx with hx|rfl
    ·exact (h y).2 x hx
    ·exact Int.le_refl _
  ·exact h k
theorem ai5:∀ (l:List Ins) (i:Int) (m:Reads),(∀ n,(getL m n).Pairwise (·≤·)∧∀ x∈getL m n,x≤i)→ae5 (M3 l i m)
 |[],i,m,h=>fun n=>(h n).1
 |x::r,i,m,h=>by
  refine ai5 r (i+1) _ (fun n=>?_)
  obtain ⟨h1,h2⟩:=af0 i (B4 x.from_) m h n
  exact ⟨h1,fun y hy=>by have:=h2 y hy;omega⟩
theorem aH4 (code:List Ins):ae5 (K0 code):=ai5 code 0 [] (fun n=>by simp [getL,mget])
theorem au7 (x:Ins):∀ (l:List Ins) (i:Int) (m:Reads),M3 (l++[x]) i m=F7 (M3 l i m) (B4 x.from_) (i+l.length)
 |[],i,m=>by simp [M3]
 |y::l,i,m=>by
  simp only [List.cons_append,M3,au7 x l,cg6]
  congr 1
  omega
theorem bi1 (k:Nat):ae8 (k+1)=mput eqI (ae8 k) k k:=by simp [ae8,List.range_succ]
abbrev tysR:List Ty:=[i64,inss,ints,ints,mapS,mapR,mapP,mapI,i64,i64,i64,i64,i64]
abbrev objR (b:Nat):List OPat:=[.box 79 [.ptr 2 0],.box 86 [.d b,.d (b+1),.d (b+2),.d (b+3),.map 4,.ms 3,.map 5,.map 6,.d (b+8),.d (b+9),.d (b+10),.nil,.nil],.ms (b+5),.map (b+4),.map (b+6),.map (b+7),.box 3 [.d (b+11)],.box 3 [.d (b+12)]]
abbrev ylR:List (Nat×Nat):=[(0,0),(1,1),(2,2),(4,4),(5,5),(6,6),(7,7),(8,8)]
def ap1:Con RU:=⟨[one,one],i64::i64::tysR,[.d 0,.yld 0],.loop 1::objR 2,some fun p=>match p with
  |(n,st,a0,a1,a2,a3,sp,rd,ho,ce,op,ks,oc,i,many,())=>st=0∧(∀ n,(getL rd n).length≤1000001)∧0≤many∧many≤140737488356000,
 none,[one],.bool::i64::tysR,[.d 0],.loop 1::objR 2,fun p=>match p with
  |(n,st,a0,a1,a2,a3,sp,rd,ho,ce,op,ks,oc,i,many,())=>(true,0,a0,a1,a2,a3,sp,mput eqI rd n (getL rd n++[i]),ho,ce,op,ks,oc,i,many+1,()),[],ylR,[(1,1000001),(7,1000007),(8,1000008)]⟩
def aT0:Con RU:=⟨[one,one],i64::tysR++aC8,[.yld 0,.ptr 9 0],.loop 0::objR 1++[.box 52 [.d 14,.d 15,.d 16,.d 17,.d 18]],some fun p=>match p with
  |(st,a0,a1,a2,a3,sp,rd,ho,ce,op,ks,oc,i,many,x1,x2,x3,x4,x5,())=>st=0∧(∀ n,(getL rd n).length≤1000000)∧many=0,
 none,[],i64::tysR,[],.loop 0::objR 1++[.box 52 [.un,.un,.un,.un,.un]],fun p=>match p with
  |(st,a0,a1,a2,a3,sp,rd,ho,ce,op,ks,oc,i,many,x1,x2,x3,x4,x5,())=>(0,a0,a1,a2,a3,sp,F7 rd (B4 x4) i,ho,ce,op,ks,oc,i,many+(B4 x4).length,()),[],ylR,[(1,448),(7,512),(8,640)]⟩
def itAlloc:FuncId→List (Con RU×Con RU×List (Nat×Nat)):=fun f=>bif Nat.beq f 83 then [(aT0,ap1,[(0,0),(1,1),(2,2),(3,3),(4,4),(5,5),(6,6),(7,7),(8,8)])] else []
def bi2 (fr:List Int) (rd:Reads) (i many:Int):Nat→St RU→Ann RU:=fun _ _=>⟨[],[.slot 8,.row 1000000,.row 1000003,.box 1000008 0],[i64,i64,mapR,i64],fun p=>0≤p.1∧p.1≤fr.length∧p.2.1=0∧p.2.2.1=F7 rd (B4 (fr.take p.1.toNat)) i∧p.2.2.2.1=many+(B4 (fr.take p.1.toNat)).length,fun p=>fr.length-p.1.toNat,[]⟩
def cAlloc:Con RU:=con [(true,4),one] [i64,inss,ints,ints,i64] [(true,5),one] [i64,i64,i64,aH0,ao3,i64] [false,false,false,false,false,false] (some fun p=>L5 p.2.1=true∧F3 p.2.1=true∧p.2.2.1.length≤8796093022200) fun p=>
 ((B8 ⟨p.1,p.2.1,p.2.2.1,p.2.2.2.1⟩ p.2.2.2.2.1).1.params,(B8 ⟨p.1,p.2.1,p.2.2.1,p.2.2.2.1⟩ p.2.2.2.2.1).1.slots,(B8 ⟨p.1,p.2.1,p.2.2.1,p.2.2.2.1⟩ p.2.2.2.2.1).1.cells,(B8 ⟨p.1,p.2.1,p.2.2.1,p.2.2.2.1⟩ p.2.2.2.2.1).1.code,(B8 ⟨p.1,p.2.1,p.2.2.1,p.2.2.2.1⟩ p.2.2.2.2.1).1.out,(B8 ⟨p.1,p.2.1,p.2.2.1,p.2.2.2.1⟩ p.2.2.2.2.1).2,())
def bH6 (a:Int) (b:List Ins) (c:List Int) (ks:Int):Nat→St RU→Ann RU:=fun k s=>match k with
 |0=>⟨[],[.slot 48,.row 2176],[i64,mapR],fun p=>0≤p.1∧p.1≤b.length∧p.2.1=M3 (b.take p.1.toNat) 0 []∧(b.take p.1.toNat).all (fewX ks)=true,fun p=>b.length-p.1.toNat,[(.seen 2176,0,0,.bool)]⟩
 |1=>⟨[],[],[],fun _=>False,fun _=>0,[]⟩
 |2=>⟨[],[.slot 86,.row 2304],[i64,mapI],fun p=>0≤p.1∧p.1≤a∧p.2.1=ae8 p.1.toNat,fun p=>a.toNat-p.1.toNat,[(.seen 2176,0,0,.bool)]⟩
 |3=>⟨[],[.slot 99,.row 2240,.row 2304,.box 2816 10,.row 900001],[i64,mapP,mapI,i64,aH0],fun p=>0≤p.1∧p.1≤b.length∧runA (A8 a b c) (K0 b) ks b.length (b.take p.1.toNat) 0 (J2 a)=⟨p.2.1,p.2.2.1,p.2.2.2.1,p.2.2.2.2.1⟩,fun p=>b.length-p.1.toNat,[(.box 2816 11,900001,55,.user 1),(.box 2816 12,900002,59,.user 2)]⟩
 |_=>⟨[],[.slot 112,.row 900002],[i64,ao3],fun p=>0≤p.1∧p.1≤c.length∧p.2.1=(c.take p.1.toNat).map (outA (runA (A8 a b c) (K0 b) ks b.length b 0 (J2 a)) ks),fun p=>c.length-p.1.toNat,[]⟩
theorem bH7 (st a0:Int) (a1:List Ins) (a2 a3:List Int) (sp:Spans) (rd:Reads) (ho:Holds) (ce:List (Int×Int)) (op ks oc i many x1 x2:Int) (x3 x4:List Int) (x5:List Ins):vc (EVy ylR (some ap1) [(61,cContains)]) (bi2 x4 rd i many) Go.Proofs.Tryd.f83 aT0 (st,a0,a1,a2,a3,sp,rd,ho,ce,op,ks,oc,i,many,x1,x2,x3,x4,x5,())=(
 let e0:Int×Int×List Ins×List Int×List Int×List (Int×Span)×List (Int×List Int)×List (Place×Int)×List (Int×Int)×Int×Int×Int×Int×Int×Unit:=
  ((0:Int),a0,a1,a2,a3,sp,F7 rd (B4 x4) i,ho,ce,op,ks,oc,i,many+(↑(List.length (B4 x4)):Int),());
 let e1:Int:=(↑(List.length x4):Int);
  Small RU (Sigma.mk (Ty.slice (52:Nat) (Ty.user (0:Nat))) a1)→
  Small RU (Sigma.mk (Ty.slice (3:Nat) (Ty.int IntKind.i64)) a2)→
  Small RU (Sigma.mk (Ty.slice (3:Nat) (Ty.int IntKind.i64)) a3)→
  Small RU (Sigma.mk (Ty.slice (3:Nat) (Ty.int IntKind.i64)) x3)→
  Small RU (Sigma.mk (Ty.slice (3:Nat) (Ty.int IntKind.i64)) x4)→
  Small RU (Sigma.mk (Ty.slice (52:Nat) (Ty.user (0:Nat))) x5)→
  (∃ (p:Int×Int×List (Int×List Int)×Int×Unit),
  x4=x4∧
  e1=e1∧
  (0:Int)=p.1∧
  st=p.2.1∧
  a0=a0∧
  a1=a1∧
  a2=a2∧
  a3=a3∧
  op=op∧
  ks=ks∧
  oc=oc∧
  rd=p.2.2.1∧
  sp=sp∧
  ho=ho∧
  ce=ce∧
  i=i∧
  many=p.2.2.2.1∧
  x1=x1∧
  x2=x2∧
  x3=x3∧
  x4=x4∧
  x5=x5∧
  (0:Int)≤p.1∧
  p.1≤e1∧
  p.2.1=(0:Int)∧
  p.2.2.1=F7 rd (B4 (List.take (Int.toNat p.1) x4)) i∧
  p.2.2.2.1=many+(↑(List.length (B4 (List.take (Int.toNat p.1) x4))):Int))∧
  ∀ (p:Int×Int×List (Int×List Int)×Int×Unit),
 let e0_1:Int:=p.2.2.2.1;
 let e1_1:List (Int×List Int):=p.2.2.1;
 let e2:List (Int×List Int):=mput eqI e1_1 (List.getD x4 (Int.toNat p.1) (0:Int)) (getL e1_1 (List.getD x4 (Int.toNat p.1) (0:Int))++[i]);
 let e3:Int:=p.1;
 let e4:Int:=p.2.1;
 let e5:Bool:=decide (e3<e1);
 let e6:Bool:=List.contains (List.take (Int.toNat e3) x4) (List.getD x4 (Int.toNat e3) (0:Int));
 let e7:Int:=e0_1+(1:Int);
  (0:Int)≤e3∧e3≤e1∧e4=(0:Int)∧e1_1=F7 rd (B4 (List.take (Int.toNat e3) x4)) i∧e0_1=many+(↑(List.length (B4 (List.take (Int.toNat e3) x4))):Int)→
  (e5=true→
  ((0:Int)≤e3∧e3<e1)∧
  ((0:Int)≤e3∧e3≤e1)∧
  (e6=true→
  ∃ (p':Int×Int×List (Int×List Int)×Int×Unit),
  x4=x4∧
  e1=e1∧
  IntKind.i64.wrap (e3+(1:Int))=p'.1∧
  e4=p'.2.1∧
  a0=a0∧
  a1=a1∧
  a2=a2∧
  a3=a3∧
  op=op∧
  ks=ks∧
  oc=oc∧
  e1_1=p'.2.2.1∧
  sp=sp∧
  ho=ho∧
  ce=ce∧
  i=i∧
  e0_1=p'.2.2.2.1∧
  x1=x1∧
  x2=x2∧
  x3=x3∧
  x4=x4∧
  x5=x5∧
  ((0:Int)≤p'.1∧
  p'.1≤e1∧
  p'.2.1=(0:Int)∧
  p'.2.2.1=F7 rd (B4 (List.take (Int.toNat p'.1) x4)) i∧
  p'.2.2.2.1=many+(↑(List.length (B4 (List.take (Int.toNat p'.1) x4))):Int))∧
  List.length x4-Int.toNat p'.1<List.length x4-Int.toNat e3)∧
  (e6=false→
  (e4=(0:Int)∧(∀ (n:Int),List.length (getL e1_1 n)≤(1000001:Nat))∧(0:Int)≤e0_1∧e0_1≤(140737488356000:Int))∧
  ((!true)=true→((0:Int),a0,a1,a2,a3,sp,e2,ho,ce,op,ks,oc,i,e7,())=e0)∧
  ((!true)=false→
  ∃ (p':Int×Int×List (Int×List Int)×Int×Unit),
  x4=x4∧
  e1=e1∧
  IntKind.i64.wrap (e3+(1:Int))=p'.1∧
  (0:Int)=p'.2.1∧
  a0=a0∧
  a1=a1∧
  a2=a2∧
  a3=a3∧
  op=op∧
  ks=ks∧
  oc=oc∧
  e2=p'.2.2.1∧
  sp=sp∧
  ho=ho∧
  ce=ce∧
  i=i∧
  e7=p'.2.2.2.1∧
  x1=x1∧
  x2=x2∧
  x3=x3∧
  x4=x4∧
  x5=x5∧
  ((0:Int)≤p'.1∧
  p'.1≤e1∧
  p'.2.1=(0:Int)∧
  p'.2.2.1=F7 rd (B4 (List.take (Int.toNat p'.1) x4)) i∧
  p'.2.2.2.1=many+(↑(List.length (B4 (List.take (Int.toNat p'.1) x4))):Int))∧
  List.length x4-Int.toNat p'.1<List.length x4-Int.toNat e3)))∧
  (e5=false→(e4,a0,a1,a2,a3,sp,e1_1,ho,ce,op,ks,oc,i,e0_1,())=e0)):=by kernel_rfl
theorem bP2 (a:Int) (b:List Ins) (c d:List Int) (ks:Int):vc (EVd [] itAlloc [(41,cCheck),(51,cSpans),(52,cReads),(53,cDo),(54,cSlot)]) (bH6 a b c ks) Go.Proofs.Tryd.f15 cAlloc (a,b,c,d,ks,())=(
 let e0:Int×Int×Int×List RIns×List Place×Int×Unit:=
  ((B8 (VFun.mk a b c d) ks).1.params,(B8 (VFun.mk a b c d) ks).1.slots,(B8 (VFun.mk a b c d) ks).1.cells,(B8 (VFun.mk a b c d) ks).1.code,
  (B8 (VFun.mk a b c d) ks).1.out,(B8 (VFun.mk a b c d) ks).2,());
 let e1:Bool:=decide (ks<(1:Int))||decide (ks >(64:Int));
 let e2:Int:=(↑(List.length b):Int);
 let e3:Ins:=Ins.mk (0:Int) (0:Int) [] [] [];
 let e4:Bool:=B7 (VFun.mk a b c d) !=(0:Int);
 let e5:Int:=(↑(List.length c):Int);
 let e6:Int:=B7 (VFun.mk a b c d);
  Small RU (Sigma.mk (Ty.slice (52:Nat) (Ty.user (0:Nat))) b)→
  Small RU (Sigma.mk (Ty.slice (3:Nat) (Ty.int IntKind.i64)) c)→
  Small RU (Sigma.mk (Ty.slice (3:Nat) (Ty.int IntKind.i64)) d)→
  (e4=true→((0:Int),(0:Int),(0:Int),[],[],e6,())=e0)∧
  (e4=false→
  (e1=true→((0:Int),(0:Int),(0:Int),[],[],(2:Int),())=e0)∧
  (e1=false→
  a≤(4000:Int)∧
  (∃ (p:Int×List (Int×List Int)×Unit),
  a=a∧
  b=b∧
  c=c∧
  d=d∧
  ks=ks∧
  e6=e6∧
  e4=e4∧
  e1=e1∧
  a=a∧
  b=b∧
  c=c∧
  d=d∧
  b=b∧
  e2=e2∧
  (0:Int)=p.1∧
  a=a∧
  b=b∧
  c=c∧
  d=d∧
  (0:Int)=(0:Int)∧
  (0:Int)=(0:Int)∧
  (0:Int)=(0:Int)∧
  A8 a b c=A8 a b c∧
  []=p.2.1∧
  ([]:List (Place×Int))=[]∧
  ([]:List (Int×Int))=[]∧
  a=a∧
  b=b∧
  c=c∧
  d=d∧
  a=a∧
  ks=ks∧
  a=a∧
  (0:Int)≤p.1∧
  p.1≤e2∧
  p.2.1=M3 (List.take (Int.toNat p.1) b) (0:Int) []∧
  List.all (List.take (Int.toNat p.1) b) (fewX ks)=true)∧
  ∀ (p:Int×List (Int×List Int)×Unit),
 let e0_1:Bool:=
  decide ((0:Int)+(↑(List.length (B4 (List.getD b (Int.toNat p.1) e3).from_)):Int) >ks)||decide ((↑(List.length (List.getD b (Int.toNat p.1) e3).to):Int) >ks);
 let e1_1:List (Int×List Int):=p.2.1;
 let e2_1:Bool:=decide (p.1<e2);
 let e3_1:Int:=p.1;
  (0:Int)≤e3_1∧e3_1≤e2∧e1_1=M3 (List.take (Int.toNat e3_1) b) (0:Int) []∧List.all (List.take (Int.toNat e3_1) b) (fewX ks)=true→
  (e2_1=true→
  ((0:Int)≤e3_1∧e3_1<e2)∧
  (∀
  (xs:
  Int×
  Int×
  Int×List Ins×List Int×List Int×List (Int×Span)×List (Int×List Int)×List (Place×Int)×List (Int×Int)×Int×Int×Int×Int×Int×Unit),
 let e0:Int:=xs.2.2.2.2.2.2.2.2.2.2.2.2.2.1;
 let e1:Int×Int×Int×Unit:=xs.2.2.2.2.2.2.2.2.2.2.2.2;
 let e2:List Int:=Option.getD (mget (fun (x y:Int)=>x==y) xs.2.2.2.2.2.2.2.1 xs.1) [];
 let e3:Int×Int×Int×Int×Int×Unit:=xs.2.2.2.2.2.2.2.2.2.2;
 let e4:List (Place×Int)×List (Int×Int)×Int×Int×Int×Int×Int×Unit:=xs.2.2.2.2.2.2.2.2;
 let e5:List (Int×Span)×List (Int×List Int)×List (Place×Int)×List (Int×Int)×Int×Int×Int×Int×Int×Unit:=xs.2.2.2.2.2.2;
 let e6:List Int:=xs.2.2.2.2.2.1;
 let e7:List Int:=xs.2.2.2.2.1;
 let e8:List Ins:=xs.2.2.2.1;
 let e9:Int:=xs.1;
 let e10:
  Int×
  Int×List Ins×List Int×List Int×List (Int×Span)×List (Int×List Int)×List (Place×Int)×List (Int×Int)×Int×Int×Int×Int×Int×Unit:=
  xs.2;
  xs.2.1=(0:Int)∧
  (∀ (n:Int),List.length (getL xs.2.2.2.2.2.2.2.1 n)≤(1000001:Nat))∧
  (0:Int)≤xs.2.2.2.2.2.2.2.2.2.2.2.2.2.2.1∧xs.2.2.2.2.2.2.2.2.2.2.2.2.2.2.1≤(140737488356000:Int)→
  Small RU (Sigma.mk (Ty.slice (52:Nat) (Ty.user (0:Nat))) e8)→
  Small RU (Sigma.mk (Ty.slice (3:Nat) (Ty.int IntKind.i64)) e7)→
  Small RU (Sigma.mk (Ty.slice (3:Nat) (Ty.int IntKind.i64)) e6)→
  e10.1=(0:Int)∧
  (List.length e2+List.length [e0])*(8:Nat)≤(140737488355328:Nat)∧
  e9=e9∧
  (true,(0:Int),e10.2.1,e8,e7,e6,e5.1,mput (fun (x y:Int)=>x==y) e5.2.1 e9 (e2++[e0]),e4.1,e4.2.1,e3.1,e3.2.1,
  e1.1,e0,IntKind.i64.wrap (e1.2.2.1+(1:Int)),())=
  ap1.fn xs)∧
  ((0:Int)=(0:Int)∧(∀ (n:Int),List.length (getL e1_1 n)≤(1000000:Nat))∧(0:Int)=(0:Int))∧
  (0:Int)=(0:Int)∧
  (e0_1=true→((0:Int),(0:Int),(0:Int),[],[],(9:Int),())=e0)∧
  (e0_1=false→
  ∃ (p':Int×List (Int×List Int)×Unit),
  a=a∧
  b=b∧
  c=c∧
  d=d∧
  ks=ks∧
  e6=e6∧
  e4=e4∧
  e1=e1∧
  a=a∧
  b=b∧
  c=c∧
  d=d∧
  b=b∧
  e2=e2∧
  IntKind.i64.wrap (e3_1+(1:Int))=p'.1∧
  a=a∧
  b=b∧
  c=c∧
  d=d∧
  (0:Int)=(0:Int)∧
  (0:Int)=(0:Int)∧
  (0:Int)=(0:Int)∧
  A8 a b c=A8 a b c∧
  F7 e1_1 (B4 (List.getD b (Int.toNat e3_1) e3).from_) e3_1=p'.2.1∧
  ([]:List (Place×Int))=[]∧
  ([]:List (Int×Int))=[]∧
  a=a∧
  b=b∧
  c=c∧
  d=d∧
  a=a∧
  ks=ks∧
  a=a∧
  ((0:Int)≤p'.1∧
  p'.1≤e2∧
  p'.2.1=M3 (List.take (Int.toNat p'.1) b) (0:Int) []∧
  List.all (List.take (Int.toNat p'.1) b) (fewX ks)=true)∧
  List.length b-Int.toNat p'.1<List.length b-Int.toNat e3_1))∧
  (e2_1=false→
  (∃ (p:Int×List (Int×Int)×Unit),
  a=a∧
  b=b∧
  c=c∧
  d=d∧
  ks=ks∧
  e6=e6∧
  e4=e4∧
  e1=e1∧
  a=a∧
  b=b∧
  c=c∧
  d=d∧
  b=b∧
  e2=e2∧
  e3_1=e3_1∧
  e2_1=e2_1∧
  a=a∧
  (0:Int)=p.1∧
  a=a∧
  b=b∧
  c=c∧
  d=d∧
  (0:Int)=(0:Int)∧
  (0:Int)=(0:Int)∧
  (0:Int)=(0:Int)∧
  A8 a b c=A8 a b c∧
  e1_1=e1_1∧
  ([]:List (Place×Int))=[]∧
  []=p.2.1∧
  a=a∧
  b=b∧
  c=c∧
  d=d∧a=a∧ks=ks∧a=a∧(0:Int)≤p.1∧p.1≤a∧p.2.1=ae8 (Int.toNat p.1))∧
  ∀ (p:Int×List (Int×Int)×Unit),
 let e0_2:Bool:=decide (p.1<a);
 let e1_2:Int:=p.1;
 let e2_2:List (Int×Int):=p.2.1;
  (0:Int)≤e1_2∧e1_2≤a∧e2_2=ae8 (Int.toNat e1_2)→
  (e0_2=true→
  ∃ (p':Int×List (Int×Int)×Unit),
  a=a∧
  b=b∧
  c=c∧
  d=d∧
  ks=ks∧
  e6=e6∧
  e4=e4∧
  e1=e1∧
  a=a∧
  b=b∧
  c=c∧
  d=d∧
  b=b∧
  e2=e2∧
  e3_1=e3_1∧
  e2_1=e2_1∧
  a=a∧
  IntKind.i64.wrap (e1_2+(1:Int))=p'.1∧
  a=a∧
  b=b∧
  c=c∧
  d=d∧
  (0:Int)=(0:Int)∧
  (0:Int)=(0:Int)∧
  (0:Int)=(0:Int)∧
  A8 a b c=A8 a b c∧
  e1_1=e1_1∧
  ([]:List (Place×Int))=[]∧
  mput (fun (x y:Int)=>x==y) e2_2 e1_2 e1_2=p'.2.1∧
  a=a∧
  b=b∧
  c=c∧
  d=d∧
  a=a∧
  ks=ks∧
  a=a∧
  ((0:Int)≤p'.1∧p'.1≤a∧p'.2.1=ae8 (Int.toNat p'.1))∧
  Int.toNat a-Int.toNat p'.1<Int.toNat a-Int.toNat e1_2)∧
  (e0_2=false→
  (∃ (p:Int×List (Place×Int)×List (Int×Int)×Int×List RIns×Unit),
  a=a∧
  b=b∧
  c=c∧
  d=d∧
  ks=ks∧
  e6=e6∧
  e4=e4∧
  e1=e1∧
  a=a∧
  b=b∧
  c=c∧
  d=d∧
  b=b∧
  e2=e2∧
  e3_1=e3_1∧
  e2_1=e2_1∧
  a=a∧
  e1_2=e1_2∧
  e0_2=e0_2∧
  b=b∧
  e2=e2∧
  (0:Int)=p.1∧
  a=a∧
  b=b∧
  c=c∧
  d=d∧
  (0:Int)=(0:Int)∧
  (0:Int)=(0:Int)∧
  (0:Int)=(0:Int)∧
  A8 a b c=A8 a b c∧
  e1_1=e1_1∧
  []=p.2.1∧
  e2_2=p.2.2.1∧
  a=a∧
  b=b∧
  c=c∧
  d=d∧
  a=a∧
  ks=ks∧
  a=p.2.2.2.1∧
  []=p.2.2.2.2.1∧
  ([]:List Place)=[]∧
  (0:Int)≤p.1∧
  p.1≤e2∧
  runA (A8 a b c) (K0 b) ks e2 (List.take (Int.toNat p.1) b)
  (0:Int) (J2 a)=
  AS.mk p.2.1 p.2.2.1 p.2.2.2.1
  p.2.2.2.2.1)∧
  ∀ (p:Int×List (Place×Int)×List (Int×Int)×Int×List RIns×Unit),
 let e0_3:AS:=AS.mk p.2.1 p.2.2.1 p.2.2.2.1 p.2.2.2.2.1;
 let e1_3:Int:=p.2.2.2.1;
 let e2_3:AS:=
  doOf (A8 a b c) e1_1 ks e2 p.1
  (Ins.mk (List.getD b (Int.toNat p.1) e3).op (List.getD b (Int.toNat p.1) e3).n (List.getD b (Int.toNat p.1) e3).to
  (List.getD b (Int.toNat p.1) e3).from_ (List.getD b (Int.toNat p.1) e3).body)
  e0_3;
 let e3_2:List RIns:=p.2.2.2.2.1;
 let e4_1:Int:=p.1;
 let e5_1:List (Int×Int):=p.2.2.1;
 let e6_1:List (Place×Int):=p.2.1;
 let e7:Bool:=decide (e4_1<e2);
 let e8:List Int:=B4 (List.getD b (Int.toNat e4_1) e3).from_;
 let e9:List Int:=(List.getD b (Int.toNat e4_1) e3).to;
 let e10:Int:=e4_1+(1:Int);
  (0:Int)≤e4_1∧e4_1≤e2∧runA (A8 a b c) (K0 b) ks e2 (List.take (Int.toNat e4_1) b) (0:Int) (J2 a)=e0_3→
  (e7=true→
  ((0:Int)≤e4_1∧e4_1<e2)∧
  (U5 e9 (List.getD b (Int.toNat e4_1) e3).from_ (List.getD b (Int.toNat e4_1) e3).body=true∧
  List.length (List.getD b (Int.toNat e4_1) e3).from_≤(17592186044400:Nat)∧
  List.length e8≤(64:Nat)∧
  List.length e9≤(64:Nat)∧
  (∀ (n:Int),List.Pairwise (fun (x1 x2:Int)=>x1≤x2) (getL e1_1 n))∧
  ((∀ (k:Nat),
 let e0:Option Int×List Held:=
  L2 (A8 a b c) e1_1 ks e2 (E5 (A8 a b c) e1_1 ks e2 e4_1 e8 e0_3 (List.take k e8)).holds e4_1 e8;
  k<List.length e8→
  (D6 (E5 (A8 a b c) e1_1 ks e2 e4_1 e8 e0_3 (List.take k e8)).holds ks (List.getD e8 k (0:Int))).cell=true→
  e0.1=none→e0.2≠[])∧
  ∀ (k:Nat),
 let e0:Option Int×List Held:=
  L2 (A8 a b c) e1_1 ks e2
  (P7 (A8 a b c) e1_1 ks e2 e4_1 e9 (E5 (A8 a b c) e1_1 ks e2 e4_1 e8 e0_3 e8) (List.take k e9)).holds e10 e9;
  k<List.length e9→e0.1=none→e0.2≠[])∧
  ks≤(64:Int)∧
  (0:Int)≤e4_1∧e4_1≤(1000000:Int)∧(0:Int)≤e1_3∧e1_3≤(100000000:Int)∧List.length e3_2≤(100000000:Nat))∧
  ∃ (p':Int×List (Place×Int)×List (Int×Int)×Int×List RIns×Unit),
  a=a∧
  b=b∧
  c=c∧
  d=d∧
  ks=ks∧
  e6=e6∧
  e4=e4∧
  e1=e1∧
  a=a∧
  b=b∧
  c=c∧
  d=d∧
  b=b∧
  e2=e2∧
  e3_1=e3_1∧
  e2_1=e2_1∧
  a=a∧
  e1_2=e1_2∧
  e0_2=e0_2∧
  b=b∧
  e2=e2∧
  IntKind.i64.wrap e10=p'.1∧
  a=a∧
  b=b∧
  c=c∧
  d=d∧
  (0:Int)=(0:Int)∧
  (0:Int)=(0:Int)∧
  (0:Int)=(0:Int)∧
  A8 a b c=A8 a b c∧
  e1_1=e1_1∧
  e2_3.holds=p'.2.1∧
  e2_3.cells=p'.2.2.1∧
  a=a∧
  b=b∧
  c=c∧
  d=d∧
  a=a∧
  ks=ks∧
  e2_3.ocells=p'.2.2.2.1∧
  e2_3.code=p'.2.2.2.2.1∧
  ([]:List Place)=[]∧
  ((0:Int)≤p'.1∧
  p'.1≤e2∧
  runA (A8 a b c) (K0 b) ks e2
  (List.take (Int.toNat p'.1) b) (0:Int)
  (J2 a)=
  AS.mk p'.2.1 p'.2.2.1 p'.2.2.2.1
  p'.2.2.2.2.1)∧
  List.length b-Int.toNat p'.1<
  List.length b-Int.toNat e4_1)∧
  (e7=false→
  (∃ (p:Int×List Place×Unit),
  a=a∧
  b=b∧
  c=c∧
  d=d∧
  ks=ks∧
  e6=e6∧
  e4=e4∧
  e1=e1∧
  a=a∧
  b=b∧
  c=c∧
  d=d∧
  b=b∧
  e2=e2∧
  e3_1=e3_1∧
  e2_1=e2_1∧
  a=a∧
  e1_2=e1_2∧
  e0_2=e0_2∧
  b=b∧
  e2=e2∧
  e4_1=e4_1∧
  e7=e7∧
  c=c∧
  e5=e5∧
  (0:Int)=p.1∧
  a=a∧
  b=b∧
  c=c∧
  d=d∧
  (0:Int)=(0:Int)∧
  (0:Int)=(0:Int)∧
  (0:Int)=(0:Int)∧
  A8 a b c=A8 a b c∧
  e1_1=e1_1∧
  e6_1=e6_1∧
  e5_1=e5_1∧
  a=a∧
  b=b∧
  c=c∧
  d=d∧
  a=a∧
  ks=ks∧
  e1_3=e1_3∧
  e3_2=e3_2∧
  []=p.2.1∧
  (0:Int)≤p.1∧
  p.1≤e5∧
  p.2.1=
  List.map
  (outA
  (runA (A8 a b c) (K0 b) ks e2 b
  (0:Int) (J2 a))
  ks)
  (List.take (Int.toNat p.1) c))∧
  ∀ (p:Int×List Place×Unit),
 let e0_4:Bool:=
  (D6 e6_1 ks (List.getD c (Int.toNat p.1) (0:Int))).cell==true&&
  ((D6 e6_1 ks (List.getD c (Int.toNat p.1) (0:Int))).n==(-1:Int)&&true);
 let e1_4:List Place:=
  [Place.mk (bif e0_4 then true else (D6 e6_1 ks (List.getD c (Int.toNat p.1) (0:Int))).cell)
  (bif e0_4 then Option.getD (mget (fun (x y:Int)=>x==y) e5_1 (List.getD c (Int.toNat p.1) (0:Int))) (0:Int)
  else (D6 e6_1 ks (List.getD c (Int.toNat p.1) (0:Int))).n)];
 let e2_4:List Place:=p.2.1;
 let e3:Int:=p.1;
 let e4_2:Bool:=decide (e3<e5);
  (0:Int)≤e3∧e3≤e5∧e2_4=List.map (outA (runA (A8 a b c) (K0 b) ks e2 b (0:Int) (J2 a)) ks) (List.take (Int.toNat e3) c)→
  (e4_2=true→
  ((0:Int)≤e3∧e3<e5)∧
  ks≤(64:Int)∧
  (List.length (bif e0_4 then e2_4 else e2_4)+List.length e1_4)*(16:Nat)≤(140737488355328:Nat)∧
  ∃ (p':Int×List Place×Unit),
  (bif e0_4 then a else a)=a∧
  (bif e0_4 then b else b)=b∧
  (bif e0_4 then c else c)=c∧
  (bif e0_4 then d else d)=d∧
  (bif e0_4 then ks else ks)=ks∧
  (bif e0_4 then e6 else e6)=e6∧
  (bif e0_4 then e4 else e4)=e4∧
  (bif e0_4 then e1 else e1)=e1∧
  (bif e0_4 then a else a)=a∧
  (bif e0_4 then b else b)=b∧
  (bif e0_4 then c else c)=c∧
  (bif e0_4 then d else d)=d∧
  (bif e0_4 then b else b)=b∧
  (bif e0_4 then e2 else e2)=e2∧
  (bif e0_4 then e3_1 else e3_1)=e3_1∧
  (bif e0_4 then e2_1 else e2_1)=e2_1∧
  (bif e0_4 then a else a)=a∧
  (bif e0_4 then e1_2 else e1_2)=e1_2∧
  (bif e0_4 then e0_2 else e0_2)=e0_2∧
  (bif e0_4 then b else b)=b∧
  (bif e0_4 then e2 else e2)=e2∧
  (bif e0_4 then e4_1 else e4_1)=e4_1∧
  (bif e0_4 then e7 else e7)=e7∧
  (bif e0_4 then c else c)=c∧
  (bif e0_4 then e5 else e5)=e5∧
  IntKind.i64.wrap ((bif e0_4 then e3 else e3)+(1:Int))=p'.1∧
  (bif e0_4 then a else a)=a∧
  (bif e0_4 then b else b)=b∧
  (bif e0_4 then c else c)=c∧
  (bif e0_4 then d else d)=d∧
  (bif e0_4 then (0:Int) else (0:Int))=(0:Int)∧
  (bif e0_4 then (0:Int) else (0:Int))=(0:Int)∧
  (bif e0_4 then (0:Int) else (0:Int))=(0:Int)∧
  (bif e0_4 then A8 a b c else A8 a b c)=A8 a b c∧
  (bif e0_4 then e1_1 else e1_1)=e1_1∧
  (bif e0_4 then e6_1 else e6_1)=e6_1∧
  (bif e0_4 then e5_1 else e5_1)=e5_1∧
  (bif e0_4 then a else a)=a∧
  (bif e0_4 then b else b)=b∧
  (bif e0_4 then c else c)=c∧
  (bif e0_4 then d else d)=d∧
  (bif e0_4 then a else a)=a∧
  (bif e0_4 then ks else ks)=ks∧
  (bif e0_4 then e1_3 else e1_3)=e1_3∧
  (bif e0_4 then e3_2 else e3_2)=e3_2∧
  (bif e0_4 then e2_4 else e2_4)++e1_4=
  p'.2.1∧
  ((0:Int)≤p'.1∧
  p'.1≤e5∧
  p'.2.1=
  List.map
  (outA
  (runA (A8 a b c)
  (K0 b) ks e2 b (0:Int)
  (J2 a))
  ks)
  (List.take (Int.toNat p'.1)
  c))∧
  List.length c-Int.toNat p'.1<
  List.length c-Int.toNat e3)∧
  (e4_2=false→(a,ks,e1_3,e3_2,e2_4,(0:Int),())=e0))))))):=by kernel_rfl
theorem aF8 (l:List Int):(B4 l).Nodup:=by
 have key:∀ (l seen:List Int),(E8 seen l).Nodup∧∀ x∈E8 seen l,x∉seen:=by
  intro l
  induction l with
  |nil=>intro seen;simp [E8]
  |cons y r ih=>
   intro seen
   obtain ⟨h1,h2⟩:=ih (seen++[y])
   simp only [E8]
   cases hc:seen.contains y with
   |true=>exact ⟨h1,fun x hx h=>h2 x hx (by simp [h])⟩
   |false=>
    have hc:y∉seen:=by rw [Bool.eq_false_iff,ne_eq,List.contains_iff_mem] at hc;exact hc
    simp only [cond_false]
    refine ⟨List.nodup_cons.2 ⟨fun h=>h2 y h (by simp),h1⟩,fun x hx h=>?_⟩
    rcases List.mem_cons.1 hx with rfl|hx
    ·exact hc h
    ·exact h2 x hx (by simp [h])
 exact (key l []).1
theorem aT1 (m:Reads) (l:List Int) (x i:Int):F7 m (l++[x]) i=mput eqI (F7 m l i) x (getL (F7 m l i) x++[i]):=by simp [F7]
theorem af1 (i n:Int):∀ (l:List Int) (m:Reads),l.Nodup→(getL (F7 m l i) n).length≤(getL m n).length+(if n∈l then 1 else 0)
 |[],m,_=>by simp [F7]
 |y::r,m,h=>by
  obtain ⟨h1,h2⟩:=List.nodup_cons.1 h
  have:=af1 i n r (mput eqI m y (getL m y++[i])) h2
  rw [bb9] at this
  show (getL (F7 (mput eqI m y (getL m y++[i])) r i) n).length≤_
  by_cases hy:y=n
  ·subst hy
   rw [if_pos rfl,if_neg h1] at this
   simp only [ch1,cg6,List.length_nil] at this
   rw [if_pos (by simp)]
   omega
  ·rw [if_neg hy] at this
   have hn:(n∈y::r)↔n∈r:=by simp [Ne.symm hy]
   simp only [hn]
   exact this
theorem aF9 (n:Int):∀ (l:List Ins) (i:Int) (m:Reads),(getL (M3 l i m) n).length≤(getL m n).length+l.length
 |[],i,m=>by simp [M3]
 |x::r,i,m=>by
  have h1:=aF9 n r (i+1) (F7 m (B4 x.from_) i)
  have h2:=af1 i n (B4 x.from_) m (aF8 _)
  simp only [M3,cg6]
  split at h2<;>omega
theorem bH8 (st a0:Int) (a1:List Ins) (a2 a3:List Int) (sp:Spans) (rd:Reads) (ho:Holds) (ce:List (Int×Int)) (op ks oc i many x1 x2:Int) (x3 x4:List Int) (x5:List Ins) (hp:st=0∧(∀ n,(getL rd n).length≤1000000)∧many=0):
  vc (EVy ylR (some ap1) [(61,cContains)]) (bi2 x4 rd i many) Go.Proofs.Tryd.f83 aT0 (st,a0,a1,a2,a3,sp,rd,ho,ce,op,ks,oc,i,many,x1,x2,x3,x4,x5,()):=by
 rw [bH7 st a0 a1 a2 a3 sp rd ho ce op ks oc i many x1 x2 x3 x4 x5]
 intro e0 e1 _ _ _ _ hs4 _
 have hl4:x4.length≤140737488355328:=hs4.len
 have he0:e0=(0,a0,a1,a2,a3,sp,F7 rd (B4 x4) i,ho,ce,op,ks,oc,i,many+(B4 x4).length,()):=rfl
 clear_value e0
 dsimp only [e1]
 simp only [true_and,and_true]
 refine ⟨⟨(0,0,rd,many,()),rfl,hp.1,rfl,rfl,Int.le_refl _,by dsimp only;omega,rfl,rfl,by simp [B4,E8]⟩,?_⟩
 rintro ⟨j,s0,m,mm,⟨⟩⟩ ⟨h0,h1,h2,h3,h4⟩
 dsimp only at h0 h1 h2 h3 h4 ⊢
 obtain ⟨k,rfl⟩:=cf6 h0
 simp only [cf4] at h3 h4 ⊢
 subst h2
 refine ⟨fun hlt=>?_,fun hge=>?_⟩
 ·have hlt:(k:Int)<x4.length:=cg0 hlt
  have hs:=aL7 (x4.take k) (x4.getD k 0)
  rw [←A4 (by omega)] at hs
  have hl:=ae7 (x4.take k)
  rw [ch9] at hl
  refine ⟨⟨h0,hlt⟩,⟨h0,by omega⟩,fun q=>?_,fun q=>⟨⟨rfl,fun n=>?_,by omega,by omega⟩,fun h=>(by cases h),fun _=>?_⟩⟩
  ·rw [q] at hs
   exact ⟨((k+1:Nat),0,m,mm,()),B6 (by omega) hl4,rfl,rfl,rfl,⟨by omega,by dsimp only;omega,rfl,by dsimp only;rw [cf4,hs];exact h3,by dsimp only;rw [cf4,hs];exact h4⟩,by dsimp only;omega⟩
  ·have h5:=af1 i n (B4 (x4.take k)) rd (aF8 _)
   have h6:=hp.2.1 n
   rw [h3]
   split at h5<;>omega
  ·rw [q,cond_false] at hs
   refine ⟨((k+1:Nat),0,_,_,()),B6 (by omega) hl4,rfl,rfl,rfl,⟨by omega,by dsimp only;omega,rfl,?_,?_⟩,by dsimp only;omega⟩
   ·dsimp only
    rw [cf4,hs,aT1,←h3]
   ·dsimp only
    rw [cf4,hs,ch1,h4]
    simp only [cg6,List.length_nil]
    omega
 ·have hk:k=x4.length:=by have:¬ (k:Int)<x4.length:=cf9 hge;omega
  subst hk
  rw [ch8] at h3 h4
  rw [he0,h3,h4]
theorem bw6:ItOk itAlloc:=by
 intro f k kY mp h Y' hY
 unfold itAlloc at h
 cases hf:Nat.beq f 83 with
 |false=>rw [hf] at h;cases h
 |true=>
  have hf:=cf1 hf
  subst hf
  simp only [Nat.beq_refl,cond_true,List.mem_cons,List.not_mem_nil,or_false,cg2] at h
  obtain ⟨rfl,rfl,rfl⟩:=h
  exact ag8 (E:=EVy ylR (some ap1) [(61,cContains)]) (bL8 _ _ _) ⟨W2 (fun x hx=>by rcases List.mem_cons.1 hx with rfl|hx;exact L8 _;cases hx),fun _ _ _ _ _ h=>(by cases h),fun _ _ _ h=>(by cases h),fun k hk=>by cases hk;exact hY,fun _ _ _ _ h=>(by cases h)⟩ bf2 Go.Proofs.Tryd.func83 (by kernel_rfl)
    (fun (st,a0,a1,a2,a3,sp,rd,ho,ce,op,ks,oc,i,many,x1,x2,x3,x4,x5,())=>bi2 x4 rd i many) (fun (st,a0,a1,a2,a3,sp,rd,ho,ce,op,ks,oc,i,many,x1,x2,x3,x4,x5,()) hp=>bH8 st a0 a1 a2 a3 sp rd ho ce op ks oc i many x1 x2 x3 x4 x5 hp) (by kernel_rfl) rfl
theorem aL9:∀ {l:List Ins},F3 l=true→∀ x∈l,aQ0 x=true
 |[],_,x,hx=>by simp at hx
 |y::r,h,x,hx=>by
  simp only [F3,cf3] at h
  rcases List.mem_cons.1 hx with rfl|hx
  ·exact h.1
  ·exact aL9 h.2 x hx
theorem bP3 (a:Int) (b:List Ins) (c d:List Int) (ks:Int) (hp:L5 b=true∧F3 b=true∧c.length≤8796093022200):vc (EVd [] itAlloc [(41,cCheck),(51,cSpans),(52,cReads),(53,cDo),(54,cSlot)]) (bH6 a b c ks) Go.Proofs.Tryd.f15 cAlloc (a,b,c,d,ks,()):=by
 rw [bP2 a b c d ks]
 intro e0 e1 e2 e3 e4 e5 e6 _ _ _
 obtain ⟨hp1,hp2,hp3⟩:=hp
 have he0:e0=((B8 ⟨a,b,c,d⟩ ks).1.params,(B8 ⟨a,b,c,d⟩ ks).1.slots,(B8 ⟨a,b,c,d⟩ ks).1.cells,(B8 ⟨a,b,c,d⟩ ks).1.code,(B8 ⟨a,b,c,d⟩ ks).1.out,(B8 ⟨a,b,c,d⟩ ks).2,()):=rfl
 have he6:e6=B7 ⟨a,b,c,d⟩:=rfl
 have he4:e4=(e6 !=0):=rfl
 have he1:e1=(decide (ks<1)||decide (ks >64)):=rfl
 have he3:e3=ins0:=rfl
 have hA:B8 ⟨a,b,c,d⟩ ks=if B7 ⟨a,b,c,d⟩≠0 then (rcode0,B7 ⟨a,b,c,d⟩) else if ks<1∨64<ks then (rcode0,2) else if b.all (fewX ks)=false then (rcode0,9)
   else (⟨a,ks,(runA (A8 a b c) (K0 b) ks b.length b 0 (J2 a)).ocells,(runA (A8 a b c) (K0 b) ks b.length b 0 (J2 a)).code,c.map (outA (runA (A8 a b c) (K0 b) ks b.length b 0 (J2 a)) ks)⟩,0):=rfl
 rw [hA] at he0
 clear hA
 clear_value e0 e1 e3 e4
 subst he3
 have hne:e4=true→((0:Int),(0:Int),(0:Int),([]:List RIns),([]:List Place),e6,())=e0:=fun h=>by
  have:B7 ⟨a,b,c,d⟩≠0:=by rw [he4] at h;simpa [he6] using h
  rw [he0,if_pos this,←he6];rfl
 refine ⟨hne,fun h4=>⟨fun h=>?_,fun h=>?_⟩⟩
 ·have hz:¬ B7 ⟨a,b,c,d⟩≠0:=by rw [he4] at h4;simpa [he6] using h4
  have hk:ks<1∨64<ks:=by rw [he1] at h;simp only [Bool.or_eq_true,ch2] at h;omega
  rw [he0,if_neg hz,if_pos hk];rfl
 have hz:B7 ⟨a,b,c,d⟩=0:=by rw [he4] at h4;simpa [he6] using h4
 have hk:1≤ks∧ks≤64:=by rw [he1] at h;simp only [Bool.or_eq_false_iff,decide_eq_false_iff_not] at h;omega
 have C:=aQ9 hz
 rw [if_neg (by rw [hz];simp),if_neg (by omega)] at he0
 clear hne hz he6
 clear_value e6
 clear he4 he1 h4 h
 have hlen:=C.len
 have hpos:=C.pos
 have hfew:=C.few
 dsimp only [e2,e5]
 simp only [true_and,and_true,Bool.cond_self,Bool.and_true,bb5]
 refine ⟨C.few,⟨(0,[],()),rfl,rfl,Int.le_refl _,by dsimp only;omega,rfl,rfl⟩,?_⟩
 rintro ⟨j,rd,⟨⟩⟩ ⟨h0,h1,h2,h3⟩
 dsimp only at h0 h1 h2 h3 ⊢
 obtain ⟨k,rfl⟩:=cf6 h0
 simp only [cf4] at h2 h3 ⊢
 refine ⟨fun hlt=>?_,fun hge=>?_⟩
 ·have hlt:(k:Int)<b.length:=cg0 hlt
  have hkc:k<b.length:=by omega
  have hb:∀ x:Bool,fewX ks (b.getD k ins0)=x→b.all (fewX ks)=true→x=true:=fun x h1 h2=>by rw [←h1];exact ci0.1 h2 _ (K4 hkc _)
  have hstepR:M3 (b.take (k+1)) 0 []=F7 rd (B4 (b.getD k ins0).from_) k:=by
   rw [A4 hkc ins0,au7,ch9,Nat.min_eq_left (by omega),←h2];simp
  have hstepA:fewX ks (b.getD k ins0)=true→(b.take (k+1)).all (fewX ks)=true:=fun h=>ao7 ins0 hkc h3 h
  have hstop:fewX ks (b.getD k ins0)=false→b.all (fewX ks)=false:=fun h=>aR5 ins0 hkc h
  obtain ⟨x,hxe⟩:∃ x,b.getD k ins0=x:=⟨_,rfl⟩
  simp only [hxe] at hb hstepR hstepA hstop ⊢
  have hdec:(decide ((0:Int)+((B4 x.from_).length:Int) >ks)||decide ((x.to.length:Int) >ks))=!fewX ks x:=by
   unfold fewX
   rw [Bool.eq_iff_iff]
   simp only [Bool.or_eq_true,ch2,Bool.not_eq_true',Bool.and_eq_false_iff,decide_eq_false_iff_not]
   omega
  rw [hdec]
  refine ⟨⟨h0,hlt⟩,?_,?_,fun q=>?_,fun q=>?_⟩
  ·rintro ⟨n,st,a0,a1,a2,a3,sp,rd2,ho,ce,op,ks2,oc,i,many,⟨⟩⟩ ⟨q1,q2,q3,q4⟩ _ _ _
   dsimp only at q1 q2 q3 q4 ⊢
   have q5:=q2 n
   refine ⟨q1,?_,?_⟩
   ·show ((getL rd2 n).length+1)*8≤_
    omega
   ·rw [M6 (by omega) (by omega)]
    rfl
  ·intro n
   have:=aF9 n (b.take k) 0 []
   rw [←h2,ch9] at this
   have hg:(getL ([]:Reads) n).length=0:=rfl
   omega
  ·have q:fewX ks x=false:=by simpa using q
   rw [he0,if_pos (hstop q)];rfl
  ·have q:fewX ks x=true:=by simpa using q
   exact ⟨((k+1:Nat),_,()),B6 hkc (by omega),rfl,⟨by omega,by dsimp only;omega,by dsimp only;rw [cf4,hstepR];rfl,by dsimp only;rw [cf4];exact hstepA q⟩,by dsimp only;omega⟩
 have hkk:k=b.length:=by have:¬ (k:Int)<b.length:=cf9 hge;omega
 subst hkk
 rw [ch8] at h2 h3
 have hrd:rd=K0 b:=h2
 subst hrd
 clear h2 h0 h1 hge
 rw [if_neg (by rw [h3];simp)] at he0
 refine ⟨⟨(0,[],()),rfl,rfl,Int.le_refl _,hpos,rfl⟩,?_⟩
 rintro ⟨j,ce,⟨⟩⟩ ⟨h0,h1,h2⟩
 dsimp only at h0 h1 h2 ⊢
 obtain ⟨k,rfl⟩:=cf6 h0
 simp only [cf4] at h2 ⊢
 subst h2
 refine ⟨fun hlt=>?_,fun hge=>?_⟩
 ·have hlt:(k:Int)<a:=cg0 hlt
  refine ⟨((k+1:Nat),ae8 (k+1),()),?_,(bi1 k).symm,⟨by omega,by dsimp only;omega,by dsimp only;rw [cf4]⟩,by dsimp only;omega⟩
  rw [M6 (by omega) (by omega)];rfl
 have hkk:(k:Int)=a:=by have:¬ (k:Int)<a:=cf9 hge;omega
 have hst:J2 a=⟨[],ae8 k,a,[]⟩:=by
  have:a.toNat=k:=by omega
  simp only [J2,this]
 clear h0 h1 hge
 refine ⟨⟨(0,[],ae8 k,a,[],()),rfl,rfl,rfl,rfl,rfl,Int.le_refl _,by dsimp only;omega,by simp only [Int.toNat_zero,List.take_zero,runA];exact hst⟩,?_⟩
 rintro ⟨j,m,cc,oc,q,⟨⟩⟩ ⟨h0,h1,h2⟩
 dsimp only at h0 h1 h2 ⊢
 obtain ⟨k2,rfl⟩:=cf6 h0
 simp only [cf4] at h2 ⊢
 have hL:=bo0 hk.2 (A8 a b c) (K0 b) b.length (b.take k2) 0 (J2 a) (ci0.2 fun x hx=>ci0.1 h3 x (List.mem_of_mem_take hx))
 rw [h2,ch9] at hL
 simp only [J2,List.length_nil] at hL
 refine ⟨fun hlt=>?_,fun hge=>?_⟩
 ·have hlt:(k2:Int)<b.length:=cg0 hlt
  have hkc:k2<b.length:=by omega
  have hF:=(bH5 C h3 (A8 a b c) (K0 b) b.length k2 (by omega)).2 hkc
  rw [h2] at hF
  have hstep:runA (A8 a b c) (K0 b) ks b.length (b.take (k2+1)) 0 (J2 a)=doOf (A8 a b c) (K0 b) ks b.length k2 (b.getD k2 ins0) ⟨m,cc,oc,q⟩:=by
   rw [A4 hkc ins0,bb6,ch9,Nat.min_eq_left (by omega),h2]
  have hmem:=K4 hkc ins0
  have hx1:=aL9 hp2 _ hmem
  have hx2:=ci0.1 hp1 _ hmem
  have hx3:=ci0.1 h3 _ hmem
  generalize b.getD k2 ins0=x at hF hstep hx1 hx2 hx3 ⊢
  simp only [cf3,ch2] at hx2
  simp only [fewX,cf3,ch2] at hx3
  refine ⟨⟨h0,hlt⟩,⟨T2.2 ((O0 x).1 hx1),hx2.1,by omega,by omega,aH4 b,hF,hk.2,by omega,by omega,by omega,by omega,by omega⟩,((k2+1:Nat),_,_,_,_,()),B6 hkc (by omega),rfl,rfl,rfl,rfl,⟨by omega,by dsimp only;omega,?_⟩,by dsimp only;omega⟩
  dsimp only
  rw [cf4,hstep]
  rfl
 have hkk2:k2=b.length:=by have:¬ (k2:Int)<b.length:=cf9 hge;omega
 subst hkk2
 rw [ch8] at h2
 rw [h2] at he0 ⊢
 clear h0 h1 hge hL
 dsimp only at he0
 refine ⟨⟨(0,[],()),rfl,rfl,Int.le_refl _,by dsimp only;omega,rfl⟩,?_⟩
 rintro ⟨j,l,⟨⟩⟩ ⟨h0,h1,h4⟩
 dsimp only at h0 h1 h4 ⊢
 obtain ⟨k3,rfl⟩:=cf6 h0
 simp only [cf4] at h4 ⊢
 subst h4
 refine ⟨fun hlt=>?_,fun hge=>?_⟩
 ·have hlt:(k3:Int)<c.length:=cg0 hlt
  have hkc:k3<c.length:=by omega
  refine ⟨⟨h0,hlt⟩,hk.2,?_,((k3+1:Nat),_,()),B6 hkc (by omega),rfl,⟨by omega,by dsimp only;omega,?_⟩,by dsimp only;omega⟩
  ·rw [ci1,ch9]
   simp only [cg6,List.length_nil]
   omega
  ·dsimp only
   rw [cf4,A4 hkc 0,List.map_append]
   congr 1
   show _=[outA _ ks (c.getD k3 0)]
   generalize c.getD k3 0=n
   unfold outA
   dsimp only
   cases hc:(D6 m ks n).cell with
   |true=>rfl
   |false=>simp only [cond_false];rw [←hc]
 ·have hkk3:k3=c.length:=by have:¬ (k3:Int)<c.length:=cf9 hge;omega
  subst hkk3
  rw [ch8,he0]
theorem aG0:C6 prog RG 15 cAlloc:=bm8 bw6 (A6 U1 (A6 aE1 (A6 aF5 (A6 bP0 (A6 ar5 C0))))) (fun p=>bH6 p.1 p.2.1 p.2.2.1 p.2.2.2.2.1) (by kernel_rfl) (by kernel_rfl) (by kernel_rfl) fun (a,b,c,d,ks,()) hp=>bP3 a b c d ks hp
def insI (to:Int) (fr:List Int):Ins:=⟨1,0,[to],fr,[]⟩
def G2:VFun:=⟨2,[insI 2 [0,1],insI 3 [2,0],insI 4 [3,1],insI 5 [4,2]],[5],[]⟩
def cIns:Con RU:=con [one,one] [i64,ints] [(true,5)] aC8 [false,false,false,false,false] none fun p=>(1,0,[p.1],p.2.1,[],())
def cFour:Con RU:=con [] [] [(true,4)] at8 [false,false,false,false] none fun _=>(2,G2.code,[5],[],())
abbrev bH9:List Ty:=[i64,i64,i64,i64,i64,ints,ints,inss]
abbrev own8:List Bool:=[false,false,false,false,false,false,false,false]
def cLoadI:Con RU:=con [one,one] [i64,i64] [(true,8)] bH9 own8 none fun p=>(1,p.1,p.2.1,0,0,[],[],[],())
def cStoreI:Con RU:=con [one,one] [i64,i64] [(true,8)] bH9 own8 none fun p=>(2,p.1,p.2.1,0,0,[],[],[],())
def cDoI:Con RU:=con [one,one] [i64,ints] [(true,8)] bH9 own8 none fun p=>(0,0,0,1,0,[p.1],p.2.1,[],())
def bP4 (x y:RIns):Bool:=(x.kind==y.kind)&&((x.kind==0)&&insB x.ins y.ins||((x.kind !=0)&&(x.slot==y.slot)&&(x.cell==y.cell)))
def U6 (l m:List RIns) (k:Nat):Bool:=(decide (l.length=m.length))&&((l.zip m).take k).all fun p=>bP4 p.1 p.2
def aT2 (l m:List RIns):Bool:=U6 l m l.length
def cSame:Con RU:=con [one,one] [aH0,aH0] [one] [.bool] [false] none fun p=>(aT2 p.1 p.2.1,())
def bZ5 (l m:List RIns):Nat→St RU→Ann RU:=fun _ _=>⟨[],[.slot 5,.slot 6],[.bool,i64],fun p=>0≤p.2.1∧p.2.1≤l.length∧p.1=U6 l m p.2.1.toNat,fun p=>l.length-p.2.1.toNat,[]⟩
def cSlotted:Con RU:=con [] [] [one] [.bool] [false] none fun _=>(true,())
end Go.Rg
end
section
namespace Go.Proofs.YtknhkhdbonjhgaaDoor
open Go.ChangeShapes Go.WideShapes Go.ChangeAt Go.RowKit Go.VT
theorem own:ownKnob Tryd.prog.godebug=none:=by kernel_rfl
theorem bZ6:laidOutB Tryd.prog=true:=by kernel_rfl
theorem cd4:Tryd.prog.globalNamed "sheafworks/regs.never"=some 1:=by kernel_rfl
theorem bP5:Tryd.prog.globalNamed "sheafworks/regs.nowhere"=some 0:=by kernel_rfl
theorem cd5:(Tryd.prog.globals[1]?).map (·.type)=some 107:=by kernel_rfl
theorem bP6:(Tryd.prog.globals[0]?).map (·.type)=some 59:=by kernel_rfl
abbrev bw7:List (String×DataW Unit):=[("sheafworks/regs.never",Rows.laid_sheafworks_regs_never),("sheafworks/regs.nowhere",Rows.laid_sheafworks_regs_nowhere)]
theorem bP7 (os:Os) (args:Array Value):laidMetH Tryd.prog bw7 ((World.doorLaid Tryd.prog 600 os).forCall (fun _ _=>0) ⟨#[],args,[]⟩).memory:=
 laidMetH_of_parts3 (fuel:=8) (laidMet_of_run' 8 (by kernel_rfl) (by kernel_rfl)) (by kernel_rfl) (by kernel_rfl)
theorem aG1:Tryd.prog.cellsOf 3=1:=by kernel_rfl
theorem cd6:Tryd.prog.cellsOf 4=1:=by kernel_rfl
theorem bZ7:Tryd.prog.cellsOf 22=1:=by kernel_rfl
theorem bI0:Tryd.prog.cellsOf 23=1:=by kernel_rfl
theorem bi3:Tryd.prog.cellsOf 52=5:=by kernel_rfl
theorem bZ8:Tryd.prog.cellsOf 59=2:=by kernel_rfl
theorem bP8:Tryd.prog.cellsOf 107=2:=by kernel_rfl
theorem cd7:Tryd.prog.bytesOf 3=8:=by kernel_rfl
theorem bZ9:Tryd.prog.bytesOf 52=88:=by kernel_rfl
theorem aM0 {W:World} {g i:Nat} {v:Value} (h:W.cell? ⟨g,i,none⟩=some v):g<W.heap.size:=by
 unfold World.cell? at h
 cases hh:W.heap[g]? with
 |none=>simp [hh] at h
 |some ob=>exact (cg8.1 hh).1
theorem ca0 {W:World} (h:laidMetH Tryd.prog bw7 W):∀ g fs,(g,fs)∈Go.Rg.RG→g<W.heap.size∧∀ i f,fs.cell i=some f→W.cell? ⟨g,i,none⟩=some f:=by
 obtain ⟨ps,⟨g1,t1,cs1,fuel1,p1,q1,hg1,ht1,hv1,hd1,⟨g0,t0,cs0,fuel0,p0,q0,hg0,ht0,hv0,hd0,_⟩,_⟩,_⟩:laidMet Tryd.prog bw7 W:=h
 obtain rfl:=Option.some.inj (cd4.symm.trans hg1)
 obtain rfl:=Option.some.inj (bP5.symm.trans hg0)
 obtain rfl:=Option.some.inj (cd5.symm.trans ht1)
 obtain rfl:=Option.some.inj (bP6.symm.trans ht0)
 obtain ⟨a1,a2,n,hx,hl,hy1,hy2⟩:=trod_struct2 Tryd.underlying107 hd1
 obtain ⟨b1,b2,m,kx,kl,ky1,ky2⟩:=trod_struct2 Tryd.underlying59 hd0
 rw [bP8] at hl
 rw [bZ8] at kl
 obtain ⟨u1,eu1,hu1⟩:=aK2 (cs:=cs1.toList) (j:=0) (by omega)
 obtain ⟨u2,eu2,hu2⟩:=aK2 (cs:=cs1.toList) (j:=1) (by omega)
 obtain ⟨w1,ew1,hw1⟩:=aK2 (cs:=cs0.toList) (j:=0) (by omega)
 obtain ⟨w2,ew2,hw2⟩:=aK2 (cs:=cs0.toList) (j:=1) (by omega)
 dsimp only at hy1 hy2 ky1 ky2
 rw [aG1,hu1] at hy1
 rw [aG1,hu2] at hy2
 rw [cd6,hw1] at ky1
 rw [aG1,hw2] at ky2
 obtain ⟨n1,e1,f1,_⟩:=DataW.trod_int Tryd.underlying3 hy1
 obtain ⟨n2,e2,f2,_⟩:=DataW.trod_int Tryd.underlying3 hy2
 obtain ⟨m1,e3,f3⟩:=DataW.trod_bool Tryd.underlying4 ky1
 obtain ⟨m2,e4,f4,_⟩:=DataW.trod_int Tryd.underlying3 ky2
 rw [f1,f2] at hx
 rw [f3,f4] at kx
 simp only [Rows.laid_sheafworks_regs_never,cg2,DataW.agg.injEq,List.cons.injEq,DataW.lit.injEq,Lit.int.injEq,true_and,and_true] at hx
 simp only [Rows.laid_sheafworks_regs_nowhere,cg2,DataW.agg.injEq,List.cons.injEq,DataW.lit.injEq,Lit.int.injEq,Lit.bool.injEq,true_and,and_true] at kx
 simp only [List.cons.injEq,and_true] at e1 e2 e3 e4
 rw [e1,←hx.1.1] at eu1
 rw [e2,←hx.1.2] at eu2
 rw [e3,←kx.1.1] at ew1
 rw [e4,←kx.1.2] at ew2
 have c10:W.cell? ⟨1,0,none⟩=some (.int .i64 0):=by rw [World.var?_cell hg1 hv1 0];simpa using eu1
 have c11:W.cell? ⟨1,1,none⟩=some (.int .i64 (-1)):=by rw [World.var?_cell hg1 hv1 1];simpa using eu2
 have c00:W.cell? ⟨0,0,none⟩=some (.bool true):=by rw [World.var?_cell hg0 hv0 0];simpa using ew1
 have c01:W.cell? ⟨0,1,none⟩=some (.int .i64 (-1)):=by rw [World.var?_cell hg0 hv0 1];simpa using ew2
 intro g fs hm
 simp only [Go.Rg.RG,List.mem_cons,List.not_mem_nil,or_false,cg2] at hm
 rcases hm with ⟨rfl,rfl⟩|⟨rfl,rfl⟩
 ·refine ⟨aM0 c00,fun i f hf=>?_⟩
  match i,hf with
  |0,hf=>cases hf;exact c00
  |1,hf=>cases hf;exact c01
  |_+2,hf=>simp [Glob.cell] at hf
 ·refine ⟨aM0 c10,fun i f hf=>?_⟩
  match i,hf with
  |0,hf=>cases hf;exact c10
  |1,hf=>cases hf;exact c11
  |_+2,hf=>simp [Glob.cell] at hf
def readL:List (TypeId×Ty):=[(3,Go.Rg.i64),(4,.bool),(52,.user 0),(23,Go.Rg.ints),(22,Go.Rg.inss)]
theorem ca1:bm5 Tryd.prog Go.Rg.RU readL:=by
 intro t ty hm
 simp only [readL,List.mem_cons,cg2,List.not_mem_nil,or_false] at hm
 rcases hm with ⟨rfl,rfl⟩|⟨rfl,rfl⟩|⟨rfl,rfl⟩|⟨rfl,rfl⟩|⟨rfl,rfl⟩
 ·exact Tryd.underlying3
 ·exact Tryd.underlying4
 ·refine ⟨_,Tryd.underlying52,bi3,rfl,fun j f ty' hf hty=>?_⟩
  match j,hf,hty with
  |0,hf,hty=>cases hf;cases hty;exact ⟨rfl,aG1,rfl,by simp [readL]⟩
  |1,hf,hty=>cases hf;cases hty;exact ⟨rfl,aG1,rfl,by simp [readL]⟩
  |2,hf,hty=>cases hf;cases hty;exact ⟨rfl,bI0,rfl,by simp [readL]⟩
  |3,hf,hty=>cases hf;cases hty;exact ⟨rfl,bI0,rfl,by simp [readL]⟩
  |4,hf,hty=>cases hf;cases hty;exact ⟨rfl,bZ7,rfl,by simp [readL]⟩
  |j+5,hf,hty=>simp [Go.Rg.RU] at hty
 ·exact ⟨Tryd.underlying23,aG1,by rw [aG1];decide,by rw [cd7];decide,by simp [readL]⟩
 ·exact ⟨Tryd.underlying22,bi3,by rw [bi3];decide,by rw [bZ9];decide,by simp [readL]⟩
theorem ap2 {H:Type} {enc:TypeId×Value→H} {W W':World} (hb:Below W.heap.size W W'):∀ {ts:List TypeId} {vs:List Value} {ds:List (DataW H)} {ps:List MemPlace},(∀ t∈ts,Tryd.prog.readableRec t=true∧t<Tryd.prog.types.size)→
  DataW.TrodAll enc Tryd.prog W 0 (fun _=>true) true ts vs ds ps→(∀ x∈ps,x.block<W.heap.size)→DataW.TrodAll enc Tryd.prog W' 0 (fun b=>decide (b<W.heap.size)) true ts vs ds ps
 |[],[],[],ps,_,h,_=>h
 |[],_::_,_,_,_,h,_=>h.elim
 |[],[],_::_,_,_,h,_=>h.elim
 |_::_,[],_,_,_,h,_=>h.elim
 |_::_,_::_,[],_,_,h,_=>h.elim
 |t::ts,v::vs,d::ds,ps,ht,h,hlt=>by
  obtain ⟨p,q,h1,h2,rfl⟩:=h
  exact ⟨p,q,Below.trod bZ6 (ht t (by simp)).1 (ht t (by simp)).2 h1 hb (fun x hx=>hlt x (by simp [hx])),ap2 hb (fun t' h'=>ht t' (by simp [h'])) h2 (fun x hx=>hlt x (by simp [hx])),rfl⟩
theorem bP9 {H:Type} {enc:TypeId×Value→H} {fn:Func} {s:ChangeSpec} (hs:s.vars=[]) {W W':World} {args:Array Value} {ds gs:List (DataW H)} {aC6:List MemPlace}
  (hW:DataW.Whole enc Tryd.prog fn.params.toList s.vars false W args.toList ds gs aC6) (hb:Below W.heap.size W W') (hres:fn.resultTypes=#[4])
  (hfn:s.fn H ds={ results:=[.lit (.bool true)],args:=ds }) (ht:∀ t∈fn.params.toList,Tryd.prog.readableRec t=true∧t<Tryd.prog.types.size):
  s.post enc Tryd.prog fn false true false false W args (.bool true) W':=by
 have hW':=hW
 obtain ⟨p,q,hA,hV,rfl,hfz,hnd⟩:=hW
 rw [hs] at hV
 obtain ⟨rfl,rfl⟩:gs=[]∧q=[]:=by
  cases gs with
  |nil=>exact ⟨rfl,hV⟩
  |cons g r=>exact absurd hV (by intro h;cases h)
 refine ⟨ds,[],p++[],[],p,[],hW',?_,?_,?_,hb.frame _,fun h=>by cases h⟩
 ·rw [List.append_nil,hfn,hres]
  exact trodAll_mk1 (shut_bool Tryd.underlying4 true)
 ·rw [List.append_nil,hfn]
  exact ap2 hb ht hA (fun x hx=>hW'.lt x (by simp [hx]))
 ·rw [List.append_nil,hfn,hs]
  rfl
theorem aG2 {H:Type} {enc:TypeId×Value→H} {P:Program} {w:World} {base:Nat} {sp:Nat→Bool} {held:Bool}:∀ {ts:List TypeId} {vs:List Value} {ds:List (DataW H)} {ps:List MemPlace},DataW.TrodAll enc P w base sp held ts vs ds ps→ds.length=ts.length
 |[],[],[],_,_=>rfl
 |[],_::_,_,_,h=>h.elim
 |[],[],_::_,_,h=>h.elim
 |_::_,[],_,_,h=>h.elim
 |_::_,_::_,[],_,h=>h.elim
 |t::ts,v::vs,d::ds,ps,h=>by
  obtain ⟨p,q,_,h2,_⟩:=h
  simp [aG2 h2]
end Go.Proofs.YtknhkhdbonjhgaaDoor
end
section
namespace Go.Rg
open Go Go.VT
theorem cd8 (a:Int) (b:List Int):vc (EV []) noL Go.Proofs.Tryd.f46 cIns (a,b,())=(
 let e0:Int×Int×List Int×List Int×List Ins×Unit:=((1:Int),(0:Int),[a],b,[],());
  Small RU (Sigma.mk (Ty.slice (3:Nat) (Ty.int IntKind.i64)) b)→e0=e0):=by kernel_rfl
theorem bQ0 (a b:Int):vc (EV []) noL Go.Proofs.Tryd.f47 cLoadI (a,b,())=(
 let e0:Int×Int×Int×Int×Int×List Int×List Int×List Ins×Unit:=((1:Int),a,b,(0:Int),(0:Int),[],[],[],());
  e0=e0):=by kernel_rfl
theorem bI1 (a b:Int):vc (EV []) noL Go.Proofs.Tryd.f48 cStoreI (a,b,())=(
 let e0:Int×Int×Int×Int×Int×List Int×List Int×List Ins×Unit:=((2:Int),a,b,(0:Int),(0:Int),[],[],[],());
  e0=e0):=by kernel_rfl
theorem cd9 (a:Int) (b:List Int):vc (EV [(46,cIns)]) noL Go.Proofs.Tryd.f49 cDoI (a,b,())=(
 let e0:Int×Int×Int×Int×Int×List Int×List Int×List Ins×Unit:=((0:Int),(0:Int),(0:Int),(1:Int),(0:Int),[a],b,[],());
  Small RU (Sigma.mk (Ty.slice (3:Nat) (Ty.int IntKind.i64)) b)→e0=e0):=by kernel_rfl
theorem ca2 (l m:List RIns):vc (EV [(57,cSameIns)]) (bZ5 l m) Go.Proofs.Tryd.f45 cSame (l,m,())=(
 let e0:RIns:=RIns.mk (0:Int) (0:Int) (0:Int) ins0;
 let e1:Int:=(↑(List.length l):Int);
 let e2:Int:=(↑(List.length m):Int);
  Small RU (Sigma.mk (Ty.slice (55:Nat) (Ty.user (1:Nat))) l)→
  Small RU (Sigma.mk (Ty.slice (55:Nat) (Ty.user (1:Nat))) m)→
  (∃ (p:Bool×Int×Unit),l=l∧m=m∧false=false∧(e1==e2)=p.1∧(0:Int)=p.2.1∧(0:Int)≤p.2.1∧p.2.1≤e1∧p.1=U6 l m (Int.toNat p.2.1))∧
  ∀ (p:Bool×Int×Unit),
 let e0_1:Bool:=
  (List.getD l (Int.toNat p.2.1) e0).kind==(0:Int)&&
  insB
  (Ins.mk (List.getD l (Int.toNat p.2.1) e0).ins.op (List.getD l (Int.toNat p.2.1) e0).ins.n (List.getD l (Int.toNat p.2.1) e0).ins.to
  (List.getD l (Int.toNat p.2.1) e0).ins.from_ (List.getD l (Int.toNat p.2.1) e0).ins.body)
  (Ins.mk (List.getD m (Int.toNat p.2.1) e0).ins.op (List.getD m (Int.toNat p.2.1) e0).ins.n (List.getD m (Int.toNat p.2.1) e0).ins.to
  (List.getD m (Int.toNat p.2.1) e0).ins.from_ (List.getD m (Int.toNat p.2.1) e0).ins.body);
 let e1_1:Bool:=(List.getD l (Int.toNat p.2.1) e0).kind !=(0:Int)&&(List.getD l (Int.toNat p.2.1) e0).slot==(List.getD m (Int.toNat p.2.1) e0).slot;
 let e2_1:Bool:=p.1&&decide (p.2.1<e1);
 let e3:Int:=p.2.1;
 let e4:Bool:=(List.getD l (Int.toNat e3) e0).kind==(List.getD m (Int.toNat e3) e0).kind;
  (0:Int)≤e3∧e3≤e1∧p.1=U6 l m (Int.toNat e3)→
  (e2_1=true→
  ((0:Int)≤e3∧e3<e1)∧
  ((0:Int)≤e3∧e3<e2)∧
  (e4=true→(0:Int)≤e3∧e3<e1)∧
  (e4=true→((List.getD l (Int.toNat e3) e0).kind==(0:Int))=true→(0:Int)≤e3∧e3<e1)∧
  (e4=true→((List.getD l (Int.toNat e3) e0).kind==(0:Int))=true→(0:Int)≤e3∧e3<e2)∧
  (e4=true→e0_1=false→(0:Int)≤e3∧e3<e1)∧
  (e4=true→e0_1=false→((List.getD l (Int.toNat e3) e0).kind !=(0:Int))=true→(0:Int)≤e3∧e3<e1)∧
  (e4=true→e0_1=false→((List.getD l (Int.toNat e3) e0).kind !=(0:Int))=true→(0:Int)≤e3∧e3<e2)∧
  (e4=true→e0_1=false→e1_1=true→(0:Int)≤e3∧e3<e1)∧
  (e4=true→e0_1=false→e1_1=true→(0:Int)≤e3∧e3<e2)∧
  ∃ (p':Bool×Int×Unit),
  l=l∧
  m=m∧
  false=false∧
  (e4&&(e0_1||e1_1&&(List.getD l (Int.toNat e3) e0).cell==(List.getD m (Int.toNat e3) e0).cell))=p'.1∧
  IntKind.i64.wrap (e3+(1:Int))=p'.2.1∧
  ((0:Int)≤p'.2.1∧p'.2.1≤e1∧p'.1=U6 l m (Int.toNat p'.2.1))∧
  List.length l-Int.toNat p'.2.1<List.length l-Int.toNat e3)∧
  (e2_1=false→(p.1,())=(aT2 l m,()))):=by kernel_rfl
theorem ca3:vc (EV [(46,cIns)]) noL Go.Proofs.Tryd.f50 cFour ()=(
 let e0:List Int×List Int×Unit:=([(5:Int)],[],());
  ((2:Int),
  [Ins.mk (1:Int) (0:Int) [(2:Int)] [(0:Int),(1:Int)] [],Ins.mk (1:Int) (0:Int) [(3:Int)] [(2:Int),(0:Int)] [],
  Ins.mk (1:Int) (0:Int) [(4:Int)] [(3:Int),(1:Int)] [],Ins.mk (1:Int) (0:Int) [(5:Int)] [(4:Int),(2:Int)] []],
  e0)=
  ((2:Int),G2.code,e0)):=by kernel_rfl
theorem bw8:vc (EV [(50,cFour),(33,cLive),(29,cPress),(15,cAlloc),(20,cBack),(17,cCount),(41,cCheck),(22,cValid),(47,cLoadI),(48,cStoreI),(49,cDoI),(45,cSame),(43,cEqualLists),(24,cSameVec)]) noL Go.Proofs.Tryd.f14 cSlotted ()=(
 let e0:VFun:=
  (H2
  (RCode.mk (B8 (VFun.mk (2:Int) G2.code [(5:Int)] []) (2:Int)).1.params (B8 (VFun.mk (2:Int) G2.code [(5:Int)] []) (2:Int)).1.slots
  (B8 (VFun.mk (2:Int) G2.code [(5:Int)] []) (2:Int)).1.cells (B8 (VFun.mk (2:Int) G2.code [(5:Int)] []) (2:Int)).1.code
  (B8 (VFun.mk (2:Int) G2.code [(5:Int)] []) (2:Int)).1.out)).1;
 let e1:Bool:=
  (L3 (VFun.mk (2:Int) G2.code [(5:Int)] [])).2 !=(0:Int)||(M2 (VFun.mk (2:Int) G2.code [(5:Int)] [])).2 !=(0:Int)||
  (B8 (VFun.mk (2:Int) G2.code [(5:Int)] []) (3:Int)).2 !=(0:Int)||
  (B8 (VFun.mk (2:Int) G2.code [(5:Int)] []) (2:Int)).2 !=(0:Int)||
  (B8 (VFun.mk (2:Int) G2.code [(5:Int)] []) (1:Int)).2 !=(9:Int)||
  (H2
  (RCode.mk (B8 (VFun.mk (2:Int) G2.code [(5:Int)] []) (2:Int)).1.params (B8 (VFun.mk (2:Int) G2.code [(5:Int)] []) (2:Int)).1.slots
  (B8 (VFun.mk (2:Int) G2.code [(5:Int)] []) (2:Int)).1.cells (B8 (VFun.mk (2:Int) G2.code [(5:Int)] []) (2:Int)).1.code
  (B8 (VFun.mk (2:Int) G2.code [(5:Int)] []) (2:Int)).1.out)).2 !=
  (0:Int)||
  B7 (VFun.mk (2:Int) G2.code [(5:Int)] []) !=(0:Int)||
  H4
  (RCode.mk (B8 (VFun.mk (2:Int) G2.code [(5:Int)] []) (3:Int)).1.params (B8 (VFun.mk (2:Int) G2.code [(5:Int)] []) (3:Int)).1.slots
  (B8 (VFun.mk (2:Int) G2.code [(5:Int)] []) (3:Int)).1.cells (B8 (VFun.mk (2:Int) G2.code [(5:Int)] []) (3:Int)).1.code
  (B8 (VFun.mk (2:Int) G2.code [(5:Int)] []) (3:Int)).1.out) !=
  (0:Int);
 let e2:Bool:=
  decide
  ((L3 (VFun.mk (2:Int) G2.code [(5:Int)] [])).1=
  [[(0:Int),(1:Int)],[(0:Int),(1:Int),(2:Int)],[(1:Int),(2:Int),(3:Int)],[(2:Int),(4:Int)],[(5:Int)]])&&
  (M2 (VFun.mk (2:Int) G2.code [(5:Int)] [])).1==(3:Int)&&
  aT2 (B8 (VFun.mk (2:Int) G2.code [(5:Int)] []) (3:Int)).1.code
  [RIns.mk (1:Int) (0:Int) (0:Int) (Ins.mk (0:Int) (0:Int) [] [] []),RIns.mk (1:Int) (1:Int) (1:Int) (Ins.mk (0:Int) (0:Int) [] [] []),
  RIns.mk (0:Int) (0:Int) (0:Int) (Ins.mk (1:Int) (0:Int) [(2:Int)] [(0:Int),(1:Int)] []),
  RIns.mk (0:Int) (0:Int) (0:Int) (Ins.mk (1:Int) (0:Int) [(0:Int)] [(2:Int),(0:Int)] []),
  RIns.mk (0:Int) (0:Int) (0:Int) (Ins.mk (1:Int) (0:Int) [(0:Int)] [(0:Int),(1:Int)] []),
  RIns.mk (0:Int) (0:Int) (0:Int) (Ins.mk (1:Int) (0:Int) [(0:Int)] [(0:Int),(2:Int)] [])]&&
  aT2 (B8 (VFun.mk (2:Int) G2.code [(5:Int)] []) (2:Int)).1.code
  [RIns.mk (1:Int) (0:Int) (0:Int) (Ins.mk (0:Int) (0:Int) [] [] []),RIns.mk (1:Int) (1:Int) (1:Int) (Ins.mk (0:Int) (0:Int) [] [] []),
  RIns.mk (0:Int) (0:Int) (0:Int) (Ins.mk (1:Int) (0:Int) [(1:Int)] [(0:Int),(1:Int)] []),
  RIns.mk (0:Int) (0:Int) (0:Int) (Ins.mk (1:Int) (0:Int) [(0:Int)] [(1:Int),(0:Int)] []),RIns.mk (2:Int) (1:Int) (2:Int) (Ins.mk (0:Int) (0:Int) [] [] []),
  RIns.mk (1:Int) (1:Int) (1:Int) (Ins.mk (0:Int) (0:Int) [] [] []),RIns.mk (0:Int) (0:Int) (0:Int) (Ins.mk (1:Int) (0:Int) [(0:Int)] [(0:Int),(1:Int)] []),
  RIns.mk (1:Int) (1:Int) (2:Int) (Ins.mk (0:Int) (0:Int) [] [] []),RIns.mk (0:Int) (0:Int) (0:Int) (Ins.mk (1:Int) (0:Int) [(0:Int)] [(0:Int),(1:Int)] [])]&&
  (B8 (VFun.mk (2:Int) G2.code [(5:Int)] []) (2:Int)).1.slots==(2:Int)&&
  (B8 (VFun.mk (2:Int) G2.code [(5:Int)] []) (2:Int)).1.cells==(3:Int)&&
  (↑(List.length (B8 (VFun.mk (2:Int) G2.code [(5:Int)] []) (2:Int)).1.out):Int)==(1:Int);
 let e3:Int×Int:=
  aC7
  (RCode.mk (B8 (VFun.mk (2:Int) G2.code [(5:Int)] []) (2:Int)).1.params (B8 (VFun.mk (2:Int) G2.code [(5:Int)] []) (2:Int)).1.slots
  (B8 (VFun.mk (2:Int) G2.code [(5:Int)] []) (2:Int)).1.cells (B8 (VFun.mk (2:Int) G2.code [(5:Int)] []) (2:Int)).1.code
  (B8 (VFun.mk (2:Int) G2.code [(5:Int)] []) (2:Int)).1.out);
 let e4:RCode:=(B8 (VFun.mk (2:Int) G2.code [(5:Int)] []) (2:Int)).1;
 let e5:VFun:=VFun.mk (2:Int) G2.code [(5:Int)] [];
 let e6:RCode:=(B8 e5 (3:Int)).1;
  (L5 G2.code=true∧F3 G2.code=true∧List.length [(5:Int)]≤(8796093022200:Nat))∧
  (L5 G2.code=true∧F3 G2.code=true∧List.length [(5:Int)]≤(8796093022200:Nat))∧
  (L5 G2.code=true∧F3 G2.code=true∧List.length [(5:Int)]≤(8796093022200:Nat))∧
  ((-9223372036854775808:Int)≤e4.slots∧e4.slots<(9223372036854775808:Int)∧K7 e4.code=true∧List.length e4.out≤(17592186044400:Nat))∧
  (((L3 e5).2 !=(0:Int)||(M2 e5).2 !=(0:Int)||(B8 e5 (3:Int)).2 !=(0:Int)||(B8 e5 (2:Int)).2 !=(0:Int)||
  (B8 e5 (1:Int)).2 !=(9:Int)||
  (H2 (RCode.mk e4.params e4.slots e4.cells e4.code e4.out)).2 !=(0:Int)||
  B7 e5 !=(0:Int))=
  false→
  (-9223372036854775808:Int)≤e6.slots∧e6.slots<(9223372036854775808:Int)∧K7 e6.code=true∧List.length e6.out≤(17592186044400:Nat))∧
  (e1=true→(false,())=(true,()))∧
  (e1=false→
  (e2=true→(0:Int)≤(0:Int)∧(0:Int)<(↑(List.length e4.out):Int))∧
  (e2&&(false==false&&((↑(0:Nat):Int)==(0:Int)&&true))&&e3.1==(4:Int)&&e3.2==(1:Int)&&
  (decide (e0.params=(2:Int))&&U7 e0.code G2.code&&decide (e0.out=[(5:Int)])&&decide (e0.at_=[])),
  ())=
  (true,()))):=by kernel_rfl
theorem aG3:C6 prog RG 46 cIns:=E2 C0 (fun _=>noL) (by kernel_rfl) (by kernel_rfl) (by kernel_rfl) fun (a,b,()) _=>(cd8 a b).mpr (by intros;rfl)
theorem aG4:C6 prog RG 47 cLoadI:=E2 C0 (fun _=>noL) (by kernel_rfl) (by kernel_rfl) (by kernel_rfl) fun (a,b,()) _=>(bQ0 a b).mpr rfl
theorem au8:C6 prog RG 48 cStoreI:=E2 C0 (fun _=>noL) (by kernel_rfl) (by kernel_rfl) (by kernel_rfl) fun (a,b,()) _=>(bI1 a b).mpr rfl
theorem bc0:C6 prog RG 49 cDoI:=E2 (A6 aG3 C0) (fun _=>noL) (by kernel_rfl) (by kernel_rfl) (by kernel_rfl) fun (a,b,()) _=>(cd9 a b).mpr (by intros;rfl)
theorem aM1:C6 prog RG 50 cFour:=E2 (A6 aG3 C0) (fun _=>noL) (by kernel_rfl) (by kernel_rfl) (by kernel_rfl) fun () _=>ca3.mpr (by intros;rfl)
theorem bi4 {l m:List RIns} {k:Nat} (hl:k<l.length) (h:U6 l m k=true):U6 l m (k+1)=bP4 (l.getD k rins0) (m.getD k rins0):=by
 unfold U6 at h ⊢
 simp only [cf3,ch2] at h
 obtain ⟨h1,h2⟩:=h
 have hz:k<(l.zip m).length:=by rw [List.length_zip];omega
 rw [A4 hz (rins0,rins0),List.all_append,h2,decide_eq_true h1]
 simp only [Bool.true_and,List.all_cons,List.all_nil,Bool.and_true]
 have hg:(l.zip m).getD k (rins0,rins0)=(l.getD k rins0,m.getD k rins0):=by
  rw [cg4,cf2 hz,cg4,cg4,cf2 hl,cf2 (by omega)]
  simp [List.getElem_zip]
 rw [hg]
theorem bI2 {l m:List RIns} {k:Nat} (h:U6 l m k=false):aT2 l m=false:=by
 unfold aT2
 rw [Bool.eq_false_iff] at h ⊢
 intro h2
 refine h ?_
 unfold U6 at h2 ⊢
 simp only [cf3,ch2,ci0] at h2 ⊢
 refine ⟨h2.1,fun x hx=>h2.2 x ?_⟩
 rw [List.take_of_length_le (by rw [List.length_zip];omega)]
 exact List.mem_of_mem_take hx
theorem bc1 (x:Ins):(⟨x.op,x.n,x.to,x.from_,x.body⟩:Ins)=x:=by cases x;rfl
theorem ca4 (l m:List RIns):vc (EV [(57,cSameIns)]) (bZ5 l m) Go.Proofs.Tryd.f45 cSame (l,m,()):=by
 rw [ca2 l m]
 intro e0 e1 e2 hs _
 have hl:l.length≤140737488355328:=hs.len
 have hd:e0=rins0:=rfl
 clear_value e0
 subst hd
 dsimp only [e1,e2]
 simp only [true_and,and_true]
 refine ⟨⟨(U6 l m 0,0,()),?_,rfl,Int.le_refl _,by dsimp only;omega,rfl⟩,?_⟩
 ·dsimp only [U6]
  rw [List.take_zero,List.all_nil,Bool.and_true,Bool.eq_iff_iff]
  simp only [beq_iff_eq,ch2]
  omega
 rintro ⟨g,i,⟨⟩⟩ ⟨h0,h1,h2⟩
 dsimp only at h0 h1 h2 ⊢
 obtain ⟨k,rfl⟩:=cf6 h0
 simp only [cf4] at h2 ⊢
 subst h2
 refine ⟨fun h=>?_,fun h=>?_⟩
 ·simp only [cf3,ch2] at h
  obtain ⟨hg,hlt⟩:=h
  have hsucc:=bi4 (by omega) hg
  have hlm:l.length=m.length:=by
   unfold U6 at hg
   simp only [cf3,ch2] at hg
   exact hg.1
  have hm:(k:Int)<m.length:=by omega
  refine ⟨⟨h0,hlt⟩,⟨h0,hm⟩,fun _=>⟨h0,hlt⟩,fun _ _=>⟨h0,hlt⟩,fun _ _=>⟨h0,hm⟩,fun _ _=>⟨h0,hlt⟩,fun _ _ _=>⟨h0,hlt⟩,fun _ _ _=>⟨h0,hm⟩,fun _ _ _=>⟨h0,hlt⟩,fun _ _ _=>⟨h0,hm⟩,(bP4 (l.getD k rins0) (m.getD k rins0),((k+1:Nat):Int),()),by dsimp only [bP4];rw [bc1,bc1],B6 (by omega) hl,⟨by dsimp only;omega,by dsimp only;omega,?_⟩,by dsimp only;omega⟩
  dsimp only
  rw [cf4,hsucc]
 ·have key:U6 l m k=aT2 l m:=by
   cases hg:U6 l m k with
   |false=>exact (bI2 hg).symm
   |true=>
    rw [hg] at h
    simp only [Bool.true_and,decide_eq_false_iff_not] at h
    have hk:k=l.length:=by omega
    subst hk
    exact hg.symm
  rw [key]
theorem aM2:C6 prog RG 45 cSame:=E2 (A6 aQ3 C0) (fun p=>bZ5 p.1 p.2.1) (by kernel_rfl) (by kernel_rfl) (by kernel_rfl) fun (l,m,()) _=>ca4 l m
theorem aT3:C6 prog RG 14 cSlotted:=E2 (A6 aM1 (A6 ar2 (A6 aE6 (A6 aG0 (A6 aL4 (A6 bf9 (A6 U1 (A6 ak9 (A6 aG4 (A6 au8 (A6 bc0 (A6 aM2 (A6 av0 (A6 aQ4 C0)))))))))))))) (fun _=>noL) (by kernel_rfl) (by kernel_rfl) (by kernel_rfl) fun () _=>bw8.mpr (by
 refine ⟨by decide+kernel,by decide+kernel,by decide+kernel,by decide+kernel,fun _=>by decide+kernel,by decide+kernel,fun _=>⟨by decide+kernel,by decide+kernel⟩⟩)
def cLaw0:Con RU:=con [] [] [one] [.bool] [false] none fun _=>(true,())
def bI3:Nat→St RU→Ann RU:=fun n _=>match n with
 |0=>⟨[],[.slot 3],[i64],fun p=>0≤p.1∧p.1≤12,fun p=>12-p.1.toNat,[]⟩
 |_=>⟨[],[.slot 14],[i64],fun p=>0≤p.1∧p.1≤13,fun p=>13-p.1.toNat,[]⟩
def bI4 (g:VFun→Int→RCode×Int):Con RU:=con [(true,4),one] [i64,inss,ints,ints,i64] [(true,5),one] [i64,i64,i64,aH0,ao3,i64] [false,false,false,false,false,false] (some fun p=>L5 p.2.1=true∧F3 p.2.1=true∧p.2.2.1.length≤8796093022200) fun p=>
 ((g ⟨p.1,p.2.1,p.2.2.1,p.2.2.2.1⟩ p.2.2.2.2.1).1.params,(g ⟨p.1,p.2.1,p.2.2.1,p.2.2.2.1⟩ p.2.2.2.2.1).1.slots,(g ⟨p.1,p.2.1,p.2.2.1,p.2.2.2.1⟩ p.2.2.2.2.1).1.cells,(g ⟨p.1,p.2.1,p.2.2.1,p.2.2.2.1⟩ p.2.2.2.2.1).1.code,(g ⟨p.1,p.2.1,p.2.2.1,p.2.2.2.1⟩ p.2.2.2.2.1).1.out,(g ⟨p.1,p.2.1,p.2.2.1,p.2.2.2.1⟩ p.2.2.2.2.1).2,())
theorem bw9:bI4 B8=cAlloc:=rfl
def bR5 (g:RCode→VFun×Int):Con RU:=con [(true,5)] br2 [(true,4),one] [i64,inss,ints,ints,i64] [false,false,false,false,false] (some fun p=>-9223372036854775808≤p.2.1∧p.2.1<9223372036854775808∧K7 p.2.2.2.1=true∧p.2.2.2.2.1.length≤17592186044400) fun p=>
 ((g ⟨p.1,p.2.1,p.2.2.1,p.2.2.2.1,p.2.2.2.2.1⟩).1.params,(g ⟨p.1,p.2.1,p.2.2.1,p.2.2.2.1,p.2.2.2.2.1⟩).1.code,(g ⟨p.1,p.2.1,p.2.2.1,p.2.2.2.1,p.2.2.2.2.1⟩).1.out,(g ⟨p.1,p.2.1,p.2.2.1,p.2.2.2.1,p.2.2.2.2.1⟩).1.at_,(g ⟨p.1,p.2.1,p.2.2.1,p.2.2.2.1,p.2.2.2.2.1⟩).2,())
theorem bI5:bR5 H2=cBack:=rfl
theorem bQ1 (ga:VFun→Int→RCode×Int) (gb:RCode→VFun×Int):vc (EV [(46,cIns),(47,cLoadI),(48,cStoreI),(49,cDoI),(50,cFour),(45,cSame),(33,cLive),(29,cPress),(39,cPlain),(15,bI4 ga),(41,cCheck),(20,bR5 gb),(22,cValid),(14,cSlotted)]) bI3 Go.Proofs.Tryd.f12 cLaw0 ()=(
 let e0:List VFun:=
  [VFun.mk (-1:Int) [] [] [],VFun.mk (4001:Int) [] [] [],VFun.mk (0:Int) [Ins.mk (1:Int) (0:Int) [(4000:Int)] [] []] [] [],VFun.mk (0:Int) [] [(-1:Int)] [],
  VFun.mk (0:Int) [Ins.mk (1:Int) (0:Int) [(0:Int)] [] [],Ins.mk (1:Int) (0:Int) [(0:Int)] [] []] [] [],VFun.mk (1:Int) [Ins.mk (1:Int) (0:Int) [(0:Int)] [] []] [] [],
  VFun.mk (0:Int) [Ins.mk (0:Int) (0:Int) [(1:Int),(1:Int)] [] []] [] [],VFun.mk (0:Int) [Ins.mk (1:Int) (0:Int) [(0:Int)] [(0:Int)] []] [] [],
  VFun.mk (0:Int) [Ins.mk (1:Int) (0:Int) [(0:Int)] [(1:Int)] [],Ins.mk (1:Int) (0:Int) [(1:Int)] [] []] [] [],VFun.mk (1:Int) [] [(1:Int)] [],
  VFun.mk (-1:Int) (List.replicate (4001:Nat) (Ins.mk (0:Int) (0:Int) [] [] [])) [] [],
  VFun.mk (0:Int) [Ins.mk (1:Int) (0:Int) [(0:Int)] [(1:Int)] [],Ins.mk (1:Int) (0:Int) [(0:Int)] [] []] [] []];
 let e1:List RCode:=
  [RCode.mk (0:Int) (0:Int) (0:Int) [] [],RCode.mk (0:Int) (65:Int) (0:Int) [] [],RCode.mk (2:Int) (1:Int) (1:Int) [] [],
  RCode.mk (0:Int) (1:Int) (0:Int) [RIns.mk (3:Int) (0:Int) (0:Int) (Ins.mk (0:Int) (0:Int) [] [] [])] [],
  RCode.mk (0:Int) (1:Int) (1:Int) [RIns.mk (1:Int) (0:Int) (0:Int) (Ins.mk (0:Int) (0:Int) [] [] [])] [],
  RCode.mk (0:Int) (1:Int) (1:Int) [RIns.mk (2:Int) (0:Int) (0:Int) (Ins.mk (0:Int) (0:Int) [] [] [])] [],
  RCode.mk (0:Int) (1:Int) (1:Int) [RIns.mk (1:Int) (1:Int) (0:Int) (Ins.mk (0:Int) (0:Int) [] [] [])] [],
  RCode.mk (0:Int) (2:Int) (0:Int) [RIns.mk (0:Int) (0:Int) (0:Int) (Ins.mk (0:Int) (0:Int) [(1:Int),(1:Int)] [] [])] [],
  RCode.mk (0:Int) (1:Int) (0:Int) [RIns.mk (0:Int) (0:Int) (0:Int) (Ins.mk (1:Int) (0:Int) [(0:Int)] [(0:Int)] [])] [],
  RCode.mk (0:Int) (1:Int) (0:Int) [] [Place.mk false (0:Int)],RCode.mk (0:Int) (1:Int) (0:Int) [] [Place.mk true (0:Int)],
  RCode.mk (1:Int) (1:Int) (1:Int) [] [Place.mk true (0:Int)],RCode.mk (0:Int) (1:Int) (0:Int) (List.replicate (16001:Nat) (RIns.mk (0:Int) (0:Int) (0:Int) ins0)) []];
 let e2:Int:=
  (↑(List.length
  (ga
  (VFun.mk (2:Int) [Ins.mk (0:Int) (0:Int) [(2:Int),(3:Int)] [(1:Int),(1:Int)] [],Ins.mk (1:Int) (0:Int) [(4:Int)] [(0:Int)] []]
  [(3:Int),(0:Int),(4:Int),(2:Int)] [])
  (2:Int)).1.out):
  Int);
 let e3:Bool:=
  (↑(List.length
  (ga
  (VFun.mk (2:Int) [Ins.mk (0:Int) (0:Int) [(2:Int),(3:Int)] [(1:Int),(1:Int)] [],Ins.mk (1:Int) (0:Int) [(4:Int)] [(0:Int)] []]
  [(3:Int),(0:Int),(4:Int),(2:Int)] [])
  (2:Int)).1.code):
  Int)==
  (6:Int)&&
  aT2
  (ga
  (VFun.mk (2:Int) [Ins.mk (0:Int) (0:Int) [(2:Int),(3:Int)] [(1:Int),(1:Int)] [],Ins.mk (1:Int) (0:Int) [(4:Int)] [(0:Int)] []]
  [(3:Int),(0:Int),(4:Int),(2:Int)] [])
  (2:Int)).1.code
  [RIns.mk (1:Int) (0:Int) (1:Int) (Ins.mk (0:Int) (0:Int) [] [] []),
  RIns.mk (0:Int) (0:Int) (0:Int) (Ins.mk (0:Int) (0:Int) [(0:Int),(1:Int)] [(0:Int),(0:Int)] []),
  RIns.mk (2:Int) (1:Int) (2:Int) (Ins.mk (0:Int) (0:Int) [] [] []),RIns.mk (1:Int) (1:Int) (0:Int) (Ins.mk (0:Int) (0:Int) [] [] []),
  RIns.mk (2:Int) (0:Int) (3:Int) (Ins.mk (0:Int) (0:Int) [] [] []),RIns.mk (0:Int) (0:Int) (0:Int) (Ins.mk (1:Int) (0:Int) [(0:Int)] [(1:Int)] [])]&&
  e2==(4:Int)&&
  ((List.getD
  (ga
  (VFun.mk (2:Int) [Ins.mk (0:Int) (0:Int) [(2:Int),(3:Int)] [(1:Int),(1:Int)] [],Ins.mk (1:Int) (0:Int) [(4:Int)] [(0:Int)] []]
  [(3:Int),(0:Int),(4:Int),(2:Int)] [])
  (2:Int)).1.out
  (0:Nat) (Place.mk false (0:Int))).cell==
  true&&
  ((List.getD
  (ga
  (VFun.mk (2:Int) [Ins.mk (0:Int) (0:Int) [(2:Int),(3:Int)] [(1:Int),(1:Int)] [],Ins.mk (1:Int) (0:Int) [(4:Int)] [(0:Int)] []]
  [(3:Int),(0:Int),(4:Int),(2:Int)] [])
  (2:Int)).1.out
  (0:Nat) (Place.mk false (0:Int))).n==
  (2:Int)&&
  true))&&
  ((List.getD
  (ga
  (VFun.mk (2:Int) [Ins.mk (0:Int) (0:Int) [(2:Int),(3:Int)] [(1:Int),(1:Int)] [],Ins.mk (1:Int) (0:Int) [(4:Int)] [(0:Int)] []]
  [(3:Int),(0:Int),(4:Int),(2:Int)] [])
  (2:Int)).1.out
  (1:Nat) (Place.mk false (0:Int))).cell==
  false&&
  ((List.getD
  (ga
  (VFun.mk (2:Int) [Ins.mk (0:Int) (0:Int) [(2:Int),(3:Int)] [(1:Int),(1:Int)] [],Ins.mk (1:Int) (0:Int) [(4:Int)] [(0:Int)] []]
  [(3:Int),(0:Int),(4:Int),(2:Int)] [])
  (2:Int)).1.out
  (1:Nat) (Place.mk false (0:Int))).n==
  (1:Int)&&
  true));
 let e4:Bool:=
  (gb (RCode.mk (0:Int) (1:Int) (0:Int) (List.replicate (4001:Nat) (RIns.mk (0:Int) (0:Int) (0:Int) ins0)) [])).2 !=(9:Int)||
  (ga (VFun.mk (2:Int) G2.code [(5:Int)] []) (0:Int)).2 !=(2:Int)||
  (ga (VFun.mk (2:Int) G2.code [(5:Int)] []) (65:Int)).2 !=(2:Int)||
  (ga
  (VFun.mk (2:Int) [Ins.mk (0:Int) (0:Int) [(2:Int),(3:Int)] [(1:Int),(1:Int)] [],Ins.mk (1:Int) (0:Int) [(4:Int)] [(0:Int)] []]
  [(3:Int),(0:Int),(4:Int),(2:Int)] [])
  (2:Int)).2 !=
  (0:Int)||
  (ga (VFun.mk (1:Int) [] [(0:Int),(0:Int)] []) (1:Int)).2 !=(0:Int)||
  (↑(List.length (ga (VFun.mk (1:Int) [] [(0:Int),(0:Int)] []) (1:Int)).1.code):Int) !=(0:Int)||
  (↑(List.length (ga (VFun.mk (1:Int) [] [(0:Int),(0:Int)] []) (1:Int)).1.out):Int) !=(2:Int)||
  !((List.getD (ga (VFun.mk (1:Int) [] [(0:Int),(0:Int)] []) (1:Int)).1.out (1:Nat) (Place.mk false (0:Int))).cell==true&&
  ((List.getD (ga (VFun.mk (1:Int) [] [(0:Int),(0:Int)] []) (1:Int)).1.out (1:Nat) (Place.mk false (0:Int))).n==(0:Int)&&true));
 let e5:Bool:=
  (↑(List.length
  (ga
  (VFun.mk (2:Int) [Ins.mk (0:Int) (0:Int) [(2:Int),(3:Int)] [(1:Int),(1:Int)] [],Ins.mk (1:Int) (0:Int) [(4:Int)] [(0:Int)] []]
  [(3:Int),(0:Int),(4:Int),(2:Int)] [])
  (2:Int)).1.code):
  Int)==
  (6:Int)&&
  aT2
  (ga
  (VFun.mk (2:Int) [Ins.mk (0:Int) (0:Int) [(2:Int),(3:Int)] [(1:Int),(1:Int)] [],Ins.mk (1:Int) (0:Int) [(4:Int)] [(0:Int)] []]
  [(3:Int),(0:Int),(4:Int),(2:Int)] [])
  (2:Int)).1.code
  [RIns.mk (1:Int) (0:Int) (1:Int) (Ins.mk (0:Int) (0:Int) [] [] []),
  RIns.mk (0:Int) (0:Int) (0:Int) (Ins.mk (0:Int) (0:Int) [(0:Int),(1:Int)] [(0:Int),(0:Int)] []),
  RIns.mk (2:Int) (1:Int) (2:Int) (Ins.mk (0:Int) (0:Int) [] [] []),RIns.mk (1:Int) (1:Int) (0:Int) (Ins.mk (0:Int) (0:Int) [] [] []),
  RIns.mk (2:Int) (0:Int) (3:Int) (Ins.mk (0:Int) (0:Int) [] [] []),RIns.mk (0:Int) (0:Int) (0:Int) (Ins.mk (1:Int) (0:Int) [(0:Int)] [(1:Int)] [])]&&
  e2==(4:Int);
 let e6:Bool:=
  e3&&
  ((List.getD
  (ga
  (VFun.mk (2:Int) [Ins.mk (0:Int) (0:Int) [(2:Int),(3:Int)] [(1:Int),(1:Int)] [],Ins.mk (1:Int) (0:Int) [(4:Int)] [(0:Int)] []]
  [(3:Int),(0:Int),(4:Int),(2:Int)] [])
  (2:Int)).1.out
  (2:Nat) (Place.mk false (0:Int))).cell==
  false&&
  ((List.getD
  (ga
  (VFun.mk (2:Int) [Ins.mk (0:Int) (0:Int) [(2:Int),(3:Int)] [(1:Int),(1:Int)] [],Ins.mk (1:Int) (0:Int) [(4:Int)] [(0:Int)] []]
  [(3:Int),(0:Int),(4:Int),(2:Int)] [])
  (2:Int)).1.out
  (2:Nat) (Place.mk false (0:Int))).n==
  (0:Int)&&
  true));
 let e7:List Int:=[(2:Int),(2:Int),(2:Int),(2:Int),(4:Int),(4:Int),(2:Int),(5:Int),(4:Int),(4:Int),(2:Int),(0:Int),(3:Int)];
 let e8:List Int:=[(2:Int),(2:Int),(2:Int),(2:Int),(5:Int),(5:Int),(5:Int),(4:Int),(4:Int),(4:Int),(3:Int),(5:Int)];
 let e9:List Ins:=[Ins.mk (0:Int) (0:Int) [(2:Int),(3:Int)] [(1:Int),(1:Int)] [],Ins.mk (1:Int) (0:Int) [(4:Int)] [(0:Int)] []];
 let e10:List Ins:=[Ins.mk (1:Int) (0:Int) [(0:Int)] [] []];
 let e11:Ins:=Ins.mk (0:Int) (0:Int) [] [] [];
 let e12:Place:=List.getD (ga (VFun.mk (2:Int) e9 [(3:Int),(0:Int),(4:Int),(2:Int)] []) (2:Int)).1.out (3:Nat) (Place.mk false (0:Int));
 let e13:Place:=List.getD (ga (VFun.mk (2:Int) e9 [(3:Int),(0:Int),(4:Int),(2:Int)] []) (2:Int)).1.out (0:Nat) (Place.mk false (0:Int));
 let e14:List Ins:=[Ins.mk (1:Int) (0:Int) [(0:Int)] [(1:Int)] [],Ins.mk (1:Int) (0:Int) [(1:Int)] [] []];
 let e15:List Int:=[(0:Int)];
 let e16:List RIns:=[RIns.mk (0:Int) (0:Int) (0:Int) (Ins.mk (0:Int) (0:Int) [(1:Int),(1:Int)] [] [])];
 let e17:List RIns:=[RIns.mk (0:Int) (0:Int) (0:Int) (Ins.mk (1:Int) (0:Int) e15 e15 [])];
 let e18:List Ins:=[Ins.mk (0:Int) (0:Int) [(1:Int),(1:Int)] [] []];
 let e19:Int:=(↑(List.length (ga (VFun.mk (1:Int) [] ((0:Int)::e15) []) (1:Int)).1.out):Int);
 let e20:List Int:=[(3:Int),(0:Int),(4:Int),(2:Int)];
 let e21:List Ins:=[Ins.mk (1:Int) (0:Int) [(4000:Int)] [] []];
 let e22:List Int:=[(1:Int)];
 let e23:List RIns:=List.replicate (4001:Nat) (RIns.mk (0:Int) (0:Int) (0:Int) ins0);
 let e24:RCode×Int:=ga (VFun.mk (1:Int) [] ((0:Int)::e15) []) (1:Int);
 let e25:List RIns:=List.replicate (16001:Nat) (RIns.mk (0:Int) (0:Int) (0:Int) ins0);
 let e26:List RIns:=[RIns.mk (1:Int) (1:Int) (0:Int) e11];
 let e27:List RIns:=[RIns.mk (2:Int) (0:Int) (0:Int) e11];
 let e28:List RIns:=[RIns.mk (1:Int) (0:Int) (0:Int) e11];
 let e29:List RIns:=[RIns.mk (3:Int) (0:Int) (0:Int) e11];
 let e30:List Ins:=Ins.mk (1:Int) (0:Int) e15 [] []::e10;
 let e31:List Ins:=[Ins.mk (1:Int) (0:Int) e15 e15 []];
 let e32:VFun:=VFun.mk (2:Int) G2.code [(5:Int)] [];
 let e33:List Ins:=Ins.mk (1:Int) (0:Int) e15 e22 []::e10;
 let e34:Int:=(↑(List.length e0):Int);
 let e35:Int:=(↑(140737488355328:Nat):Int);
  ((0:Int)≤(4001:Int)∧(4001:Int)*(↑(88:Nat):Int)≤e35)∧
  (∃ (p:Int×Unit),
  (0:Int)=p.1∧
  e21=e21∧
  [(-1:Int)]=[(-1:Int)]∧
  e30=e30∧
  e10=e10∧
  (1:Int)::e22=(1:Int)::e22∧
  e18=e18∧
  e15=e15∧
  e31=e31∧
  e22=e22∧
  e14=e14∧
  e22=e22∧List.replicate (4001:Nat) e11=List.replicate (4001:Nat) e11∧e22=e22∧e33=e33∧e0=e0∧e8=e8∧(0:Int)≤p.1∧p.1≤(12:Int))∧
  ∀ (p:Int×Unit),
 let e0_1:Bool:=
  B7
  (VFun.mk (List.getD e0 (Int.toNat p.1) (VFun.mk (0:Int) [] [] [])).params (List.getD e0 (Int.toNat p.1) (VFun.mk (0:Int) [] [] [])).code
  (List.getD e0 (Int.toNat p.1) (VFun.mk (0:Int) [] [] [])).out (List.getD e0 (Int.toNat p.1) (VFun.mk (0:Int) [] [] [])).at_) !=
  List.getD e8 (Int.toNat p.1) (0:Int)||
  (L3
  (VFun.mk (List.getD e0 (Int.toNat p.1) (VFun.mk (0:Int) [] [] [])).params (List.getD e0 (Int.toNat p.1) (VFun.mk (0:Int) [] [] [])).code
  (List.getD e0 (Int.toNat p.1) (VFun.mk (0:Int) [] [] [])).out (List.getD e0 (Int.toNat p.1) (VFun.mk (0:Int) [] [] [])).at_)).2 !=
  List.getD e8 (Int.toNat p.1) (0:Int)||
  (M2
  (VFun.mk (List.getD e0 (Int.toNat p.1) (VFun.mk (0:Int) [] [] [])).params (List.getD e0 (Int.toNat p.1) (VFun.mk (0:Int) [] [] [])).code
  (List.getD e0 (Int.toNat p.1) (VFun.mk (0:Int) [] [] [])).out (List.getD e0 (Int.toNat p.1) (VFun.mk (0:Int) [] [] [])).at_)).2 !=
  List.getD e8 (Int.toNat p.1) (0:Int)||
  (I8
  (VFun.mk (List.getD e0 (Int.toNat p.1) (VFun.mk (0:Int) [] [] [])).params (List.getD e0 (Int.toNat p.1) (VFun.mk (0:Int) [] [] [])).code
  (List.getD e0 (Int.toNat p.1) (VFun.mk (0:Int) [] [] [])).out (List.getD e0 (Int.toNat p.1) (VFun.mk (0:Int) [] [] [])).at_)).2 !=
  List.getD e8 (Int.toNat p.1) (0:Int);
 let e1_1:VFun:=
  VFun.mk (List.getD e0 (Int.toNat p.1) (VFun.mk (0:Int) [] [] [])).params (List.getD e0 (Int.toNat p.1) (VFun.mk (0:Int) [] [] [])).code
  (List.getD e0 (Int.toNat p.1) (VFun.mk (0:Int) [] [] [])).out (List.getD e0 (Int.toNat p.1) (VFun.mk (0:Int) [] [] [])).at_;
 let e2_1:Bool:=decide (p.1<e34);
 let e3_1:Bool:=B7 e1_1 !=List.getD e8 (Int.toNat p.1) (0:Int)||(L3 e1_1).2 !=List.getD e8 (Int.toNat p.1) (0:Int);
 let e4_1:Bool:=e0_1||(ga e1_1 (0:Int)).2 !=List.getD e8 (Int.toNat p.1) (0:Int);
 let e5_1:Nat:=List.length (List.getD e0 (Int.toNat p.1) (VFun.mk (0:Int) [] [] [])).out;
 let e6_1:List Ins:=(List.getD e0 (Int.toNat p.1) (VFun.mk (0:Int) [] [] [])).code;
  (0:Int)≤p.1∧p.1≤(12:Int)→
  (e2_1=true→
  ((0:Int)≤p.1∧p.1<e34)∧
  ((0:Int)≤p.1∧p.1<e34)∧
  ((0:Int)≤p.1∧p.1<e34)∧
  (F3 e6_1=true∧e5_1≤(17592186044416:Nat))∧
  ((0:Int)≤p.1∧p.1<e34)∧
  (L5 e6_1=true∧F3 e6_1=true∧e5_1≤(8796093022200:Nat))∧
  ((0:Int)≤p.1∧p.1<e34)∧
  ((0:Int)≤p.1∧p.1<(↑(List.length e8):Int))∧
  ((B7 e1_1 !=List.getD e8 (Int.toNat p.1) (0:Int))=false→(0:Int)≤p.1∧p.1<(↑(List.length e8):Int))∧
  (e3_1=false→(0:Int)≤p.1∧p.1<(↑(List.length e8):Int))∧
  ((e3_1||(M2 e1_1).2 !=List.getD e8 (Int.toNat p.1) (0:Int))=false→(0:Int)≤p.1∧p.1<(↑(List.length e8):Int))∧
  (e0_1=false→(0:Int)≤p.1∧p.1<(↑(List.length e8):Int))∧
  (e4_1=true→(false,())=(true,()))∧
  (e4_1=false→
  ∃ (p':Int×Unit),
  IntKind.i64.wrap (p.1+(1:Int))=p'.1∧
  e21=e21∧
  [(-1:Int)]=[(-1:Int)]∧
  e30=e30∧
  e10=e10∧
  (1:Int)::e22=(1:Int)::e22∧
  e18=e18∧
  e15=e15∧
  e31=e31∧
  e22=e22∧
  e14=e14∧
  e22=e22∧
  List.replicate (4001:Nat) e11=List.replicate (4001:Nat) e11∧
  e22=e22∧
  e33=e33∧
  e0=e0∧
  e8=e8∧((0:Int)≤p'.1∧p'.1≤(12:Int))∧(12:Nat)-Int.toNat p'.1<(12:Nat)-Int.toNat p.1))∧
  (e2_1=false→
  ((0:Int)≤(16001:Int)∧(16001:Int)*(↑(112:Nat):Int)≤e35)∧
  (∃ (p_1:Int×Unit),
  p.1=p.1∧
  e2_1=e2_1∧
  (0:Int)=p_1.1∧
  e21=e21∧
  [(-1:Int)]=[(-1:Int)]∧
  e30=e30∧
  e10=e10∧
  (1:Int)::e22=(1:Int)::e22∧
  e18=e18∧
  e15=e15∧
  e31=e31∧
  e22=e22∧
  e14=e14∧
  e22=e22∧
  List.replicate (4001:Nat) e11=List.replicate (4001:Nat) e11∧
  e22=e22∧
  e33=e33∧
  e0=e0∧
  e8=e8∧
  e29=e29∧
  e28=e28∧
  e27=e27∧
  e26=e26∧
  (1:Int)::e22=(1:Int)::e22∧
  e16=e16∧
  e15=e15∧
  e17=e17∧
  [Place.mk false (0:Int)]=[Place.mk false (0:Int)]∧
  [Place.mk true (0:Int)]=[Place.mk true (0:Int)]∧
  [Place.mk true (0:Int)]=[Place.mk true (0:Int)]∧
  e25=e25∧e1=e1∧e7=e7∧(0:Int)≤p_1.1∧p_1.1≤(13:Int))∧
  ∀ (p_1:Int×Unit),
 let e0_2:Bool:=
  H4
  (RCode.mk (List.getD e1 (Int.toNat p_1.1) (RCode.mk (0:Int) (0:Int) (0:Int) [] [])).params
  (List.getD e1 (Int.toNat p_1.1) (RCode.mk (0:Int) (0:Int) (0:Int) [] [])).slots
  (List.getD e1 (Int.toNat p_1.1) (RCode.mk (0:Int) (0:Int) (0:Int) [] [])).cells
  (List.getD e1 (Int.toNat p_1.1) (RCode.mk (0:Int) (0:Int) (0:Int) [] [])).code
  (List.getD e1 (Int.toNat p_1.1) (RCode.mk (0:Int) (0:Int) (0:Int) [] [])).out) !=
  List.getD e7 (Int.toNat p_1.1) (0:Int)||
  (gb
  (RCode.mk (List.getD e1 (Int.toNat p_1.1) (RCode.mk (0:Int) (0:Int) (0:Int) [] [])).params
  (List.getD e1 (Int.toNat p_1.1) (RCode.mk (0:Int) (0:Int) (0:Int) [] [])).slots
  (List.getD e1 (Int.toNat p_1.1) (RCode.mk (0:Int) (0:Int) (0:Int) [] [])).cells
  (List.getD e1 (Int.toNat p_1.1) (RCode.mk (0:Int) (0:Int) (0:Int) [] [])).code
  (List.getD e1 (Int.toNat p_1.1) (RCode.mk (0:Int) (0:Int) (0:Int) [] [])).out)).2 !=
  List.getD e7 (Int.toNat p_1.1) (0:Int);
 let e1_2:RCode:=List.getD e1 (Int.toNat p_1.1) (RCode.mk (0:Int) (0:Int) (0:Int) [] []);
 let e2_2:Bool:=decide (p_1.1<(↑(List.length e1):Int));
  (0:Int)≤p_1.1∧p_1.1≤(13:Int)→
  (e2_2=true→
  ((0:Int)≤p_1.1∧p_1.1<(↑(List.length e1):Int))∧
  ((-9223372036854775808:Int)≤e1_2.slots∧e1_2.slots<(9223372036854775808:Int)∧K7 e1_2.code=true∧List.length e1_2.out≤(17592186044400:Nat))∧
  ((0:Int)≤p_1.1∧p_1.1<(↑(List.length e1):Int))∧
  ((-9223372036854775808:Int)≤e1_2.slots∧e1_2.slots<(9223372036854775808:Int)∧K7 e1_2.code=true∧List.length e1_2.out≤(17592186044400:Nat))∧
  ((0:Int)≤p_1.1∧p_1.1<(↑(List.length e7):Int))∧
  ((H4 (RCode.mk e1_2.params e1_2.slots e1_2.cells e1_2.code e1_2.out) !=List.getD e7 (Int.toNat p_1.1) (0:Int))=false→
  (0:Int)≤p_1.1∧p_1.1<(↑(List.length e7):Int))∧
  (e0_2=true→(false,())=(true,()))∧
  (e0_2=false→
  ∃ (p':Int×Unit),
  p.1=p.1∧
  e2_1=e2_1∧
  IntKind.i64.wrap (p_1.1+(1:Int))=p'.1∧
  e21=e21∧
  [(-1:Int)]=[(-1:Int)]∧
  e30=e30∧
  e10=e10∧
  (1:Int)::e22=(1:Int)::e22∧
  e18=e18∧
  e15=e15∧
  e31=e31∧
  e22=e22∧
  e14=e14∧
  e22=e22∧
  List.replicate (4001:Nat) e11=List.replicate (4001:Nat) e11∧
  e22=e22∧
  e33=e33∧
  e0=e0∧
  e8=e8∧
  e29=e29∧
  e28=e28∧
  e27=e27∧
  e26=e26∧
  (1:Int)::e22=(1:Int)::e22∧
  e16=e16∧
  e15=e15∧
  e17=e17∧
  [Place.mk false (0:Int)]=[Place.mk false (0:Int)]∧
  [Place.mk true (0:Int)]=[Place.mk true (0:Int)]∧
  [Place.mk true (0:Int)]=[Place.mk true (0:Int)]∧
  e25=e25∧
  e1=e1∧
  e7=e7∧
  ((0:Int)≤p'.1∧p'.1≤(13:Int))∧
  (13:Nat)-Int.toNat p'.1<(13:Nat)-Int.toNat p_1.1))∧
  (e2_2=false→
  ((0:Int)≤(4001:Int)∧(4001:Int)*(↑(112:Nat):Int)≤e35)∧
  ((-9223372036854775808:Int)≤(1:Int)∧(1:Int)<(9223372036854775808:Int)∧K7 e23=true∧List.length ([]:List Int)≤(17592186044400:Nat))∧
  (L5 G2.code=true∧F3 G2.code=true∧List.length [(5:Int)]≤(8796093022200:Nat))∧
  (L5 G2.code=true∧F3 G2.code=true∧List.length [(5:Int)]≤(8796093022200:Nat))∧
  (L5 e9=true∧F3 e9=true∧List.length e20≤(8796093022200:Nat))∧
  (L5 []=true∧F3 []=true∧List.length ((0:Int)::e15)≤(8796093022200:Nat))∧
  (((gb (RCode.mk (0:Int) (1:Int) (0:Int) e23 [])).2 !=(9:Int)||(ga e32 (0:Int)).2 !=(2:Int)||(ga e32 (65:Int)).2 !=(2:Int)||
  (ga (VFun.mk (2:Int) e9 e20 []) (2:Int)).2 !=(0:Int)||
  e24.2 !=(0:Int)||
  (↑(List.length e24.1.code):Int) !=(0:Int)||
  e19 !=(2:Int))=
  false→
  (0:Int)≤(1:Int)∧(1:Int)<e19)∧
  (e4=true→(false,())=(true,()))∧
  (e4=false→
  (e5=true→(0:Int)≤(0:Int)∧(0:Int)<e2)∧
  ((e5&&(e13.cell==true&&(e13.n==(2:Int)&&true)))=true→(0:Int)≤(1:Int)∧(1:Int)<e2)∧
  (e3=true→(0:Int)≤(2:Int)∧(2:Int)<e2)∧
  (e6=true→(0:Int)≤(3:Int)∧(3:Int)<e2)∧((e6&&(e12.cell==true&&(e12.n==(3:Int)&&true))||false)&&true,())=(true,()))))):=by kernel_rfl
def iota (n:Nat):List Int:=(List.range n).map Int.ofNat
def toK (p count:Int) (k:Nat):Int:=p+((count+k)*7+5) % 97
def ce9 (p count:Int) (n:Nat):List Int:=(List.range n).map (toK p count)
abbrev BS:=List Ins×List Int×Int
structure BuiltOk (p:Int) (s:BS) (n:Nat):Prop where
 cnt:s.2.2=n
 wrs:wr s.1=ce9 p 0 n
 ther:s.2.1=iota p.toNat++wr s.1
 thr:E9 p [] s.1=true
 froms:∀ x∈s.1,x.from_.length≤3∧∀ y∈x.from_,y∈s.2.1
 tos:∀ x∈s.1,1≤x.to.length∧x.to.length≤2
 bod:∀ x∈s.1,x.body=[]
structure Made (a:Int) (b:List Ins) (c:List Int):Prop where
 chk:Checked a b c
 par:0≤a∧a≤3
 froms:∀ x∈b,x.from_.length≤3
 tos:∀ x∈b,1≤x.to.length∧x.to.length≤2
 bod:∀ x∈b,x.body=[]
 out:c.length≤2
 regs:∀ n∈wr b,n<100
theorem aG5:∀ {b:List Ins},(∀ x∈b,aQ0 x=true)→F3 b=true
 |[],_=>by simp [F3]
 |x::r,h=>by
  simp only [F3,cf3]
  exact ⟨h x (by simp),aG5 fun y hy=>h y (by simp [hy])⟩
def in1 (to:Int) (fr:List Int):Ins:=⟨1,0,[to],fr,[]⟩
def badL:List VFun:=[⟨-1,[],[],[]⟩,⟨4001,[],[],[]⟩,⟨0,[in1 4000 []],[],[]⟩,⟨0,[],[-1],[]⟩,⟨0,[in1 0 [],in1 0 []],[],[]⟩,⟨1,[in1 0 []],[],[]⟩,⟨0,[⟨0,0,[1,1],[],[]⟩],[],[]⟩,⟨0,[in1 0 [0]],[],[]⟩,⟨0,[in1 0 [1],in1 1 []],[],[]⟩,⟨1,[],[1],[]⟩,⟨-1,List.replicate 4001 ins0,[],[]⟩,⟨0,[in1 0 [1],in1 0 []],[],[]⟩]
def wantL:List Int:=[2,2,2,2,5,5,5,4,4,4,3,5]
def al0 (n:Nat):List RIns:=List.replicate n ⟨0,0,0,ins0⟩
def codesL:List RCode:=[⟨0,0,0,[],[]⟩,⟨0,65,0,[],[]⟩,⟨2,1,1,[],[]⟩,⟨0,1,0,[⟨3,0,0,ins0⟩],[]⟩,⟨0,1,1,[⟨1,0,0,ins0⟩],[]⟩,⟨0,1,1,[⟨2,0,0,ins0⟩],[]⟩,⟨0,1,1,[⟨1,1,0,ins0⟩],[]⟩,⟨0,2,0,[⟨0,0,0,⟨0,0,[1,1],[],[]⟩⟩],[]⟩,⟨0,1,0,[⟨0,0,0,in1 0 [0]⟩],[]⟩,⟨0,1,0,[],[⟨false,0⟩]⟩,⟨0,1,0,[],[⟨true,0⟩]⟩,⟨1,1,1,[],[⟨true,0⟩]⟩,⟨0,1,0,al0 16001,[]⟩]
def endsL:List Int:=[2,2,2,2,4,4,2,5,4,4,2,0,3]
theorem bI6 (n:Nat):F3 (List.replicate n ins0)=true∧L5 (List.replicate n ins0)=true:=by
 have h1:∀ x∈List.replicate n ins0,x=ins0:=fun x hx=>(List.mem_replicate.1 hx).2
 refine ⟨aG5 fun x hx=>by rw [h1 x hx];decide,?_⟩
 unfold L5
 rw [ci0]
 intro x hx
 rw [h1 x hx]
 decide
theorem bI7:∀ i,i<12→B7 (badL.getD i vfun0)=wantL.getD i 0:=by
 intro i hi
 have h:i=10∨i∈[0,1,2,3,4,5,6,7,8,9,11]:=by
  simp only [List.mem_cons,List.not_mem_nil,or_false]
  omega
 rcases h with rfl|h
 ·show B7 ⟨-1,List.replicate 4001 ins0,[],[]⟩=3
  unfold B7
  rw [if_pos (by dsimp only;rw [List.length_replicate];decide)]
 ·have hall:([0,1,2,3,4,5,6,7,8,9,11].all fun i=>decide (B7 (badL.getD i vfun0)=wantL.getD i 0))=true:=by decide+kernel
  simpa using ci0.1 hall i h
theorem ca5:∀ i,i<12→F3 (badL.getD i vfun0).code=true∧L5 (badL.getD i vfun0).code=true∧(badL.getD i vfun0).out.length≤1∧wantL.getD i 0≠0:=by
 intro i hi
 have h:i=10∨i∈[0,1,2,3,4,5,6,7,8,9,11]:=by
  simp only [List.mem_cons,List.not_mem_nil,or_false]
  omega
 rcases h with rfl|h
 ·exact ⟨(bI6 4001).1,(bI6 4001).2,by decide,by decide⟩
 ·have hall:([0,1,2,3,4,5,6,7,8,9,11].all fun i=>F3 (badL.getD i vfun0).code&&L5 (badL.getD i vfun0).code&&decide ((badL.getD i vfun0).out.length≤1)&&decide (wantL.getD i 0≠0))=true:=by decide+kernel
  have:=ci0.1 hall i h
  simp only [cf3,ch2] at this
  exact ⟨this.1.1.1,this.1.1.2,this.1.2,this.2⟩
theorem aT4:∀ (n:Nat) (m:Holds) (C:List Ins) (nx:Int),H8 (al0 n) (m,C,nx)=((m,C++List.replicate n ins0,nx),true)
 |0,m,C,nx=>by simp [al0,H8]
 |n+1,m,C,nx=>by
  have e:al0 (n+1)=⟨0,0,0,ins0⟩::al0 n:=rfl
  have hs:J1 (m,C,nx) ⟨0,0,0,ins0⟩=((m,C++[ins0],nx),true):=rfl
  rw [e]
  simp only [H8,hs,cond_true]
  rw [aT4 n,ch6]
  rfl
theorem bo1 (n:Nat):K7 (al0 n)=true:=by
 unfold K7
 rw [ci0]
 intro x hx
 rw [(List.mem_replicate.1 hx).2]
 decide
theorem aM3 (n:Nat):H4 ⟨0,1,0,al0 n,[]⟩=if 16000<n then 3 else 0:=by
 unfold H4
 have hl:(al0 n).length=n:=List.length_replicate
 dsimp only
 rw [hl]
 by_cases h:16000<n
 ·rw [if_pos h,if_pos h]
 ·have hsh:H7 ⟨0,1,0,al0 n,[]⟩=true:=by
   unfold H7
   have h1:(al0 n).all (ae4 1 0)=true:=by
    rw [ci0]
    intro x hx
    rw [(List.mem_replicate.1 hx).2]
    decide
   dsimp only
   rw [h1]
   rfl
  have hdi:((al0 n).all fun x=>x.kind !=0||D3 x.ins.to)=true:=by
   rw [ci0]
   intro x hx
   rw [(List.mem_replicate.1 hx).2]
   decide
  have hfo:(B9 ⟨0,1,0,al0 n,[]⟩).2=true:=by
   unfold B9 F6
   simp only [aT4,cond_true]
   rfl
  rw [if_neg h,if_neg h,if_neg (by rw [hsh];simp),if_neg (by rw [hdi];simp),if_neg (by rw [hfo];simp)]
theorem bI8:(H2 ⟨0,1,0,al0 4001,[]⟩).2=9:=by
 unfold H2
 rw [if_neg (by rw [aM3,if_neg (by decide)];simp),if_pos]
 right
 unfold B9 F6
 simp only [aT4,cond_true]
 show 4000<(([]:List Ins)++List.replicate 4001 ins0).length
 rw [ch1,List.length_replicate]
 decide
theorem bQ2:∀ i,i<13→H4 (codesL.getD i rcode0)=endsL.getD i 0∧(H2 (codesL.getD i rcode0)).2=endsL.getD i 0∧K7 (codesL.getD i rcode0).code=true∧(codesL.getD i rcode0).out.length≤1∧0≤(codesL.getD i rcode0).slots∧(codesL.getD i rcode0).slots≤65:=by
 intro i hi
 have h:i=12∨i∈[0,1,2,3,4,5,6,7,8,9,10,11]:=by
  simp only [List.mem_cons,List.not_mem_nil,or_false]
  omega
 rcases h with rfl|h
 ·have hv:H4 ⟨0,1,0,al0 16001,[]⟩=3:=by rw [aM3,if_pos (by decide)]
  refine ⟨hv,?_,bo1 _,by decide,by decide,by decide⟩
  show (H2 ⟨0,1,0,al0 16001,[]⟩).2=3
  unfold H2
  rw [if_pos (by rw [hv];simp),hv]
 ·have hall:([0,1,2,3,4,5,6,7,8,9,10,11].all fun i=>decide (H4 (codesL.getD i rcode0)=endsL.getD i 0)&&decide ((H2 (codesL.getD i rcode0)).2=endsL.getD i 0)&&K7 (codesL.getD i rcode0).code&&decide ((codesL.getD i rcode0).out.length≤1)&&decide (0≤(codesL.getD i rcode0).slots)&&decide ((codesL.getD i rcode0).slots≤65))=true:=by decide+kernel
  have:=ci0.1 hall i h
  simp only [cf3,ch2] at this
  exact ⟨this.1.1.1.1.1,this.1.1.1.1.2,this.1.1.1.2,this.1.1.2,this.1.2,this.2⟩
theorem al1:(B8 ⟨2,[⟨0,0,[2,3],[1,1],[]⟩,⟨1,0,[4],[0],[]⟩],[3,0,4,2],[]⟩ 2)=(⟨2,2,4,[⟨1,0,1,ins0⟩,⟨0,0,0,⟨0,0,[0,1],[0,0],[]⟩⟩,⟨2,1,2,ins0⟩,⟨1,1,0,ins0⟩,⟨2,0,3,ins0⟩,⟨0,0,0,⟨1,0,[0],[1],[]⟩⟩],[⟨true,2⟩,⟨false,1⟩,⟨false,0⟩,⟨true,3⟩]⟩,0):=by kernel_rfl
theorem bI9:(B8 ⟨1,[],[0,0],[]⟩ 1)=(⟨1,1,1,[],[⟨true,0⟩,⟨true,0⟩]⟩,0):=by kernel_rfl
theorem bQ3:(B8 ⟨2,G2.code,[5],[]⟩ 0).2=2:=by kernel_rfl
theorem bJ0:(B8 ⟨2,G2.code,[5],[]⟩ 65).2=2:=by kernel_rfl
theorem bQ4:vc (EV [(46,cIns),(47,cLoadI),(48,cStoreI),(49,cDoI),(50,cFour),(45,cSame),(33,cLive),(29,cPress),(39,cPlain),(15,cAlloc),(41,cCheck),(20,cBack),(22,cValid),(14,cSlotted)]) bI3 Go.Proofs.Tryd.f12 cLaw0 ():=by
 rw [←bw9,←bI5,bQ1]
 intro e0 e1 e2 e3 e4 e5 e6 e7 e8 e9 e10 e11 e12 e13 e14 e15 e16 e17 e18 e19 e20 e21 e22 e23 e24 e25 e26 e27 e28 e29 e30 e31 e32 e33 e34 e35
 have q4:e4=false:=by
  have hm:(H2 ⟨0,1,0,List.replicate 4001 ⟨0,0,0,ins0⟩,[]⟩).2=9:=bI8
  dsimp only [e4]
  rw [hm,bQ3,bJ0,al1,bI9]
  rfl
 have q19:e19=2:=by dsimp only [e19,e15];rw [bI9];rfl
 have q2:e2=4:=by dsimp only [e2];rw [al1];rfl
 have q5:e5=true:=by dsimp only [e5,e2];rw [al1];kernel_rfl
 have q3:e3=true:=by dsimp only [e3,e2];rw [al1];kernel_rfl
 have q6:e6=true:=by dsimp only [e6,e3,e2];rw [al1];kernel_rfl
 have q12:e12=⟨true,3⟩:=by dsimp only [e12,e9];rw [al1];rfl
 have q13:e13=⟨true,2⟩:=by dsimp only [e13,e9];rw [al1];rfl
 have q0:e0=badL:=rfl
 have q8:e8=wantL:=rfl
 have q1:e1=codesL:=rfl
 have q7:e7=endsL:=rfl
 have q34:e34=12:=rfl
 have q35:e35=140737488355328:=rfl
 have q9:F3 e9=true∧L5 e9=true:=⟨by kernel_rfl,by kernel_rfl⟩
 have q20:e20.length=4:=rfl
 have q15:((0:Int)::e15).length=2:=rfl
 have q23:K7 e23=true:=bo1 4001
 clear_value e0 e1 e7 e8 e34 e35 e4 e19 e2 e5 e3 e6 e12 e13 e9 e20 e15 e23
 subst q0 q8 q1 q7 q34 q35 q4 q19 q2 q5 q3 q6 q12 q13
 simp only [true_and,and_true]
 have hv0:(⟨0,[],[],[]⟩:VFun)=vfun0:=rfl
 have hr0:(⟨0,0,0,[],[]⟩:RCode)=rcode0:=rfl
 have hw:(wantL.length:Int)=12:=rfl
 have hc:(codesL.length:Int)=13:=rfl
 have he:(endsL.length:Int)=13:=rfl
 simp only [hv0,hr0,hw,hc,he]
 refine ⟨⟨by decide,by decide⟩,⟨(0,()),rfl,by decide,by decide⟩,?_⟩
 rintro ⟨i,⟨⟩⟩
 dsimp only
 rintro ⟨i0,i1⟩
 obtain ⟨i,rfl⟩:=cf6 i0
 simp only [cf4] at*
 refine ⟨fun h=>?_,fun h=>?_⟩
 ·have h:=cg0 h
  have hi:i<12:=by omega
  obtain ⟨p1,p2,p3,p4⟩:=ca5 i hi
  have hck:=bI7 i hi
  obtain ⟨f,hf⟩:∃ f,badL.getD i vfun0=f:=⟨_,rfl⟩
  obtain ⟨wn,hwn⟩:∃ wn,wantL.getD i 0=wn:=⟨_,rfl⟩
  simp only [hf,hwn] at*
  have hff:(⟨f.params,f.code,f.out,f.at_⟩:VFun)=f:=rfl
  have hlive:(L3 f).2=wn:=by unfold L3;rw [if_pos (by rw [hck];exact p4),hck]
  have hpress:(M2 f).2=wn:=by unfold M2;rw [if_pos (by rw [hck];exact p4),hck]
  have hplain:(I8 f).2=wn:=by unfold I8;rw [if_pos (by rw [hck];exact p4),hck]
  have halloc:(B8 f 0).2=wn:=by unfold B8;rw [if_pos (by rw [hck];exact p4),hck]
  simp only [hff,hck,hlive,hpress,hplain,halloc,bne_self_eq_false,Bool.or_false]
  have hb:(0:Int)≤i∧(i:Int)<12:=⟨by omega,by omega⟩
  refine ⟨hb,hb,hb,⟨p1,by omega⟩,hb,⟨p2,p1,by omega⟩,hb,hb,fun _=>hb,fun _=>hb,fun _=>hb,fun _=>hb,fun h=>(by cases h),fun _=>⟨((i+1:Nat),()),B6 (m:=12) hi (by omega),⟨by dsimp only;omega,by dsimp only;omega⟩,by dsimp only;omega⟩⟩
 ·refine ⟨⟨by decide,by decide⟩,⟨(0,()),rfl,by decide,by decide⟩,?_⟩
  rintro ⟨j,⟨⟩⟩
  dsimp only
  rintro ⟨j0,j1⟩
  obtain ⟨j,rfl⟩:=cf6 j0
  simp only [cf4] at*
  refine ⟨fun h=>?_,fun h=>?_⟩
  ·have h:=cg0 h
   have hj:j<13:=by omega
   obtain ⟨p1,p2,p3,p4,p5,p6⟩:=bQ2 j hj
   obtain ⟨c,hcd⟩:∃ c,codesL.getD j rcode0=c:=⟨_,rfl⟩
   obtain ⟨wn,hwn⟩:∃ wn,endsL.getD j 0=wn:=⟨_,rfl⟩
   simp only [hcd,hwn] at*
   have hff:(⟨c.params,c.slots,c.cells,c.code,c.out⟩:RCode)=c:=rfl
   simp only [hff,p1,p2,bne_self_eq_false,Bool.or_false]
   have hb:(0:Int)≤j∧(j:Int)<13:=⟨by omega,by omega⟩
   refine ⟨hb,⟨by omega,by omega,p3,by omega⟩,hb,⟨by omega,by omega,p3,by omega⟩,hb,fun _=>hb,fun h=>(by cases h),fun _=>⟨((j+1:Nat),()),B6 (m:=13) hj (by omega),⟨by dsimp only;omega,by dsimp only;omega⟩,by dsimp only;omega⟩⟩
  ·refine ⟨⟨by decide,by decide⟩,⟨by decide,by decide,q23,by decide⟩,⟨by kernel_rfl,by kernel_rfl,by decide⟩,⟨by kernel_rfl,by kernel_rfl,by decide⟩,⟨q9.2,q9.1,by omega⟩,⟨by kernel_rfl,by kernel_rfl,by omega⟩,fun _=>⟨by decide,by decide⟩,fun h=>(by cases h),fun _=>⟨fun _=>⟨by decide,by decide⟩,fun _=>⟨by decide,by decide⟩,fun _=>⟨by decide,by decide⟩,fun _=>⟨by decide,by decide⟩,rfl⟩⟩
set_option exponentiation.threshold 2000 in
theorem bJ1:C6 prog RG 12 cLaw0:=E2 (A6 aG3 (A6 aG4 (A6 au8 (A6 bc0 (A6 aM1 (A6 aM2 (A6 ar2 (A6 aE6 (A6 bh1 (A6 aG0 (A6 U1 (A6 aL4 (A6 ak9 (A6 aT3 C0)))))))))))))) (fun _=>bI3) (by kernel_rfl) (by kernel_rfl) (by kernel_rfl) fun () _=>bQ4
end Go.Rg
end
