/-
RegsSame: the card's statement, from the law's contract.
-/
import Derived.Test.YtknhkhdbonjhgaaDoorV5
import Derived.Test.YtknhkhdbonjhgaaDoorCards
import Derived.Test.YtknhkhdbonjhgaaDoorTie
import Derived.SevenTiedAt
set_option linter.unusedVariables false
set_option linter.unusedSimpArgs false
set_option maxRecDepth 100000
noncomputable section
section
namespace Go.Rg
open Go Go.VT
theorem cp7 (d:Int):IntKind.i64.wrap (1+IntKind.i64.wrap (Int.tdiv (G0 d 5) 4))=(toN d:Int):=by
 have h:=T8 (n:=d) (b:=5) (by omega)
 have h2:Int.tdiv (G0 d 5) 4=G0 d 5 / 4:=Int.tdiv_eq_ediv_of_nonneg h.1
 rw [h2,F8 (n:=G0 d 5 / 4) (by omega) (by omega),F8 (by omega) (by omega)]
 unfold toN
 omega
theorem cp8 {p n:Int} (hp:0≤p∧p<4) (h0:0≤n) (h1:n≤1000):IntKind.i64.wrap (p+Int.tmod (IntKind.i64.wrap (IntKind.i64.wrap (n*7)+5)) 97)=p+(n*7+5) % 97:=by
 rw [F8 (n:=n*7) (by omega) (by omega),F8 (n:=n*7+5) (by omega) (by omega),Int.tmod_eq_emod_of_nonneg (by omega),F8 (by omega) (by omega)]
theorem ck7 (there:List Int) (c:Int) {k:Nat} (hk:k≤4):X2 there (IntKind.i64.wrap (IntKind.i64.wrap (Int.tdiv c (IntKind.i64.wrap (1+IntKind.i64.wrap (5*(k:Int)))))+k))=bZ1 there c k:=by
 rw [F8 (n:=5*(k:Int)) (by omega) (by omega),F8 (n:=1+5*(k:Int)) (by omega) (by omega)]
 rfl
theorem bZ5 (l:List Int) (m:Int):vc (EV [(65,cTurn),(66,cNth)]) (bQ0 l m) Go.Proofs.Tryd.f25 cBuilt (l,m,()):=by
 rw [bZ4 l m]
 intro e0 e1 hs
 have hl:l.length≤140737488355328:=hs.len
 have he0:e0=parB l:=rfl
 have he1:e1=(l.length:Int):=rfl
 clear_value e0 e1
 subst he0 he1
 have hp:=aX6 l
 simp only [true_and,and_true]
 refine ⟨by omega,⟨(0,[],()),rfl,rfl,Int.le_refl _,hp.1,rfl⟩,?_⟩
 rintro ⟨r,th,⟨⟩⟩
 dsimp only
 rintro ⟨h0,h1,rfl⟩
 obtain ⟨k,rfl⟩:=cq5 h0
 simp only [cq3] at*
 refine ⟨fun hlt=>?_,fun hge=>?_⟩
 ·have hlt:=cq9 hlt
  refine ⟨by rw [aK2];simp;omega,((k+1:Nat),iota (k+1),()),B7 (m:=4) (by omega) (by omega),(bQ5 k).symm,⟨by dsimp only;omega,by dsimp only;omega,by dsimp only;rw [cq3]⟩,by dsimp only;omega⟩
 have hge:=cq8 hge
 have hk:(k:Int)=parB l:=by omega
 have hk2:iota k=(runB l 0).2.1:=by show _=iota (parB l).toNat;rw [←hk,cq3]
 refine ⟨⟨(0,1,iota k,[],()),rfl,rfl,rfl,rfl,0,rfl,by omega,fun i hi=>by omega,by rw [hk2];rfl⟩,?_⟩
 clear hge hk2
 rintro ⟨count,i,there,code,⟨⟩⟩
 dsimp only
 rintro ⟨j,rfl,hj,hgo,hrun⟩
 obtain ⟨h1',h2',h3',h4'⟩:=aX7 l j
 have hc:code=(runB l j).1:=congrArg (·.1) hrun
 have ht:there=(runB l j).2.1:=congrArg (·.2.1) hrun
 have hn:count=(runB l j).2.2:=congrArg (·.2.2) hrun
 clear hrun
 have hw3:IntKind.i64.wrap (4*(j:Int)+1+3)=((4*j+4:Nat):Int):=by rw [F8 (by omega) (by omega)];omega
 have hw2:IntKind.i64.wrap (4*(j:Int)+1+2)=((4*j+3:Nat):Int):=by rw [F8 (by omega) (by omega)];omega
 have hw1:IntKind.i64.wrap (4*(j:Int)+1+1)=((4*j+2:Nat):Int):=by rw [F8 (by omega) (by omega)];omega
 have hwn:(4*(j:Int)+1).toNat=4*j+1:=by omega
 have hlen:IntKind.i64.wrap ((there.length:Int)-1)=(there.length:Int)-1:=by rw [F8 (by rw [ht];omega) (by rw [ht];omega)]
 simp only [hw3,hw2,hw1,hwn,hlen,cq3]
 have hgj:(decide (((4*j+4:Nat):Int)<(l.length:Int))&&decide ((code.length:Int)<m)&&decide (count<90))=goB l m j:=by
  unfold goB
  rw [hc,h1',hn]
  congr 2
  simp only [decide_eq_decide]
  omega
 rw [hgj]
 refine ⟨fun hg=>?_,fun hg=>?_⟩
 ·have hg':(4*j+4<l.length∧(j:Int)<m)∧(runB l j).2.2<90:=by simpa [goB] using hg
  obtain ⟨⟨g1,g2⟩,g3⟩:=hg'
  have hb4:=T8 (n:=l.getD (4*j+2) 0) (b:=4) (by omega)
  refine ⟨⟨by omega,by omega⟩,by omega,⟨by omega,by omega⟩,by omega,⟨(0,[],()),rfl,rfl,Int.le_refl _,hb4.1,rfl,fun _=>rfl⟩,?_⟩
  rintro ⟨q,fr,⟨⟩⟩
  dsimp only
  rintro ⟨q0,q1,rfl,hq⟩
  obtain ⟨q,rfl⟩:=cq5 q0
  have q1:(q:Int)≤G0 (l.getD (4*j+2) 0) 4:=q1
  have hf:=ck7 there (l.getD (4*j+3) 0) (k:=q) (by omega)
  simp only [cq3,hf] at*
  refine ⟨⟨by omega,by omega⟩,by omega,fun h=>?_,fun h=>?_⟩
  ·simp only [cq2,cs4] at h
   refine ⟨⟨by omega,by omega⟩,by rw [F8 (n:=5*(q:Int)) (by omega) (by omega),F8 (by omega) (by omega)];omega,by rw [al4];simp;omega,((q+1:Nat),O1 there (l.getD (4*j+3) 0) (q+1),()),B7 (m:=4) (by omega) (by omega),(bh3 _ _ _).symm,⟨by dsimp only;omega,?_,by dsimp only;rw [cq3],fun hn=>?_⟩,by dsimp only;omega⟩
   ·show ((q+1:Nat):Int)≤G0 (l.getD (4*j+2) 0) 4
    omega
   ·rw [hn] at h;simp at h
  ·have hfr:O1 there (l.getD (4*j+3) 0) q=ah4 there (l.getD (4*j+2) 0) (l.getD (4*j+3) 0):=by
    unfold ah4
    simp only [Bool.and_eq_false_iff,decide_eq_false_iff_not] at h
    split
    ·rename_i hn
     have:=hq hn
     have:q=0:=by omega
     rw [this];rfl
    ·rename_i hn
     have hpos:0<there.length:=List.length_pos_iff.2 hn
     rw [show (G0 (l.getD (4*j+2) 0) 4).toNat=q from by omega]
   have hN:=bu8 (l.getD (4*j+4) 0)
   have hw:=cp7 (l.getD (4*j+4) 0)
   refine ⟨⟨(0,count,[],()),rfl,rfl,rfl,Int.le_refl _,by dsimp only;omega,(Int.add_zero _).symm,rfl⟩,?_⟩
   rintro ⟨u,n2,to,⟨⟩⟩
   dsimp only
   rintro ⟨u0,u1,rfl,rfl⟩
   obtain ⟨u,rfl⟩:=cq5 u0
   have u1:(u:Int)≤(toN (l.getD (4*j+4) 0):Int):=u1
   have hk:=cp8 hp (n:=count+(u:Int)) (by omega) (by omega)
   simp only [cq3,hw,hk] at*
   refine ⟨⟨by omega,by omega⟩,by omega,by omega,fun h=>?_,fun h=>?_⟩
   ·have h:=cq9 h
    refine ⟨by omega,by rw [Z5];simp;omega,((u+1:Nat),count+((u+1:Nat):Int),Q2 (parB l) count (u+1),()),B7 (m:=4) (by omega) (by omega),by rw [F8 (by omega) (by omega)];dsimp only;omega,(bE0 _ _ _).symm,⟨by dsimp only;omega,?_,rfl,by dsimp only;rw [cq3]⟩,by dsimp only;omega⟩
    show ((u+1:Nat):Int)≤(toN (l.getD (4*j+4) 0):Int)
    omega
   ·have h:=cq8 h
    have hu:u=toN (l.getD (4*j+4) 0):=by omega
    have hstep:runB l (j+1)=(code++[⟨G0 (l.getD (4*j+1) 0) 15,G0 (l.getD (4*j+1) 0) 12,Q2 (parB l) count u,O1 there (l.getD (4*j+3) 0) q,[]⟩],there++Q2 (parB l) count u,count+u):=by
     rw [hfr,hu,hc,ht,hn]
     rfl
    refine ⟨by rw [ht,Z5];omega,by rw [hc,h1'];simp;omega,(count+u,((4*(j+1)+1:Nat):Int),there++Q2 (parB l) count u,code++[⟨G0 (l.getD (4*j+1) 0) 15,G0 (l.getD (4*j+1) 0) 12,Q2 (parB l) count u,O1 there (l.getD (4*j+3) 0) q,[]⟩],()),rfl,by rw [F8 (by omega) (by omega)];dsimp only;omega,rfl,rfl,⟨j+1,by dsimp only;omega,by omega,fun i hi=>?_,hstep.symm⟩,by dsimp only;omega⟩
    rcases Nat.lt_succ_iff_lt_or_eq.1 hi with hi|rfl
    ·exact hgo i hi
    ·exact hg
 ·have hend:=ck6 hj hgo hg
  refine ⟨⟨(0,[],()),rfl,rfl,Int.le_refl _,by dsimp only;omega,by dsimp only;rfl⟩,?_⟩
  rintro ⟨q,o,⟨⟩⟩
  dsimp only
  rintro ⟨q0,q1,rfl⟩
  obtain ⟨q,rfl⟩:=cq5 q0
  simp only [cq3] at*
  refine ⟨fun h=>?_,fun h=>?_⟩
  ·simp only [cq2,cs4] at h
   have hne:there≠[]:=by rintro hh;rw [hh] at h;simp at h
   have ho:outB there=[X2 there (there.length-1),X2 there (there.length-3)]:=if_neg hne
   have hq:q=0∨q=1:=by omega
   rw [ho]
   rcases hq with rfl|rfl
   ·refine ⟨by show (0+1)*8≤140737488355328;omega,(1,[X2 there (there.length-1)],()),rfl,?_,⟨by dsimp only;omega,by dsimp only;omega,rfl⟩,by dsimp only;omega⟩
    show []++[X2 there _]=_
    rw [F8 (n:=2*((0:Nat):Int)) (by omega) (by omega),F8 (by rw [ht];omega) (by rw [ht];omega),show ((there.length:Int)-1-2*((0:Nat):Int))=there.length-1 from by omega]
    rfl
   ·refine ⟨by show (1+1)*8≤140737488355328;omega,(2,[X2 there (there.length-1),X2 there (there.length-3)],()),rfl,?_,⟨by dsimp only;omega,by dsimp only;omega,rfl⟩,by dsimp only;omega⟩
    show [X2 there _]++[X2 there _]=_
    rw [F8 (n:=2*((1:Nat):Int)) (by omega) (by omega),F8 (n:=(there.length:Int)-1-2*((1:Nat):Int)) (by rw [ht];omega) (by rw [ht];omega)]
    rw [show ((there.length:Int)-1-2*((1:Nat):Int))=there.length-3 from by omega]
    rfl
  ·have hou:(outB there).take q=outB there:=by
    simp only [Bool.and_eq_false_iff,decide_eq_false_iff_not] at h
    apply List.take_of_length_le
    unfold outB
    split
    ·exact Nat.zero_le _
    ·rename_i hn
     have hpos:0<there.length:=List.length_pos_iff.2 hn
     show 2≤q
     omega
   rw [hou,hc,ht]
   show _=(parB l,(runB l (endB l m)).1,outB (runB l (endB l m)).2.1,[],())
   rw [hend]
theorem bo4:D0 prog RG 25 cBuilt:=E4 (A6 av5 (A6 bQ4 B9)) (fun p=>bQ0 p.1 p.2.1) (by kernel_rfl) (by kernel_rfl) (by kernel_rfl) fun (l,m,()) _=>bZ5 l m
theorem bh4 (l:List Ins) (x:Ins):O2 (l++[x])=max (max (O2 l) ((C9 [] x.from_).length:Int)) (x.to.length:Int):=by simp [O2]
theorem aK3 {N:Int}:∀ (l:List Ins) (a:Int),1≤a∧a≤N→(∀ x∈l,(x.from_.length:Int)≤N∧(x.to.length:Int)≤N)→1≤l.foldl (fun k x=>max (max k ((C9 [] x.from_).length:Int)) (x.to.length:Int)) a∧l.foldl (fun k x=>max (max k ((C9 [] x.from_).length:Int)) (x.to.length:Int)) a≤N
 |[],a,h,_=>h
 |x::r,a,h,hx=>by
  have h2:=hx x (by simp)
  have h3:=ak8 [] x.from_
  simp only [List.length_nil,Nat.zero_add] at h3
  refine aK3 r _ ⟨?_,?_⟩ (fun y hy=>hx y (by simp [hy]))
  ·dsimp only;omega
  ·dsimp only;omega
theorem aQ2 {N:Int} (hN:1≤N) (l:List Ins) (h:∀ x∈l,(x.from_.length:Int)≤N∧(x.to.length:Int)≤N):1≤O2 l∧O2 l≤N:=aK3 l 1 ⟨Int.le_refl _,hN⟩ h
theorem bZ6 (a:Int) (b:List Ins) (c d:List Int) (n k:Int) (hp:S3 b=true∧k≤1000):vc (EV [(36,cReadsL),(65,cTurn)]) (bQ1 b) Go.Proofs.Tryd.f27 cSlots (a,b,c,d,n,k,()):=by
 rw [bZ3 a b c d n k]
 intro e0 hs _ _
 have hb:b.length≤140737488355328:=hs.len
 have hd:e0=ins0:=rfl
 clear_value e0
 subst hd
 simp only [true_and,and_true]
 obtain ⟨hp1,hp2⟩:=hp
 have hx:∀ x∈b,x.from_.length≤17592186044400∧x.to.length≤17592186044400:=by
  intro x hx
  unfold S3 at hp1
  have:=ct2.1 hp1 x hx
  simpa using this
 refine ⟨⟨(1,0,()),rfl,rfl,Int.le_refl _,by dsimp only;omega,rfl⟩,?_⟩
 rintro ⟨s,i,⟨⟩⟩
 dsimp only
 rintro ⟨h0,h1,rfl⟩
 obtain ⟨i,rfl⟩:=cq5 h0
 simp only [cq3] at*
 refine ⟨fun h=>?_,fun h=>?_⟩
 ·have h:=cq9 h
  have hi:i<b.length:=by omega
  refine ⟨⟨by omega,by omega⟩,(hx _ (H5 hi _)).1,⟨by omega,by omega⟩,(O2 (b.take (i+1)),((i+1:Nat):Int),()),?_,B7 (by omega) hb,⟨by dsimp only;omega,by dsimp only;omega,by dsimp only;rw [cq3]⟩,by dsimp only;omega⟩
  rw [A4 hi ins0,bh4]
 ·have h:=cq8 h
  refine ⟨by omega,?_⟩
  have hi:i=b.length:=by omega
  subst hi
  rw [ct0]
  have h5:=aQ2 (N:=17592186044400) (by omega) b (fun x hm=>by have:=hx x hm;omega)
  have h6:0≤G0 n k∧G0 n k≤1000:=by
   by_cases hk:k<1
   ·unfold G0;rw [if_pos hk];omega
   ·have:=T8 (n:=n) (b:=k) (by omega);omega
  rw [F8 (by omega) (by omega)]
  rfl
theorem bo5:D0 prog RG 27 cSlots:=E4 (A6 bh2 (A6 av5 B9)) (fun p=>bQ1 p.2.1) (by kernel_rfl) (by kernel_rfl) (by kernel_rfl) fun (a,b,c,d,n,k,()) hp=>bZ6 a b c d n k hp
theorem aK4 {l:List Int} (n:Int) (h:l≠[]):X2 l n∈l:=by
 have hp:0<l.length:=List.length_pos_iff.2 h
 unfold X2
 rw [if_neg h]
 have h1:=Int.emod_nonneg n (b:=(l.length:Int)) (by omega)
 have h2:=Int.emod_lt_of_pos n (b:=(l.length:Int)) (by omega)
 exact H5 (by omega) _
theorem bu9 {k:Nat} {x:Int}:x∈iota k↔0≤x∧x<k:=by
 simp only [iota,List.mem_map,List.mem_range]
 constructor
 ·rintro ⟨i,hi,rfl⟩
  simp only [Int.ofNat_eq_natCast]
  omega
 ·rintro ⟨h0,h1⟩
  exact ⟨x.toNat,by omega,by simp only [Int.ofNat_eq_natCast];omega⟩
theorem bQ6 {p:Int} {c:Int} {k:Nat} {x:Int} (hc:0≤c) (h:x∈Q2 p c k):p≤x∧x<p+97:=by
 simp only [Q2,List.mem_map,List.mem_range,toK] at h
 obtain ⟨i,hi,rfl⟩:=h
 omega
theorem bQ7 (p:Int) (c n:Nat):Q2 p 0 (c+n)=Q2 p 0 c++Q2 p (c:Int) n:=by
 simp only [Q2,List.range_add,List.map_append,List.map_map]
 congr 1
 apply List.map_congr_left
 intro k _
 simp only [Function.comp,toK]
 congr 3
 omega
theorem bo6 {p:Int} {n:Nat} (h:n≤97):(Q2 p 0 n).Nodup:=by
 unfold Q2
 unfold List.Nodup
 rw [List.pairwise_map]
 refine List.Pairwise.imp_of_mem (R:=fun a b=>a<b) ?_ List.pairwise_lt_range
 intro a b ha hb hab
 simp only [List.mem_range] at ha hb
 simp only [toK]
 omega
theorem bo7 (l:List Ins) (x:Ins):wr (l++[x])=wr l++x.to:=by simp [wr]
theorem bo8 {there:List Int} {b c x:Int} (h:x∈ah4 there b c):x∈there:=by
 unfold ah4 at h
 split at h
 ·simp at h
 ·rename_i hn
  simp only [O1,List.mem_map,bZ1] at h
  obtain ⟨k,_,rfl⟩:=h
  exact aK4 _ hn
theorem aL5 (there:List Int) (b c:Int):(ah4 there b c).length≤3:=by
 have:=T8 (n:=b) (b:=4) (by omega)
 unfold ah4
 split
 ·exact Nat.zero_le _
 ·rw [al4];omega
theorem bv0 {there:List Int} {x:Int} (h:x∈outB there):x∈there:=by
 unfold outB at h
 split at h
 ·simp at h
 ·rename_i hn
  simp only [List.mem_cons,List.not_mem_nil,or_false] at h
  rcases h with rfl|rfl
  ·exact aK4 _ hn
  ·exact aK4 _ hn
structure BuiltOk (p:Int) (s:BS) (n:Nat):Prop where
 cnt:s.2.2=n
 wrs:wr s.1=Q2 p 0 n
 ther:s.2.1=iota p.toNat++wr s.1
 thr:D8 p [] s.1=true
 froms:∀ x∈s.1,x.from_.length≤3∧∀ y∈x.from_,y∈s.2.1
 tos:∀ x∈s.1,1≤x.to.length∧x.to.length≤2
 bod:∀ x∈s.1,x.body=[]
theorem bv1 (l:List Int):∀ j,∃ n,BuiltOk (parB l) (runB l j) n
 |0=>⟨0,rfl,rfl,by show _=_++[];rw [List.append_nil];rfl,rfl,fun x hx=>by simp [runB] at hx,fun x hx=>by simp [runB] at hx,fun x hx=>by simp [runB] at hx⟩
 |j+1=>by
  obtain ⟨n,h⟩:=bv1 l j
  have hp:=aX6 l
  obtain ⟨s,hs⟩:∃ s,runB l j=s:=⟨_,rfl⟩
  rw [hs] at h
  obtain ⟨d,hd⟩:∃ d,toN (l.getD (4*j+1+3) 0)=d:=⟨_,rfl⟩
  have ht:=bu8 (l.getD (4*j+1+3) 0)
  have e:runB l (j+1)=bZ2 (parB l) l (4*j+1) s:=by show bZ2 _ _ _ (runB l j)=_;rw [hs]
  rw [e]
  unfold bZ2
  rw [hd] at*
  obtain ⟨fr,hfr⟩:∃ fr,ah4 s.2.1 (l.getD (4*j+1+1) 0) (l.getD (4*j+1+2) 0)=fr:=⟨_,rfl⟩
  have hfm:∀ y∈fr,y∈s.2.1:=fun y hy=>by rw [←hfr] at hy;exact bo8 hy
  have hfl:fr.length≤3:=by rw [←hfr];exact aL5 _ _ _
  rw [hfr]
  refine ⟨n+d,?_,?_,?_,?_,?_,?_,?_⟩
  ·show s.2.2+(d:Int)=_
   rw [h.cnt];omega
  ·show wr (s.1++[_])=_
   rw [bo7,h.wrs,bQ7,h.cnt]
  ·show s.2.1++_=_++wr (s.1++[_])
   rw [bo7,h.ther,cs8]
  ·show D8 _ _ (s.1++[_])=true
   rw [M3,h.thr]
   simp only [Bool.true_and,D8,Bool.and_true,List.nil_append,ct2,Bool.or_eq_true,cs4,List.contains_iff_mem]
   intro y hy
   have:=hfm y hy
   rw [h.ther,cs9] at this
   rcases this with hi|hw
   ·have:=bu9.1 hi;left;omega
   ·exact .inr hw
  ·intro x hx
   rcases cs9.1 hx with hx|hx
   ·exact ⟨(h.froms x hx).1,fun y hy=>cs9.2 (.inl ((h.froms x hx).2 y hy))⟩
   ·rw [cr0] at hx
    subst hx
    exact ⟨hfl,fun y hy=>cs9.2 (.inl (hfm y hy))⟩
  ·intro x hx
   rcases cs9.1 hx with hx|hx
   ·exact h.tos x hx
   ·rw [cr0] at hx
    subst hx
    show 1≤(Q2 _ _ d).length∧(Q2 _ _ d).length≤2
    rw [Z5];exact ht
  ·intro x hx
   rcases cs9.1 hx with hx|hx
   ·exact h.bod x hx
   ·rw [cr0] at hx
    subst hx
    rfl
theorem bQ8 (l:List Int) (m:Int):endB l m≤90∧∀ i,i<endB l m→goB l m i=true:=by
 unfold endB
 cases h:(List.range 91).find? fun j=>!goB l m j with
 |none=>exact ⟨by simp,fun i hi=>by simp at hi⟩
 |some j=>
  rw [List.find?_eq_some_iff_getElem] at h
  obtain ⟨_,k,hk,h1,h2⟩:=h
  simp only [List.length_range,List.getElem_range] at hk h1 h2
  subst h1
  refine ⟨by show k≤90;omega,fun i hi=>?_⟩
  have:=h2 i hi
  simpa using this
theorem ck8 {l:List Int} {m:Int} (hm:0≤m):(endB l m:Int)≤m:=by
 have h:=(bQ8 l m).2
 by_cases h0:endB l m=0
 ·omega
 ·have h1:=h (endB l m-1) (by omega)
  unfold goB at h1
  simp only [cq2,cs4] at h1
  omega
structure Made (a:Int) (b:List Ins) (c:List Int):Prop where
 chk:Checked a b c
 par:0≤a∧a≤3
 froms:∀ x∈b,x.from_.length≤3
 tos:∀ x∈b,1≤x.to.length∧x.to.length≤2
 bod:∀ x∈b,x.body=[]
 out:c.length≤2
 regs:∀ n∈wr b,n<100
theorem made (l:List Int) {m:Int} (hm:0≤m):Made (parB l) (B0 l m).code (B0 l m).out∧((B0 l m).code.length:Int)≤m:=by
 obtain ⟨n,h⟩:=bv1 l (endB l m)
 have hl:=aX7 l (endB l m)
 obtain ⟨hgo1,hgo2⟩:=bQ8 l m
 have hp:=aX6 l
 have hn:n≤91:=by
  have h1:=h.cnt
  by_cases h0:endB l m=0
  ·rw [h0] at h1
   have:(0:Int)=n:=h1
   omega
  ·obtain ⟨k,hk⟩:∃ k,endB l m=k+1:=⟨endB l m-1,by omega⟩
   have h2:=hgo2 k (by omega)
   unfold goB at h2
   simp only [cq2,cs4] at h2
   rw [hk] at h1
   have h3:(runB l k).2.2+(toN (l.getD (4*k+1+3) 0):Int)=n:=h1
   have:=bu8 (l.getD (4*k+1+3) 0)
   omega
 show Made (parB l) (runB l (endB l m)).1 (outB (runB l (endB l m)).2.1)∧((runB l (endB l m)).1.length:Int)≤m
 obtain ⟨s,hs⟩:∃ s,runB l (endB l m)=s:=⟨_,rfl⟩
 have hle:=ck8 (l:=l) hm
 rw [hs] at h hl ⊢
 have hwr:∀ x∈wr s.1,parB l≤x∧x<parB l+97:=fun x hx=>by rw [h.wrs] at hx;exact bQ6 (Int.le_refl _) hx
 have hth:∀ x∈s.2.1,(0≤x∧x<parB l)∨x∈wr s.1:=by
  intro x hx
  rw [h.ther,cs9] at hx
  rcases hx with hx|hx
  ·have:=bu9.1 hx;left;omega
  ·exact .inr hx
 have hreg:∀ x∈s.2.1,0≤x∧x≤3999:=by
  intro x hx
  rcases hth x hx with hx|hx
  ·omega
  ·have:=hwr x hx;omega
 refine ⟨⟨⟨by omega,hp.1,by omega,fun x hx=>hreg x (bv0 hx),?_,fun x hx y hy=>hreg y ((h.froms x hx).2 y hy),?_,fun x hx=>(hwr x hx).1,h.thr,?_⟩,by omega,fun x hx=>(h.froms x hx).1,h.tos,h.bod,?_,fun x hx=>by have:=hwr x hx;omega⟩,by omega⟩
 ·intro x hx y hy
  have:=hwr y (List.mem_flatMap.2 ⟨x,hx,hy⟩)
  omega
 ·rw [E3,h.wrs]
  exact bo6 (by omega)
 ·intro x hx
  rcases hth x (bv0 hx) with hx|hx
  ·left;omega
  ·exact .inr hx
 ·unfold outB
  split<;>simp
theorem aQ3 {a:Int} {b:List Ins} {c d:List Int} (h:Checked a b c):C0 ⟨a,b,c,d⟩=0:=by
 have e1:(lies a 0 4000&&c.all T5&&b.all fun x=>x.to.all T5&&x.from_.all T5)=true:=by
  simp only [cq2,ct2,ar7,lies,cs4]
  exact ⟨⟨⟨h.pos,h.few⟩,h.outR⟩,fun x hx=>⟨h.toR x hx,h.fromR x hx⟩⟩
 have e2:(D4 (wr b)&&(wr b).all fun n=>decide (a≤n))=true:=by
  simp only [cq2,ct2,cs4]
  exact ⟨h.once,h.new⟩
 have e3:(D8 a [] b&&c.all fun n=>decide (n<a)||(wr b).contains n)=true:=by
  simp only [cq2,ct2,cs4,Bool.or_eq_true,List.contains_iff_mem]
  exact ⟨h.there,h.outT⟩
 simp only [C0,e1,e2,e3,if_neg (Nat.not_lt.2 h.len)]
 rfl
theorem ah5 (sp:Spans) (rd:Reads) (N:Int) (m:Holds) (pl:Int) (st:List Int):∀ (l:List Nat) (acc:List Held),
  (∀ i acc',C6 sp rd N m pl st l acc=(some i,acc')→∃ s∈l,i=(s:Int)∧∀ r,mget eqP m ⟨false,(s:Int)⟩=some r→r∉st∧I4 (getS sp r).first (getS sp r).last pl=false)∧
  (∀ acc',C6 sp rd N m pl st l acc=(none,acc')→∀ x∈acc',x∈acc∨∃ s∈l,x.slot=(s:Int)∧mget eqP m ⟨false,(s:Int)⟩=some x.reg∧x.reg∉st)
 |[],acc=>by
  refine ⟨fun i acc' h=>?_,fun acc' h x hx=>?_⟩
  ·simp [C6] at h
  ·simp only [C6,cr1,true_and] at h
   subst h
   exact .inl hx
 |s::r,acc=>by
  refine ⟨fun i acc' h=>?_,fun acc' h x hx=>?_⟩
  ·simp only [C6] at h
   cases hm:mget eqP m ⟨false,(s:Int)⟩ with
   |none=>
    rw [hm] at h
    simp only [cr1,cp9] at h
    exact ⟨s,by simp,h.1.symm,fun r hr=>by rw [hm] at hr;cases hr⟩
   |some n=>
    rw [hm] at h
    simp only at h
    cases hc:st.contains n with
    |true=>
     rw [hc,cond_true] at h
     obtain ⟨s',h1,h2,h3⟩:=(ah5 sp rd N m pl st r acc).1 i acc' h
     exact ⟨s',by simp [h1],h2,h3⟩
    |false=>
     rw [hc,cond_false] at h
     have hns:n∉st:=fun hh=>by rw [List.contains_iff_mem.2 hh] at hc;cases hc
     cases hsp:I4 (getS sp n).first (getS sp n).last pl with
     |true=>
      rw [hsp,cond_true] at h
      obtain ⟨s',h1,h2,h3⟩:=(ah5 sp rd N m pl st r _).1 i acc' h
      exact ⟨s',by simp [h1],h2,h3⟩
     |false=>
      rw [hsp,cond_false] at h
      simp only [cr1,cp9] at h
      refine ⟨s,by simp,h.1.symm,fun r hr=>?_⟩
      rw [hm] at hr
      cases hr
      exact ⟨hns,hsp⟩
  ·simp only [C6] at h
   cases hm:mget eqP m ⟨false,(s:Int)⟩ with
   |none=>rw [hm] at h;simp at h
   |some n=>
    rw [hm] at h
    simp only at h
    cases hc:st.contains n with
    |true=>
     rw [hc,cond_true] at h
     rcases (ah5 sp rd N m pl st r acc).2 acc' h x hx with h1|⟨s',h1,h2⟩
     ·exact .inl h1
     ·exact .inr ⟨s',by simp [h1],h2⟩
    |false=>
     rw [hc,cond_false] at h
     have hns:n∉st:=fun hh=>by rw [List.contains_iff_mem.2 hh] at hc;cases hc
     cases hsp:I4 (getS sp n).first (getS sp n).last pl with
     |true=>
      rw [hsp,cond_true] at h
      rcases (ah5 sp rd N m pl st r _).2 acc' h x hx with h1|⟨s',h1,h2⟩
      ·rcases cs9.1 h1 with h1|h1
       ·exact .inl h1
       ·rw [cr0] at h1
        subst h1
        exact .inr ⟨s,by simp,rfl,hm,hns⟩
      ·exact .inr ⟨s',by simp [h1],h2⟩
     |false=>rw [hsp,cond_false] at h;simp at h
theorem bZ7 {l:List Held} (h:l≠[]):L3 l∈l:=by
 cases l with
 |nil=>exact absurd rfl h
 |cons x r=>
  show r.foldl I1 x∈x::r
  clear h
  induction r generalizing x with
  |nil=>simp
  |cons y r ih=>
   have h1:=ih (I1 x y)
   show r.foldl I1 (I1 x y)∈_
   have h2:I1 x y=x∨I1 x y=y:=by
    unfold I1
    cases ao0 y x
    ·exact .inl rfl
    ·exact .inr rfl
   rcases List.mem_cons.1 h1 with h1|h1
   ·rw [h1]
    rcases h2 with h2|h2<;>rw [h2]<;>simp
   ·simp [h1]
def goodI (ks cells:Int) (x:RIns):Prop:=aa0 ks cells x=true∧(x.kind≠0∨D4 x.ins.to=true)∧au4 x.ins=true
theorem O6 {n:Int} {l:List Int}:H2 n l=true↔∀ x∈l,0≤x∧x<n:=by simp [H2]
theorem goodI.mono {ks c c':Int} {x:RIns} (h:goodI ks c x) (hc:c≤c'):goodI ks c' x:=by
 obtain ⟨h1,h2⟩:=h
 refine ⟨?_,h2⟩
 unfold aa0 at h1 ⊢
 split at h1
 ·rename_i h0;rw [if_pos h0];exact h1
 ·rename_i h0
  rw [if_neg h0]
  split at h1
  ·rename_i h3
   rw [if_pos h3]
   simp only [cq2,O6,cr0,forall_eq] at h1 ⊢
   omega
  ·cases h1
structure Inv (Q6:SF) (T:List Int) (nm:Int→Int) (ks:Int) (S:AS) (m:Holds) (C:List Ins) (nx:Int):Prop where
 run:I6 S.code Q6=((m,C,nx),true)
 slot:∀ (q:Nat) (n:Int),q<ks.toNat→mget eqP S.holds ⟨false,(q:Int)⟩=some n→n∉T→mget eqP m ⟨false,(q:Int)⟩=some (nm n)
 cell:∀ n cl,mget eqI S.cells n=some cl→0≤cl∧cl<S.ocells∧mget eqP m ⟨true,cl⟩=some (nm n)
 good:∀ x∈S.code,goodI ks S.ocells x
 low:0≤S.ocells
theorem av6 {l:List RIns} {s s':SF} {x:RIns} (h:I6 l s=(s',true)):I6 (l++[x]) s=I5 s' x:=by
 rw [as1,h]
 exact bf5 _ _
theorem bv2 {sp:Spans} {rd:Reads} {ks N:Int} {S:AS} {pl:Int} {st T:List Int} {nm:Int→Int} {m:Holds} {C:List Ins} {nx:Int} {Q6:SF}
  (hT:∀ x∈T,x∈st) (hok:ag7 sp rd ks N S.holds pl st) (h:Inv Q6 T nm ks S m C nx):
  ∃ (q:Nat) (t:AS) (m':Holds),G4 sp rd ks N S pl st=((q:Int),t)∧q<ks.toNat∧t.holds=S.holds∧Inv Q6 T nm ks t m' C nx∧
   (∀ r,mget eqP S.holds ⟨false,(q:Int)⟩=some r→r∉st∧(I4 (getS sp r).first (getS sp r).last pl=false∨(mget eqI t.cells r).isSome=true))∧
   (∀ n cl,mget eqI S.cells n=some cl→mget eqI t.cells n=some cl)∧(∀ q:Int,mget eqP m' ⟨false,q⟩=mget eqP m ⟨false,q⟩):=by
 obtain ⟨o,hs,hsc⟩:∃ o hs,M0 sp rd ks N S.holds pl st=(o,hs):=⟨_,_,rfl⟩
 have hspec:=ah5 sp rd N S.holds pl st (List.range ks.toNat) []
 cases o with
 |some i=>
  obtain ⟨q,hq,rfl,hr⟩:=hspec.1 i hs hsc
  have hq:q<ks.toNat:=by simpa using hq
  refine ⟨q,S,m,by unfold G4;rw [hsc],hq,rfl,h,fun r hm=>⟨(hr r hm).1,.inl (hr r hm).2⟩,fun n cl hc=>hc,fun _=>rfl⟩
 |none=>
  have hne:hs≠[]:=by have:=hok (by rw [hsc]);rw [hsc] at this;exact this
  have hb:=hspec.2 hs hsc _ (bZ7 hne)
  rcases hb with hb|⟨q,hq,hbs,hbm,hbr⟩
  ·simp at hb
  have hq:q<ks.toNat:=by simpa using hq
  have hroom:G4 sp rd ks N S pl st=((q:Int),as4 S (L3 hs)):=by unfold G4;rw [hsc];simp only [hbs]
  obtain ⟨x,hx⟩:∃ x,L3 hs=x:=⟨_,rfl⟩
  rw [hx] at hbs hbm hbr hroom
  cases hcx:(mget eqI S.cells x.reg).isSome with
  |true=>
   have he:as4 S x=S:=by unfold as4;rw [hcx];rfl
   rw [he] at hroom
   exact ⟨q,S,m,hroom,hq,rfl,h,fun r hm=>by rw [hbm] at hm;cases hm;exact ⟨hbr,.inr hcx⟩,fun n cl hc=>hc,fun _=>rfl⟩
  |false=>
   have he:as4 S x=⟨S.holds,mput eqI S.cells x.reg S.ocells,S.ocells+1,S.code++[⟨2,x.slot,S.ocells,ins0⟩]⟩:=by unfold as4;rw [hcx];rfl
   rw [he,hbs] at hroom
   have hmq:=h.slot q x.reg hq hbm (fun hh=>hbr (hT _ hh))
   have hcn:mget eqI S.cells x.reg=none:=by cases hh:mget eqI S.cells x.reg with|none=>rfl|some _=>rw [hh] at hcx;cases hcx
   refine ⟨q,_,mput eqP m ⟨true,S.ocells⟩ (nm x.reg),hroom,hq,rfl,⟨?_,?_,?_,?_,?_⟩,?_,?_,fun q'=>by rw [H3,if_neg (by simp)]⟩
   ·rw [av6 h.run]
    show I5 (m,C,nx) _=_
    unfold I5
    have e1:((2:Int)==0)=false:=rfl
    have e2:((2:Int)==2)=true:=rfl
    simp only [e1,e2,cond_true,cond_false,hmq]
   ·intro q' n hq' hn hT'
    rw [H3,if_neg (by simp)]
    exact h.slot q' n hq' hn hT'
   ·intro n cl hc
    dsimp only at hc ⊢
    rw [I0] at hc
    rw [H3]
    by_cases hn:x.reg=n
    ·rw [if_pos hn] at hc
     cases hc
     rw [if_pos rfl,hn]
     exact ⟨h.low,by omega,rfl⟩
    ·rw [if_neg hn] at hc
     have:=h.cell n cl hc
     rw [if_neg (by simp only [Place.mk.injEq,true_and];omega)]
     exact ⟨this.1,by omega,this.2.2⟩
   ·intro y hy
    dsimp only at hy ⊢
    rcases cs9.1 hy with hy|hy
    ·exact (h.good y hy).mono (by omega)
    ·rw [cr0] at hy
     subst hy
     refine ⟨?_,.inl (by dsimp only;omega),show au4 ins0=true by decide⟩
     have:=h.low
     unfold aa0
     rw [if_neg (by dsimp only;omega),if_pos (.inr rfl)]
     simp only [cq2,O6,cr0,forall_eq]
     omega
   ·have:=h.low
    dsimp only
    omega
   ·intro r hm
    rw [hbm] at hm
    cases hm
    refine ⟨hbr,.inr ?_⟩
    dsimp only
    rw [I0,if_pos rfl]
    rfl
   ·intro n cl hc
    dsimp only
    rw [I0]
    by_cases hn:x.reg=n
    ·rw [hn,hc] at hcn;cases hcn
    ·rw [if_neg hn];exact hc
def InS (m:Holds) (ks n:Int):Prop:=∃ q:Nat,q<ks.toNat∧mget eqP m ⟨false,(q:Int)⟩=some n
theorem bv3 {m:Holds} {ks n:Int} (h:InS m ks n):∃ a:Nat,a<ks.toNat∧C7 m ks n=⟨false,(a:Int)⟩∧mget eqP m ⟨false,(a:Int)⟩=some n:=by
 apply aJ4
 cases hc:(C7 m ks n).cell with
 |false=>rfl
 |true=>
  obtain ⟨q,hq,hm⟩:=h
  exact absurd hm (X0.1 hc q hq)
def Av (ks:Int) (L:Int→Prop) (S:AS):Prop:=∀ n,L n→InS S.holds ks n∨(mget eqI S.cells n).isSome=true
theorem cb2 {ks n:Int} {L:Int→Prop} {S t:AS} {q:Nat} {c:List RIns} (hA:Av ks L S) (ht:t.holds=S.holds) (hc:∀ n cl,mget eqI S.cells n=some cl→mget eqI t.cells n=some cl)
  (hv:∀ r,mget eqP S.holds ⟨false,(q:Int)⟩=some r→¬ L r∨(mget eqI t.cells r).isSome=true):Av ks L ⟨mput eqP t.holds ⟨false,(q:Int)⟩ n,t.cells,t.ocells,c⟩:=by
 intro r hr
 rcases hA r hr with ⟨p,hp,hm⟩|hm
 ·by_cases hpq:p=q
  ·subst hpq
   rcases hv r hm with h|h
   ·exact absurd hr h
   ·exact .inr h
  ·refine .inl ⟨p,hp,?_⟩
   dsimp only
   rw [H3,if_neg (by simp only [Place.mk.injEq,true_and];omega),ht]
   exact hm
 ·right
  cases hh:mget eqI S.cells r with
  |none=>rw [hh] at hm;cases hm
  |some cl=>dsimp only;rw [hc r cl hh];rfl
theorem bQ9 {ks n x:Int} {S t:AS} {q:Nat} (ht:t.holds=S.holds) (hv:∀ r,mget eqP S.holds ⟨false,(q:Int)⟩=some r→r≠x) (h:InS S.holds ks x):InS (mput eqP t.holds ⟨false,(q:Int)⟩ n) ks x:=by
 obtain ⟨p,hp,hm⟩:=h
 by_cases hpq:p=q
 ·subst hpq
  exact absurd rfl (hv x hm)
 ·refine ⟨p,hp,?_⟩
  rw [H3,if_neg (by simp only [Place.mk.injEq,true_and];omega),ht]
  exact hm
theorem bZ8 {sp:Spans} {rd:Reads} {ks N i:Int} {fr:List Int} {S:AS} {n:Int} {P L:Int→Prop} {nm:Int→Int} {m:Holds} {C:List Ins} {nx:Int} {Q6:SF}
  (F:Fine P ks S.holds) (hfr:n∈fr) (hlen:(fr.length:Int)≤ks) (hdead:∀ r,I4 (getS sp r).first (getS sp r).last i=false→¬ L r) (hL:L n)
  (h:Inv Q6 [] nm ks S m C nx) (hA:Av ks L S):
  ∃ m',Inv Q6 [] nm ks (G1 sp rd ks N i fr S n) m' C nx∧Av ks L (G1 sp rd ks N i fr S n)∧InS (G1 sp rd ks N i fr S n).holds ks n∧(∀ x∈fr,InS S.holds ks x→InS (G1 sp rd ks N i fr S n).holds ks x):=by
 cases hc:(C7 S.holds ks n).cell with
 |false=>
  have he:G1 sp rd ks N i fr S n=S:=by unfold G1;rw [hc];rfl
  rw [he]
  obtain ⟨a,ha,_,hm⟩:=aJ4 hc
  exact ⟨m,h,hA,⟨a,ha,hm⟩,fun _ _ h=>h⟩
 |true=>
  have hni:=X0.1 hc
  obtain ⟨q,t,m',hroom,hq,ht,hI,hv,hcs,hsl⟩:=bv2 (sp:=sp) (rd:=rd) (N:=N) (pl:=i) (st:=fr) (T:=[]) (by simp) (aJ5 F hni hfr hlen sp rd N i) h
  have he:G1 sp rd ks N i fr S n=⟨mput eqP t.holds ⟨false,(q:Int)⟩ n,t.cells,t.ocells,t.code++[⟨1,(q:Int),getI t.cells n,ins0⟩]⟩:=by
   unfold G1;rw [hc,hroom];rfl
  rw [he]
  obtain ⟨cl,hcl⟩:∃ cl,mget eqI S.cells n=some cl:=by
   rcases hA n hL with ⟨p,hp,hm⟩|hm
   ·exact absurd hm (hni p hp)
   ·exact Option.isSome_iff_exists.1 hm
  have hct:=hcs n cl hcl
  have hg:getI t.cells n=cl:=by unfold getI;rw [hct];rfl
  have hcm:=hI.cell n cl hct
  rw [hg]
  refine ⟨mput eqP m' ⟨false,(q:Int)⟩ (nm n),⟨?_,?_,?_,?_,hI.low⟩,?_,?_,?_⟩
  ·rw [av6 hI.run]
   have e1:((1:Int)==0)=false:=rfl
   have e2:((1:Int)==2)=false:=rfl
   unfold I5
   simp only [e1,e2,cond_false,hcm.2.2]
  ·intro q' r hq' hr _
   dsimp only at hr
   rw [H3] at hr ⊢
   by_cases hqq:(⟨false,(q:Int)⟩:Place)=⟨false,(q':Int)⟩
   ·rw [if_pos hqq] at hr ⊢
    cases hr;rfl
   ·rw [if_neg hqq] at hr ⊢
    exact hI.slot q' r hq' hr (by simp)
  ·intro r c' hr
   have:=hI.cell r c' hr
   rw [H3,if_neg (by simp)]
   exact this
  ·intro y hy
   dsimp only at hy
   rcases cs9.1 hy with hy|hy
   ·exact hI.good y hy
   ·rw [cr0] at hy
    subst hy
    refine ⟨?_,.inl (by dsimp only;omega),show au4 ins0=true by decide⟩
    unfold aa0
    rw [if_neg (by dsimp only;omega),if_pos (.inl rfl)]
    simp only [cq2,O6,cr0,forall_eq]
    omega
  ·exact cb2 hA ht hcs (fun r hr=>(hv r hr).2.imp (hdead r) id)
  ·exact ⟨q,hq,by dsimp only;rw [H3,if_pos rfl]⟩
  ·intro x hx hi
   exact bQ9 ht (fun r hr hh=>(hv r hr).1 (hh▸hx)) hi
theorem bh5 {sp:Spans} {rd:Reads} {ks N i:Int} {fr:List Int} {P L:Int→Prop} {nm:Int→Int} {C:List Ins} {nx:Int} {Q6:SF}
  (hlen:(fr.length:Int)≤ks) (hdead:∀ r,I4 (getS sp r).first (getS sp r).last i=false→¬ L r) (hL:∀ n∈fr,L n) (hP:∀ n∈fr,P n):
  ∀ (l:List Int) {S:AS} {m:Holds},(∀ n∈l,n∈fr)→Fine P ks S.holds→Inv Q6 [] nm ks S m C nx→Av ks L S→
  ∃ m',Inv Q6 [] nm ks (E5 sp rd ks N i fr S l) m' C nx∧Av ks L (E5 sp rd ks N i fr S l)∧(∀ x∈l,InS (E5 sp rd ks N i fr S l).holds ks x)∧(∀ x∈fr,InS S.holds ks x→InS (E5 sp rd ks N i fr S l).holds ks x)
 |[],S,m,_,_,h,hA=>⟨m,h,hA,by simp,fun _ _ h=>h⟩
 |n::r,S,m,hl,F,h,hA=>by
  have hn:=hl n (by simp)
  obtain ⟨m1,h1,h2,h3,h4⟩:=bZ8 (sp:=sp) (rd:=rd) (N:=N) F hn hlen hdead (hL n hn) h hA
  have F1:Fine P ks (G1 sp rd ks N i fr S n).holds:=aj8 (sp:=sp) (rd:=rd) (N:=N) (i:=i) (fr:=fr) [n] F (by simpa using hP n hn)
  obtain ⟨m2,g1,g2,g3,g4⟩:=bh5 hlen hdead hL hP r (fun x hx=>hl x (by simp [hx])) F1 h1 h2
  refine ⟨m2,g1,g2,fun x hx=>?_,fun x hx hi=>g4 x hx (h4 x hx hi)⟩
  rcases List.mem_cons.1 hx with rfl|hx
  ·exact g4 _ hn h3
  ·exact g3 x hx
theorem co5 {sp:Spans} {rd:Reads} {ks N i:Int} {to:List Int} {S:AS} {n:Int} {L:Int→Prop} {nm:Int→Int} {m:Holds} {C:List Ins} {nx:Int} {Q6:SF}
  (hn:n∈to) (hok:ag7 sp rd ks N S.holds (i+1) to) (hdead:∀ r,I4 (getS sp r).first (getS sp r).last (i+1)=false→¬ L r)
  (h:Inv Q6 to nm ks S m C nx) (hA:Av ks L S):
  ∃ m',Inv Q6 to nm ks (W9 sp rd ks N i to S n) m' C nx∧Av ks L (W9 sp rd ks N i to S n)∧InS (W9 sp rd ks N i to S n).holds ks n∧(∀ x∈to,InS S.holds ks x→InS (W9 sp rd ks N i to S n).holds ks x)∧(∀ q:Int,mget eqP m' ⟨false,q⟩=mget eqP m ⟨false,q⟩):=by
 obtain ⟨q,t,m',hroom,hq,ht,hI,hv,hcs,hsl⟩:=bv2 (T:=to) (fun _ h=>h) hok h
 have he:W9 sp rd ks N i to S n=⟨mput eqP t.holds ⟨false,(q:Int)⟩ n,t.cells,t.ocells,t.code⟩:=by
  unfold W9;rw [hroom]
 rw [he]
 refine ⟨m',⟨hI.run,?_,hI.cell,hI.good,hI.low⟩,?_,?_,?_,hsl⟩
 ·intro q' r hq' hr hrt
  dsimp only at hr
  rw [H3] at hr
  by_cases hqq:(⟨false,(q:Int)⟩:Place)=⟨false,(q':Int)⟩
  ·rw [if_pos hqq] at hr
   cases hr
   exact absurd hn hrt
  ·rw [if_neg hqq] at hr
   exact hI.slot q' r hq' hr hrt
 ·exact cb2 hA ht hcs (fun r hr=>(hv r hr).2.imp (hdead r) id)
 ·exact ⟨q,hq,by dsimp only;rw [H3,if_pos rfl]⟩
 ·intro x hx hi
  exact bQ9 ht (fun r hr hh=>(hv r hr).1 (hh▸hx)) hi
theorem bE1 (sp:Spans) (rd:Reads) (ks N i:Int) (to:List Int) (S:AS) (l:List Int) (n:Int):J8 sp rd ks N i to S (l++[n])=W9 sp rd ks N i to (J8 sp rd ks N i to S l) n:=by simp [J8]
theorem bR0 {sp:Spans} {rd:Reads} {ks N i:Int} {to:List Int} {S:AS} {L:Int→Prop} {nm:Int→Int} {m:Holds} {C:List Ins} {nx:Int} {Q6:SF}
  (hok:∀ k,k<to.length→ag7 sp rd ks N (J8 sp rd ks N i to S (to.take k)).holds (i+1) to) (hdead:∀ r,I4 (getS sp r).first (getS sp r).last (i+1)=false→¬ L r)
  (h:Inv Q6 to nm ks S m C nx) (hA:Av ks L S):∀ k,k≤to.length→
  ∃ m',Inv Q6 to nm ks (J8 sp rd ks N i to S (to.take k)) m' C nx∧Av ks L (J8 sp rd ks N i to S (to.take k))∧(∀ x∈to.take k,InS (J8 sp rd ks N i to S (to.take k)).holds ks x)∧(∀ q:Int,mget eqP m' ⟨false,q⟩=mget eqP m ⟨false,q⟩)
 |0,_=>⟨m,by simpa [J8] using h,by simpa [J8] using hA,by simp,fun _=>rfl⟩
 |k+1,hk=>by
  obtain ⟨m1,h1,h2,h3,h4⟩:=bR0 hok hdead h hA k (by omega)
  have hg:=H5 (l:=to) (i:=k) (by omega) 0
  obtain ⟨m2,g1,g2,g3,g4,g5⟩:=co5 (n:=to.getD k 0) hg (hok k (by omega)) hdead h1 h2
  rw [A4 (by omega) 0,bE1]
  refine ⟨m2,g1,g2,fun x hx=>?_,fun q=>(g5 q).trans (h4 q)⟩
  rcases cs9.1 hx with hx|hx
  ·exact g4 x (List.mem_of_mem_take hx) (h3 x hx)
  ·rw [cr0] at hx
   subst hx
   exact g3
theorem bh6:∀ (l acc:List Int) (nx:Int) (m:Holds),l.Nodup→(l.foldl ak2 (acc,nx,m)).1=acc++(List.range l.length).map (fun j:Nat=>nx+(j:Int))∧
  (∀ (j:Nat) (x:Int),l[j]? =some x→mget eqP (l.foldl ak2 (acc,nx,m)).2.2 ⟨false,x⟩=some (nx+j))∧
  (∀ p:Place,p.cell=true∨p.n∉l→mget eqP (l.foldl ak2 (acc,nx,m)).2.2 p=mget eqP m p)
 |[],acc,nx,m,_=>by simp
 |x::r,acc,nx,m,h=>by
  obtain ⟨hx,hr⟩:=List.nodup_cons.1 h
  obtain ⟨h1,h2,h3⟩:=bh6 r (acc++[nx]) (nx+1) (mput eqP m ⟨false,x⟩ nx) hr
  refine ⟨?_,?_,?_⟩
  ·show (r.foldl ak2 (acc++[nx],nx+1,mput eqP m ⟨false,x⟩ nx)).1=_
   rw [h1,cr5,List.range_succ_eq_map,List.map_cons,List.map_map,cs8]
   congr 1
   simp only [List.singleton_append,List.cons.injEq]
   refine ⟨by omega,?_⟩
   apply List.map_congr_left
   intro j _
   simp only [Function.comp]
   omega
  ·intro j y hj
   show mget eqP (r.foldl ak2 (acc++[nx],nx+1,mput eqP m ⟨false,x⟩ nx)).2.2 _=_
   cases j with
   |zero=>
    simp only [cq7,cp9] at hj
    subst hj
    rw [h3 _ (.inr hx),H3,if_pos rfl]
    congr 1
    omega
   |succ j=>
    rw [h2 j y (by simpa using hj)]
    congr 1
    omega
  ·intro p hp
   show mget eqP (r.foldl ak2 (acc++[nx],nx+1,mput eqP m ⟨false,x⟩ nx)).2.2 _=_
   rw [h3 p (hp.imp id fun hh hm=>hh (by simp [hm])),H3,if_neg]
   rintro rfl
   rcases hp with hp|hp
   ·cases hp
   ·exact hp (by simp)
theorem bh7 {m:Holds} {ks n:Int} {l:List Int} (h:n∈l):getI (N3 m ks l) n=(C7 m ks n).n:=by
 have key:∀ (l:List Int) (mm:List (Int×Int)),(n∈l∨mget eqI mm n=some (C7 m ks n).n)→mget eqI (l.foldl (fun mm n=>mput eqI mm n (C7 m ks n).n) mm) n=some (C7 m ks n).n:=by
  intro l
  induction l with
  |nil=>intro mm h;simpa using h
  |cons x r ih=>
   intro mm h
   rw [List.foldl_cons]
   apply ih
   rw [I0]
   by_cases hx:x=n
   ·right;rw [if_pos hx,hx]
   ·rw [if_neg hx]
    rcases h with h|h
    ·rcases List.mem_cons.1 h with h|h
     ·exact absurd h.symm hx
     ·exact .inl h
    ·exact .inr h
 unfold getI N3
 rw [key l [] (.inl h)]
 rfl
theorem co6 {sp:Spans} {rd:Reads} {ks N i:Int} {x:Ins} {S:AS} {P Li Lj:Int→Prop} {nm:Int→Int} {m:Holds} {C:List Ins} {nx:Int} {Q6:SF}
  (F:Fine P ks S.holds) (hfew:fewX ks x=true) (hf:∀ n∈x.from_,P n) (hn:x.to.Nodup) (hP:∀ n∈x.to,¬ P n)
  (hd0:∀ r,I4 (getS sp r).first (getS sp r).last i=false→¬ Li r) (hd1:∀ r,I4 (getS sp r).first (getS sp r).last (i+1)=false→¬ Lj r)
  (hfl:∀ n∈x.from_,Li n) (hl:∀ n,Lj n→n∉x.to→Li n) (hnm:x.to.map nm=(List.range x.to.length).map (fun j:Nat=>nx+(j:Int))) (hx:au4 x=true)
  (h:Inv Q6 [] nm ks S m C nx) (hA:Av ks Li S):
  ∃ m',Inv Q6 [] nm ks (doOf sp rd ks N i x S) m' (C++[⟨x.op,x.n,x.to.map nm,x.from_.map nm,x.body⟩]) (nx+x.to.length)∧Av ks Lj (doOf sp rd ks N i x S):=by
 obtain ⟨hok,F3⟩:=bP1 (sp:=sp) (rd:=rd) (N:=N) (i:=i) F hfew hf hn hP
 have hfew2:=hfew
 simp only [fewX,cq2,cs4] at hfew2
 have hmd:∀ n,n∈B5 x.from_↔n∈x.from_:=fun n=>aJ6
 obtain ⟨m1,h1,hA1,hin1,_⟩:=bh5 (sp:=sp) (rd:=rd) (N:=N) (i:=i) (fr:=B5 x.from_) hfew2.1 hd0 (fun n hh=>hfl n ((hmd n).1 hh)) (fun n hh=>hf n ((hmd n).1 hh)) (B5 x.from_) (fun _ h=>h) F h hA
 obtain ⟨S1,hS1⟩:∃ S1,E5 sp rd ks N i (B5 x.from_) S (B5 x.from_)=S1:=⟨_,rfl⟩
 have hok2:=hok.2
 have hdo:doOf sp rd ks N i x S=⟨(J8 sp rd ks N i x.to S1 x.to).holds,(J8 sp rd ks N i x.to S1 x.to).cells,(J8 sp rd ks N i x.to S1 x.to).ocells,(J8 sp rd ks N i x.to S1 x.to).code++[⟨0,0,0,⟨x.op,x.n,x.to.map (fun n=>(C7 (J8 sp rd ks N i x.to S1 x.to).holds ks n).n),x.from_.map (getI (N3 S1.holds ks (B5 x.from_))),x.body⟩⟩]⟩:=by
  rw [←hS1];rfl
 rw [hS1] at h1 hA1 hin1 hok2
 have h1':Inv Q6 x.to nm ks S1 m1 C nx:=⟨h1.run,fun q n hq hm _=>h1.slot q n hq hm (by simp),h1.cell,h1.good,h1.low⟩
 have hA1':Av ks (fun n=>Lj n∧n∉x.to) S1:=fun n hn=>hA1 n (hl n hn.1 hn.2)
 obtain ⟨m2,h2,hA2,hin2,hsl⟩:=bR0 hok2 (fun r hr hh=>hd1 r hr hh.1) h1' hA1' x.to.length (Nat.le_refl _)
 rw [ct0] at h2 hA2 hin2
 rw [hdo] at F3 ⊢
 obtain ⟨S2,hS2⟩:∃ S2,J8 sp rd ks N i x.to S1 x.to=S2:=⟨_,rfl⟩
 rw [hS2] at h2 hA2 hin2 F3 ⊢
 --where the registers that are read,and those that are written,lie
 have hfs:∀ n∈x.from_,∃ a:Nat,a<ks.toNat∧getI (N3 S1.holds ks (B5 x.from_)) n=(a:Int)∧mget eqP m2 ⟨false,(a:Int)⟩=some (nm n):=by
  intro n hn
  obtain ⟨a,ha,hs,hm⟩:=bv3 (hin1 n ((hmd n).2 hn))
  refine ⟨a,ha,by rw [bh7 ((hmd n).2 hn),hs],?_⟩
  rw [hsl]
  exact h1.slot a n ha hm (by simp)
 have hts:∀ n∈x.to,∃ a:Nat,a<ks.toNat∧(C7 S2.holds ks n).n=(a:Int)∧mget eqP S2.holds ⟨false,(a:Int)⟩=some n:=by
  intro n hn
  obtain ⟨a,ha,hs,hm⟩:=bv3 (hin2 n hn)
  exact ⟨a,ha,by rw [hs],hm⟩
 obtain ⟨tos,htos⟩:∃ tos,x.to.map (fun n=>(C7 S2.holds ks n).n)=tos:=⟨_,rfl⟩
 have htl:tos.length=x.to.length:=by rw [←htos,ct3]
 have htn:tos.Nodup:=by
  rw [←htos]
  unfold List.Nodup
  rw [List.pairwise_map]
  refine List.Pairwise.imp_of_mem ?_ hn
  intro p q hp hq hpq heq
  obtain ⟨a,ha,e1,m1'⟩:=hts p hp
  obtain ⟨b,hb,e2,m2'⟩:=hts q hq
  have hab:a=b:=by rw [e1,e2] at heq;omega
  subst hab
  rw [m1'] at m2'
  exact hpq (Option.some.inj m2')
 obtain ⟨n1,n2,n3⟩:=bh6 tos [] nx m2 htn
 have hlen:=V4 nx m2 tos
 have hfr:(x.from_.map (getI (N3 S1.holds ks (B5 x.from_)))).all (isP (m2,()))=true:=by
  rw [List.all_map,ct2]
  intro n hn
  obtain ⟨a,_,e,hm⟩:=hfs n hn
  simp only [Function.comp,isP,e,hm,Option.isSome_some]
 have hfm:(x.from_.map (getI (N3 S1.holds ks (B5 x.from_)))).map (getF m2)=x.from_.map nm:=by
  rw [List.map_map]
  apply List.map_congr_left
  intro n hn
  obtain ⟨a,_,e,hm⟩:=hfs n hn
  simp only [Function.comp,getF,e,hm,Option.getD_some]
 rw [htos]
 refine ⟨(F4 nx m2 tos).2.2,⟨?_,?_,?_,?_,h2.low⟩,?_⟩
 ·rw [av6 h2.run]
  unfold I5
  have e0:((0:Int)==0)=true:=rfl
  have e1:(F4 nx m2 tos).1=x.to.map nm:=by
   show (tos.foldl ak2 ([],nx,m2)).1=_
   rw [n1,hnm,htl,List.nil_append]
  simp only [e0,cond_true,hfr,hfm,e1,hlen.2,htl]
 ·intro q n hq hm _
  dsimp only at hm
  by_cases hnt:n∈x.to
  ·obtain ⟨j,hj⟩:=List.mem_iff_getElem?.1 hnt
   obtain ⟨a,ha,e,hma⟩:=hts n hnt
   have hqa:q=a:=F3.inj q a hq ha n hm hma
   subst hqa
   have hjt:tos[j]? =some (q:Int):=by rw [←htos,cr4,hj,Option.map_some,e]
   have hnj:nm n=nx+j:=by
    have h5:(x.to.map nm)[j]? =some (nm n):=by rw [cr4,hj];rfl
    rw [hnm,cr4,List.getElem?_range (cq4.1 hj).1] at h5
    exact (Option.some.inj h5).symm
   rw [hnj]
   exact n2 j q hjt
  ·have hqt:(q:Int)∉tos:=by
    rw [←htos]
    intro hh
    obtain ⟨p,hp,he⟩:=List.mem_map.1 hh
    obtain ⟨a,ha,e,hma⟩:=hts p hp
    rw [e] at he
    have:a=q:=by omega
    subst this
    rw [hm] at hma
    exact hnt (Option.some.inj hma▸hp)
   have h6:=n3 ⟨false,(q:Int)⟩ (.inr hqt)
   show mget eqP (tos.foldl ak2 ([],nx,m2)).2.2 _=_
   rw [h6]
   exact h2.slot q n hq hm hnt
 ·intro n cl hc
  have h7:=h2.cell n cl hc
  have h6:=n3 ⟨true,cl⟩ (.inl rfl)
  refine ⟨h7.1,h7.2.1,?_⟩
  show mget eqP (tos.foldl ak2 ([],nx,m2)).2.2 _=_
  rw [h6]
  exact h7.2.2
 ·intro y hy
  dsimp only at hy
  rcases cs9.1 hy with hy|hy
  ·exact h2.good y hy
  ·rw [cr0] at hy
   subst hy
   refine ⟨?_,.inr (E3.2 htn),?_⟩
   ·unfold aa0
    rw [if_pos rfl,cq2,O6,O6]
    refine ⟨fun z hz=>?_,fun z hz=>?_⟩
    ·obtain ⟨p,hp,rfl⟩:=List.mem_map.1 hz
     obtain ⟨a,ha,e,_⟩:=hfs p hp
     rw [e];omega
    ·rw [←htos] at hz
     obtain ⟨p,hp,rfl⟩:=List.mem_map.1 hz
     obtain ⟨a,ha,e,_⟩:=hts p hp
     rw [e];omega
   ·have h8:=(L1 x).1 hx
    rw [L1]
    dsimp only
    rw [htl,ct3]
    exact h8
 ·intro n hn
  by_cases hnt:n∈x.to
  ·exact .inl (hin2 n hnt)
  ·exact hA2 n ⟨hn,hnt⟩
theorem bR1 {w:List Int} {m:Nat} {n:Int} (hw:w.Nodup) (h:w[m]? =some n):G3 w n=m:=by
 obtain ⟨hm,he⟩:=cq4.1 h
 have hg:∀ i,(hi:i<w.length)→w.getD i 0=w[i]:=fun i hi=>by rw [cr3,cq1 hi];rfl
 refine aU4 hm (fun i hi=>?_) (by rw [hg m hm,he])
 rw [hg i (by omega),←he]
 exact List.pairwise_iff_getElem.1 hw i m (by omega) hm hi
theorem ad5 {a:Int} {w:List Int} {m:Nat} {n:Int} (hw:w.Nodup) (h:w[m]? =some n) (hn:a≤n):C2 a w n=a+m:=by
 unfold C2
 rw [if_neg (by omega),bR1 hw h]
theorem bo9 {b:List Ins} {k:Nat} (hk:k<b.length):b=b.take k++b.getD k ins0::b.drop (k+1):=by
 conv=>lhs;rw [←List.take_append_drop (k+1) b,A4 hk ins0]
 simp
theorem ay7 {b:List Ins} {k:Nat} (hk:k<b.length):wr (b.take (k+1))=wr (b.take k)++(b.getD k ins0).to:=by
 rw [A4 hk ins0,bo7]
theorem bE2 {a:Int} {b:List Ins} {c:List Int} (C:Checked a b c) (n:Int):∀ d k,k+d=b.length→n∈atL b c k→0≤n∧(n<a∨n∈wr (b.take k)):=by
 intro d
 induction d with
 |zero=>
  intro k hk hn
  have:k=b.length:=by omega
  subst this
  rw [ar9 b c (Nat.le_refl _),List.drop_length] at hn
  have hn:n∈C9 [] c:=hn
  rw [N9] at hn
  rcases hn with hn|hn
  ·simp at hn
  ·rw [ct0]
   exact ⟨(C.outR n hn).1,C.outT n hn⟩
 |succ d ih=>
  intro k hk hn
  have hlt:k<b.length:=by omega
  rw [ar9 b c (Nat.le_of_lt hlt),ay3 b c hlt] at hn
  have hn:n∈ak7 (b.getD k ins0) (atL b c (k+1)):=hn
  rw [aj4] at hn
  rcases hn with hn|⟨hn,hnt⟩
  ·have h1:=C.there
   rw [bo9 hlt] at h1
   exact ⟨(C.fromR _ (H5 hlt ins0) n hn).1,by simpa using M4 h1 n hn⟩
  ·have h2:=ih (k+1) (by omega) hn
   rw [ay7 hlt,cs9] at h2
   exact ⟨h2.1,h2.2.imp id (fun h=>h.resolve_right hnt)⟩
theorem aQ4 (n:Nat) (r:Int):mget eqI (Z4 n) r=if 0≤r∧r<n then some r else none:=by
 induction n with
 |zero=>rw [if_neg (by omega)];rfl
 |succ n ih=>
  rw [aJ7,I0,ih]
  by_cases h:(n:Int)=r
  ·rw [if_pos h,if_pos (by omega),h]
  ·rw [if_neg h]
   by_cases h2:0≤r∧r<n
   ·rw [if_pos h2,if_pos (by omega)]
   ·rw [if_neg h2,if_neg (by omega)]
theorem bh8 (n:Nat) (r:Int):mget eqP (M9 n) ⟨true,r⟩=if 0≤r∧r<n then some r else none:=by
 induction n with
 |zero=>rw [if_neg (by omega)];rfl
 |succ n ih=>
  rw [as2,H3,ih]
  by_cases h:(n:Int)=r
  ·rw [if_pos (by rw [h]),if_pos (by omega),h]
  ·rw [if_neg (by simp only [Place.mk.injEq,true_and];exact h)]
   by_cases h2:0≤r∧r<n
   ·rw [if_pos h2,if_pos (by omega)]
   ·rw [if_neg h2,if_neg (by omega)]
theorem bR2 {a:Int} {b:List Ins} {c:List Int} (C:Checked a b c) {k:Nat} (hk:k≤b.length) (r:Int) (h:I4 (getS (A7 a b c) r).first (getS (A7 a b c) r).last k=false):¬ r∈atL b c k:=by
 intro hh
 have h1:=(bu2 C r k hk).2 hh
 unfold W5 at h1
 unfold getS at h
 cases hm:mget eqI (A7 a b c) r with
 |none=>rw [hm] at h1;cases h1
 |some s=>rw [hm] at h1 h;simp only [Option.getD_some] at h;have h1:I4 s.first s.last k=true:=h1;rw [h] at h1;cases h1
def Q1 (a:Int) (w:List Int) (x:Ins):Ins:=⟨x.op,x.n,x.to.map (C2 a w),x.from_.map (C2 a w),x.body⟩
theorem ck9 {a:Int} {b:List Ins} {c:List Int} (C:Checked a b c) (hi:H0 b=true) {ks:Int} (hfew:b.all (fewX ks)=true) (rd:Reads) (N:Int):∀ k,k≤b.length→
  ∃ m,Inv (G5 a) [] (C2 a (wr b)) ks (runA (A7 a b c) rd ks N (b.take k) 0 (H1 a)) m ((b.take k).map (Q1 a (wr b))) (a+(wr (b.take k)).length)∧
   Av ks (fun n=>n∈atL b c k) (runA (A7 a b c) rd ks N (b.take k) 0 (H1 a)):=by
 intro k
 have hnd:=E3.1 C.once
 induction k with
 |zero=>
  intro _
  refine ⟨M9 a.toNat,⟨?_,?_,?_,?_,C.pos⟩,?_⟩
  ·show I6 [] (G5 a)=((M9 a.toNat,[],a+((0:Nat):Int)),true)
   rw [show a+((0:Nat):Int)=a from by omega]
   rfl
  ·intro q n _ h _
   simp [runA,H1,mget] at h
  ·intro n cl h
   have h:mget eqI (Z4 a.toNat) n=some cl:=h
   rw [aQ4] at h
   split at h
   ·rename_i hn
    cases h
    refine ⟨hn.1,?_,?_⟩
    ·show n<a
     have:=C.pos
     omega
    ·rw [bh8,if_pos hn]
     have:n<a:=by have:=C.pos;omega
     unfold C2
     rw [if_pos this]
   ·cases h
  ·intro x hx
   simp [runA,H1] at hx
  ·intro n hn
   right
   show (mget eqI (Z4 a.toNat) n).isSome=true
   have h1:=bE2 C n b.length 0 (by omega) hn
   have h2:n<a:=h1.2.resolve_right (by simp [wr])
   rw [aQ4,if_pos ⟨h1.1,by omega⟩]
   rfl
 |succ k ih=>
  intro hk
  have hlt:k<b.length:=by omega
  obtain ⟨m,h,hA⟩:=ih (by omega)
  obtain ⟨F,_⟩:=bg7 C hfew (A7 a b c) rd N k (by omega)
  have hmem:=H5 hlt ins0
  have hsp:=bo9 hlt
  obtain ⟨x,hx⟩:∃ x,b.getD k ins0=x:=⟨_,rfl⟩
  have hwt:=ay7 hlt
  have htn:=bu3 C hlt
  have hst:atL b c k=ak7 x (atL b c (k+1)):=by
   rw [←hx,ar9 b c (Nat.le_of_lt hlt),ay3 b c hlt];rfl
  rw [hx] at hmem hsp hwt htn
  have hwb:wr b=wr (b.take k)++(x.to++wr (b.drop (k+1))):=by
   conv=>lhs;rw [hsp]
   rw [T7,L6]
  have hnew:∀ n∈x.to,¬ (n<a∨n∈wr (b.take k)):=by
   rintro n hn (h1|h1)
   ·have:=C.new n (aP2.2 ⟨_,hmem,hn⟩);omega
   ·have h2:=hnd
    rw [hwb] at h2
    exact (List.nodup_append.1 h2).2.2 n h1 n (List.mem_append_left _ hn) rfl
  have hnm:x.to.map (C2 a (wr b))=(List.range x.to.length).map (fun j:Nat=>a+((wr (b.take k)).length:Int)+(j:Int)):=by
   apply List.ext_getElem?
   intro j
   rw [cr4,cr4]
   by_cases hj:j<x.to.length
   ·rw [cq1 hj,List.getElem?_range hj]
    simp only [Option.map_some,cp9]
    have hidx:(wr b)[(wr (b.take k)).length+j]? =some x.to[j]:=by
     rw [hwb,cr8 (by omega),show (wr (b.take k)).length+j-(wr (b.take k)).length=j from by omega,cr9 hj,cq1 hj]
    rw [ad5 hnd hidx (C.new _ (aP2.2 ⟨x,hmem,List.getElem_mem hj⟩))]
    omega
   ·rw [List.getElem?_eq_none (by omega),List.getElem?_eq_none (by simp;omega)]
    rfl
  obtain ⟨m',h',hA'⟩:=co6 (sp:=A7 a b c) (rd:=rd) (N:=N) (i:=(k:Int)) (x:=x) (Li:=fun n=>n∈atL b c k) (Lj:=fun n=>n∈atL b c (k+1)) F (ct2.1 hfew _ hmem)
   (fun n hn=>by
    have h1:=C.there
    rw [hsp] at h1
    simpa using M4 h1 n hn)
   htn hnew (fun r hr=>bR2 C (Nat.le_of_lt hlt) r hr) (fun r hr=>bR2 C (k:=k+1) hk r hr)
   (fun n hn=>by rw [hst,aj4];exact .inl hn)
   (fun n hn hnt=>by rw [hst,aj4];exact .inr ⟨hn,hnt⟩) hnm (av4 hi x hmem) h hA
  have hrun:runA (A7 a b c) rd ks N (b.take (k+1)) 0 (H1 a)=doOf (A7 a b c) rd ks N k x (runA (A7 a b c) rd ks N (b.take k) 0 (H1 a)):=by
   rw [A4 hlt ins0,aJ3,ct1,Nat.min_eq_left (by omega),hx]
  have hmap:(b.take (k+1)).map (Q1 a (wr b))=(b.take k).map (Q1 a (wr b))++[Q1 a (wr b) x]:=by
   rw [A4 hlt ins0,List.map_append,hx];rfl
  rw [hrun,hmap,hwt,cs3]
  refine ⟨m',?_,hA'⟩
  have e:a+(((wr (b.take k)).length+x.to.length:Nat):Int)=a+((wr (b.take k)).length:Int)+(x.to.length:Int):=by omega
  rw [e]
  exact h'
def cLaw2:Con RU:=con [one,one] [ints,i64] [one] [.bool] [false] none fun _=>(true,())
theorem bZ9 (l:List Int) (n:Int):vc (EV [(25,cBuilt),(27,cSlots),(15,cAlloc),(39,cPlain),(20,cBack),(22,cValid),(24,cSameVec),(14,cSlotted)]) noL Go.Proofs.Tryd.f10 cLaw2 (l,n,())=(
 let e0:VFun:=
  (K7
  (RCode.mk
  (B6 (VFun.mk (parB l) (B0 l (30:Int)).code (B0 l (30:Int)).out [])
  (M5 (VFun.mk (parB l) (B0 l (30:Int)).code (B0 l (30:Int)).out []) n (5:Int))).1.params
  (B6 (VFun.mk (parB l) (B0 l (30:Int)).code (B0 l (30:Int)).out [])
  (M5 (VFun.mk (parB l) (B0 l (30:Int)).code (B0 l (30:Int)).out []) n (5:Int))).1.slots
  (B6 (VFun.mk (parB l) (B0 l (30:Int)).code (B0 l (30:Int)).out [])
  (M5 (VFun.mk (parB l) (B0 l (30:Int)).code (B0 l (30:Int)).out []) n (5:Int))).1.cells
  (B6 (VFun.mk (parB l) (B0 l (30:Int)).code (B0 l (30:Int)).out [])
  (M5 (VFun.mk (parB l) (B0 l (30:Int)).code (B0 l (30:Int)).out []) n (5:Int))).1.code
  (B6 (VFun.mk (parB l) (B0 l (30:Int)).code (B0 l (30:Int)).out [])
  (M5 (VFun.mk (parB l) (B0 l (30:Int)).code (B0 l (30:Int)).out []) n (5:Int))).1.out)).1;
 let e1:Bool:=
  (B6 (VFun.mk (parB l) (B0 l (30:Int)).code (B0 l (30:Int)).out []) (M5 (VFun.mk (parB l) (B0 l (30:Int)).code (B0 l (30:Int)).out []) n (5:Int))).2==
  (0:Int)&&
  (F6 (VFun.mk (parB l) (B0 l (30:Int)).code (B0 l (30:Int)).out [])).2==(0:Int)&&
  (K7
  (RCode.mk
  (B6 (VFun.mk (parB l) (B0 l (30:Int)).code (B0 l (30:Int)).out [])
  (M5 (VFun.mk (parB l) (B0 l (30:Int)).code (B0 l (30:Int)).out []) n (5:Int))).1.params
  (B6 (VFun.mk (parB l) (B0 l (30:Int)).code (B0 l (30:Int)).out [])
  (M5 (VFun.mk (parB l) (B0 l (30:Int)).code (B0 l (30:Int)).out []) n (5:Int))).1.slots
  (B6 (VFun.mk (parB l) (B0 l (30:Int)).code (B0 l (30:Int)).out [])
  (M5 (VFun.mk (parB l) (B0 l (30:Int)).code (B0 l (30:Int)).out []) n (5:Int))).1.cells
  (B6 (VFun.mk (parB l) (B0 l (30:Int)).code (B0 l (30:Int)).out [])
  (M5 (VFun.mk (parB l) (B0 l (30:Int)).code (B0 l (30:Int)).out []) n (5:Int))).1.code
  (B6 (VFun.mk (parB l) (B0 l (30:Int)).code (B0 l (30:Int)).out [])
  (M5 (VFun.mk (parB l) (B0 l (30:Int)).code (B0 l (30:Int)).out []) n (5:Int))).1.out)).2==
  (0:Int)&&
  (F6
  (VFun.mk (F6 (VFun.mk (parB l) (B0 l (30:Int)).code (B0 l (30:Int)).out [])).1.params
  (F6 (VFun.mk (parB l) (B0 l (30:Int)).code (B0 l (30:Int)).out [])).1.code
  (F6 (VFun.mk (parB l) (B0 l (30:Int)).code (B0 l (30:Int)).out [])).1.out
  (F6 (VFun.mk (parB l) (B0 l (30:Int)).code (B0 l (30:Int)).out [])).1.at_)).2==
  (0:Int);
 let e2:VFun:=
  (F6
  (VFun.mk (F6 (VFun.mk (parB l) (B0 l (30:Int)).code (B0 l (30:Int)).out [])).1.params
  (F6 (VFun.mk (parB l) (B0 l (30:Int)).code (B0 l (30:Int)).out [])).1.code (F6 (VFun.mk (parB l) (B0 l (30:Int)).code (B0 l (30:Int)).out [])).1.out
  (F6 (VFun.mk (parB l) (B0 l (30:Int)).code (B0 l (30:Int)).out [])).1.at_)).1;
 let e3:RCode:=
  (B6 (VFun.mk (parB l) (B0 l (30:Int)).code (B0 l (30:Int)).out []) (M5 (VFun.mk (parB l) (B0 l (30:Int)).code (B0 l (30:Int)).out []) n (5:Int))).1;
 let e4:VFun:=(F6 (VFun.mk (parB l) (B0 l (30:Int)).code (B0 l (30:Int)).out [])).1;
  Small RU (Sigma.mk (Ty.slice (3:Nat) (Ty.int IntKind.i64)) l)→
  (S3 (B0 l (30:Int)).code=true∧(5:Int)≤(1000:Int))∧
  (S3 (B0 l (30:Int)).code=true∧H0 (B0 l (30:Int)).code=true∧List.length (B0 l (30:Int)).out≤(8796093022200:Nat))∧
  (H0 (B0 l (30:Int)).code=true∧List.length (B0 l (30:Int)).out≤(17592186044416:Nat))∧
  ((-9223372036854775808:Int)≤e3.slots∧e3.slots<(9223372036854775808:Int)∧Q0 e3.code=true∧List.length e3.out≤(17592186044400:Nat))∧
  (H0 e4.code=true∧List.length e4.out≤(17592186044416:Nat))∧
  (e1=true→(-9223372036854775808:Int)≤e3.slots∧e3.slots<(9223372036854775808:Int)∧Q0 e3.code=true∧List.length e3.out≤(17592186044400:Nat))∧
  (e1&&L0 (RCode.mk e3.params e3.slots e3.cells e3.code e3.out)==(0:Int)&&
  (decide (e0.params=e4.params)&&U9 e0.code e4.code&&decide (e0.out=e4.out)&&decide (e0.at_=e4.at_))&&
  (decide (e2.params=e4.params)&&U9 e2.code e4.code&&decide (e2.out=e4.out)&&decide (e2.at_=e4.at_))&&
  true,
  ())=
  (true,())):=by kernel_rfl
structure Fit (a:Int) (b:List Ins) (c:List Int) (ks:Int):Prop where
 made:Made a b c
 len:b.length≤30
 ks1:1≤ks
 ks2:ks≤64
 few:b.all (fewX ks)=true
 ok:H0 b=true
 frm:S3 b=true
theorem aQ5:∀ {b:List Ins},(∀ x∈b,au4 x=true)→H0 b=true
 |[],_=>by simp [H0]
 |x::r,h=>by
  simp only [H0,cq2]
  exact ⟨h x (by simp),aQ5 fun y hy=>h y (by simp [hy])⟩
theorem aX8 {a:Int} {b:List Ins} {c:List Int} (M:Made a b c):H0 b=true∧S3 b=true:=by
 refine ⟨aQ5 fun x hx=>?_,?_⟩
 ·rw [L1,M.bod x hx]
  have h1:=M.froms x hx
  have h2:=M.tos x hx
  exact ⟨⟨by omega,by omega,by simp⟩,by simp [H0]⟩
 ·unfold S3
  rw [ct2]
  intro x hx
  have h1:=M.froms x hx
  have h2:=M.tos x hx
  rw [cq2,cs4,cs4]
  omega
theorem aK5:∀ (l:List Ins) (a:Int),a≤l.foldl (fun k x=>max (max k ((C9 [] x.from_).length:Int)) (x.to.length:Int)) a∧∀ x∈l,((C9 [] x.from_).length:Int)≤l.foldl (fun k x=>max (max k ((C9 [] x.from_).length:Int)) (x.to.length:Int)) a∧(x.to.length:Int)≤l.foldl (fun k x=>max (max k ((C9 [] x.from_).length:Int)) (x.to.length:Int)) a
 |[],a=>⟨Int.le_refl _,by simp⟩
 |y::r,a=>by
  obtain ⟨h1,h2⟩:=aK5 r (max (max a ((C9 [] y.from_).length:Int)) (y.to.length:Int))
  refine ⟨?_,fun x hx=>?_⟩
  ·rw [List.foldl_cons];omega
  ·rw [List.foldl_cons]
   rcases List.mem_cons.1 hx with rfl|hx
   ·omega
   ·exact h2 x hx
theorem bp0 (l:List Int):(B5 l).length≤(C9 [] l).length:=
 aX1 _ _ (ao1 l) fun x hx=>N9.2 (.inr (aJ6.1 hx))
theorem co7 {a:Int} {b:List Ins} {c:List Int} (M:Made a b c) (hl:b.length≤30) {ks:Int} (h1:O2 b≤ks) (h2:ks≤64):Fit a b c ks:=by
 have h3:=aK5 b 1
 refine ⟨M,hl,?_,h2,?_,(aX8 M).1,(aX8 M).2⟩
 ·have:=h3.1
  have h4:(1:Int)≤O2 b:=this
  omega
 ·rw [ct2]
  intro x hx
  obtain ⟨h5,h6⟩:=h3.2 x hx
  have h5:((C9 [] x.from_).length:Int)≤O2 b:=h5
  have h6:(x.to.length:Int)≤O2 b:=h6
  have h7:=bp0 x.from_
  unfold fewX
  rw [cq2,cs4,cs4]
  omega
theorem bR3 {a:Int} {b:List Ins} {c d:List Int} (M:Made a b c) (hl:b.length≤30) (n:Int) {k:Int} (hk:1≤k) (hk2:k≤60):Fit a b c (M5 ⟨a,b,c,d⟩ n k)∧M5 ⟨a,b,c,d⟩ n k≤2+k:=by
 have h1:=T8 (n:=n) hk
 have h2:=aQ2 (N:=3) (by omega) b (fun x hx=>by
  have h3:=M.froms x hx
  have h4:=M.tos x hx
  omega)
 unfold M5
 dsimp only
 exact ⟨co7 M hl (by omega) (by omega),by omega⟩
theorem aB0 (a:Int) (w:List Int) (b:List Ins):wr (b.map (Q1 a w))=(wr b).map (C2 a w):=by
 induction b with
 |nil=>rfl
 |cons x r ih=>rw [List.map_cons,L6,L6,ih,List.map_append];rfl
theorem bR4 (a:Int) (l:List Ins):J0 a l=a+(wr l).length:=by
 have key:∀ (l:List Ins) (n:Int),l.foldl (fun n x=>n+(x.to.length:Int)) n=n+((wr l).length:Int):=by
  intro l
  induction l with
  |nil=>intro n;simp [wr]
  |cons x r ih=>
   intro n
   rw [List.foldl_cons,ih,L6,cs3]
   omega
 exact key l a
theorem bR5 {a:Int} {b:List Ins} {c:List Int} (M:Made a b c):(wr b).length≤2*b.length:=by
 have key:∀ l:List Ins,(∀ x∈l,x.to.length≤2)→(wr l).length≤2*l.length:=by
  intro l
  induction l with
  |nil=>intro _;simp [wr]
  |cons x r ih=>
   intro h
   have h1:=ih fun y hy=>h y (by simp [hy])
   have h2:=h x (by simp)
   rw [L6,cs3,cr5]
   omega
 exact key b fun x hx=>(M.tos x hx).2
theorem bE3 {a:Int} {b:List Ins} {c d:List Int} {ks:Int} (F:Fit a b c ks):
  ∃ c',B6 ⟨a,b,c,d⟩ ks=(c',0)∧c'.params=a∧c'.slots=ks∧L0 c'=0∧K7 c'=(⟨a,b.map (Q1 a (wr b)),c.map (C2 a (wr b)),[]⟩,0)∧Q0 c'.code=true∧c'.out.length=c.length∧c'.code.length≤5790:=by
 have C:=F.made.chk
 obtain ⟨m,h,hA⟩:=ck9 C F.ok F.few (J5 b) b.length b.length (Nat.le_refl _)
 rw [ct0] at h hA
 have hlen:=aX2 F.ks2 (A7 a b c) (J5 b) b.length b 0 (H1 a) F.few
 obtain ⟨S,hS⟩:∃ S,runA (A7 a b c) (J5 b) ks b.length b 0 (H1 a)=S:=⟨_,rfl⟩
 rw [hS] at h hA hlen
 have e1:(H1 a).code.length=0:=rfl
 have e2:(H1 a).ocells=a:=rfl
 rw [e1,e2] at hlen
 have hbl:=F.len
 have hal:B6 ⟨a,b,c,d⟩ ks=(⟨a,ks,S.ocells,S.code,c.map (outA S ks)⟩,0):=by
  have hl:bX9 ⟨a,b,c,d⟩ ks=S:=hS
  have hk:=F.ks1
  have hk2:=F.ks2
  unfold B6
  rw [if_neg (by rw [aQ3 C];simp),if_neg (by omega),if_neg (by show ¬ b.all (fewX ks)=false;rw [F.few];simp),hl]
 have hp:=F.made.par
 have hout:∀ n∈c,mget eqP m (outA S ks n)=some (C2 a (wr b) n)∧U1 ks S.ocells (outA S ks n)=true:=by
  intro n hn
  have hlive:n∈atL b c b.length:=by
   rw [ar9 b c (Nat.le_refl _),List.drop_length]
   show n∈C9 [] c
   exact N9.2 (.inr hn)
  unfold outA
  cases hc:(C7 S.holds ks n).cell with
  |true=>
   rw [cond_true]
   obtain ⟨cl,hcl⟩:∃ cl,mget eqI S.cells n=some cl:=by
    rcases hA n hlive with ⟨p,hp,hm⟩|hm
    ·exact absurd hm (X0.1 hc p hp)
    ·exact Option.isSome_iff_exists.1 hm
   have h3:=h.cell n cl hcl
   have hg:getI S.cells n=cl:=by unfold getI;rw [hcl];rfl
   rw [hg]
   refine ⟨h3.2.2,?_⟩
   unfold U1
   rw [O6]
   simp only [cr0,forall_eq,if_true]
   omega
  |false=>
   rw [cond_false]
   obtain ⟨q,hq,hs,hm⟩:=aJ4 hc
   rw [hs]
   refine ⟨h.slot q n hq hm (by simp),?_⟩
   unfold U1
   rw [O6]
   simp only [cr0,forall_eq]
   rw [if_neg (by simp)]
   omega
 have houtF:P9 m (c.map (outA S ks))=(c.map (C2 a (wr b)),true):=by
  have key:∀ l:List Int,(∀ n∈l,n∈c)→P9 m (l.map (outA S ks))=(l.map (C2 a (wr b)),true):=by
   intro l
   induction l with
   |nil=>intro _;rfl
   |cons n r ih=>
    intro hl
    have h4:=(hout n (hl n (by simp))).1
    simp only [List.map_cons,P9,h4,ih fun x hx=>hl x (by simp [hx])]
  exact key c fun _ h=>h
 have hfol:C1 ⟨a,ks,S.ocells,S.code,c.map (outA S ks)⟩=(⟨a,b.map (Q1 a (wr b)),c.map (C2 a (wr b)),[]⟩,true):=by
  unfold C1
  simp only [h.run,houtF,cond_true]
 have hval:L0 ⟨a,ks,S.ocells,S.code,c.map (outA S ks)⟩=0:=by
  have hsh:I9 ⟨a,ks,S.ocells,S.code,c.map (outA S ks)⟩=true:=by
   have hk:=F.ks1
   have hk2:=F.ks2
   have hc:=C.few
   have hc0:=C.pos
   unfold I9
   simp only [cq2,cs4,O6,cr0,forall_eq,ct2]
   refine ⟨⟨⟨⟨⟨⟨by omega,by omega⟩,by omega⟩,by omega⟩,by omega⟩,fun x hx=>(h.good x hx).1⟩,fun x hx=>?_⟩
   obtain ⟨n,hn,rfl⟩:=List.mem_map.1 hx
   exact (hout n hn).2
  have hdis:(S.code.all fun x=>x.kind !=0||D4 x.ins.to)=true:=by
   rw [ct2]
   intro x hx
   have:=(h.good x hx).2.1
   simpa using this
  unfold L0
  rw [if_neg (by dsimp only;omega),if_neg (by rw [hsh];simp),if_neg (by dsimp only;rw [hdis];simp),if_neg (by rw [hfol];simp)]
 refine ⟨_,hal,rfl,rfl,hval,?_,?_,by simp,by dsimp only;omega⟩
 ·unfold K7
  rw [if_neg (by rw [hval];simp),hfol]
  dsimp only
  have h5:=bR5 F.made
  rw [bR4,aB0,ct3,ct3,if_neg (by omega)]
 ·unfold Q0
  rw [ct2]
  exact fun x hx=>(h.good x hx).2.2
theorem aK6 {a:Int} {b:List Ins} {c:List Int} (C:Checked a b c) {n:Int} (h:n<a∨n∈wr b):(n<a∧C2 a (wr b) n=n)∨(∃ m:Nat,(wr b)[m]? =some n∧C2 a (wr b) n=a+m):=by
 by_cases hn:n<a
 ·left
  exact ⟨hn,by unfold C2;rw [if_pos hn]⟩
 ·right
  obtain ⟨m,hm⟩:=List.mem_iff_getElem?.1 (h.resolve_left hn)
  exact ⟨m,hm,ad5 (E3.1 C.once) hm (by omega)⟩
theorem cb3 {a:Int} {b:List Ins} {c:List Int} (C:Checked a b c):(wr b).map (C2 a (wr b))=(List.range (wr b).length).map fun j:Nat=>a+(j:Int):=by
 apply List.ext_getElem?
 intro j
 rw [cr4,cr4]
 by_cases hj:j<(wr b).length
 ·rw [cq1 hj,List.getElem?_range hj]
  simp only [Option.map_some,cp9]
  exact ad5 (E3.1 C.once) (cq1 hj) (C.new _ (List.getElem_mem hj))
 ·rw [List.getElem?_eq_none (by omega),List.getElem?_eq_none (by simp;omega)]
  rfl
theorem cb4 {a:Int} {b:List Ins} {c:List Int} (C:Checked a b c):∀ x∈b,(∀ n∈x.to,n<a∨n∈wr b)∧(∀ n∈x.from_,n<a∨n∈wr b):=by
 intro x hx
 refine ⟨fun n hn=>.inr (aP2.2 ⟨x,hx,hn⟩),fun n hn=>?_⟩
 obtain ⟨k,hk,rfl⟩:=List.mem_iff_getElem.1 hx
 have h1:=C.there
 have hg:b.getD k ins0=b[k]:=by rw [cr3,cq1 hk];rfl
 rw [bo9 hk,hg] at h1
 have h2:=M4 h1 n hn
 rw [List.nil_append] at h2
 refine h2.imp id fun h=>?_
 obtain ⟨y,hy,hn⟩:=aP2.1 h
 exact aP2.2 ⟨y,List.mem_of_mem_take hy,hn⟩
theorem bR6 {a:Int} {b:List Ins} {c:List Int} (C:Checked a b c) {n:Int} (h:n<a∨n∈wr b) (h0:0≤n):0≤C2 a (wr b) n∧C2 a (wr b) n<a+(wr b).length∧(n<a↔C2 a (wr b) n<a):=by
 have:=C.pos
 rcases aK6 C h with ⟨h1,h2⟩|⟨m,h1,h2⟩
 ·rw [h2];exact ⟨h0,by omega,Iff.rfl⟩
 ·have h3:=(cq4.1 h1).1
  have h4:=C.new n (List.mem_of_getElem? h1)
  rw [h2]
  exact ⟨by omega,by omega,by omega⟩
theorem bp1 {a:Int} {b:List Ins} {c:List Int} (C:Checked a b c) {n:Int} (h:n<a∨n∈wr b):C2 a (wr (b.map (Q1 a (wr b)))) (C2 a (wr b) n)=C2 a (wr b) n:=by
 rw [aB0,cb3 C]
 rcases aK6 C h with ⟨h1,h2⟩|⟨m,h1,h2⟩
 ·rw [h2];unfold C2;rw [if_pos h1]
 ·rw [h2]
  have h3:=(cq4.1 h1).1
  refine ad5 ?_ (by rw [cr4,List.getElem?_range h3];rfl) (by omega)
  unfold List.Nodup
  rw [List.pairwise_map]
  exact List.pairwise_lt_range.imp fun hab=>by omega
theorem aK7 {a:Int} (nm:Int→Int) (hlt:∀ n,n<a→nm n<a):∀ (l:List Ins) (W:List Int),D8 a W l=true→D8 a (W.map nm) (l.map fun x=>⟨x.op,x.n,x.to.map nm,x.from_.map nm,x.body⟩)=true
 |[],W,_=>by simp [D8]
 |x::r,W,h=>by
  simp only [D8,cq2,ct2,Bool.or_eq_true,cs4,List.contains_iff_mem] at h
  simp only [List.map_cons,D8,cq2,ct2,Bool.or_eq_true,cs4,List.contains_iff_mem]
  refine ⟨fun y hy=>?_,?_⟩
  ·obtain ⟨n,hn,rfl⟩:=List.mem_map.1 hy
   exact (h.1 n hn).imp (hlt n) fun hh=>List.mem_map.2 ⟨n,hh,rfl⟩
  ·rw [←List.map_append]
   exact aK7 nm hlt r (W++x.to) h.2
theorem aX9 {a:Int} {b:List Ins} {c:List Int} (M:Made a b c) (hl:b.length≤30):Made a (b.map (Q1 a (wr b))) (c.map (C2 a (wr b))):=by
 have C:=M.chk
 have hw:=bR5 M
 have hp:=M.par
 have hr:=cb4 C
 have hwn:=aB0 a (wr b) b
 rw [cb3 C] at hwn
 have hmem:∀ n,(n<a∨n∈wr b)→C2 a (wr b) n<a∨C2 a (wr b) n∈wr (b.map (Q1 a (wr b))):=by
  intro n hn
  rcases aK6 C hn with ⟨h1,h2⟩|⟨m,h1,h2⟩
  ·left;rw [h2];exact h1
  ·right
   rw [aB0]
   exact List.mem_map.2 ⟨n,List.mem_of_getElem? h1,rfl⟩
 refine ⟨⟨by rw [ct3];exact C.len,C.pos,C.few,?_,?_,?_,?_,?_,?_,?_⟩,M.par,?_,?_,?_,?_,?_⟩
 ·intro y hy
  obtain ⟨n,hn,rfl⟩:=List.mem_map.1 hy
  have:=bR6 C (C.outT n hn) (C.outR n hn).1
  omega
 ·intro x hx y hy
  obtain ⟨z,hz,rfl⟩:=List.mem_map.1 hx
  obtain ⟨n,hn,rfl⟩:=List.mem_map.1 hy
  have:=bR6 C ((hr z hz).1 n hn) (C.toR z hz n hn).1
  omega
 ·intro x hx y hy
  obtain ⟨z,hz,rfl⟩:=List.mem_map.1 hx
  obtain ⟨n,hn,rfl⟩:=List.mem_map.1 hy
  have:=bR6 C ((hr z hz).2 n hn) (C.fromR z hz n hn).1
  omega
 ·rw [E3,hwn]
  unfold List.Nodup
  rw [List.pairwise_map]
  exact List.pairwise_lt_range.imp fun hab=>by omega
 ·intro n hn
  rw [hwn] at hn
  obtain ⟨j,_,rfl⟩:=List.mem_map.1 hn
  omega
 ·exact aK7 (C2 a (wr b)) (fun n hn=>by unfold C2;rw [if_pos hn];exact hn) b [] C.there
 ·intro y hy
  obtain ⟨n,hn,rfl⟩:=List.mem_map.1 hy
  exact hmem n (C.outT n hn)
 ·intro x hx
  obtain ⟨z,hz,rfl⟩:=List.mem_map.1 hx
  show (z.from_.map _).length≤3
  rw [ct3]
  exact M.froms z hz
 ·intro x hx
  obtain ⟨z,hz,rfl⟩:=List.mem_map.1 hx
  show 1≤(z.to.map _).length∧(z.to.map _).length≤2
  rw [ct3]
  exact M.tos z hz
 ·intro x hx
  obtain ⟨z,hz,rfl⟩:=List.mem_map.1 hx
  exact M.bod z hz
 ·rw [ct3];exact M.out
 ·intro n hn
  rw [hwn] at hn
  obtain ⟨j,hj,rfl⟩:=List.mem_map.1 hn
  have:=List.mem_range.1 hj
  omega
theorem bp2 {a:Int} {b:List Ins} {c:List Int} (C:Checked a b c):(b.map (Q1 a (wr b))).map (Q1 a (wr (b.map (Q1 a (wr b)))))=b.map (Q1 a (wr b))∧(c.map (C2 a (wr b))).map (C2 a (wr (b.map (Q1 a (wr b)))))=c.map (C2 a (wr b)):=by
 have hr:=cb4 C
 refine ⟨?_,?_⟩
 ·rw [List.map_map]
  apply List.map_congr_left
  intro x hx
  have h1:(x.to.map (C2 a (wr b))).map (C2 a (wr (b.map (Q1 a (wr b)))))=x.to.map (C2 a (wr b)):=by
   rw [List.map_map]
   exact List.map_congr_left fun n hn=>bp1 C ((hr x hx).1 n hn)
  have h2:(x.from_.map (C2 a (wr b))).map (C2 a (wr (b.map (Q1 a (wr b)))))=x.from_.map (C2 a (wr b)):=by
   rw [List.map_map]
   exact List.map_congr_left fun n hn=>bp1 C ((hr x hx).2 n hn)
  simp only [Function.comp,Q1]
  rw [h1,h2]
 ·rw [List.map_map]
  exact List.map_congr_left fun n hn=>bp1 C (C.outT n hn)
theorem aQ6 {a:Int} {b:List Ins} {c d:List Int} (C:Checked a b c):F6 ⟨a,b,c,d⟩=(⟨a,b.map (Q1 a (wr b)),c.map (C2 a (wr b)),[]⟩,0):=by
 unfold F6
 rw [if_neg (by rw [aQ3 C];simp)]
 rfl
theorem ca0 (l:List Int) (n:Int):vc (EV [(25,cBuilt),(27,cSlots),(15,cAlloc),(39,cPlain),(20,cBack),(22,cValid),(24,cSameVec),(14,cSlotted)]) noL Go.Proofs.Tryd.f10 cLaw2 (l,n,()):=by
 rw [bZ9 l n]
 obtain ⟨M,hlen⟩:=made l (m:=30) (by omega)
 have hl:(B0 l 30).code.length≤30:=by omega
 obtain ⟨F,hsl⟩:=bR3 (d:=[]) M hl n (k:=5) (by omega) (by omega)
 obtain ⟨c',h1,h2,h3,h4,h5,h6,h7,_⟩:=bE3 (d:=[]) F
 have C:=M.chk
 have M2:=aX9 M hl
 have ht:=bp2 C
 have hok:=aX8 M
 have hok2:=aX8 M2
 have hM:=M.out
 have hM2:=M2.out
 have hk1:=F.ks1
 have hk2:=F.ks2
 simp only [h1,aQ6 C]
 obtain ⟨b,hb⟩:∃ b,(B0 l 30).code=b:=⟨_,rfl⟩
 obtain ⟨c,hc⟩:∃ c,(B0 l 30).out=c:=⟨_,rfl⟩
 obtain ⟨a,ha⟩:∃ a,parB l=a:=⟨_,rfl⟩
 simp only [hb,hc,ha] at*
 have hcc:(⟨c'.params,c'.slots,c'.cells,c'.code,c'.out⟩:RCode)=c':=rfl
 simp only [hcc,h4,h5,aQ6 M2.chk,ht.1,ht.2]
 intro _
 refine ⟨⟨hok.2,by omega⟩,⟨hok.2,hok.1,by omega⟩,⟨hok.1,by omega⟩,⟨by omega,by omega,h6,by omega⟩,⟨hok2.1,by omega⟩,fun _=>⟨by omega,by omega,h6,by omega⟩,?_⟩
 simp [aj3]
theorem ca1:D0 prog RG 10 cLaw2:=E4 (A6 bo4 (A6 bo5 (A6 aJ9 (A6 bn0 (A6 aP7 (A6 an9 (A6 ar4 (A6 aX5 B9)))))))) (fun _=>noL) (by kernel_rfl) (by kernel_rfl) (by kernel_rfl) fun (l,n,()) _=>ca0 l n
end Go.Rg
end
section
namespace Go.Proofs.YtknhkhdbonjhgaaDoor
open Go.ChangeShapes Go.WideShapes Go.ChangeAt Go.RowKit Go.VT
abbrev aY0:List ArgT:=[(23,false,[Go.Rg.ints]),(3,false,[Go.Rg.i64])]
set_option maxRecDepth 100000 in
theorem bp3 (os:Os) (started:os.Started) (H:Type) (enc:TypeId×Value→H):
  ReturnsInHanded {} Tryd.checked os 10 .any (fun w args=>(Rows.regsSameSpec.pre enc Tryd.prog Tryd.f10 [] false w args∧laidMetH Tryd.prog bD6 w)∧sizedMet enc Tryd.prog Tryd.f10 (OpenSpec.ofChange Rows.regsSameSpec) false w args)
   (Rows.regsSameSpec.post enc Tryd.prog Tryd.f10 false true false false):=by
 refine returnsInHanded_of_change_and (C:=Tryd.checked) (X:=fun w _=>laidMetH Tryd.prog bD6 w) (fun _ _ _ hh h=>h.of_heap hh) own started (by kernel_rfl) Tryd.func10
  (ChangeSpec.witness_shaped (enc:=enc) (C:=Tryd.checked) (os:=os) (X:=fun w _=>laidMetH Tryd.prog bD6 w) false (World.doorLaid Tryd.prog 600 os) #[.slice none 0 0,.int .i64 0] 8 rfl (World.shaped_of_RefB (by kernel_rfl) (by kernel_rfl)) (by kernel_rfl) (by kernel_rfl) (by kernel_rfl) (bY6 os _)) ?_
 intro W base args ds gs ak7 hval0 hW _ hsz hL _
 have hval:∀ (j:Nat) t v,Tryd.f10.params[j]? =some t→args[j]? =some v→Value.okWide Tryd.prog W .any base t v:=hval0
 have hW':=hW
 obtain ⟨p,q,hA0,hV,rfl,hfz,hnd⟩:=hW
 have hA:DataW.TrodAll enc Tryd.prog W 0 (fun _=>true) true Tryd.f10.params.toList args.toList ds p:=hA0
 have hps:Tryd.f10.params.toList=aY0.map (·.1):=by rw [Tryd.params10];rfl
 obtain ⟨rfl,rfl⟩:gs=[]∧q=[]:=by
  cases gs with
  |nil=>exact ⟨rfl,hV⟩
  |cons g r=>exact absurd hV (by intro h;cases h)
 have hsz':∀ n∈DataW.weightsEach Tryd.prog Tryd.f10.params.toList ds,n≤reachBytes:=by
  intro n hn
  have h1:(DataW.weightsEach Tryd.prog (Tryd.f10.params.toList++[]) (ds++[])).all (·≤reachBytes)=true:=hsz
  rw [List.append_nil,List.append_nil] at h1
  simpa using ct2.1 h1 n hn
 rw [hps] at hA hsz'
 obtain ⟨xs,us,hr,hp⟩:=bt4 cj9 (A:=aY0) (fun a ha=>by
  simp only [List.mem_cons,List.not_mem_nil,or_false] at ha
  rcases ha with rfl|rfl
  ·exact bY8
  ·exact ck0) (fun j t v hj hv=>hval j t v (by rw [←hps] at hj;simpa using hj) (by simpa using hv)) hA hsz'
 obtain ⟨d1,d2,rfl⟩:∃ d1 d2,ds=[d1,d2]:=by
  have hlen:=aK1 hA
  match ds,hlen with
  |[d1,d2],_=>exact ⟨_,_,rfl⟩
 have hcall:=bJ6 (pre:=none) (A:=aY0) (w:=W) Go.Rg.ca1 (cj8 hL) hr hp trivial
 rw [Array.toArray_toList] at hcall
 refine hcall.mono fun e W' ⟨he,hb⟩=>⟨_,he,bY9 rfl hW' hb (by kernel_rfl) rfl (fun t ht=>?_)⟩
 rw [hps] at ht
 simp only [List.map_cons,List.map_nil,List.mem_cons,List.not_mem_nil,or_false] at ht
 rcases ht with rfl|rfl<;>exact ⟨by kernel_rfl,cq9 (by kernel_rfl)⟩
theorem bE4:Rows.RegsSameSaid:=
 OpenClaim.holds_of_wide 10 Tryd.f10 rfl rfl rfl rfl rfl rfl rfl ⟨rfl,rfl,rfl,rfl,rfl⟩ rfl rfl rfl rfl rfl (by kernel_rfl) Tryd.func10 (by kernel_rfl)
  (cq9 (by kernel_rfl)) (by unfold Func.isWrapper;first|(rw [if_pos (by decide+kernel)];kernel_rfl)|(rw [if_neg (by decide+kernel)];exact ⟨rfl,rfl⟩))
  (fun os started H enc _=>bp3 os started H enc)
theorem same_card:Rows.RegsSameCardSaid:=
 Claim7.holds_tied_plain_at .later [] [.data,.data] true (true,"168ab8e7f67d43304005f9eb622602b7a6af205c051abe541b21ac4f05ca28a5") false
  bE4 (fun _ h=>by cases h) (by kernel_rfl) (fun _ h=>by cases h) regsSame_row_tie rfl ⟨rfl,rfl⟩ (by kernel_rfl) rfl
  (fun f fn hf hfn=>by
   obtain rfl:f=10:=Option.some.inj ((show Tryd.prog.funcNamed "sheafworks/sheafworkslaw23.RegsSame"=some 10 by kernel_rfl).symm.trans hf) |>.symm
   obtain rfl:fn=Tryd.f10:=(Option.some.inj (Tryd.func10.symm.trans hfn)).symm
   exact ⟨by kernel_rfl,fun j t ht=>by
    rw [Tryd.params10] at ht
    have hm:t∈[23,3]:=by simpa using Array.mem_of_getElem? ht
    have hall:([23,3].all fun u=>!Tryd.prog.wantsStandIn u)=true:=by kernel_rfl
    exact (show Tryd.prog.wantsStandIn t=false by simpa using ct2.1 hall t hm)⟩)
  (by kernel_rfl)
end Go.Proofs.YtknhkhdbonjhgaaDoor
end
