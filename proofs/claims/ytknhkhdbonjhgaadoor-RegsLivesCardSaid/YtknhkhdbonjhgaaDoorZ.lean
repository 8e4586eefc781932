/-
RegsLives: the card's statement, from the law's contract.
-/
import Derived.Test.YtknhkhdbonjhgaaDoorV5
import Derived.Test.YtknhkhdbonjhgaaDoorCards
import Derived.Test.YtknhkhdbonjhgaaDoorTie
import Derived.SevenTiedAt
set_option linter.unusedVariables false
set_option linter.unusedSimpArgs false
section
set_option maxRecDepth 100000
namespace Go.Rg
open Go Go.VT
theorem ch0 (d:Int):IntKind.i64.wrap (1+IntKind.i64.wrap (Int.tdiv (G1 d 5) 4))=(toN d:Int):=by
 have h:=Y1 (n:=d) (b:=5) (by omega)
 have h2:Int.tdiv (G1 d 5) 4=G1 d 5 / 4:=Int.tdiv_eq_ediv_of_nonneg h.1
 rw [h2,F5 (n:=G1 d 5 / 4) (by omega) (by omega),F5 (by omega) (by omega)]
 unfold toN
 omega
theorem ch1 {p n:Int} (hp:0≤p∧p<4) (h0:0≤n) (h1:n≤1000):IntKind.i64.wrap (p+Int.tmod (IntKind.i64.wrap (IntKind.i64.wrap (n*7)+5)) 97)=p+(n*7+5) % 97:=by
 rw [F5 (n:=n*7) (by omega) (by omega),F5 (n:=n*7+5) (by omega) (by omega),Int.tmod_eq_emod_of_nonneg (by omega),F5 (by omega) (by omega)]
theorem cc7 (there:List Int) (c:Int) {k:Nat} (hk:k≤4):U4 there (IntKind.i64.wrap (IntKind.i64.wrap (Int.tdiv c (IntKind.i64.wrap (1+IntKind.i64.wrap (5*(k:Int)))))+k))=bR8 there c k:=by
 rw [F5 (n:=5*(k:Int)) (by omega) (by omega),F5 (n:=1+5*(k:Int)) (by omega) (by omega)]
 rfl
theorem bS1 (l:List Int) (m:Int):vc (EV [(65,cTurn),(66,cNth)]) (bJ1 l m) Go.Proofs.Tryd.f25 cBuilt (l,m,()):=by
 rw [bS0 l m]
 intro e0 e1 hs
 have hl:l.length≤140737488355328:=hs.len
 have he0:e0=parB l:=rfl
 have he1:e1=(l.length:Int):=rfl
 clear_value e0 e1
 subst he0 he1
 have hp:=aS8 l
 simp only [true_and,and_true]
 refine ⟨by omega,⟨(0,[],()),rfl,rfl,Int.le_refl _,hp.1,rfl⟩,?_⟩
 rintro ⟨r,th,⟨⟩⟩
 dsimp only
 rintro ⟨h0,h1,rfl⟩
 obtain ⟨k,rfl⟩:=Int.eq_ofNat_of_zero_le h0
 simp only [Int.toNat_natCast] at*
 refine ⟨fun hlt=>?_,fun hge=>?_⟩
 ·have hlt:=of_decide_eq_true hlt
  refine ⟨by rw [aG3];simp;omega,((k+1:Nat),iota (k+1),()),B6 (m:=4) (by omega) (by omega),(bJ5 k).symm,⟨by dsimp only;omega,by dsimp only;omega,by dsimp only;rw [Int.toNat_natCast]⟩,by dsimp only;omega⟩
 have hge:=of_decide_eq_false hge
 have hk:(k:Int)=parB l:=by omega
 have hk2:iota k=(runB l 0).2.1:=by show _=iota (parB l).toNat;rw [←hk,Int.toNat_natCast]
 refine ⟨⟨(0,1,iota k,[],()),rfl,rfl,rfl,rfl,0,rfl,by omega,fun i hi=>by omega,by rw [hk2];rfl⟩,?_⟩
 clear hge hk2
 rintro ⟨count,i,there,code,⟨⟩⟩
 dsimp only
 rintro ⟨j,rfl,hj,hgo,hrun⟩
 obtain ⟨h1',h2',h3',h4'⟩:=aS9 l j
 have hc:code=(runB l j).1:=congrArg (·.1) hrun
 have ht:there=(runB l j).2.1:=congrArg (·.2.1) hrun
 have hn:count=(runB l j).2.2:=congrArg (·.2.2) hrun
 clear hrun
 have hw3:IntKind.i64.wrap (4*(j:Int)+1+3)=((4*j+4:Nat):Int):=by rw [F5 (by omega) (by omega)];omega
 have hw2:IntKind.i64.wrap (4*(j:Int)+1+2)=((4*j+3:Nat):Int):=by rw [F5 (by omega) (by omega)];omega
 have hw1:IntKind.i64.wrap (4*(j:Int)+1+1)=((4*j+2:Nat):Int):=by rw [F5 (by omega) (by omega)];omega
 have hwn:(4*(j:Int)+1).toNat=4*j+1:=by omega
 have hlen:IntKind.i64.wrap ((there.length:Int)-1)=(there.length:Int)-1:=by rw [F5 (by rw [ht];omega) (by rw [ht];omega)]
 simp only [hw3,hw2,hw1,hwn,hlen,Int.toNat_natCast]
 have hgj:(decide (((4*j+4:Nat):Int)<(l.length:Int))&&decide ((code.length:Int)<m)&&decide (count<90))=goB l m j:=by
  unfold goB
  rw [hc,h1',hn]
  congr 2
  simp only [decide_eq_decide]
  omega
 rw [hgj]
 refine ⟨fun hg=>?_,fun hg=>?_⟩
 ·have hg':(4*j+4<l.length∧(j:Int)<m)∧(runB l j).2.2<90:=by simpa [goB] using hg
  obtain ⟨⟨g1,g2⟩,g3⟩:=hg'
  have hb4:=Y1 (n:=l.getD (4*j+2) 0) (b:=4) (by omega)
  refine ⟨⟨by omega,by omega⟩,by omega,⟨by omega,by omega⟩,by omega,⟨(0,[],()),rfl,rfl,Int.le_refl _,hb4.1,rfl,fun _=>rfl⟩,?_⟩
  rintro ⟨q,fr,⟨⟩⟩
  dsimp only
  rintro ⟨q0,q1,rfl,hq⟩
  obtain ⟨q,rfl⟩:=Int.eq_ofNat_of_zero_le q0
  have q1:(q:Int)≤G1 (l.getD (4*j+2) 0) 4:=q1
  have hf:=cc7 there (l.getD (4*j+3) 0) (k:=q) (by omega)
  simp only [Int.toNat_natCast,hf] at*
  refine ⟨⟨by omega,by omega⟩,by omega,fun h=>?_,fun h=>?_⟩
  ·simp only [Bool.and_eq_true,decide_eq_true_eq] at h
   refine ⟨⟨by omega,by omega⟩,by rw [F5 (n:=5*(q:Int)) (by omega) (by omega),F5 (by omega) (by omega)];omega,by rw [ai4];simp;omega,((q+1:Nat),M6 there (l.getD (4*j+3) 0) (q+1),()),B6 (m:=4) (by omega) (by omega),(bc0 _ _ _).symm,⟨by dsimp only;omega,?_,by dsimp only;rw [Int.toNat_natCast],fun hn=>?_⟩,by dsimp only;omega⟩
   ·show ((q+1:Nat):Int)≤G1 (l.getD (4*j+2) 0) 4
    omega
   ·rw [hn] at h;simp at h
  ·have hfr:M6 there (l.getD (4*j+3) 0) q=ae8 there (l.getD (4*j+2) 0) (l.getD (4*j+3) 0):=by
    unfold ae8
    simp only [Bool.and_eq_false_iff,decide_eq_false_iff_not] at h
    split
    ·rename_i hn
     have:=hq hn
     have:q=0:=by omega
     rw [this];rfl
    ·rename_i hn
     have hpos:0<there.length:=List.length_pos_iff.2 hn
     rw [show (G1 (l.getD (4*j+2) 0) 4).toNat=q from by omega]
   have hN:=bo5 (l.getD (4*j+4) 0)
   have hw:=ch0 (l.getD (4*j+4) 0)
   refine ⟨⟨(0,count,[],()),rfl,rfl,rfl,Int.le_refl _,by dsimp only;omega,(Int.add_zero _).symm,rfl⟩,?_⟩
   rintro ⟨u,n2,to,⟨⟩⟩
   dsimp only
   rintro ⟨u0,u1,rfl,rfl⟩
   obtain ⟨u,rfl⟩:=Int.eq_ofNat_of_zero_le u0
   have u1:(u:Int)≤(toN (l.getD (4*j+4) 0):Int):=u1
   have hk:=ch1 hp (n:=count+(u:Int)) (by omega) (by omega)
   simp only [Int.toNat_natCast,hw,hk] at*
   refine ⟨⟨by omega,by omega⟩,by omega,by omega,fun h=>?_,fun h=>?_⟩
   ·have h:=of_decide_eq_true h
    refine ⟨by omega,by rw [W5];simp;omega,((u+1:Nat),count+((u+1:Nat):Int),O4 (parB l) count (u+1),()),B6 (m:=4) (by omega) (by omega),by rw [F5 (by omega) (by omega)];dsimp only;omega,(bx3 _ _ _).symm,⟨by dsimp only;omega,?_,rfl,by dsimp only;rw [Int.toNat_natCast]⟩,by dsimp only;omega⟩
    show ((u+1:Nat):Int)≤(toN (l.getD (4*j+4) 0):Int)
    omega
   ·have h:=of_decide_eq_false h
    have hu:u=toN (l.getD (4*j+4) 0):=by omega
    have hstep:runB l (j+1)=(code++[⟨G1 (l.getD (4*j+1) 0) 15,G1 (l.getD (4*j+1) 0) 12,O4 (parB l) count u,M6 there (l.getD (4*j+3) 0) q,[]⟩],there++O4 (parB l) count u,count+u):=by
     rw [hfr,hu,hc,ht,hn]
     rfl
    refine ⟨by rw [ht,W5];omega,by rw [hc,h1'];simp;omega,(count+u,((4*(j+1)+1:Nat):Int),there++O4 (parB l) count u,code++[⟨G1 (l.getD (4*j+1) 0) 15,G1 (l.getD (4*j+1) 0) 12,O4 (parB l) count u,M6 there (l.getD (4*j+3) 0) q,[]⟩],()),rfl,by rw [F5 (by omega) (by omega)];dsimp only;omega,rfl,rfl,⟨j+1,by dsimp only;omega,by omega,fun i hi=>?_,hstep.symm⟩,by dsimp only;omega⟩
    rcases Nat.lt_succ_iff_lt_or_eq.1 hi with hi|rfl
    ·exact hgo i hi
    ·exact hg
 ·have hend:=cc6 hj hgo hg
  refine ⟨⟨(0,[],()),rfl,rfl,Int.le_refl _,by dsimp only;omega,by dsimp only;rfl⟩,?_⟩
  rintro ⟨q,o,⟨⟩⟩
  dsimp only
  rintro ⟨q0,q1,rfl⟩
  obtain ⟨q,rfl⟩:=Int.eq_ofNat_of_zero_le q0
  simp only [Int.toNat_natCast] at*
  refine ⟨fun h=>?_,fun h=>?_⟩
  ·simp only [Bool.and_eq_true,decide_eq_true_eq] at h
   have hne:there≠[]:=by rintro hh;rw [hh] at h;simp at h
   have ho:outB there=[U4 there (there.length-1),U4 there (there.length-3)]:=if_neg hne
   have hq:q=0∨q=1:=by omega
   rw [ho]
   rcases hq with rfl|rfl
   ·refine ⟨by show (0+1)*8≤140737488355328;omega,(1,[U4 there (there.length-1)],()),rfl,?_,⟨by dsimp only;omega,by dsimp only;omega,rfl⟩,by dsimp only;omega⟩
    show []++[U4 there _]=_
    rw [F5 (n:=2*((0:Nat):Int)) (by omega) (by omega),F5 (by rw [ht];omega) (by rw [ht];omega),show ((there.length:Int)-1-2*((0:Nat):Int))=there.length-1 from by omega]
    rfl
   ·refine ⟨by show (1+1)*8≤140737488355328;omega,(2,[U4 there (there.length-1),U4 there (there.length-3)],()),rfl,?_,⟨by dsimp only;omega,by dsimp only;omega,rfl⟩,by dsimp only;omega⟩
    show [U4 there _]++[U4 there _]=_
    rw [F5 (n:=2*((1:Nat):Int)) (by omega) (by omega),F5 (n:=(there.length:Int)-1-2*((1:Nat):Int)) (by rw [ht];omega) (by rw [ht];omega)]
    rw [show ((there.length:Int)-1-2*((1:Nat):Int))=there.length-3 from by omega]
    rfl
  ·have hou:(outB there).take q=outB there:=by
    simp only [Bool.and_eq_false_iff,decide_eq_false_iff_not] at h
    apply List.take_of_length_le
    unfold outB
    split
    ·exact Nat.zero_le _
    ·rename_i hn
     have hpos:0<there.length:=List.length_pos_iff.2 hn
     show 2≤q
     omega
   rw [hou,hc,ht]
   show _=(parB l,(runB l (endB l m)).1,outB (runB l (endB l m)).2.1,[],())
   rw [hend]
theorem bi8:C4 prog RG 25 cBuilt:=E2 (A6 aL9 (A6 bJ4 B7)) (fun p=>bJ1 p.1 p.2.1) (by kernel_rfl) (by kernel_rfl) (by kernel_rfl) fun (l,m,()) _=>bS1 l m
theorem aG4 {l:List Int} (n:Int) (h:l≠[]):U4 l n∈l:=by
 have hp:0<l.length:=List.length_pos_iff.2 h
 unfold U4
 rw [if_neg h]
 have h1:=Int.emod_nonneg n (b:=(l.length:Int)) (by omega)
 have h2:=Int.emod_lt_of_pos n (b:=(l.length:Int)) (by omega)
 exact H4 (by omega) _
theorem bo6 {k:Nat} {x:Int}:x∈iota k↔0≤x∧x<k:=by
 simp only [iota,List.mem_map,List.mem_range]
 constructor
 ·rintro ⟨i,hi,rfl⟩
  simp only [Int.ofNat_eq_natCast]
  omega
 ·rintro ⟨h0,h1⟩
  exact ⟨x.toNat,by omega,by simp only [Int.ofNat_eq_natCast];omega⟩
theorem bJ6 {p:Int} {c:Int} {k:Nat} {x:Int} (hc:0≤c) (h:x∈O4 p c k):p≤x∧x<p+97:=by
 simp only [O4,List.mem_map,List.mem_range,toK] at h
 obtain ⟨i,hi,rfl⟩:=h
 omega
theorem bJ7 (p:Int) (c n:Nat):O4 p 0 (c+n)=O4 p 0 c++O4 p (c:Int) n:=by
 simp only [O4,List.range_add,List.map_append,List.map_map]
 congr 1
 apply List.map_congr_left
 intro k _
 simp only [Function.comp,toK]
 congr 3
 omega
theorem bi9 {p:Int} {n:Nat} (h:n≤97):(O4 p 0 n).Nodup:=by
 unfold O4
 unfold List.Nodup
 rw [List.pairwise_map]
 refine List.Pairwise.imp_of_mem (R:=fun a b=>a<b) ?_ List.pairwise_lt_range
 intro a b ha hb hab
 simp only [List.mem_range] at ha hb
 simp only [toK]
 omega
theorem bJ8 (l:List Ins) (x:Ins):wr (l++[x])=wr l++x.to:=by simp [wr]
theorem bj0 {there:List Int} {b c x:Int} (h:x∈ae8 there b c):x∈there:=by
 unfold ae8 at h
 split at h
 ·simp at h
 ·rename_i hn
  simp only [M6,List.mem_map,bR8] at h
  obtain ⟨k,_,rfl⟩:=h
  exact aG4 _ hn
theorem aH3 (there:List Int) (b c:Int):(ae8 there b c).length≤3:=by
 have:=Y1 (n:=b) (b:=4) (by omega)
 unfold ae8
 split
 ·exact Nat.zero_le _
 ·rw [ai4];omega
theorem bo7 {there:List Int} {x:Int} (h:x∈outB there):x∈there:=by
 unfold outB at h
 split at h
 ·simp at h
 ·rename_i hn
  simp only [List.mem_cons,List.not_mem_nil,or_false] at h
  rcases h with rfl|rfl
  ·exact aG4 _ hn
  ·exact aG4 _ hn
structure BuiltOk (p:Int) (s:BS) (n:Nat):Prop where
 cnt:s.2.2=n
 wrs:wr s.1=O4 p 0 n
 ther:s.2.1=iota p.toNat++wr s.1
 thr:E7 p [] s.1=true
 froms:∀ x∈s.1,x.from_.length≤3∧∀ y∈x.from_,y∈s.2.1
 tos:∀ x∈s.1,1≤x.to.length∧x.to.length≤2
 bod:∀ x∈s.1,x.body=[]
theorem bo8 (l:List Int):∀ j,∃ n,BuiltOk (parB l) (runB l j) n
 |0=>⟨0,rfl,rfl,by show _=_++[];rw [List.append_nil];rfl,rfl,fun x hx=>by simp [runB] at hx,fun x hx=>by simp [runB] at hx,fun x hx=>by simp [runB] at hx⟩
 |j+1=>by
  obtain ⟨n,h⟩:=bo8 l j
  have hp:=aS8 l
  obtain ⟨s,hs⟩:∃ s,runB l j=s:=⟨_,rfl⟩
  rw [hs] at h
  obtain ⟨d,hd⟩:∃ d,toN (l.getD (4*j+1+3) 0)=d:=⟨_,rfl⟩
  have ht:=bo5 (l.getD (4*j+1+3) 0)
  have e:runB l (j+1)=bR9 (parB l) l (4*j+1) s:=by show bR9 _ _ _ (runB l j)=_;rw [hs]
  rw [e]
  unfold bR9
  rw [hd] at*
  obtain ⟨fr,hfr⟩:∃ fr,ae8 s.2.1 (l.getD (4*j+1+1) 0) (l.getD (4*j+1+2) 0)=fr:=⟨_,rfl⟩
  have hfm:∀ y∈fr,y∈s.2.1:=fun y hy=>by rw [←hfr] at hy;exact bj0 hy
  have hfl:fr.length≤3:=by rw [←hfr];exact aH3 _ _ _
  rw [hfr]
  refine ⟨n+d,?_,?_,?_,?_,?_,?_,?_⟩
  ·show s.2.2+(d:Int)=_
   rw [h.cnt];omega
  ·show wr (s.1++[_])=_
   rw [bJ8,h.wrs,bJ7,h.cnt]
  ·show s.2.1++_=_++wr (s.1++[_])
   rw [bJ8,h.ther,List.append_assoc]
  ·show E7 _ _ (s.1++[_])=true
   rw [K9,h.thr]
   simp only [Bool.true_and,E7,Bool.and_true,List.nil_append,List.all_eq_true,Bool.or_eq_true,decide_eq_true_eq,List.contains_iff_mem]
   intro y hy
   have:=hfm y hy
   rw [h.ther,List.mem_append] at this
   rcases this with hi|hw
   ·have:=bo6.1 hi;left;omega
   ·exact .inr hw
  ·intro x hx
   rcases List.mem_append.1 hx with hx|hx
   ·exact ⟨(h.froms x hx).1,fun y hy=>List.mem_append.2 (.inl ((h.froms x hx).2 y hy))⟩
   ·rw [List.mem_singleton] at hx
    subst hx
    exact ⟨hfl,fun y hy=>List.mem_append.2 (.inl (hfm y hy))⟩
  ·intro x hx
   rcases List.mem_append.1 hx with hx|hx
   ·exact h.tos x hx
   ·rw [List.mem_singleton] at hx
    subst hx
    show 1≤(O4 _ _ d).length∧(O4 _ _ d).length≤2
    rw [W5];exact ht
  ·intro x hx
   rcases List.mem_append.1 hx with hx|hx
   ·exact h.bod x hx
   ·rw [List.mem_singleton] at hx
    subst hx
    rfl
theorem bJ9 (l:List Int) (m:Int):endB l m≤90∧∀ i,i<endB l m→goB l m i=true:=by
 unfold endB
 cases h:(List.range 91).find? fun j=>!goB l m j with
 |none=>exact ⟨by simp,fun i hi=>by simp at hi⟩
 |some j=>
  rw [List.find?_eq_some_iff_getElem] at h
  obtain ⟨_,k,hk,h1,h2⟩:=h
  simp only [List.length_range,List.getElem_range] at hk h1 h2
  subst h1
  refine ⟨by show k≤90;omega,fun i hi=>?_⟩
  have:=h2 i hi
  simpa using this
theorem cc8 {l:List Int} {m:Int} (hm:0≤m):(endB l m:Int)≤m:=by
 have h:=(bJ9 l m).2
 by_cases h0:endB l m=0
 ·omega
 ·have h1:=h (endB l m-1) (by omega)
  unfold goB at h1
  simp only [Bool.and_eq_true,decide_eq_true_eq] at h1
  omega
structure Made (a:Int) (b:List Ins) (c:List Int):Prop where
 chk:Checked a b c
 par:0≤a∧a≤3
 froms:∀ x∈b,x.from_.length≤3
 tos:∀ x∈b,1≤x.to.length∧x.to.length≤2
 bod:∀ x∈b,x.body=[]
 out:c.length≤2
 regs:∀ n∈wr b,n<100
theorem made (l:List Int) {m:Int} (hm:0≤m):Made (parB l) (D8 l m).code (D8 l m).out∧((D8 l m).code.length:Int)≤m:=by
 obtain ⟨n,h⟩:=bo8 l (endB l m)
 have hl:=aS9 l (endB l m)
 obtain ⟨hgo1,hgo2⟩:=bJ9 l m
 have hp:=aS8 l
 have hn:n≤91:=by
  have h1:=h.cnt
  by_cases h0:endB l m=0
  ·rw [h0] at h1
   have:(0:Int)=n:=h1
   omega
  ·obtain ⟨k,hk⟩:∃ k,endB l m=k+1:=⟨endB l m-1,by omega⟩
   have h2:=hgo2 k (by omega)
   unfold goB at h2
   simp only [Bool.and_eq_true,decide_eq_true_eq] at h2
   rw [hk] at h1
   have h3:(runB l k).2.2+(toN (l.getD (4*k+1+3) 0):Int)=n:=h1
   have:=bo5 (l.getD (4*k+1+3) 0)
   omega
 show Made (parB l) (runB l (endB l m)).1 (outB (runB l (endB l m)).2.1)∧((runB l (endB l m)).1.length:Int)≤m
 obtain ⟨s,hs⟩:∃ s,runB l (endB l m)=s:=⟨_,rfl⟩
 have hle:=cc8 (l:=l) hm
 rw [hs] at h hl ⊢
 have hwr:∀ x∈wr s.1,parB l≤x∧x<parB l+97:=fun x hx=>by rw [h.wrs] at hx;exact bJ6 (Int.le_refl _) hx
 have hth:∀ x∈s.2.1,(0≤x∧x<parB l)∨x∈wr s.1:=by
  intro x hx
  rw [h.ther,List.mem_append] at hx
  rcases hx with hx|hx
  ·have:=bo6.1 hx;left;omega
  ·exact .inr hx
 have hreg:∀ x∈s.2.1,0≤x∧x≤3999:=by
  intro x hx
  rcases hth x hx with hx|hx
  ·omega
  ·have:=hwr x hx;omega
 refine ⟨⟨⟨by omega,hp.1,by omega,fun x hx=>hreg x (bo7 hx),?_,fun x hx y hy=>hreg y ((h.froms x hx).2 y hy),?_,fun x hx=>(hwr x hx).1,h.thr,?_⟩,by omega,fun x hx=>(h.froms x hx).1,h.tos,h.bod,?_,fun x hx=>by have:=hwr x hx;omega⟩,by omega⟩
 ·intro x hx y hy
  have:=hwr y (List.mem_flatMap.2 ⟨x,hx,hy⟩)
  omega
 ·rw [G5,h.wrs]
  exact bi9 (by omega)
 ·intro x hx
  rcases hth x (bo7 hx) with hx|hx
  ·left;omega
  ·exact .inr hx
 ·unfold outB
  split<;>simp
theorem bx4 {a:Int} {b:List Ins} {c d:List Int} (h:Checked a b c):E0 ⟨a,b,c,d⟩=0:=by
 have e1:(lies a 0 4000&&c.all Q9&&b.all fun x=>x.to.all Q9&&x.from_.all Q9)=true:=by
  simp only [Bool.and_eq_true,List.all_eq_true,ao2,lies,decide_eq_true_eq]
  exact ⟨⟨⟨h.pos,h.few⟩,h.outR⟩,fun x hx=>⟨h.toR x hx,h.fromR x hx⟩⟩
 have e2:(D4 (wr b)&&(wr b).all fun n=>decide (a≤n))=true:=by
  simp only [Bool.and_eq_true,List.all_eq_true,decide_eq_true_eq]
  exact ⟨h.once,h.new⟩
 have e3:(E7 a [] b&&c.all fun n=>decide (n<a)||(wr b).contains n)=true:=by
  simp only [Bool.and_eq_true,List.all_eq_true,decide_eq_true_eq,Bool.or_eq_true,List.contains_iff_mem]
  exact ⟨h.there,h.outT⟩
 simp only [E0,e1,e2,e3,if_neg (Nat.not_lt.2 h.len)]
 rfl
noncomputable def cLaw1:Con RU:=con [one] [ints] [one] [.bool] [false] none fun _=>(true,())
def av3 (l:List Int) (m:Int):List Ins:=(D8 l m).code
def ai5 (l:List Int) (m:Int):List (List Int):=D0 (av3 l m) (D8 l m).out
def K7 (x:Ins) (l:List Int):List Int:=(l.filter fun n=>!x.to.contains n).foldl L6 (C6 [] x.from_)
noncomputable def bK0 (l:List Int):Nat→St RU→Ann RU:=fun n s=>match n with
 |0=>⟨[],[.slot 9,.slot 8],[i64,i64],fun p=>0≤p.1∧p.1≤(av3 l 30).length∧p.2.1=K0 (ai5 l 30) (av3 l 30) p.1.toNat,fun p=>(av3 l 30).length-p.1.toNat,[]⟩
 |_=>⟨[],[.slot 11,.slot 10],[i64,ints],fun p=>0≤p.1∧p.1≤((ai5 l 30).getD ((s.intAt 9).toNat+1) []).length∧p.2.1=K7 ((av3 l 30).getD (s.intAt 9).toNat ins0) (((ai5 l 30).getD ((s.intAt 9).toNat+1) []).take p.1.toNat),fun p=>((ai5 l 30).getD ((s.intAt 9).toNat+1) []).length-p.1.toNat,[]⟩
end Go.Rg
end
section
set_option maxRecDepth 100000
open Go Go.VT
namespace Go.Rg
theorem bK1 (l:List Int):vc (EV [(25,cBuilt),(33,cLive),(29,cPress),(35,cUnion),(34,cEqual),(36,cReadsL),(32,cWhere),(30,cPut),(14,cSlotted)]) (bK0 l) Go.Proofs.Tryd.f8 cLaw1 (l,())=(
 let e0:Bool:=
  (J6 (VFun.mk (parB l) (D8 l (30:Int)).code (D8 l (30:Int)).out [])).2 !=(0:Int)||
  (L7 (VFun.mk (parB l) (D8 l (30:Int)).code (D8 l (30:Int)).out [])).2 !=(0:Int)||
  (↑(List.length (J6 (VFun.mk (parB l) (D8 l (30:Int)).code (D8 l (30:Int)).out [])).1):Int) !=
  IntKind.wrap IntKind.i64 ((↑(List.length (D8 l (30:Int)).code):Int)+(1:Int))||
  !decide
  (List.getD (J6 (VFun.mk (parB l) (D8 l (30:Int)).code (D8 l (30:Int)).out [])).1 (Int.toNat (↑(List.length (D8 l (30:Int)).code):Int)) []=
  C6 [] (D8 l (30:Int)).out);
 let e1:List (List Int):=(J6 (VFun.mk (parB l) (D8 l (30:Int)).code (D8 l (30:Int)).out [])).1;
 let e2:Int:=(J6 (VFun.mk (parB l) (D8 l (30:Int)).code (D8 l (30:Int)).out [])).2;
 let e3:Int:=(L7 (VFun.mk (parB l) (D8 l (30:Int)).code (D8 l (30:Int)).out [])).1;
 let e4:Int:=(L7 (VFun.mk (parB l) (D8 l (30:Int)).code (D8 l (30:Int)).out [])).2;
 let e5:Int:=(↑(List.length (D8 l (30:Int)).code):Int);
 let e6:List Ins:=(D8 l (30:Int)).code;
 let e7:Ins:=Ins.mk (0:Int) (0:Int) [] [] [];
 let e8:Int:=(↑(List.length e1):Int);
 let e9:List Int:=(D8 l (30:Int)).out;
 let e10:List Ins:=av3 l (30:Int);
 let e11:List (List Int):=ai5 l (30:Int);
  Small RU (Sigma.mk (Ty.slice (3:Nat) (Ty.int IntKind.i64)) l)→
  ((e2 !=(0:Int)||e4 !=(0:Int)||e8 !=IntKind.wrap IntKind.i64 (e5+(1:Int)))=false→(0:Int)≤e5∧e5<e8)∧
  ((e2 !=(0:Int)||e4 !=(0:Int)||e8 !=IntKind.wrap IntKind.i64 (e5+(1:Int)))=false→Nat.le (List.length ([]:List Int)+List.length e9) (17592186044400:Nat))∧
  (e0=true→(false,())=(true,()))∧
  (e0=false→
  ((0:Int)≤(0:Int)∧(0:Int)<e8)∧
  (∃ (p:Int×Int×Unit),
  l=l∧
  e1=e1∧
  e2=e2∧
  e3=e3∧
  e4=e4∧
  e0=e0∧
  (0:Int)=p.1∧
  (↑(List.length (List.getD e1 (0:Nat) [])):Int)=p.2.1∧
  parB l=parB l∧e6=e6∧e9=e9∧([]:List Int)=[]∧(0:Int)≤p.1∧p.1≤(↑(List.length e10):Int)∧p.2.1=K0 e11 e10 (Int.toNat p.1))∧
  ∀ (p:Int×Int×Unit),
 let e0_1:Bool:=decide (p.1<e5);
 let e1_1:List Int:=List.getD e1 (Int.toNat (IntKind.wrap IntKind.i64 (p.1+(1:Int)))) [];
 let e2_1:Int:=p.2.1;
 let e3_1:Int:=p.1;
 let e4_1:Nat:=List.length (List.getD e11 (Int.toNat e3_1+(1:Nat)) []);
 let e5_1:Int:=IntKind.wrap IntKind.i64 (e3_1+(1:Int));
 let e6_1:List Int:=(List.getD e6 (Int.toNat e3_1) e7).to;
  (0:Int)≤e3_1∧e3_1≤(↑(List.length e10):Int)∧e2_1=K0 e11 e10 (Int.toNat e3_1)→
  (e0_1=true→
  ((0:Int)≤e3_1∧e3_1<e5)∧
  List.length (List.getD e6 (Int.toNat e3_1) e7).from_≤(17592186044400:Nat)∧
  (∃ (p:Int×List Int×Unit),
  l=l∧
  e1=e1∧
  e2=e2∧
  e3=e3∧
  e4=e4∧
  e0=e0∧
  e3_1=e3_1∧
  e2_1=e2_1∧
  e0_1=e0_1∧
  (0:Int)=p.1∧
  C6 [] (List.getD e6 (Int.toNat e3_1) e7).from_=p.2.1∧
  parB l=parB l∧
  e6=e6∧
  e9=e9∧
  ([]:List Int)=[]∧
  (0:Int)≤p.1∧
  p.1≤(↑e4_1:Int)∧
  p.2.1=
  K7 (List.getD e10 (Int.toNat e3_1) ins0) (List.take (Int.toNat p.1) (List.getD e11 (Int.toNat e3_1+(1:Nat)) [])))∧
  ∀ (p:Int×List Int×Unit),
 let e0_2:Bool:=decide (I7 e6_1 (List.getD e1_1 (Int.toNat p.1) (0:Int))<(0:Int));
 let e1_2:Bool:=!decide (List.getD e1 (Int.toNat e3_1) []=p.2.1);
 let e2_2:Bool:=decide (p.1<(↑(List.length e1_1):Int));
 let e3_2:Int:=p.1;
 let e4_2:List Int:=p.2.1;
 let e5_2:List Int:=List.getD e11 (Int.toNat e3_1+(1:Nat)) [];
  (0:Int)≤e3_2∧e3_2≤(↑e4_1:Int)∧e4_2=K7 (List.getD e10 (Int.toNat e3_1) ins0) (List.take (Int.toNat e3_2) e5_2)→
  ((0:Int)≤e5_1∧e5_1<e8)∧
  (e2_2=true→
  ((0:Int)≤e3_1∧e3_1<e5)∧
  ((0:Int)≤e5_1∧e5_1<e8)∧
  ((0:Int)≤e3_2∧e3_2<(↑(List.length e1_1):Int))∧
  (e0_2=true→((0:Int)≤e5_1∧e5_1<e8)∧((0:Int)≤e3_2∧e3_2<(↑(List.length e1_1):Int))∧List.length e4_2≤(17592186044400:Nat))∧
  ∃ (p':Int×List Int×Unit),
  (bif e0_2 then l else l)=l∧
  (bif e0_2 then e1 else e1)=e1∧
  (bif e0_2 then e2 else e2)=e2∧
  (bif e0_2 then e3 else e3)=e3∧
  (bif e0_2 then e4 else e4)=e4∧
  (bif e0_2 then e0 else e0)=e0∧
  (bif e0_2 then e3_1 else e3_1)=e3_1∧
  (bif e0_2 then e2_1 else e2_1)=e2_1∧
  (bif e0_2 then e0_1 else e0_1)=e0_1∧
  IntKind.wrap IntKind.i64 ((bif e0_2 then e3_2 else e3_2)+(1:Int))=p'.1∧
  (bif e0_2 then L6 e4_2 (List.getD e1_1 (Int.toNat e3_2) (0:Int)) else e4_2)=p'.2.1∧
  (bif e0_2 then parB l else parB l)=parB l∧
  (bif e0_2 then e6 else e6)=e6∧
  (bif e0_2 then e9 else e9)=e9∧
  (bif e0_2 then ([]:List Int) else [])=([]:List Int)∧
  ((0:Int)≤p'.1∧
  p'.1≤(↑e4_1:Int)∧
  p'.2.1=K7 (List.getD e10 (Int.toNat e3_1) ins0) (List.take (Int.toNat p'.1) e5_2))∧
  e4_1-Int.toNat p'.1<e4_1-Int.toNat e3_2)∧
  (e2_2=false→
  ((0:Int)≤e3_1∧e3_1<e8)∧
  (e1_2=true→(false,())=(true,()))∧
  (e1_2=false→
  ((0:Int)≤e5_1∧e5_1<e8)∧
  ((0:Int)≤e3_1∧e3_1<e5)∧
  List.length e1_1+List.length e6_1≤(17592186044400:Nat)∧
  ∃ (p':Int×Int×Unit),
  l=l∧
  e1=e1∧
  e2=e2∧
  e3=e3∧
  e4=e4∧
  e0=e0∧
  e5_1=p'.1∧
  (if (↑(List.length (C6 e1_1 e6_1)):Int) >e2_1 then (↑(List.length (C6 e1_1 e6_1)):Int) else e2_1)=p'.2.1∧
  parB l=parB l∧
  e6=e6∧
  e9=e9∧
  ([]:List Int)=[]∧
  ((0:Int)≤p'.1∧p'.1≤(↑(List.length e10):Int)∧p'.2.1=K0 e11 e10 (Int.toNat p'.1))∧
  List.length e10-Int.toNat p'.1<List.length e10-Int.toNat e3_1)))∧
  (e0_1=false→(e3==e2_1&&true,())=(true,())))):=by kernel_rfl
end Go.Rg
end
section
set_option maxRecDepth 100000
namespace Go.Rg
open Go Go.VT
theorem bj1 {l:List Int} {j:Nat} (h:j<l.length) (x:Ins):K7 x (l.take (j+1))=if x.to.contains (l.getD j 0) then K7 x (l.take j) else L6 (K7 x (l.take j)) (l.getD j 0):=bG6 h _ _
theorem ae9 (x:Ins) (l:List Int):(K7 x l).length≤x.from_.length+l.length:=by
 unfold K7
 have h1:=P8 (C6 [] x.from_) (l.filter fun n=>!x.to.contains n)
 have h2:=P8 [] x.from_
 have h3:=List.length_filter_le (fun n=>!x.to.contains n) l
 unfold C6 at h1 h2 ⊢
 simp only [List.length_nil,Nat.zero_add] at h2
 omega
theorem bx5 {b:List Ins} (c:List Int) (hb:∀ x∈b,x.from_.length≤3):∀ k,k≤b.length→(atL b c k).length≤c.length+3*(b.length-k):=by
 intro k hk
 obtain ⟨d,hd⟩:∃ d,b.length-k=d:=⟨_,rfl⟩
 induction d generalizing k with
 |zero=>
  have:k=b.length:=by omega
  subst this
  rw [ao3 b c (Nat.le_refl _),List.drop_length]
  have:=P8 [] c
  simp only [List.length_nil,Nat.zero_add] at this
  show (C6 [] c).length≤_
  omega
 |succ d ih=>
  have hlt:k<b.length:=by omega
  have h1:=ih (k+1) (by omega) (by omega)
  rw [ao3 b c hk,au5 b c hlt]
  have h2:=ae9 (b.getD k ins0) (atL b c (k+1))
  have h3:=hb _ (H4 hlt ins0)
  show (K7 _ _).length≤_
  omega
theorem bS2 (b:List Ins) (c:List Int) {k:Nat} (h:k<b.length):atL b c k=K7 (b.getD k ins0) (atL b c (k+1)):=by
 rw [ao3 b c (Nat.le_of_lt h),au5 b c h]
 rfl
theorem bK2 (l:List Int):vc (EV [(25,cBuilt),(33,cLive),(29,cPress),(35,cUnion),(34,cEqual),(36,cReadsL),(32,cWhere),(30,cPut),(14,cSlotted)]) (bK0 l) Go.Proofs.Tryd.f8 cLaw1 (l,()):=by
 rw [bK1 l]
 obtain ⟨hM,hlen⟩:=made l (m:=30) (by omega)
 have hchk:=bx4 (d:=[]) hM.chk
 have hlive:J6 ⟨parB l,(D8 l 30).code,(D8 l 30).out,[]⟩=(ai5 l 30,0):=by
  unfold J6
  rw [if_neg (by rw [hchk];simp)]
  rfl
 have hpress:L7 ⟨parB l,(D8 l 30).code,(D8 l 30).out,[]⟩=(K0 (ai5 l 30) (av3 l 30) (av3 l 30).length,0):=by
  unfold L7
  rw [if_neg (by rw [hchk];simp)]
  unfold K0
  rw [List.take_of_length_le (by rw [List.length_zip];exact Nat.min_le_right _ _)]
  rfl
 simp only [hlive,hpress]
 have hcb:(D8 l 30).code=av3 l 30:=rfl
 have hLl:(ai5 l 30).length=(av3 l 30).length+1:=H9 _ _
 have hlv:∀ k,(ai5 l 30).getD k []=atL (av3 l 30) (D8 l 30).out k:=fun k=>rfl
 simp only [hcb,hlv] at*
 obtain ⟨b,hb⟩:∃ b,av3 l 30=b:=⟨_,rfl⟩
 obtain ⟨c,hc⟩:∃ c,(D8 l 30).out=c:=⟨_,rfl⟩
 obtain ⟨L,hL⟩:∃ L,ai5 l 30=L:=⟨_,rfl⟩
 have hLb:L=D0 b c:=by rw [←hL,←hb,←hc];rfl
 simp only [hb,hc,hL] at*
 clear hlive hpress hchk hcb hb hc hL hlv
 subst hLb
 intro _
 have hd:(⟨0,0,[],[],[]⟩:Ins)=ins0:=rfl
 have hw:IntKind.i64.wrap ((b.length:Int)+1)=((b.length+1:Nat):Int):=by rw [F5 (by omega) (by omega)];rfl
 have hend:atL b c b.length=C6 [] c:=by rw [ao3 b c (Nat.le_refl _),List.drop_length];rfl
 have hal:=bx5 c hM.froms
 have hcl:=hM.out
 simp only [hd,hw,hLl,Int.toNat_natCast,hend,true_and,and_true,decide_true,Bool.not_true,Bool.or_false,bne_self_eq_false,Bool.cond_self]
 refine ⟨fun _=>⟨by omega,by omega⟩,fun _=>by show 0+c.length≤17592186044400;omega,fun h=>(by cases h),fun _=>⟨⟨Int.le_refl _,by omega⟩,⟨(0,((atL b c 0).length:Int),()),rfl,rfl,Int.le_refl _,by dsimp only;omega,?_⟩,?_⟩⟩
 ·dsimp only
  rw [P9]
  rfl
 rintro ⟨i,mo,⟨⟩⟩
 dsimp only
 rintro ⟨i0,i1,rfl⟩
 obtain ⟨k,rfl⟩:=Int.eq_ofNat_of_zero_le i0
 simp only [Int.toNat_natCast] at*
 refine ⟨fun h=>?_,fun h=>?_⟩
 ·have h:=of_decide_eq_true h
  have hk:k<b.length:=by omega
  have hw2:IntKind.i64.wrap ((k:Int)+1)=((k+1:Nat):Int):=B6 hk (by omega)
  have hx:=hM.froms _ (H4 hk ins0)
  have hto:=hM.tos _ (H4 hk ins0)
  have hps:=aL0 b c hk
  have hst:=bS2 b c hk
  have hA:=hal (k+1) (by omega)
  simp only [hw2,Int.toNat_natCast]
  obtain ⟨x,hxx⟩:∃ x,b.getD k ins0=x:=⟨_,rfl⟩
  obtain ⟨A,hAA⟩:∃ A,atL b c (k+1)=A:=⟨_,rfl⟩
  simp only [hxx,hAA] at*
  refine ⟨⟨by omega,by omega⟩,by omega,⟨(0,C6 [] x.from_,()),rfl,rfl,Int.le_refl _,by dsimp only;omega,rfl⟩,?_⟩
  rintro ⟨q,wa,⟨⟩⟩
  dsimp only
  rintro ⟨q0,q1,rfl⟩
  obtain ⟨q,rfl⟩:=Int.eq_ofNat_of_zero_le q0
  simp only [Int.toNat_natCast] at*
  refine ⟨⟨by omega,by omega⟩,fun hq=>?_,fun hq=>?_⟩
  ·have hq:=of_decide_eq_true hq
   have hqA:q<A.length:=by omega
   have hbl:=ae9 x (A.take q)
   rw [List.length_take] at hbl
   refine ⟨⟨by omega,by omega⟩,⟨by omega,by omega⟩,⟨by omega,by omega⟩,fun _=>⟨⟨by omega,by omega⟩,⟨by omega,by omega⟩,by omega⟩,⟨((q+1:Nat),K7 x (A.take (q+1)),()),?_,?_,⟨by dsimp only;omega,by dsimp only;omega,by dsimp only;rw [Int.toNat_natCast]⟩,by dsimp only;omega⟩⟩
   ·exact B6 hqA (by omega)
   ·dsimp only
    rw [bj1 hqA]
    have hw3:=aY2 (l:=x.to) (n:=A.getD q 0)
    by_cases hm:A.getD q 0∈x.to
    ·rw [if_pos (by simpa using hm),decide_eq_false (by have:=hw3.2 hm;omega)]
     rfl
    ·rw [if_neg (by simpa using hm),decide_eq_true (by have:=mt hw3.1 hm;omega)]
     rfl
  ·have hq:=of_decide_eq_false hq
   have hqA:q=A.length:=by omega
   subst hqA
   have hdec:(!decide (atL b c k=K7 x (A.take A.length)))=false:=by rw [List.take_length,←hst];simp
   refine ⟨⟨by omega,by omega⟩,fun h=>absurd (show (!decide (atL b c k=K7 x (A.take A.length)))=true from h) (by rw [hdec];simp),fun _=>⟨⟨by omega,by omega⟩,⟨by omega,by omega⟩,by omega,⟨(((k+1:Nat):Int),K0 (D0 b c) b (k+1),()),rfl,?_,⟨by dsimp only;omega,by dsimp only;omega,by dsimp only;rw [Int.toNat_natCast]⟩,by dsimp only;omega⟩⟩⟩
   dsimp only
   rw [hps]
   split<;>omega
 ·have h:=of_decide_eq_false h
  have hk:k=b.length:=by omega
  subst hk
  simp
theorem bK3:C4 prog RG 8 cLaw1:=E2 (A6 bi8 (A6 ar1 (A6 aE7 (A6 aD5 (A6 aa4 (A6 bb9 (A6 bf4 (A6 aY6 (A6 aS7 B7))))))))) (fun p=>bK0 p.1) (by kernel_rfl) (by kernel_rfl) (by kernel_rfl) fun (l,()) _=>bK2 l
end Go.Rg
end
section
namespace Go.Proofs.YtknhkhdbonjhgaaDoor
open Go.ChangeShapes Go.WideShapes Go.ChangeAt Go.RowKit Go.VT
abbrev aG5:List ArgT:=[(23,false,[Go.Rg.ints])]
set_option maxRecDepth 100000 in
theorem bc1 (os:Os) (started:os.Started) (H:Type) (enc:TypeId×Value→H):
  ReturnsInHanded {} Tryd.checked os 8 .any (fun w args=>(Rows.regsLivesSpec.pre enc Tryd.prog Tryd.f8 [] false w args∧laidMetH Tryd.prog bw9 w)∧sizedMet enc Tryd.prog Tryd.f8 (OpenSpec.ofChange Rows.regsLivesSpec) false w args)
   (Rows.regsLivesSpec.post enc Tryd.prog Tryd.f8 false true false false):=by
 refine returnsInHanded_of_change_and (C:=Tryd.checked) (X:=fun w _=>laidMetH Tryd.prog bw9 w) (fun _ _ _ hh h=>h.of_heap hh) own started (by kernel_rfl) Tryd.func8
  (ChangeSpec.witness_shaped (enc:=enc) (C:=Tryd.checked) (os:=os) (X:=fun w _=>laidMetH Tryd.prog bw9 w) false (World.doorLaid Tryd.prog 600 os) #[.slice none 0 0] 8 rfl (World.shaped_of_RefB (by kernel_rfl) (by kernel_rfl)) (by kernel_rfl) (by kernel_rfl) (by kernel_rfl) (bR3 os _)) ?_
 intro W base args ds gs at7 hval0 hW _ hsz hL _
 have hval:∀ (j:Nat) t v,Tryd.f8.params[j]? =some t→args[j]? =some v→Value.okWide Tryd.prog W .any base t v:=hval0
 have hW':=hW
 obtain ⟨p,q,hA0,hV,rfl,hfz,hnd⟩:=hW
 have hA:DataW.TrodAll enc Tryd.prog W 0 (fun _=>true) true Tryd.f8.params.toList args.toList ds p:=hA0
 have hps:Tryd.f8.params.toList=aG5.map (·.1):=by rw [Tryd.params8];rfl
 obtain ⟨rfl,rfl⟩:gs=[]∧q=[]:=by
  cases gs with
  |nil=>exact ⟨rfl,hV⟩
  |cons g r=>exact absurd hV (by intro h;cases h)
 have hsz':∀ n∈DataW.weightsEach Tryd.prog Tryd.f8.params.toList ds,n≤reachBytes:=by
  intro n hn
  have h1:(DataW.weightsEach Tryd.prog (Tryd.f8.params.toList++[]) (ds++[])).all (·≤reachBytes)=true:=hsz
  rw [List.append_nil,List.append_nil] at h1
  simpa using List.all_eq_true.1 h1 n hn
 rw [hps] at hA hsz'
 obtain ⟨xs,us,hr,hp⟩:=bn3 cb9 (A:=aG5) (fun a ha=>by
  simp only [List.mem_cons,List.not_mem_nil,or_false] at ha
  rcases ha with rfl
  ·exact bR5) (fun j t v hj hv=>hval j t v (by rw [←hps] at hj;simpa using hj) (by simpa using hv)) hA hsz'
 obtain ⟨d1,rfl⟩:∃ d1,ds=[d1]:=by
  have hlen:=aG2 hA
  match ds,hlen with
  |[d1],_=>exact ⟨_,rfl⟩
 have hcall:=bC7 (pre:=none) (A:=aG5) (w:=W) Go.Rg.bK3 (cb8 hL) hr hp trivial
 rw [Array.toArray_toList] at hcall
 refine hcall.mono fun e W' ⟨he,hb⟩=>⟨_,he,bR6 rfl hW' hb (by kernel_rfl) rfl (fun t ht=>?_)⟩
 rw [hps] at ht
 simp only [List.map_cons,List.map_nil,List.mem_cons,List.not_mem_nil,or_false] at ht
 rcases ht with rfl<;>exact ⟨by kernel_rfl,of_decide_eq_true (by kernel_rfl)⟩
theorem bj2:Rows.RegsLivesSaid:=
 OpenClaim.holds_of_wide 8 Tryd.f8 rfl rfl rfl rfl rfl rfl rfl ⟨rfl,rfl,rfl,rfl,rfl⟩ rfl rfl rfl rfl rfl (by kernel_rfl) Tryd.func8 (by kernel_rfl)
  (of_decide_eq_true (by kernel_rfl)) (by unfold Func.isWrapper;first|(rw [if_pos (by decide+kernel)];kernel_rfl)|(rw [if_neg (by decide+kernel)];exact ⟨rfl,rfl⟩))
  (fun os started H enc _=>bc1 os started H enc)
theorem lives_card:Rows.RegsLivesCardSaid:=
 Claim7.holds_tied_plain_at .later [] [.data,.data] true (true,"168ab8e7f67d43304005f9eb622602b7a6af205c051abe541b21ac4f05ca28a5") false
  bj2 (fun _ h=>by cases h) (by kernel_rfl) (fun _ h=>by cases h) regsLives_row_tie rfl ⟨rfl,rfl⟩ (by kernel_rfl) rfl
  (fun f fn hf hfn=>by
   obtain rfl:f=8:=Option.some.inj ((show Tryd.prog.funcNamed "sheafworks/sheafworkslaw23.RegsLives"=some 8 by kernel_rfl).symm.trans hf) |>.symm
   obtain rfl:fn=Tryd.f8:=(Option.some.inj (Tryd.func8.symm.trans hfn)).symm
   exact ⟨by kernel_rfl,fun j t ht=>by
    rw [Tryd.params8] at ht
    have hm:t∈[23]:=by simpa using Array.mem_of_getElem? ht
    have hall:([23].all fun u=>!Tryd.prog.wantsStandIn u)=true:=by kernel_rfl
    exact (show Tryd.prog.wantsStandIn t=false by simpa using List.all_eq_true.1 hall t hm)⟩)
  (by kernel_rfl)
end Go.Proofs.YtknhkhdbonjhgaaDoor
end
