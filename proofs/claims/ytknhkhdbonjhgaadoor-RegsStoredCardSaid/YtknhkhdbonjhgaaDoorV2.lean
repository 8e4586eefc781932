/-
What the last text of this claim uses: VtN, VtO, VtP, VtPa, VtPb, VtPc, VtPd, VtQ, VtDo, VtMp, VtCp, VtIt.
-/
import Derived.Test.YtknhkhdbonjhgaaDoorV1
import Derived.Maps.AppendAt
import Derived.Defers
import Derived.Laws.Slices
import Derived.Laws.MakeOwn
import Derived.MapKept
set_option linter.unusedVariables false
set_option linter.unusedSimpArgs false
set_option maxRecDepth 100000
noncomputable section
section
namespace Go.VT
noncomputable section
open Go.RowKit
variable {U:Univ} {E:Env U} {F:Fr} {n:Nat} {β:Nm} {s:St U} {ρ:Operand→Value} {tmps:Array Value} {w:World} {o:Oper} {e:Eff U} {h:Obs U}
theorem J8 (k:Ok F w β h) {id:Nat} {ob ob':Ob U} {β':Nm} {w':World} (hl:look id h=some ob) (hlive:ob.live=true)
  (hos:w'.os=w.os) (htape:w'.tape=w.tape) (hout:w'.output=w.output) (hsize:w.heap.size≤w'.heap.size)
  (hheap:∀ b,b<w.heap.size→¬ Has (β id) b→w'.heap[b]? =w.heap[b]?) (hM:β'.M=β.M) (hβ:∀ j,j≠id→β' j=β j) (hlp:β'.lp=β.lp) (hoth:ob.oth=true→β' id=β id∧Ob.like ob ob')
  (hblk:∀ b,Has (β' id) b→Has (β id) b∨w.heap.size≤b)
  (hbox:∀ e cs,ob=.box e cs→β' id=β id∧∃ cs',ob'=.box e cs')
  (hrow:∀ e t l ver lv,ob=.row e t l ver lv→∃ l' ver' lv',ob'=.row e t l' ver' lv'∧ver≤ver'∧(ver'=ver→β' id=β id∧l'.length=l.length))
  (ho:Ext w β h w' β' (write id ob' h)→ORel F.B w' β' (write id ob' h) id ob')
  (hdp:∀ D,ob=.dp D→∃ D',ob'=.dp D'∧∀ c v,DCRel D (β id) c v→DCRel D' (β' id) c v:=by intro _ hh;cases hh):After F w β h w' β' (write id ob' h):=by
 have ext:Ext w β h w' β' (write id ob' h):=by
  refine ⟨hsize,fun b hb hn=>hheap b hb (fun hh=>hn ⟨id,ob,hl,hlive,hh⟩),?_,hM,fun j e cs hj=>?_,fun j e t l ver lv hj=>?_,fun j oj hj hoj=>?_,fun j D hj=>?_⟩
  ·rintro b hb ⟨j,oj,h1,h2,h3⟩
   by_cases hji:j=id
   ·subst hji
    rcases hblk b h3 with h4|h4
    ·exact ⟨j,ob,hl,hlive,h4⟩
    ·omega
   ·rw [A7,if_neg hji] at h1
    rw [hβ j hji] at h3
    exact ⟨j,oj,h1,h2,h3⟩
  ·by_cases hji:j=id
   ·subst hji
    rw [hl] at hj
    simp only [co4] at hj
    obtain ⟨h1,cs',h2⟩:=hbox e cs hj
    exact ⟨h1,cs',by rw [B0,h2]⟩
   ·exact ⟨hβ j hji,cs,by rw [A7,if_neg hji];exact hj⟩
  ·by_cases hji:j=id
   ·subst hji
    rw [hl] at hj
    simp only [co4] at hj
    obtain ⟨l',ver',lv',h1,h2,h3⟩:=hrow e t l ver lv hj
    exact ⟨l',ver',lv',by rw [B0,h1],h2,h3⟩
   ·exact ⟨l,ver,lv,by rw [A7,if_neg hji];exact hj,Nat.le_refl _,fun _=>⟨hβ j hji,rfl⟩⟩
  ·by_cases hji:j=id
   ·subst hji
    rw [hl] at hj
    simp only [co4] at hj
    subst hj
    obtain ⟨h1,h2⟩:=hoth hoj
    exact ⟨h1,by rw [hlp],ob',B0 _ _ _,h2⟩
   ·exact ⟨hβ j hji,by rw [hlp],oj,by rw [A7,if_neg hji];exact hj,Ob.like_refl hoj⟩
  ·by_cases hji:j=id
   ·subst hji
    rw [hl] at hj
    simp only [co4] at hj
    obtain ⟨D',h1,h2⟩:=hdp D hj
    exact ⟨D',by rw [B0,h1],h2⟩
   ·exact ⟨D,by rw [A7,if_neg hji];exact hj,fun c v hv=>by rw [hβ j hji];exact hv⟩
 have hw0:F.w0.heap.size≤w.heap.size:=k.bel.size
 have get:∀ j oj b,look j (write id ob' h)=some oj→Has (β' j) b→(∃ oj',look j h=some oj'∧Has (β j) b)∨w.heap.size≤b:=by
  intro j oj b hj hb
  by_cases hji:j=id
  ·subst hji
   rcases hblk b hb with h4|h4
   ·exact .inl ⟨ob,hl,h4⟩
   ·exact .inr h4
  ·rw [A7,if_neg hji] at hj
   rw [hβ j hji] at hb
   exact .inl ⟨oj,hj,hb⟩
 refine ⟨⟨k.bel.trans ⟨hos,htape,hout,hsize,fun b hb=>?_⟩,Nat.le_trans k.hB hsize,fun j oj hj=>?_,fun j oj j' oj' b h1 h2 h3 h4=>?_,fun b hlt hK=>?_,fun j oj b h1 h2=>?_,fun j oj b h1 h2=>?_,fun b hm=>k.Mlt b (by rw [←hM];exact hm),hM.trans k.Meq,fun j oj v h1 h2=>?_,k.nmg,k.glo⟩,ext⟩
 ·refine hheap b (Nat.lt_of_lt_of_le hb k.hB) (fun hh=>?_)
  have:=((k.obj id ob hl).blk hh).1
  omega
 ·by_cases hji:j=id
  ·subst hji
   rw [B0] at hj
   simp only [co4] at hj
   subst hj
   exact ho ext
  ·rw [A7,if_neg hji] at hj
   refine ext.o (hβ j hji) (by rw [hlp]) (fun b hb=>hheap b ((k.obj j oj hj).blk hb).2 (fun hh=>hji (k.dis j oj id ob b hj hl hb hh))) (k.obj j oj hj)
 ·by_cases hji:j=id<;>by_cases hji':j'=id
  ·rw [hji,hji']
  ·subst hji
   rw [A7,if_neg hji'] at h2
   rw [hβ j' hji'] at h4
   rcases hblk b h3 with h5|h5
   ·exact k.dis j ob j' oj' b hl h2 h5 h4
   ·have:=((k.obj j' oj' h2).blk h4).2;omega
  ·subst hji'
   rw [A7,if_neg hji] at h1
   rw [hβ j hji] at h3
   rcases hblk b h4 with h5|h5
   ·exact k.dis j oj j' ob b h1 hl h3 h5
   ·have:=((k.obj j oj h1).blk h3).2;omega
  ·rw [A7,if_neg hji] at h1
   rw [A7,if_neg hji'] at h2
   rw [hβ j hji] at h3
   rw [hβ j' hji'] at h4
   exact k.dis j oj j' oj' b h1 h2 h3 h4
 ·by_cases hb:Has (β id) b
  ·rcases k.own id ob b hl hb with h5|h5
   ·exact absurd h5 hK
   ·omega
  ·rw [hheap b (by omega) hb];exact k.frm b hlt hK
 ·rcases get j oj b h1 h2 with ⟨oj',h3,h4⟩|h3
  ·exact k.own j oj' b h3 h4
  ·right;omega
 ·rw [hM]
  rcases get j oj b h1 h2 with ⟨oj',h3,h4⟩|h3
  ·exact k.Mo j oj' b h3 h4
  ·intro hm;have:=k.Mlt b hm;omega
 ·by_cases hji:j=id
  ·subst hji
   rw [B0] at h1
   simp only [co4] at h1
   subst h1
   cases ob with
   |box e cs=>rw [(hbox e cs rfl).1,hlp];exact (k.fix j _ v hl h2).imp (fun hh=>by simp [Ob.isRow] at hh) id
   |row e t l ver lv=>
    obtain ⟨l',ver',lv',h3,_⟩:=hrow e t l ver lv rfl
    rw [h3];exact .inl rfl
   |map kt vt l=>rw [(hoth rfl).1,hlp];exact (k.fix j _ v hl h2).imp (fun hh=>by simp [Ob.isRow] at hh) id
   |loop st=>rw [(hoth rfl).1,hlp];exact (k.fix j _ v hl h2).imp (fun hh=>by simp [Ob.isRow] at hh) id
   |dp D=>
    obtain ⟨D',h3,_⟩:=hdp D rfl
    rw [h3];exact .inl rfl
  ·rw [A7,if_neg hji] at h1
   rw [hβ j hji,hlp];exact k.fix j oj v h1 h2
def cn4 (ob:Ob U) (N:Value) (ob':Ob U) (N':Value):Prop:=
 match ob,ob' with
 | .row e t l ver _,.row e' t' l' ver' _=>e=e'∧t=t'∧ver≤ver'∧(ver'=ver→N'=N∧l'.length=l.length)
 | .dp D,.dp D'=>∀ c v,DCRel D N c v→DCRel D' N' c v
 |_,_=>False
theorem Q5 (k:Ok F w β h) {u:Obs U} {β':Nm} {w':World} (hnd:(u.map (·.1)).Nodup) (hlive:∀ id o ob,(id,o)∈u→look id h=some ob→ob.live=true)
  (hos:w'.os=w.os) (htape:w'.tape=w.tape) (hout:w'.output=w.output) (hsize:w.heap.size≤w'.heap.size)
  (hheap:∀ b,b<w.heap.size→(∀ id o ob,(id,o)∈u→look id h=some ob→¬ Has (β id) b)→w'.heap[b]? =w.heap[b]?) (hM:β'.M=β.M) (hβ:∀ j,(∀ o,(j,o)∉u)→β' j=β j) (hlp:β'.lp=β.lp)
  (hblk:∀ id o b,(id,o)∈u→Has (β' id) b→(∃ id2 o2 ob,(id2,o2)∈u∧look id2 h=some ob∧Has (β id2) b)∨w.heap.size≤b)
  (hdis:∀ id o id' o' b,(id,o)∈u→(id',o')∈u→Has (β' id) b→Has (β' id') b→id=id')
  (hkind:∀ id o ob,(id,o)∈u→look id h=some ob→cn4 ob (β id) o (β' id)) (hrow:∀ id o,(id,o)∈u→o.isRow=true)
  (ho:Ext w β h w' β' (upds h u)→∀ id o,(id,o)∈u→ORel F.B w' β' (upds h u) id o):After F w β h w' β' (upds h u):=by
 have hin:∀ {id o},(id,o)∈u→look id (upds h u)=some o:=by
  intro id o hm
  clear hlive hheap hβ hblk hdis hkind hrow ho
  induction u generalizing h with
  |nil=>simp at hm
  |cons x u ih=>
   obtain ⟨i,oi⟩:=x
   simp only [List.map_cons,List.nodup_cons] at hnd
   rcases List.mem_cons.1 hm with h1|h1
   ·simp only [cp6] at h1
    obtain ⟨rfl,rfl⟩:=h1
    show look id (upds (write id o h) u)=_
    rw [B7 (fun o' ho'=>hnd.1 (List.mem_map.2 ⟨_,ho',rfl⟩)),B0]
   ·have hk:∀ (g:Obs U),look id (upds g u)=some o:=by
     intro g
     have:∀ (v:Obs U) (g:Obs U),(v.map (·.1)).Nodup→(id,o)∈v→look id (upds g v)=some o:=by
      intro v
      induction v with
      |nil=>intro g _ hm;simp at hm
      |cons y v ihv=>
       intro g hn hm
       obtain ⟨iy,oy⟩:=y
       simp only [List.map_cons,List.nodup_cons] at hn
       rcases List.mem_cons.1 hm with h2|h2
       ·simp only [cp6] at h2
        obtain ⟨rfl,rfl⟩:=h2
        show look id (upds (write id o g) v)=_
        rw [B7 (fun o' ho'=>hn.1 (List.mem_map.2 ⟨_,ho',rfl⟩)),B0]
       ·exact ihv (write iy oy g) hn.2 h2
     exact this u g hnd.2 h1
    exact hk (write i oi h)
 have hnin:∀ {id},(∀ o,(id,o)∉u)→look id (upds h u)=look id h:=fun hn=>B7 hn
 have hex:∀ id,(∃ o,(id,o)∈u)∨∀ o,(id,o)∉u:=fun id=>by
  by_cases hh:∃ o,(id,o)∈u
  ·exact .inl hh
  ·exact .inr fun o ho=>hh ⟨o,ho⟩
 have ext:Ext w β h w' β' (upds h u):=by
  refine ⟨hsize,fun b hb hn=>hheap b hb (fun id o ob hm hl hh=>hn ⟨id,ob,hl,hlive id o ob hm hl,hh⟩),?_,hM,fun j e cs hj=>?_,fun j e t l ver lv hj=>?_,fun j oj hj hoj=>?_,fun j D hj=>?_⟩
  ·rintro b hb ⟨j,oj,h1,h2,h3⟩
   rcases hex j with ⟨o,hm⟩|hn
   ·rcases hblk j o b hm h3 with ⟨id2,o2,ob,q1,q2,q3⟩|h4
    ·exact ⟨id2,ob,q2,hlive id2 o2 ob q1 q2,q3⟩
    ·omega
   ·rw [hnin hn] at h1
    rw [hβ j hn] at h3
    exact ⟨j,oj,h1,h2,h3⟩
  ·rcases hex j with ⟨o,hm⟩|hn
   ·exact (hkind j o _ hm hj).elim
   ·exact ⟨hβ j hn,cs,by rw [hnin hn];exact hj⟩
  ·rcases hex j with ⟨o,hm⟩|hn
   ·have:=hkind j o _ hm hj
    cases o with
    |row e' t' l' ver' lv'=>
     obtain ⟨rfl,rfl,h1,h2⟩:=this
     exact ⟨l',ver',lv',hin hm,h1,h2⟩
    |_=>exact this.elim
   ·exact ⟨l,ver,lv,by rw [hnin hn];exact hj,Nat.le_refl _,fun _=>⟨hβ j hn,rfl⟩⟩
  ·rcases hex j with ⟨o,hm⟩|hn
   ·have:=hkind j o _ hm hj
    cases oj with
    |map=>exact this.elim
    |loop=>exact this.elim
    |box=>cases hoj
    |row=>cases hoj
    |dp=>cases hoj
   ·exact ⟨hβ j hn,by rw [hlp],oj,by rw [hnin hn];exact hj,Ob.like_refl hoj⟩
  ·rcases hex j with ⟨o,hm⟩|hn
   ·have:=hkind j o _ hm hj
    cases o with
    |dp D'=>exact ⟨D',hin hm,this⟩
    |_=>exact this.elim
   ·exact ⟨D,by rw [hnin hn];exact hj,fun c v hv=>by rw [hβ j hn];exact hv⟩
 have hw0:F.w0.heap.size≤w.heap.size:=k.bel.size
 have get:∀ j oj b,look j (upds h u)=some oj→Has (β' j) b→(∃ j2 oj',look j2 h=some oj'∧Has (β j2) b)∨w.heap.size≤b:=by
  intro j oj b hj hb
  rcases hex j with ⟨o,hm⟩|hn
  ·rcases hblk j o b hm hb with ⟨id2,o2,ob,q1,q2,q3⟩|h4
   ·exact .inl ⟨id2,ob,q2,q3⟩
   ·exact .inr h4
  ·rw [hnin hn] at hj
   rw [hβ j hn] at hb
   exact .inl ⟨j,oj,hj,hb⟩
 have hbel:Below F.B w w':=by
  refine ⟨hos,htape,hout,hsize,fun b hb=>?_⟩
  refine hheap b (Nat.lt_of_lt_of_le hb k.hB) (fun id o ob hm hl hh=>?_)
  have:=((k.obj id ob hl).blk hh).1
  omega
 refine ⟨⟨k.bel.trans hbel,Nat.le_trans k.hB hsize,fun j oj hj=>?_,fun j oj j' oj' b h1 h2 h3 h4=>?_,fun b hlt hK=>?_,fun j oj b h1 h2=>?_,fun j oj b h1 h2=>?_,fun b hm=>k.Mlt b (by rw [←hM];exact hm),hM.trans k.Meq,fun j oj v h1 h2=>?_,k.nmg,k.glo⟩,ext⟩
 ·rcases hex j with ⟨o,hm⟩|hn
  ·rw [hin hm] at hj
   simp only [co4] at hj
   subst hj
   exact ho ext j o hm
  ·rw [hnin hn] at hj
   refine ext.o (hβ j hn) (by rw [hlp]) (fun b hb=>hheap b ((k.obj j oj hj).blk hb).2 (fun id o ob hm hl hh=>hn o ?_)) (k.obj j oj hj)
   rw [k.dis j oj id ob b hj hl hb hh];exact hm
 ·rcases hex j with ⟨o,hm⟩|hn<;>rcases hex j' with ⟨o',hm'⟩|hn'
  ·exact hdis j o j' o' b hm hm' h3 h4
  ·rw [hnin hn'] at h2
   rw [hβ j' hn'] at h4
   rcases hblk j o b hm h3 with ⟨id2,o2,ob,q1,q2,q3⟩|h5
   ·have:=k.dis id2 ob j' oj' b q2 h2 q3 h4
    subst this
    exact absurd q1 (hn' o2)
   ·have:=((k.obj j' oj' h2).blk h4).2;omega
  ·rw [hnin hn] at h1
   rw [hβ j hn] at h3
   rcases hblk j' o' b hm' h4 with ⟨id2,o2,ob,q1,q2,q3⟩|h5
   ·have:=k.dis id2 ob j oj b q2 h1 q3 h3
    subst this
    exact absurd q1 (hn o2)
   ·have:=((k.obj j oj h1).blk h3).2;omega
  ·rw [hnin hn] at h1
   rw [hnin hn'] at h2
   rw [hβ j hn] at h3
   rw [hβ j' hn'] at h4
   exact k.dis j oj j' oj' b h1 h2 h3 h4
 ·by_cases hb:∃ id o ob,(id,o)∈u∧look id h=some ob∧Has (β id) b
  ·obtain ⟨id,o,ob,q1,q2,q3⟩:=hb
   rcases k.own id ob b q2 q3 with h5|h5
   ·exact absurd h5 hK
   ·omega
  ·rw [hheap b (by omega) (fun id o ob hm hl hh=>hb ⟨id,o,ob,hm,hl,hh⟩)];exact k.frm b hlt hK
 ·rcases get j oj b h1 h2 with ⟨j2,oj',h3,h4⟩|h3
  ·exact k.own j2 oj' b h3 h4
  ·right;omega
 ·rw [hM]
  rcases get j oj b h1 h2 with ⟨j2,oj',h3,h4⟩|h3
  ·exact k.Mo j2 oj' b h3 h4
  ·intro hm;have:=k.Mlt b hm;omega
 ·rcases hex j with ⟨o,hm⟩|hn
  ·rw [hin hm] at h1
   simp only [co4] at h1
   subst h1
   exact .inl (hrow j o hm)
  ·rw [hnin hn] at h1
   rw [hβ j hn,hlp];exact k.fix j oj v h1 h2
theorem bv7 {P:Program} {t:TypeId} {b:Bool} {k:Nat} (hs:ae4 P t=some (b,k)) (w:World):(sizeOf t).run P w=.ok k w:=by
 unfold ae4 at hs
 split at hs
 ·rename_i i d hi hd
  simp only [co4,cp6] at hs
  simp [sizeOf,typeInfo,hi,hs.2]
 ·cases hs
theorem am1 {P:Program} {t:TypeId} {b:Bool} {k:Nat} (hs:ae4 P t=some (b,k)) (w:World) (g q:Nat) (el:TypeId) (cur:Array Value) (hg:w.heap[g]? =some (.cells cur el (0,0))) (v:Value) (hk:v.cells.size=k)
  (hl:q+k≤cur.size) (h1:∀ u∈v.cells.toList,u.oneCell'=true):
  (Instr.storeAt t (.pointer (some ⟨g,q,none⟩)) v).run P w=.ok () (w.setRow g (D7 cur.toList q v.cells.toList).toArray):=by
 have hst:=run_storeCells_at P g q el v.cells.toList 0 cur w hg (by simp [hk];omega) h1
 simp only [Nat.add_zero,Array.length_toList] at hst
 simp [Instr.storeAt,Instr.sureAddr,storeVar,bv7 hs,hk,hst,D7]
theorem ap6 {el:TypeId} {sz k:Nat} {v:Value} {xs:List Value} (ho:Owns w F.B el sz v k xs) (hk:¬ k=0):∃ g cap cur,v=.slice (some ⟨g,0,none⟩) k cap∧F.B≤g∧w.heap[g]? =some (.cells cur el (0,0))∧k≤cap∧cap≤maxLen∧cap*sz≤cur.size∧cur.toList.take (k*sz)=xs:=by
 rcases ho.2 with ⟨_,h2⟩|h2
 ·exact absurd h2 hk
 ·exact h2
theorem I5 {α:Type} (xs vs:List α) (p j:Nat) (hp:p+vs.length≤xs.length):(D7 xs p vs)[j]? =if p≤j∧j<p+vs.length then vs[j-p]? else xs[j]? :=by
 unfold D7
 by_cases h1:j<p
 ·rw [if_neg (by omega),cr0,cq4 (by simp;omega),List.getElem?_take,if_pos h1]
 ·by_cases h2:j<p+vs.length
  ·rw [if_pos (by omega),cr0,cq3 (by simp;omega),cq4 (by simp;omega)]
   congr 1
   simp;omega
  ·rw [if_neg (by omega),cq3 (by simp;omega),List.getElem?_drop]
   congr 1
   simp;omega
theorem U6 {α:Type} (xs vs:List α) (p:Nat) (hp:p+vs.length≤xs.length):(D7 xs p vs).length=xs.length:=by
 simp only [D7,cq5,cr3,List.length_drop];omega
theorem ai7 {xs vs:List Value} {p:Nat} (h1:∀ v∈xs,v.oneCell'=true) (h2:∀ v∈vs,v.oneCell'=true):∀ v∈D7 xs p vs,v.oneCell'=true:=by
 intro v hv
 simp only [D7,cr1] at hv
 rcases hv with (hv|hv)|hv
 ·exact h1 v (List.mem_of_mem_take hv)
 ·exact h2 v hv
 ·exact h1 v (List.mem_of_mem_drop hv)
theorem bF5 {t:Ty} {l:List (den U.T t)} {xs vs:List Value} (r:Els w β h t l xs) (hx:xs.length=l.length*szOf U t) {i off:Nat} (hi:i<l.length) {ds:List (Datum U)} {x0:den U.T t}
  (hmk:D7 (B4 U t l[i]) off ds=B4 U t x0) (hoff:off+ds.length≤szOf U t) (hvl:vs.length=ds.length) (hd:∀ (j:Nat) (d:Datum U) (v:Value),ds[j]? =some d→vs[j]? =some v→Rep U w (Live β h) d v):
  Els w β h t (l.set i x0) (D7 xs (i*szOf U t+off) vs):=by
 have hlen:(i+1)*szOf U t≤xs.length:=by rw [hx];exact Nat.mul_le_mul_right _ hi
 rw [Nat.add_mul,Nat.one_mul] at hlen
 have hp:i*szOf U t+off+vs.length≤xs.length:=by omega
 intro i' x' hx' j d hj
 have hjlt:j<szOf U t:=by
  rw [←B3 U t x']
  by_cases hj':j<(B4 U t x').length
  ·exact hj'
  ·rw [List.getElem?_eq_none (by omega)] at hj;cases hj
 rw [I5 _ _ _ _ hp]
 by_cases hii:i'=i
 ·subst hii
  rw [cq9,if_pos rfl,if_pos hi] at hx'
  simp only [co4] at hx'
  subst hx'
  rw [←hmk,I5 _ _ _ _ (by rw [B3];exact hoff)] at hj
  by_cases hc:off≤j∧j<off+ds.length
  ·rw [if_pos hc] at hj
   rw [if_pos (by omega)]
   have hk:i'*szOf U t+j-(i'*szOf U t+off)=j-off:=by omega
   rw [hk]
   have hvj:j-off<vs.length:=by omega
   exact ⟨vs[j-off],co6 hvj,hd _ d _ hj (co6 hvj)⟩
  ·rw [if_neg hc] at hj
   rw [if_neg (by omega)]
   exact r i' l[i'] (co6 hi) j d hj
 ·rw [cq9,if_neg (fun hh=>hii hh.symm)] at hx'
  have:¬ (i*szOf U t+off≤i'*szOf U t+j∧i'*szOf U t+j<i*szOf U t+off+vs.length):=by
   rintro ⟨h1,h2⟩
   rcases Nat.lt_or_gt_of_ne hii with h3|h3
   ·have:(i'+1)*szOf U t≤i*szOf U t:=Nat.mul_le_mul_right _ h3
    rw [Nat.add_mul,Nat.one_mul] at this
    omega
   ·have:(i+1)*szOf U t≤i'*szOf U t:=Nat.mul_le_mul_right _ h3
    rw [Nat.add_mul,Nat.one_mul] at this
    omega
  rw [if_neg this]
  exact r i' x' hx' j d hj
theorem aa3 {el:TypeId} {sz k cap g:Nat} {xs vs:List Value} {cur:Array Value} (hg:w.heap[g]? =some (.cells cur el (0,0))) (hB:F.B≤g) (hk:k≤cap) (hm:cap≤maxLen) (hs:cap*sz≤cur.size) (ht:cur.toList.take (k*sz)=xs) (hx:xs.length=k*sz) {p:Nat}
  (hp:p+vs.length≤xs.length):Owns (w.setRow g (D7 cur.toList p vs).toArray) F.B el sz (.slice (some ⟨g,0,none⟩) k cap) k (D7 xs p vs):=by
 have hle:k*sz≤cap*sz:=Nat.mul_le_mul_right _ hk
 have hcl:cap*sz≤cur.toList.length:=by simpa using hs
 refine ⟨by rw [U6 _ _ _ hp];exact hx,.inr ⟨g,cap,_,rfl,hB,setRow_heap w g cur _ el (0,0) hg,hk,hm,?_,?_⟩⟩
 ·simp only [List.size_toArray]
  rw [U6 _ _ _ (by omega)]
  simpa using hs
 ·apply List.ext_getElem?
  intro j
  simp only [List.getElem?_take]
  rw [I5 _ _ _ _ (by omega),I5 _ _ _ _ hp,←ht,List.getElem?_take]
  by_cases hj:j<k*sz
  ·simp [hj]
  ·rw [if_neg hj,if_neg hj,if_neg (by omega)]
theorem aZ3 {t:Ty} {l:List (den U.T t)} {i:Int} (hi:i.toNat<l.length) {off:Nat} {ds:List (Datum U)} {x:den U.T t} (hx:D7 (B4 U t l[i.toNat]) off ds=B4 U t x) (hoff:off+ds.length≤szOf U t) {i':Int} {j:Nat} (hj:j<off∨off+ds.length≤j):
  J7 t (l.set i.toNat x) i' j=J7 t l i' j:=by
 unfold J7
 by_cases hii:i'.toNat=i.toNat
 ·rw [hii,Q4 (by simpa using hi),Q4 hi]
  simp only [List.getElem_set_self]
  rw [←hx,I5 _ _ _ _ (by rw [B3];exact hoff),if_neg (by omega)]
 ·have:(l.set i.toNat x).getD i'.toNat (dfl U t)=l.getD i'.toNat (dfl U t):=by
   have hne:¬ i.toNat=i'.toNat:=fun h=>hii h.symm
   simp only [List.getD,cq9,if_neg hne]
  rw [this]
theorem aC6 {m:List Nat} {j:Nat}:m.any (Nat.beq j)=true↔j∈m:=by
 simp only [List.any_eq_true]
 constructor
 ·rintro ⟨x,hx,hb⟩
  rw [co5 hb];exact hx
 ·intro h
  exact ⟨j,h,Nat.beq_refl j⟩
theorem ap7 {sz i j i' j':Nat} (hj:j<sz) (hj':j'<sz) (h:i*sz+j=i'*sz+j'):i=i'∧j=j':=by
 have h1:(i*sz+j) / sz=i:=by rw [Nat.mul_comm,Nat.mul_add_div (by omega),Nat.div_eq_of_lt hj,Nat.add_zero]
 have h2:(i'*sz+j') / sz=i':=by rw [Nat.mul_comm,Nat.mul_add_div (by omega),Nat.div_eq_of_lt hj',Nat.add_zero]
 have:i=i':=by rw [←h1,h,h2]
 subst this
 exact ⟨rfl,by omega⟩
theorem ac1 {t:Ty} {x:den U.T t} {j:Nat} {d:Datum U} (h:(B4 U t x)[j]? =some d):j<szOf U t:=by
 rw [←B3 U t x];exact (co9.1 h).1
theorem aZ4 (k:Ok F w β h) {ids:List Nat} {id:Nat} {e:TypeId} {t:Ty} {m:List Nat} {l:List (den U.T t)} {ver iv:Nat} (hl:look id h=some (.dp (.rows e t m l ver iv true none))) {i:Int} {off:Nat} {vs:List (Cell U)} {p:Option Prop} {u:Obs U}
  (hp:aX8 (sub h ids) id e t m l ver iv i off vs=some (p,u)) (h0:0≤i) (h1:i<(l.length:Int)) {us:List Value} (hr:CsRel w β h vs us) {a:Array Value} {g c:Nat} (hN:β id=.tuple a) (hg:a[0]? =some (.slice (some ⟨g,0,none⟩) l.length c)):
  ∃ cur,w.heap[g]? =some (.cells cur e (0,0))∧i.toNat*szOf U t+off+us.length≤cur.size∧After F w β h (w.setRow g (D7 cur.toList (i.toNat*szOf U t+off) us).toArray) β (upds h u):=by
 unfold aX8 at hp
 split at hp
 case isFalse=>cases hp
 rename_i hc
 simp only [co7] at hc
 have hoff:=cq7 hc.1
 have hmask:∀ j∈m,j<off∨off+vs.length≤j:=fun j hj=>by
  have:=cr4.1 hc.2 j hj
  simp only [Bool.or_eq_true] at this
  exact this.imp cq7 cq7
 split at hp
 case h_2=>cases hp
 rename_i ds u1 hds
 split at hp
 case h_2=>cases hp
 rename_i x hx
 split at hp
 case isFalse=>cases hp
 rename_i hnot
 simp only [co4,cp6] at hp
 obtain ⟨rfl,rfl⟩:=hp
 have hi:i.toNat<l.length:=by omega
 rw [Q4 hi] at hx
 have hmk:=ao1 hx
 obtain ⟨hfz,hdl⟩:=L9 hds
 have A1:=I3 k hfz
 have hnin:∀ ob,(id,ob)∉u1:=fun ob hm=>by
  have:=cr4.1 hnot _ hm
  simp at this
 have hl1:look id (upds h u1)=some (.dp (.rows e t m l ver iv true none)):=by rw [B7 hnin];exact hl
 have hdr:DRel F.B w β (upds h u1) (.rows e t m l ver iv true none) (β id):=A1.obj id _ hl1
 obtain ⟨root,xs,ns,hN',k1,k2,k3,k4,k5,k6,k7⟩:=hdr
 have hroot:root=.slice (some ⟨g,0,none⟩) l.length c:=by
  rw [hN'] at hN
  have:=G9 hN
  subst this
  simpa using hg
 subst hroot
 obtain ⟨g',cap,cur,q1,q2,q3,q4,q5,q6,q7⟩:=ap6 k1 (aC4 h0 h1)
 simp only [Value.slice.injEq,co4,Addr.mk.injEq,and_true,true_and] at q1
 obtain ⟨rfl,rfl⟩:=q1
 have hul:us.length=ds.length:=by rw [hr.1,hdl]
 have hdv:ds.length=vs.length:=hdl
 have hlen:(i.toNat+1)*szOf U t≤xs.length:=by rw [k1.1];exact Nat.mul_le_mul_right _ hi
 rw [Nat.add_mul,Nat.one_mul] at hlen
 have hle2:l.length*szOf U t≤c*szOf U t:=Nat.mul_le_mul_right _ q4
 have hxs:=k1.1
 have hpl:i.toNat*szOf U t+off+us.length≤xs.length:=by omega
 have hdr2:∀ (j:Nat) (d:Datum U) (v:Value),ds[j]? =some d→us[j]? =some v→Rep U w (Live β (upds h u1)) d v:=fun j d v a1 a2=>ai6 k hfz hds hr (fun _ hx=>hx) j d v a1 a2
 refine ⟨cur,q3,by omega,?_⟩
 rw [C9]
 refine A1.trans ?_
 refine J8 A1.ok hl1 rfl rfl rfl rfl (by simp) (fun b hb' hn=>setRow_other w g b _ (fun hh=>hn (by rw [hh,hN'];exact ⟨.slice (some ⟨g,0,none⟩) l.length c,by simp,rfl⟩))) rfl (fun _ _=>rfl) rfl (fun h=>by simp [Ob.oth] at h) (fun b hb'=>.inl hb') (fun _ _ h5=>by cases h5) (fun e2 t2 l2 v2 lv2 h5=>by cases h5) (fun xx=>?_) (fun D hD=>?_)
 ·refine ⟨_,D7 xs (i.toNat*szOf U t+off) us,ns,hN',?_,by simpa using k2,ai7 k3 hr.2.1,by rw [U6 _ _ _ hpl];exact k4,fun i' x' hx' j d hj=>?_,k6,k7⟩
  ·rw [List.length_set];exact aa3 q3 q2 q4 q5 q6 q7 hxs hpl
  ·have hjs:=ac1 hj
   have hbk:∀ (n:Value),n∈ns→∀ b,D8 n=some b→(w.setRow g (D7 cur.toList (i.toNat*szOf U t+off) us).toArray).heap[b]? =w.heap[b]? :=by
    intro n hn b hb
    obtain ⟨q,hq⟩:=List.mem_iff_getElem?.1 hn
    refine setRow_other w g b _ (fun hh=>k7 q n b hq hb (by rw [hh];rfl))
   have keep:∀ (j:Nat) (d:Datum U) (u n:Value),ns[i'*szOf U t+j]? =some n→InnR F.B w (Live β (upds h u1)) m none i' j d u n→InnR F.B (w.setRow g (D7 cur.toList (i.toNat*szOf U t+off) us).toArray) (Live β (write id (.dp (.rows e t m (l.set i.toNat x) ver iv true none)) (upds h u1))) m none i' j d u n:=by
    intro j d u n hn hI
    refine ⟨fun hm=>⟨(hI.1 hm).1,fun hh=>?_⟩,fun hm=>⟨(hI.2 hm).1,xx.rep (hI.2 hm).2⟩⟩
    obtain ⟨r1,e',t',l',r2,r3⟩:=(hI.1 hm).2 hh
    exact ⟨r1,e',t',l',r2,r3.map (fun d v r=>xx.rep r) (fun b hb=>hbk n (List.mem_of_getElem? hn) b (by rw [r1];exact hb))⟩
   rw [I5 _ _ _ _ hpl]
   by_cases hii:i'=i.toNat
   ·subst hii
    rw [cq9,if_pos rfl,if_pos hi] at hx'
    simp only [co4] at hx'
    subst hx'
    rw [←hmk,I5 _ _ _ _ (by rw [B3];omega)] at hj
    by_cases hcc:off≤j∧j<off+ds.length
    ·rw [if_pos hcc] at hj
     rw [if_pos (by omega)]
     have hlt:i.toNat*szOf U t+j<ns.length:=by omega
     have hold:j<(B4 U t l[i.toNat]).length:=by rw [B3];exact hjs
     obtain ⟨u0,n0,a1,a2,a3,a4⟩:=k5 _ _ (co6 hi) j _ (co6 hold)
     have hnm:m.any (Nat.beq j)=false:=by
      cases hm:m.any (Nat.beq j) with
      |false=>rfl
      |true=>have:=hmask j (aC6.1 hm);omega
     have hvj:j-off<us.length:=by omega
     have hk:i.toNat*szOf U t+j-(i.toNat*szOf U t+off)=j-off:=by omega
     rw [hk]
     refine ⟨us[j-off],n0,co6 hvj,a2,(fun hm=>by rw [hnm] at hm;cases hm),fun _=>⟨(a4 hnm).1,xx.rep (hdr2 _ d _ hj (co6 hvj))⟩⟩
    ·rw [if_neg hcc] at hj
     rw [if_neg (by omega)]
     obtain ⟨u0,n0,a1,a2,a3⟩:=k5 _ _ (co6 hi) j d hj
     exact ⟨u0,n0,a1,a2,keep j d u0 n0 a2 a3⟩
   ·rw [cq9,if_neg (fun hh=>hii hh.symm)] at hx'
    have:¬ (i.toNat*szOf U t+off≤i'*szOf U t+j∧i'*szOf U t+j<i.toNat*szOf U t+off+us.length):=by
     rintro ⟨b1,b2⟩
     have:i'*szOf U t+j=i.toNat*szOf U t+(i'*szOf U t+j-i.toNat*szOf U t):=by omega
     exact hii (ap7 hjs (by omega) this).1
    rw [if_neg this]
    obtain ⟨u0,n0,a1,a2,a3⟩:=k5 _ _ hx' j d hj
    exact ⟨u0,n0,a1,a2,keep j d u0 n0 a2 a3⟩
 ·cases hD
  refine ⟨_,rfl,fun c v hv=>?_⟩
  have hin:∀ (i':Int) (j:Nat),m.any (Nat.beq j)=true→J7 t (l.set i.toNat x) i' j=J7 t l i' j:=fun i' j hm=>aZ3 hi hmk (by omega) (by have:=hmask j (aC6.1 hm);omega)
  cases c with
  |self v0=>exact hv
  |elt v0 i0 off0=>exact ⟨hv.1,fun hh=>by simpa using hv.2 hh⟩
  |inn v0 i0 j0=>exact ⟨hv.1,fun hh=>by simpa using hv.2 hh⟩
  |iat v0 i0 j0 k0 off0=>
   refine ⟨hv.1,fun hh=>?_⟩
   obtain ⟨b0,b1,b2,b3,b4⟩:=hv.2 hh
   simp only [List.length_set]
   refine ⟨b0,b1,b2,b3,?_⟩
   rw [hin i0 j0 b2]
   exact b4
  |key=>exact hv
  |it=>exact hv
theorem bv8 {t:Ty} {l:List (den U.T t)} {i:Int} (hi:i.toNat<l.length) {off:Nat} {d':Datum U} {x:den U.T t} (hx:D7 (B4 U t l[i.toNat]) off [d']=B4 U t x) (hoff:off<szOf U t) {i':Int} (hi':i'.toNat=i.toNat):
  J7 t (l.set i.toNat x) i' off=some d':=by
 unfold J7
 rw [hi',Q4 (by simpa using hi)]
 simp only [List.getElem_set_self]
 rw [←hx,I5 _ _ _ _ (by rw [B3];simp only [cq8];omega),if_pos (by simp)]
 simp
theorem bi1 {t:Ty} {l:List (den U.T t)} {i i':Int} {j:Nat} {x:den U.T t} (h:¬ i'.toNat=i.toNat):J7 t (l.set i.toNat x) i' j=J7 t l i' j:=by
 unfold J7
 have hne:¬ i.toNat=i'.toNat:=fun hh=>h hh.symm
 simp only [List.getD,cq9,if_neg hne]
theorem aZ5 (k:Ok F w β h) {ids:List Nat} {id:Nat} {e:TypeId} {t:Ty} {m:List Nat} {l:List (den U.T t)} {ver iv:Nat} (hl:look id h=some (.dp (.rows e t m l ver iv true none))) {i kk:Int} {j off:Nat} {vs:List (Cell U)} {p:Option Prop} {u:Obs U}
  (hp:aY0 (sub h ids) id e t m l ver iv i j kk off vs=some (p,u)) (h0:0≤i) (h1:i<(l.length:Int)) (hm:m.any (Nat.beq j)=true) {e':TypeId} {t':Ty} {l':List (den U.T t')} (hd:J7 t l i j=some ⟨.slice e' t',l'⟩) (hk0:0≤kk) (hk1:kk<(l'.length:Int))
  {us:List Value} (hr:CsRel w β h vs us) {a:Array Value} {g c:Nat} (hN:β id=.tuple a) (hg:a[1+(i.toNat*szOf U t+j)]? =some (.slice (some ⟨g,0,none⟩) l'.length c)):
  ∃ cur,w.heap[g]? =some (.cells cur e' (0,0))∧kk.toNat*szOf U t'+off+us.length≤cur.size∧After F w β h (w.setRow g (D7 cur.toList (kk.toNat*szOf U t'+off) us).toArray) β (upds h u):=by
 unfold aY0 at hp
 rw [hd] at hp
 simp only at hp
 split at hp
 case isFalse=>cases hp
 rename_i hoff
 have hoff:=cq7 hoff
 split at hp
 case h_2=>cases hp
 rename_i ds u1 hds
 split at hp
 case h_2=>cases hp
 rename_i x' hx'
 split at hp
 case h_2=>cases hp
 rename_i x hx
 split at hp
 case isFalse=>cases hp
 rename_i hnot
 simp only [co4,cp6] at hp
 obtain ⟨rfl,rfl⟩:=hp
 have hi:i.toNat<l.length:=by omega
 have hkl:kk.toNat<l'.length:=by omega
 rw [Q4 hi] at hx
 rw [Q4 hkl] at hx'
 have hmk:=ao1 hx
 have hmk':=ao1 hx'
 obtain ⟨hfz,hdl⟩:=L9 hds
 have A1:=I3 k hfz
 have hnin:∀ ob,(id,ob)∉u1:=fun ob hm=>by
  have:=cr4.1 hnot _ hm
  simp at this
 have hl1:look id (upds h u1)=some (.dp (.rows e t m l ver iv true none)):=by rw [B7 hnin];exact hl
 have hdr:DRel F.B w β (upds h u1) (.rows e t m l ver iv true none) (β id):=A1.obj id _ hl1
 obtain ⟨⟨ys,y1,y2,y3,y4⟩,_⟩:=ai2 hdr h0 h1 hm hd hN hg
 obtain ⟨root,xs,ns,hN',k1,k2,k3,k4,k5,k6,k7⟩:=hdr
 have hcj:(B4 U t l[i.toNat])[j]? =some ⟨.slice e' t',l'⟩:=by
  have:=hd
  unfold J7 at this
  rwa [Q4 hi] at this
 have hjs:=ac1 hcj
 have hnp:ns[i.toNat*szOf U t+j]? =some (.slice (some ⟨g,0,none⟩) l'.length c):=by
  rw [hN'] at hN
  have:=G9 hN
  subst this
  rw [Nat.add_comm 1] at hg
  simpa using hg
 obtain ⟨g',cap,cur,q1,q2,q3,q4,q5,q6,q7⟩:=ap6 y1 (aC4 hk0 hk1)
 simp only [Value.slice.injEq,co4,Addr.mk.injEq,and_true,true_and] at q1
 obtain ⟨rfl,rfl⟩:=q1
 have hul:us.length=ds.length:=by rw [hr.1,hdl]
 have hdv:ds.length=vs.length:=hdl
 have hlen:(kk.toNat+1)*szOf U t'≤ys.length:=by rw [y1.1];exact Nat.mul_le_mul_right _ hkl
 rw [Nat.add_mul,Nat.one_mul] at hlen
 have hle2:l'.length*szOf U t'≤c*szOf U t':=Nat.mul_le_mul_right _ q4
 have hys:=y1.1
 have hpl:kk.toNat*szOf U t'+off+us.length≤ys.length:=by omega
 have hdr2:∀ (j:Nat) (d:Datum U) (v:Value),ds[j]? =some d→us[j]? =some v→Rep U w (Live β (upds h u1)) d v:=fun j d v a1 a2=>ai6 k hfz hds hr (fun _ hx=>hx) j d v a1 a2
 refine ⟨cur,q3,by omega,?_⟩
 rw [C9]
 refine A1.trans ?_
 refine J8 A1.ok hl1 rfl rfl rfl rfl (by simp) (fun b hb' hn=>setRow_other w g b _ (fun hh=>hn (by rw [hh,hN'];exact ⟨_,List.mem_cons_of_mem _ (List.mem_of_getElem? hnp),rfl⟩))) rfl (fun _ _=>rfl) rfl (fun h=>by simp [Ob.oth] at h) (fun b hb'=>.inl hb') (fun _ _ h5=>by cases h5) (fun e2 t2 l2 v2 lv2 h5=>by cases h5) (fun xx=>?_) (fun D hD=>?_)
 ·refine ⟨root,xs,ns,hN',?_,by simpa using k2,k3,k4,fun i' x2 hx2 j2 d hj=>?_,k6,k7⟩
  ·rw [List.length_set]
   exact k1.kept (fun b hb=>setRow_other w g b _ (fun hh=>k7 _ _ g hnp rfl (by rw [←hh];exact hb)))
  ·have hjs2:=ac1 hj
   have keep:∀ (d:Datum U) (u n:Value),¬ (i'=i.toNat∧j2=j)→ns[i'*szOf U t+j2]? =some n→InnR F.B w (Live β (upds h u1)) m none i' j2 d u n→InnR F.B (w.setRow g (D7 cur.toList (kk.toNat*szOf U t'+off) us).toArray) (Live β (write id (.dp (.rows e t m (l.set i.toNat x) ver iv true none)) (upds h u1))) m none i' j2 d u n:=by
    intro d u n hne hn hI
    refine ⟨fun hm=>⟨(hI.1 hm).1,fun hh=>?_⟩,fun hm=>⟨(hI.2 hm).1,xx.rep (hI.2 hm).2⟩⟩
    obtain ⟨r1,e2,t2,l2,r2,r3⟩:=(hI.1 hm).2 hh
    refine ⟨r1,e2,t2,l2,r2,r3.map (fun d v r=>xx.rep r) (fun b hb=>setRow_other w g b _ (fun hh2=>hne ?_))⟩
    have:=k6 _ _ _ _ g hn hnp (by rw [r1,←hh2];exact hb) rfl
    exact ap7 hjs2 hjs this
   by_cases hii:i'=i.toNat
   ·subst hii
    rw [cq9,if_pos rfl,if_pos hi] at hx2
    simp only [co4] at hx2
    subst hx2
    rw [←hmk,I5 _ _ _ _ (by rw [B3];simp only [cq8];omega)] at hj
    by_cases hcc:j≤j2∧j2<j+[(⟨.slice e' t',l'.set kk.toNat x'⟩:Datum U)].length
    ·rw [if_pos hcc] at hj
     have hjj:j2=j:=by have:=hcc.2;simp at this;omega
     subst hjj
     simp only [Nat.sub_self,cp2,co4] at hj
     subst hj
     obtain ⟨u0,n0,a1,a2,a3,a4⟩:=k5 _ _ (co6 hi) j2 _ hcj
     obtain ⟨r1,_⟩:=(a3 hm).2 (by rintro ⟨_,hh,_⟩;cases hh)
     rw [hnp] at a2
     simp only [co4] at a2
     refine ⟨u0,n0,a1,by rw [hnp,a2],fun _=>⟨(by rintro ⟨_,hh,_⟩;cases hh),fun _=>⟨r1,e',t',_,rfl,D7 ys (kk.toNat*szOf U t'+off) us,?_,by simpa using y2,ai7 y3 hr.2.1,?_⟩⟩,fun hm'=>by rw [hm] at hm';cases hm'⟩
     ·rw [←r1,←a2,List.length_set]
      exact aa3 q3 q2 q4 q5 q6 q7 hys hpl
     ·exact Els.ext xx (bF5 (β:=β) (h:=upds h u1) y4 hys hkl hmk' (by omega) hul hdr2)
    ·rw [if_neg hcc] at hj
     obtain ⟨u0,n0,a1,a2,a3⟩:=k5 _ _ (co6 hi) j2 d hj
     refine ⟨u0,n0,a1,a2,keep d u0 n0 (fun hh=>hcc ?_) a2 a3⟩
     rw [hh.2];simp
   ·rw [cq9,if_neg (fun hh=>hii hh.symm)] at hx2
    obtain ⟨u0,n0,a1,a2,a3⟩:=k5 _ _ hx2 j2 d hj
    exact ⟨u0,n0,a1,a2,keep d u0 n0 (fun hh=>hii hh.1) a2 a3⟩
 ·cases hD
  refine ⟨_,rfl,fun c v hv=>?_⟩
  cases c with
  |self v0=>exact hv
  |elt v0 i0 off0=>exact ⟨hv.1,fun hh=>by simpa using hv.2 hh⟩
  |inn v0 i0 j0=>exact ⟨hv.1,fun hh=>by simpa using hv.2 hh⟩
  |iat v0 i0 j0 k0 off0=>
   refine ⟨hv.1,fun hh=>?_⟩
   obtain ⟨b0,b1,b2,b3,vs0,g0,c0,e0,t0,l0,b4,b5,b6,b7,b8⟩:=hv.2 hh
   simp only [List.length_set]
   refine ⟨b0,b1,b2,b3,vs0,g0,c0,e0,t0,?_⟩
   by_cases hs:i0.toNat=i.toNat∧j0=j
   ·obtain ⟨hs1,rfl⟩:=hs
    have hde:J7 t l i0 j0=J7 t l i j0:=by unfold J7;rw [hs1]
    rw [hde,hd] at b6
    simp only [co4] at b6
    cases b6
    exact ⟨l'.set kk.toNat x',b4,by simpa using b5,bv8 hi hmk hjs hs1,by simpa using b7,b8⟩
   ·refine ⟨l0,b4,b5,?_,b7,b8⟩
    by_cases hs1:i0.toNat=i.toNat
    ·have hj0:j0≠j:=fun hh=>hs ⟨hs1,hh⟩
     rw [aZ3 hi hmk (by simp only [cq8];omega) (by simp only [cq8];omega)]
     exact b6
    ·rw [bi1 hs1];exact b6
  |key=>exact hv
  |it=>exact hv
theorem bv9 (k:Ok F w β h) {ids:List Nat} {id:Nat} {ty:Option Ty} {c:Cell U} {d:Datum U} {u:Obs U} (hi:ca0 (sub h ids) id ty c=some (d,u)) {v:Value} (hr:CRel w β h c v):
  ∃ e t l,d=⟨.slice e t,l⟩∧RowC F.B w (Live β h) e t l v∧((u=[]∧∀ b,¬ Has v b)∨∃ r vr,u=[(r,.row e t [] (vr+1) true)]∧r≠id∧look r h=some (.row e t l vr true)∧v=β r):=by
 unfold ca0 at hi
 split at hi
 ·rename_i r vr
  split at hi
  case h_2=>cases hi
  rename_i e t l vr' hl
  split at hi
  case isFalse=>cases hi
  rename_i hc
  simp only [co7,Bool.not_eq_true'] at hc
  have hv:=co5 hc.1
  have hne:r≠id:=fun hh=>by
   have:=hc.2
   rw [hh,Nat.beq_refl] at this
   cases this
  simp only [co4,cp6] at hi
  obtain ⟨rfl,rfl⟩:=hi
  have hl:=C1 hl
  obtain ⟨_,_,_,_,_,hl2,_,hvv⟩:=hr
  rw [hl] at hl2
  simp only [co4,Ob.row.injEq] at hl2
  have hvv:=hvv (hv.trans hl2.2.2.2.1)
  subst hvv
  exact ⟨e,t,l,rfl,k.obj r _ hl,.inr ⟨r,vr',rfl,hne,hl,rfl⟩⟩
 ·split at hi
  case h_2=>cases hi
  rename_i e t
  simp only [co4,cp6] at hi
  obtain ⟨rfl,rfl⟩:=hi
  have hv:v=.slice none 0 0:=hr
  subst hv
  exact ⟨e,t,[],rfl,⟨[],Owns.of (World.ownsRow_nil _ _ _ _),by simp [most],by simp,fun i y hy=>by simp at hy⟩,.inl ⟨rfl,fun b hb=>W2 hb⟩⟩
 ·cases hi
theorem C3 {root:Value} {ns:List Value} {b:Nat}:Has (.tuple (root::ns).toArray) b↔D8 root=some b∨∃ (p:Nat) (n:Value),ns[p]? =some n∧D8 n=some b:=by
 constructor
 ·rintro ⟨u,hu,hb⟩
  simp only [List.mem_cons] at hu
  rcases hu with rfl|hu
  ·exact .inl hb
  ·obtain ⟨p,hp⟩:=List.mem_iff_getElem?.1 hu
   exact .inr ⟨p,u,hp,hb⟩
 ·rintro (hb|⟨p,n,hn,hb⟩)
  ·exact ⟨root,by simp,hb⟩
  ·exact ⟨n,List.mem_cons_of_mem _ (List.mem_of_getElem? hn),hb⟩
theorem bF6 {e:TypeId} {t:Ty} {m:List Nat} {l l':List (den U.T t)} {ver iv:Nat} {lv lv':Bool} {hole hole':Option (Int×Nat)} {root:Value} {ns ns':List Value} (hlen:l'.length=l.length) (c:DC U) (v:Value)
  (hv:DCRel (.rows e t m l ver iv lv hole) (.tuple (root::ns).toArray) c v):DCRel (.rows e t m l' ver (iv+1) lv' hole') (.tuple (root::ns').toArray) c v:=by
 cases c with
 |self v0=>
  refine ⟨hv.1,fun hh=>?_⟩
  obtain ⟨vs,h1,h2⟩:=hv.2 hh
  have:=G9 h1
  subst this
  exact ⟨_,rfl,by simpa using h2⟩
 |elt v0 i off=>
  refine ⟨hv.1,fun hh=>?_⟩
  obtain ⟨h0,h1,vs,g,c,h2,h3,h4⟩:=hv.2 hh
  have:=G9 h2
  subst this
  exact ⟨h0,by rw [hlen];exact h1,_,g,c,rfl,by rw [hlen];simpa using h3,h4⟩
 |inn v0 i j=>exact ⟨Nat.le_succ_of_le hv.1,fun hh=>by have:=hv.1;omega⟩
 |iat v0 i j k off=>exact ⟨Nat.le_succ_of_le hv.1,fun hh=>by have:=hv.1;omega⟩
 |key=>exact hv
 |it=>exact hv
theorem aZ6 (k:Ok F w β h) {ids:List Nat} {id:Nat} {e:TypeId} {t:Ty} {m:List Nat} {l:List (den U.T t)} {ver iv:Nat} {hole:Option (Int×Nat)} (hl:look id h=some (.dp (.rows e t m l ver iv true hole))) {i:Int} {off:Nat} {c:Cell U} {p:Option Prop} {u:Obs U}
  (hp:aX9 (sub h ids) id e t m l ver iv hole i off c=some (p,u)) (hob:holds p) (h0:0≤i) (h1:i<(l.length:Int)) {v:Value} (hr:CRel w β h c v) (hv1:v.oneCell'=true) {a:Array Value} {g cp:Nat} (hN:β id=.tuple a) (hg:a[0]? =some (.slice (some ⟨g,0,none⟩) l.length cp)):
  ∃ cur,w.heap[g]? =some (.cells cur e (0,0))∧i.toNat*szOf U t+off+1≤cur.size∧∃ β',After F w β h (w.setRow g (D7 cur.toList (i.toNat*szOf U t+off) [v]).toArray) β' (upds h u):=by
 unfold aX9 at hp
 split at hp
 case h_2=>cases hp
 rename_i d u0 hin
 split at hp
 case isFalse=>cases hp
 rename_i hc
 simp only [co7,beq_iff_eq] at hc
 obtain ⟨hm,hty⟩:=hc
 split at hp
 case h_2=>cases hp
 rename_i x hx
 split at hp
 case h_2=>cases hp
 rename_i p0 hhole
 simp only [co4,cp6] at hp
 obtain ⟨rfl,rfl⟩:=hp
 have hi:i.toNat<l.length:=by omega
 rw [Q4 hi] at hx
 have hmk:=ao1 hx
 obtain ⟨e',t',l',rfl,hrow,hu0⟩:=bv9 k hin hr
 have hdr:DRel F.B w β h (.rows e t m l ver iv true hole) (β id):=k.obj id _ hl
 obtain ⟨root,xs,ns,hN',k1,k2,k3,k4,k5,k6,k7⟩:=hdr
 have hroot:root=.slice (some ⟨g,0,none⟩) l.length cp:=by
  rw [hN'] at hN
  have:=G9 hN
  subst this
  simpa using hg
 subst hroot
 obtain ⟨g',cap,cur,q1,q2,q3,q4,q5,q6,q7⟩:=ap6 k1 (aC4 h0 h1)
 simp only [Value.slice.injEq,co4,Addr.mk.injEq,and_true,true_and] at q1
 obtain ⟨rfl,rfl⟩:=q1
 have hsz:off<szOf U t:=by
  have h2:(tysE U t).length=szOf U t:=by cases t<;>rfl
  rw [←h2]
  exact (co9.1 hty).1
 have hlen:(i.toNat+1)*szOf U t≤xs.length:=by rw [k1.1];exact Nat.mul_le_mul_right _ hi
 rw [Nat.add_mul,Nat.one_mul] at hlen
 have hle2:l.length*szOf U t≤cp*szOf U t:=Nat.mul_le_mul_right _ q4
 have hxs:=k1.1
 have hpl:i.toNat*szOf U t+off+[v].length≤xs.length:=by simp only [cq8];omega
 have hpos:i.toNat*szOf U t+off<ns.length:=by rw [k4];simp only [cq8] at hpl;omega
 --the hole,if there is one,is here
 have hh:∀ (i' j':Nat),(∃ hi:Int,hole=some (hi,j')∧hi.toNat=i')→i'=i.toNat∧j'=off:=by
  rintro i' j' ⟨hi2,hh1,hh2⟩
  subst hh1
  simp only at hhole
  split at hhole
  case isFalse=>cases hhole
  rename_i hb
  simp only [co4] at hhole
  subst hhole
  have hob:hi2=i:=hob
  exact ⟨by rw [←hh2,hob],co5 hb⟩
 --the blocks of what is stored
 have hvb:∀ b,Has v b→∃ r vr,u0=[(r,.row e' t' [] (vr+1) true)]∧r≠id∧look r h=some (.row e' t' l' vr true)∧v=β r:=by
  intro b hb
  rcases hu0 with ⟨_,h2⟩|h2
  ·exact absurd hb (h2 b)
  ·exact h2
 have hvblk:∀ b,D8 v=some b→Has v b:=by
  obtain ⟨ys,y1,_⟩:=hrow
  exact fun b hb=>y1.has hb
 have hvN:∀ b,Has v b→¬ Has (β id) b:=by
  intro b hb hN2
  obtain ⟨r,vr,_,hne,hlr,rfl⟩:=hvb b hb
  exact hne (k.dis r _ id _ b hlr hl hb hN2)
 refine ⟨cur,q3,by simp only [cq8] at hpl;omega,?_⟩
 let N2:Value:=.tuple ((.slice (some ⟨g,0,none⟩) l.length cp:Value)::ns.set (i.toNat*szOf U t+off) v).toArray
 let β':Nm:=⟨fun j=>open Classical in if j=id then N2 else if (∃ o,(j,o)∈u0) then .slice none 0 0 else β j,β.M,β.lp⟩
 have hβid:β' id=N2:=by simp [β']
 have hβr:∀ j,j≠id→(∃ o,(j,o)∈u0)→β' j=.slice none 0 0:=by
  intro j hj hex
  simp only [β']
  rw [if_neg hj,if_pos hex]
 have hu0id:∀ o,(id,o)∉u0:=by
  intro o ho
  rcases hu0 with ⟨h2,_⟩|⟨r,vr,h2,hne,_⟩
  ·rw [h2] at ho;simp at ho
  ·rw [h2] at ho
   simp only [cp5,cp6] at ho
   exact hne ho.1.symm
 have hu0r:∀ j o,(j,o)∈u0→∃ vr,j≠id∧look j h=some (.row e' t' l' vr true)∧o=.row e' t' [] (vr+1) true∧v=β j:=by
  intro j o ho
  rcases hu0 with ⟨h2,_⟩|⟨r,vr,h2,hne,hlr,hvr⟩
  ·rw [h2] at ho;simp at ho
  ·rw [h2] at ho
   simp only [cp5,cp6] at ho
   obtain ⟨rfl,rfl⟩:=ho
   exact ⟨vr,hne,hlr,rfl,hvr⟩
 have hmid:(id,Ob.dp (.rows e t m (l.set i.toNat x) ver (iv+1) true none))∈u0++[(id,Ob.dp (.rows e t m (l.set i.toNat x) ver (iv+1) true none))]:=by simp
 refine ⟨β',Q5 k ?_ ?_ rfl rfl rfl (by simp) ?_ rfl ?_ rfl ?_ ?_ ?_ ?_ ?_⟩
 ·rcases hu0 with ⟨h2,_⟩|⟨r,vr,h2,hne,_⟩
  ·rw [h2];simp
  ·rw [h2];simpa using hne
 ·intro j o ob hm hlj
  rcases cr1.1 hm with h2|h2
  ·obtain ⟨vr,_,h3,_⟩:=hu0r j o h2
   rw [h3] at hlj
   simp only [co4] at hlj
   subst hlj;rfl
  ·simp only [cp5,cp6] at h2
   rw [h2.1,hl] at hlj
   simp only [co4] at hlj
   subst hlj;rfl
 ·intro b hb hn
  exact setRow_other w g b _ (fun hh2=>hn id _ _ hmid hl (by rw [hh2,hN'];exact C3.2 (.inl rfl)))
 ·intro j hj
  have h2:j≠id:=fun hh2=>hj (.dp (.rows e t m (l.set i.toNat x) ver (iv+1) true none)) (by rw [hh2];simp)
  have h3:¬ ∃ o,(j,o)∈u0:=fun ⟨o,ho⟩=>hj o (by simp [ho])
  simp only [β']
  rw [if_neg h2,if_neg h3]
 ·intro j o b hm hb
  rcases cr1.1 hm with h2|h2
  ·obtain ⟨vr,hne,_⟩:=hu0r j o h2
   rw [hβr j hne ⟨o,h2⟩] at hb
   exact (W2 hb).elim
  ·simp only [cp5,cp6] at h2
   rw [h2.1,hβid] at hb
   left
   rcases C3.1 hb with h3|⟨q,n,h3,h4⟩
   ·exact ⟨id,_,_,hmid,hl,by rw [hN'];exact C3.2 (.inl h3)⟩
   ·rw [cq9] at h3
    split at h3
    ·simp only [if_pos hpos,co4] at h3
     subst h3
     obtain ⟨r,vr,h5,hne,hlr,hvr⟩:=hvb b (hvblk b h4)
     exact ⟨r,.row e' t' [] (vr+1) true,_,by rw [h5];simp,hlr,by rw [←hvr];exact hvblk b h4⟩
    ·exact ⟨id,_,_,hmid,hl,by rw [hN'];exact C3.2 (.inr ⟨q,n,h3,h4⟩)⟩
 ·intro j o j' o' b hm hm' hb hb'
  rcases cr1.1 hm with h2|h2
  ·obtain ⟨vr,hne,_⟩:=hu0r j o h2
   rw [hβr j hne ⟨o,h2⟩] at hb
   exact (W2 hb).elim
  ·rcases cr1.1 hm' with h3|h3
   ·obtain ⟨vr,hne,_⟩:=hu0r j' o' h3
    rw [hβr j' hne ⟨o',h3⟩] at hb'
    exact (W2 hb').elim
   ·simp only [cp5,cp6] at h2 h3
    rw [h2.1,h3.1]
 ·intro j o ob hm hlj
  rcases cr1.1 hm with h2|h2
  ·obtain ⟨vr,hne,h3,h4,_⟩:=hu0r j o h2
   rw [h3] at hlj
   simp only [co4] at hlj
   subst hlj
   rw [h4]
   exact ⟨rfl,rfl,by omega,fun hh2=>by omega⟩
  ·simp only [cp5,cp6] at h2
   obtain ⟨rfl,rfl⟩:=h2
   rw [hl] at hlj
   simp only [co4] at hlj
   subst hlj
   rw [hβid,hN']
   intro c v hv
   exact bF6 (by simp) c v hv
 ·intro j o hm
  rcases cr1.1 hm with h2|h2
  ·obtain ⟨vr,_,_,h4,_⟩:=hu0r j o h2
   rw [h4];rfl
  ·simp only [cp5,cp6] at h2
   rw [h2.2];rfl
 ·intro xx j o hm
  rcases cr1.1 hm with h2|h2
  ·obtain ⟨vr,hne,_,h4,_⟩:=hu0r j o h2
   rw [h4]
   exact ⟨[],by rw [hβr j hne ⟨o,h2⟩];exact Owns.of (World.ownsRow_nil _ _ _ _),by simp [most],by simp,fun i y hy=>by simp at hy⟩
  ·simp only [cp5,cp6] at h2
   rw [h2.1,h2.2]
   suffices key:DRel F.B (w.setRow g (D7 cur.toList (i.toNat*szOf U t+off) [v]).toArray) β' (upds h (u0++[(id,.dp (.rows e t m (l.set i.toNat x) ver (iv+1) true none))])) (.rows e t m (l.set i.toNat x) ver (iv+1) true none) N2 by
    rw [←hβid] at key
    exact key
   have hgb:∀ b,Has v b∨(∃ (q:Nat) (n:Value),ns[q]? =some n∧D8 n=some b)→b≠g:=by
    rintro b (hb|⟨q,n,hn,hb⟩) rfl
    ·exact hvN b hb (by rw [hN'];exact C3.2 (.inl rfl))
    ·exact k7 q n b hn hb rfl
   refine ⟨_,D7 xs (i.toNat*szOf U t+off) [v],_,rfl,?_,by simpa using k2,ai7 k3 (by simpa using hv1),by rw [U6 _ _ _ hpl,List.length_set];exact k4,fun i' x2 hx2 j2 d hj=>?_,?_,?_⟩
   ·rw [List.length_set];exact aa3 q3 q2 q4 q5 q6 q7 hxs hpl
   ·have hjs2:=ac1 hj
    have keep:∀ (d:Datum U) (u n:Value),¬ (i'=i.toNat∧j2=off)→ns[i'*szOf U t+j2]? =some n→InnR F.B w (Live β h) m hole i' j2 d u n→InnR F.B (w.setRow g (D7 cur.toList (i.toNat*szOf U t+off) [v]).toArray) (Live β' (upds h (u0++[(id,.dp (.rows e t m (l.set i.toNat x) ver (iv+1) true none))]))) m none i' j2 d u n:=by
     intro d u n hne hn hI
     refine ⟨fun hm=>⟨(by rintro ⟨_,hh3,_⟩;cases hh3),fun _=>?_⟩,fun hm=>⟨(hI.2 hm).1,xx.rep (hI.2 hm).2⟩⟩
     obtain ⟨r1,e2,t2,l2,r2,r3⟩:=(hI.1 hm).2 (fun hh3=>hne (hh _ _ hh3))
     exact ⟨r1,e2,t2,l2,r2,r3.map (fun d v r=>xx.rep r) (fun b hb=>setRow_other w g b _ (hgb b (.inr ⟨_,n,hn,by rw [r1];exact hb⟩)))⟩
    have hnp:¬ (i'=i.toNat∧j2=off)→(ns.set (i.toNat*szOf U t+off) v)[i'*szOf U t+j2]? =ns[i'*szOf U t+j2]? :=by
     intro hne
     rw [cq9,if_neg (fun hh3=>hne ?_)]
     have:=ap7 hsz hjs2 hh3
     exact ⟨this.1.symm,this.2.symm⟩
    rw [I5 _ _ _ _ hpl]
    by_cases hcc:i'=i.toNat∧j2=off
    ·obtain ⟨rfl,rfl⟩:=hcc
     rw [if_pos (by simp)]
     rw [cq9,if_pos rfl,if_pos hi] at hx2
     simp only [co4] at hx2
     subst hx2
     rw [←hmk,I5 _ _ _ _ (by rw [B3];simp only [cq8];omega),if_pos (by simp)] at hj
     simp only [Nat.sub_self,cp2,co4] at hj
     subst hj
     refine ⟨v,v,by simp,by rw [cq9,if_pos rfl,if_pos hpos],fun _=>⟨(by rintro ⟨_,hh3,_⟩;cases hh3),fun _=>⟨rfl,e',t',l',rfl,hrow.map (fun d v r=>xx.rep r) (fun b hb=>setRow_other w g b _ (hgb b (.inl (hvblk b hb))))⟩⟩,fun hm2=>by rw [hm] at hm2;cases hm2⟩
    ·have hno:¬ (i.toNat*szOf U t+off≤i'*szOf U t+j2∧i'*szOf U t+j2<i.toNat*szOf U t+off+[v].length):=by
      rintro ⟨b1,b2⟩
      simp only [cq8] at b2
      have:i'*szOf U t+j2=i.toNat*szOf U t+off:=by omega
      exact hcc (ap7 hjs2 hsz this)
     rw [if_neg hno,hnp hcc]
     by_cases hii:i'=i.toNat
     ·subst hii
      rw [cq9,if_pos rfl,if_pos hi] at hx2
      simp only [co4] at hx2
      subst hx2
      have hj0:¬ j2=off:=fun hh3=>hcc ⟨rfl,hh3⟩
      rw [←hmk,I5 _ _ _ _ (by rw [B3];simp only [cq8];omega),if_neg (by simp only [cq8];omega)] at hj
      obtain ⟨u1,n1,a1,a2,a3⟩:=k5 _ _ (co6 hi) j2 d hj
      exact ⟨u1,n1,a1,a2,keep d u1 n1 hcc a2 a3⟩
     ·rw [cq9,if_neg (fun hh3=>hii hh3.symm)] at hx2
      obtain ⟨u1,n1,a1,a2,a3⟩:=k5 _ _ hx2 j2 d hj
      exact ⟨u1,n1,a1,a2,keep d u1 n1 hcc a2 a3⟩
   ·intro q q' a c b ha hc hab hcb
    rw [cq9] at ha hc
    split at ha<;>split at hc
    ·rename_i b1 b2;rw [←b1,←b2]
    ·simp only [if_pos hpos,co4] at ha
     subst ha
     exact (hvN b (hvblk b hab) (by rw [hN'];exact C3.2 (.inr ⟨q',c,hc,hcb⟩))).elim
    ·simp only [if_pos hpos,co4] at hc
     subst hc
     exact (hvN b (hvblk b hcb) (by rw [hN'];exact C3.2 (.inr ⟨q,a,ha,hab⟩))).elim
    ·exact k6 q q' a c b ha hc hab hcb
   ·intro q a b ha hab
    rw [cq9] at ha
    split at ha
    ·simp only [if_pos hpos,co4] at ha
     subst ha
     intro hb2
     exact hvN b (hvblk b hab) (by rw [hN'];exact C3.2 (.inl hb2))
    ·exact k7 q a b ha hab
theorem Does.store (R:Rel F n β s tmps w) {t:TypeId} {x y:Operand} (hop:o.op=.store t x y) {a v:PV U} (r:PRel w β s.h s.σ a (ρ x)) (q:PRel w β s.h s.σ v (ρ y)) {ids:List Nat}
  (he:az0 E (sub s.h ids) t a v=some e) (hob:e.Obl):Does E.P F β s ρ w o e:=by
 unfold az0 at he
 split at he
 ·rename_i vs hvs
  have hr:=aL4 q hvs
  split at he
  ·rename_i b k hs
   split at he
   ·rename_i hk
    have hk:=co5 hk
    have hsz:(ρ y).cells.size=k:=by have:=hr.1;simpa [hk] using this
    split at he
    ·--a box
     rename_i id off
     split at he
     ·rename_i e' cs hl
      split at he
      ·rename_i hble
       have hble:=cq7 hble
       simp only [co4] at he
       subst he
       have hl:=C1 hl
       obtain ⟨_,_,g,hl2,hb,hv⟩:=r.inv.2
       obtain ⟨g',cur,h1,h2,h3,h4⟩:=R.obj id _ hl
       rw [hb] at h1
       simp only [Value.pointer.injEq,co4,Addr.mk.injEq,and_true] at h1
       subst h1
       have hcl:cur.size=cs.length:=by have:=h4.1;simpa using this
       have hrun:=am1 (P:=E.P) hs w g off e' cur h3 (ρ y) hsz (by omega) hr.2.1
       have A:After F w β s.h (w.setRow g (D7 cur.toList off (ρ y).cells.toList).toArray) β (write id (.box e' (D7 cs off vs)) s.h):=by
        refine J8 R.ok hl rfl rfl rfl rfl (by simp) (fun b hb' hn=>setRow_other w g b _ (fun hh=>hn (by rw [hh,hb];rfl))) rfl (fun _ _=>rfl) rfl (fun h=>by simp [Ob.oth] at h) (fun b hb'=>.inl hb') (fun e2 cs2 h5=>?_) (fun _ _ _ _ _ h5=>by cases h5) (fun x=>?_)
        ·cases h5;exact ⟨rfl,_,rfl⟩
        ·exact ⟨g,_,hb,h2,setRow_heap w g cur _ e' (0,0) h3,x.cs (by simpa using h4.spl hr off)⟩
       exact ⟨undef,_,β,.inr ⟨by simp [execOp,hop,hv,hrun],rfl⟩,A,trivial⟩
      ·cases he
     ·cases he
    ·--an element
     rename_i id ver i off
     split at he
     ·rename_i e' c l ver' lv hl
      split at he
      ·rename_i hcond
       simp only [co7] at hcond
       have hver:=co5 hcond.1.1
       have hlv:lv=true:=hcond.1.2
       have hoffk:=cq7 hcond.2
       subst hlv
       split at he
       ·rename_i ds u hds
        split at he
        ·rename_i x0 hx0
         split at he
         case isFalse=>cases he
         rename_i hnot
         simp only [co4] at he
         subst he
         have hl:=C1 hl
         obtain ⟨_,_,_,_,_,hl2,hle,hv⟩:=r.inv.2
         rw [hl] at hl2
         simp only [co4,Ob.row.injEq] at hl2
         obtain ⟨rfl,rfl,hll,rfl,rfl⟩:=hl2
         have hll:=eq_of_heq hll
         subst hll
         obtain ⟨h0,h1,g,cap,hβ,hx⟩:=hv hver
         have hi:=bq5 h0 h1
         obtain ⟨hfz,hdl⟩:=L9 hds
         have A1:=I3 R.ok hfz
         have hnin:∀ ob,(id,ob)∉u:=fun ob hm=>by
          have:=cr4.1 hnot _ hm
          simp at this
         have hl1:look id (upds s.h u)=some (.row e' c l ver' true):=by rw [B7 hnin];exact hl
         have hgd:l.getD i.toNat (dfl U c)=l[i.toNat]:=by simp [List.getD,co6 hi]
         rw [hgd] at hx0
         have hmk:=ao1 hx0
         obtain ⟨xs,hown,hm,h1c,hel⟩:=A1.obj id _ hl1
         obtain ⟨g',cap',cur,h3,h4,h5,h6,h7,h8,h9⟩:=ap6 hown (aC4 h0 h1)
         rw [hβ] at h3
         simp only [Value.slice.injEq,co4,Addr.mk.injEq,and_true,true_and] at h3
         obtain ⟨rfl,rfl⟩:=h3
         have hds2:ds.length=k:=by rw [hdl];exact hk
         have hoff:off+ds.length≤szOf U c:=by
          rw [hds2];exact hoffk
         have hvl:(ρ y).cells.toList.length=ds.length:=by rw [hds2];simpa using hsz
         have hxs:=hown.1
         have hlen:(i.toNat+1)*szOf U c≤xs.length:=by rw [hxs];exact Nat.mul_le_mul_right _ hi
         rw [Nat.add_mul,Nat.one_mul] at hlen
         have hle2:l.length*szOf U c≤cap*szOf U c:=Nat.mul_le_mul_right _ h6
         have hp:i.toNat*szOf U c+off+(ρ y).cells.toList.length≤xs.length:=by omega
         have hrun:=am1 (P:=E.P) hs w g (i.toNat*szOf U c+off) e' cur h5 (ρ y) hsz (by omega) hr.2.1
         have hdr:∀ (j:Nat) (d:Datum U) (v:Value),ds[j]? =some d→(ρ y).cells.toList[j]? =some v→Rep U w (Live β (upds s.h u)) d v:=fun j d v h12 h13=>ai6 R.ok hfz hds hr (fun _ hx=>hx) j d v h12 h13
         have A2:After F w β (upds s.h u) (w.setRow g (D7 cur.toList (i.toNat*szOf U c+off) (ρ y).cells.toList).toArray) β (write id (.row e' c (l.set i.toNat x0) ver' true) (upds s.h u)):=by
          refine J8 A1.ok hl1 rfl rfl rfl rfl (by simp) (fun b hb' hn=>setRow_other w g b _ (fun hh=>hn (by rw [hh,hβ];rfl))) rfl (fun _ _=>rfl) rfl (fun h=>by simp [Ob.oth] at h) (fun b hb'=>.inl hb') (fun _ _ h5=>by cases h5) (fun e2 t2 l2 v2 lv2 h5=>?_) (fun x=>?_)
          ·cases h5;exact ⟨_,_,_,rfl,Nat.le_refl _,fun _=>⟨rfl,by simp⟩⟩
          ·refine ⟨D7 xs (i.toNat*szOf U c+off) (ρ y).cells.toList,?_,by simpa using hm,ai7 h1c hr.2.1,Els.ext x (bF5 hel hxs hi hmk hoff hvl hdr)⟩
           rw [hβ,List.length_set]
           exact aa3 h5 h4 h6 h7 h8 h9 hxs hp
         refine ⟨undef,w.setRow g (D7 cur.toList (i.toNat*szOf U c+off) (ρ y).cells.toList).toArray,β,.inr ⟨by simp [execOp,hop,hx,hrun],rfl⟩,?_,trivial⟩
         dsimp only
         rw [C9,hver]
         exact A1.trans A2
        ·cases he
       ·cases he
      ·cases he
     ·cases he
    ·--a deep object
     rename_i id c
     split at he
     case h_2=>cases he
     rename_i D hl
     split at he
     case h_2=>cases he
     rename_i p u hput
     simp only [co4] at he
     subst he
     have hl:=C1 hl
     obtain ⟨D',hl',hv⟩:=r.inv.2
     rw [hl] at hl'
     simp only [co4,Ob.dp.injEq] at hl'
     subst hl'
     have fin:∀ (g q:Nat) (el:TypeId) (cur:Array Value) (β':Nm),ρ x=.pointer (some ⟨g,q,none⟩)→w.heap[g]? =some (.cells cur el (0,0))→q+(ρ y).cells.toList.length≤cur.size→After F w β s.h (w.setRow g (D7 cur.toList q (ρ y).cells.toList).toArray) β' (upds s.h u)→
       Does E.P F β s ρ w o ⟨p,.un,u⟩:=by
      intro g q el cur β' hx hg hle hA
      have hkl:(ρ y).cells.toList.length=k:=by simpa using hsz
      have hrun:=am1 (P:=E.P) hs w g q el cur hg (ρ y) hsz (by rw [hkl] at hle;exact hle) hr.2.1
      exact ⟨undef,_,β',.inr ⟨by simp [execOp,hop,hx,hrun],rfl⟩,hA,trivial⟩
     cases D with
     |maps=>simp [Deep.put] at hput
     |iter=>simp [Deep.put] at hput
     |rows e t m l ver iv lv hole=>
      cases lv with
      |false=>simp [Deep.put] at hput
      |true=>
       cases c with
       |self=>simp [Deep.put] at hput
       |inn=>simp [Deep.put] at hput
       |key=>simp [Deep.put] at hput
       |it=>simp [Deep.put] at hput
       |iat v0 i j kk off=>
        simp only [Deep.put] at hput
        split at hput
        case isFalse=>cases hput
        rename_i hver
        split at hput
        case h_2=>cases hput
        obtain ⟨h0,h1,hm,hk0,a,g,c,e',t',l',hN,hg,hd,hk1,hx⟩:=hv.2 (co5 hver)
        obtain ⟨cur,a1,a2,a3⟩:=aZ5 R.ok hl hput h0 h1 hm hd hk0 hk1 hr hN hg
        exact fin g _ e' cur β hx a1 a2 a3
       |elt v0 i off=>
        simp only [Deep.put] at hput
        split at hput
        case isFalse=>cases hput
        rename_i hver
        obtain ⟨h0,h1,a,g,c,hN,hg,hx⟩:=hv.2 (co5 hver)
        split at hput
        ·rename_i c0 hany
         have hu1:∃ v,(ρ y).cells.toList=[v]:=by
          have:=hr.1
          exact List.length_eq_one_iff.1 (by simpa using this)
         obtain ⟨v,hv1⟩:=hu1
         rw [hv1] at hr
         obtain ⟨cur,a1,a2,β',a3⟩:=aZ6 R.ok hl hput hob h0 h1 hr.inv.2 hr.inv.1 hN hg
         exact fin g _ e cur β' hx a1 (by rw [hv1];exact a2) (by rw [hv1];exact a3)
        ·split at hput
         case h_2=>cases hput
         obtain ⟨cur,a1,a2,a3⟩:=aZ4 R.ok hl hput h0 h1 hr hN hg
         exact fin g _ e cur β hx a1 a2 a3
    ·cases he
   ·cases he
  ·cases he
 ·cases he
theorem Rep.one {M:Nat→Prop} {d:Datum U} {v:Value} (r:Rep U w M d v):v.oneCell'=true:=by cases r<;>rfl
theorem ai8 {t:Ty} {l m:List (den U.T t)} {xs ys:List Value} (hx:xs.length=l.length*szOf U t) (r:Els w β h t l xs) (q:Els w β h t m ys):Els w β h t (l++m) (xs++ys):=by
 intro i x hi j d hd
 have hj:j<szOf U t:=by
  rw [←B3 U t x]
  by_cases hj':j<(B4 U t x).length
  ·exact hj'
  ·rw [List.getElem?_eq_none (by omega)] at hd;cases hd
 by_cases hl:i<l.length
 ·rw [cq4 hl] at hi
  obtain ⟨u,hu,hr⟩:=r i x hi j d hd
  have hlt:i*szOf U t+j<xs.length:=by
   rw [hx]
   have:(i+1)*szOf U t≤l.length*szOf U t:=Nat.mul_le_mul_right _ hl
   rw [Nat.add_mul,Nat.one_mul] at this
   omega
  exact ⟨u,by rw [cq4 hlt];exact hu,hr⟩
 ·rw [cq3 (by omega)] at hi
  obtain ⟨u,hu,hr⟩:=q _ x hi j d hd
  refine ⟨u,?_,hr⟩
  have hge:l.length*szOf U t≤i*szOf U t:=Nat.mul_le_mul_right _ (by omega)
  rw [cq3 (by omega),←hu,hx,Nat.sub_mul]
  congr 1
  omega
theorem aL5 {t:Ty} (hsz:0<szOf U t) {e:TypeId} {m:List (den U.T t)} {v:Value} (r:Rep U w (Live β h) ⟨.slice e t,m⟩ v):
  (m=[]∧∃ A c,v=.slice A 0 c)∨∃ (a:Addr) (c:Nat) (ys:List Value),v=.slice (some a) m.length c∧¬ Live β h a.block∧ys.length=m.length*szOf U t∧(∀ (j:Nat) (u:Value),ys[j]? =some u→w.cell? (a.add j)=some u)∧
   (∀ u∈ys,u.oneCell'=true)∧Els w β h t m ys∧m.length≤most:=by
 cases r with
 |nil _ _ A c=>exact .inl ⟨rfl,A,c,rfl⟩
 |slice _ _ _ g q cap f h0 hc hm hM hg hcell hr=>
  refine .inr ⟨⟨g,q,none⟩,cap,(List.range (m.length*szOf U t)).map (fun k=>f (k / szOf U t) (k % szOf U t)),rfl,hM,by simp,fun j u hu=>?_,fun u hu=>?_,fun i x hx j d hd=>?_,hm⟩
  ·simp only [cp9,cp1] at hu
   obtain ⟨k,hk,rfl⟩:=hu
   have hj:j<m.length*szOf U t:=by
    by_cases hj:j<m.length*szOf U t
    ·exact hj
    ·rw [List.getElem?_eq_none (by simp;omega)] at hk;cases hk
   rw [List.getElem?_range hj] at hk
   simp only [co4] at hk
   subst hk
   rw [Addr.add_lit]
   have:=hcell (j / szOf U t) (by rw [Nat.div_lt_iff_lt_mul hsz];exact hj) (j % szOf U t) (Nat.mod_lt _ hsz)
   rw [←this]
   congr 2
   rw [Nat.add_assoc,Nat.mul_comm,Nat.div_add_mod]
  ·simp only [List.mem_map,List.mem_range] at hu
   obtain ⟨k,hk,rfl⟩:=hu
   have hi:k / szOf U t<m.length:=by rw [Nat.div_lt_iff_lt_mul hsz];exact hk
   have hj:k % szOf U t<(B4 U t m[k / szOf U t]).length:=by rw [B3];exact Nat.mod_lt _ hsz
   exact (hr _ _ (co6 hi) _ _ (co6 hj)).one
  ·have hj:j<szOf U t:=by
    rw [←B3 U t x]
    by_cases hj':j<(B4 U t x).length
    ·exact hj'
    ·rw [List.getElem?_eq_none (by omega)] at hd;cases hd
   have hi:i<m.length:=by
    by_cases hi:i<m.length
    ·exact hi
    ·rw [List.getElem?_eq_none (by omega)] at hx;cases hx
   have hlt:i*szOf U t+j<m.length*szOf U t:=by
    have:(i+1)*szOf U t≤m.length*szOf U t:=Nat.mul_le_mul_right _ hi
    rw [Nat.add_mul,Nat.one_mul] at this
    omega
   refine ⟨f i j,?_,hr i x hx j d hd⟩
   simp only [cp9,List.getElem?_range hlt,Option.map_some,co4]
   congr 1
   ·rw [Nat.mul_comm,Nat.mul_add_div hsz,Nat.div_eq_of_lt hj,Nat.add_zero]
   ·rw [Nat.mul_comm,Nat.mul_add_mod,Nat.mod_eq_of_lt hj]
theorem X8 {P:Program} {t ty e:TypeId} {i:TypeInfo} (ht:P.underlying t=some (.slice e)) (hi:P.info? e=some i) (A:Option Addr) (k cap:Nat) (hk:k≤cap) (c:Nat) (w:World):
  (Builtin.append_ #[t,t] ty #[.slice A k cap,.slice none 0 c]).run P w=.ok (.slice A k cap) w:=by
 cases A<;>simp [Builtin.append_,run_underlying ht,sizeOf,typeInfo,hi,Builtin.lenOf,hk,Builtin.firstCells,storeCells]
theorem ad8 {P:Program} {t ty e:TypeId} {i:TypeInfo} {z:Value} (ht:P.underlying t=some (.slice e)) (hi:P.info? e=some i) (hz:i.zero=some z) (hzs:z.cells.size=i.size) (hsz:0<i.size)
  (hB:F.B≤w.heap.size) {v:Value} {k:Nat} {xs:List Value} (hown:Owns w F.B e i.size v k xs) (a:Addr) (m c:Nat) (ys:List Value) (hyl:ys.length=m*i.size) (hyc:∀ (j:Nat) (u:Value),ys[j]? =some u→w.cell? (a.add j)=some u) (hy1:∀ u∈ys,u.oneCell'=true)
  (h63:k+m≤maxLen) (hl:(k+m)*i.bytes≤140737488355328):
  ∃ v' w',(Builtin.append_ #[t,t] ty #[v,.slice (some a) m c]).run P w=.ok v' w'∧Owns w' F.B e i.size v' (k+m) (xs++ys)∧w.grownBy w' v.ownBlock∧(v'.ownBlock=v.ownBlock∨v'.ownBlock=some w.heap.size):=by
 obtain ⟨hxl,hown⟩:=hown
 have hlen:(xs++ys).length=(k+m)*i.size:=by rw [cq5,hxl,hyl,Nat.add_mul]
 rcases hown with ⟨rfl,rfl⟩|⟨g,cap,cur,rfl,hg,hh,hk,hcm,hcs,htk⟩
 ·have hx:xs=[]:=List.eq_nil_of_length_eq_zero (by simpa using hxl)
  subst hx
  obtain ⟨v',w',h1,h2,h3,_,h5⟩:=run_append_own_at (P:=P) w F.B t ty e i z i.size i.bytes ht hi hz rfl rfl hzs hsz (.slice none 0 0) 0 [] (World.ownsRow_nil w F.B e i.size) a m c ys hyl hyc hy1 h63 hl hB
  exact ⟨v',w',h1,Owns.of h2,h3,h5⟩
 ·by_cases hroom:k+m≤cap
  ·have hle:(k+m)*i.size≤cap*i.size:=Nat.mul_le_mul_right _ hroom
   have hcur:k*i.size+ys.length≤cur.size:=by rw [hyl,←Nat.add_mul];omega
   refine ⟨_,_,run_append_room (P:=P) w t ty e i ht hi g k cap cur hh a m c ys hyl hyc hy1 hroom hcur,⟨hlen,.inr ⟨g,cap,_,rfl,hg,setRow_heap w g cur _ e _ hh,hroom,hcm,?_,?_⟩⟩,⟨rfl,rfl,rfl,by simp,fun b _ hb=>setRow_other w g b _ (fun hh2=>hb (by simp [Value.ownBlock,hh2]))⟩,.inl rfl⟩
   ·simp only [List.size_toArray,cq5,cr3,List.length_drop,Array.length_toList]
    omega
   ·rw [htk,←hlen]
    exact List.take_left
  ·have hold:∀ (j:Nat) (u:Value),xs[j]? =some u→w.cell? ((⟨g,0,none⟩:Addr).add j)=some u:=by
    intro j u hu
    rw [Addr.add_lit,Nat.zero_add]
    exact Owns.cells (B:=F.B) (e:=e) (size:=i.size) (n:=k) ⟨hxl,.inr ⟨g,cap,cur,rfl,hg,hh,hk,hcm,hcs,htk⟩⟩ rfl j u hu
   have h63':k+m≤9223372036854775807:=by simp only [maxLen] at h63;omega
   have hge:=grownCap_ge w (k+m) cap e
   have hle:=grownCap_le_maxLen w (k+m) cap e h63
   refine ⟨_,_,run_append_grow (P:=P) w t ty e i z ht hi hz ⟨g,0,none⟩ k cap xs hxl hold a m c ys hyl hyc (by omega) (by omega) (growslice_fits (by omega) hl),⟨hlen,.inr ⟨w.heap.size,_,_,rfl,hB,heap_alloc_new w.drew _,hge,hle,?_,?_⟩⟩,⟨rfl,rfl,rfl,by simp,fun b hb _=>(heap_alloc_old w.drew _ hb)⟩,.inr rfl⟩
   ·simp only [Array.size_append,List.size_toArray,size_zeroCells,hzs,hxl,hyl,←Nat.add_mul]
    refine Nat.le_of_eq ?_
    congr 1
    omega
   ·simp only [Array.toList_append,cr0]
    rw [←cr0,←hlen]
    exact List.take_left
theorem ai9 {P:Program} {t ty e:TypeId} {i:TypeInfo} {z:Value} {c:Ty} (ht:P.underlying t=some (.slice e)) (hi:P.info? e=some i) (hz:i.zero=some z) (hs:i.size=szOf U c) (hzs:z.cells.size=i.size) (hsz:0<szOf U c) (hby:0<i.bytes)
  (hB:F.B≤w.heap.size) {v:Value} {l m:List (den U.T c)} {xs:List Value} (hown:Owns w F.B e (szOf U c) v l.length xs) {x:Value} (r:Rep U w (Live β h) ⟨.slice e c,m⟩ x) (hl:(l.length+m.length)*i.bytes≤most):
  ∃ v' w' ys,(Builtin.append_ #[t,t] ty #[v,x]).run P w=.ok v' w'∧Owns w' F.B e (szOf U c) v' (l++m).length (xs++ys)∧w.grownBy w' v.ownBlock∧(v'.ownBlock=v.ownBlock∨v'.ownBlock=some w.heap.size)∧
   (∀ u∈ys,u.oneCell'=true)∧Els w β h c m ys:=by
 have hsum:l.length+m.length≤most:=Nat.le_trans (Nat.le_mul_of_pos_right _ hby) hl
 have some_:∀ (a:Addr) (cap:Nat) (ys:List Value),x=.slice (some a) m.length cap→ys.length=m.length*szOf U c→(∀ (j:Nat) (u:Value),ys[j]? =some u→w.cell? (a.add j)=some u)→(∀ u∈ys,u.oneCell'=true)→Els w β h c m ys→(∃ v' w' ys,(Builtin.append_ #[t,t] ty #[v,x]).run P w=.ok v' w'∧Owns w' F.B e (szOf U c) v' (l++m).length (xs++ys)∧w.grownBy w' v.ownBlock∧(v'.ownBlock=v.ownBlock∨v'.ownBlock=some w.heap.size)∧
   (∀ u∈ys,u.oneCell'=true)∧Els w β h c m ys):=by
  intro a cap ys hx hyl hyc hy1 hye
  rw [←hs] at hown hyl hsz ⊢
  obtain ⟨v',w',h1,h2,h3,h5⟩:=ad8 (P:=P) (ty:=ty) ht hi hz hzs hsz hB hown a m.length cap ys hyl hyc hy1 (by simp only [most,maxLen] at*;omega) (by simp only [most] at hl;omega)
  exact ⟨v',w',ys,by rw [hx];exact h1,by rw [cq5];exact h2,h3,h5,hy1,hye⟩
 rcases aL5 hsz r with ⟨rfl,A,cap,hx⟩|⟨a,cap,ys,hx,_,hyl,hyc,hy1,hye,_⟩
 ·cases A with
  |none=>
   obtain ⟨⟨A',cap',hv,hle⟩,_⟩:=hown.form
   refine ⟨v,w,[],?_,by simpa using hown,⟨rfl,rfl,rfl,Nat.le_refl _,fun _ _ _=>rfl⟩,.inl rfl,by simp,fun i y hy=>by simp at hy⟩
   rw [hx,hv]
   exact X8 ht hi A' l.length cap' hle cap w
  |some a=>exact some_ a cap [] hx (by simp) (by simp) (by simp) (fun i y hy=>by simp at hy)
 ·exact some_ a cap ys hx hyl hyc hy1 hye
theorem af7 {W:World} {e:TypeId} {k m:Nat} {v:Value} {xs:List Value} (ho:Owns W F.B e k v m xs):v.oneCell'=true:=by
 rcases ho.2 with ⟨h,_⟩|⟨_,_,_,h,_⟩<;>rw [h]<;>rfl
theorem R9 {W:World} {e:TypeId} {k m:Nat} {v:Value} {xs:List Value} (ho:Owns W F.B e k v m xs):D8 v=v.ownBlock:=by
 rcases ho.2 with ⟨h,_⟩|⟨_,_,_,h,_⟩<;>rw [h]<;>rfl
theorem aC7 (k:Ok F w β h) {id fid:Nat} (hf:look fid h=none) (hne:id≠fid) {e:TypeId} {t:Ty} {m:List Nat} {l:List (den U.T t)} {ver iv:Nat} (hl:look id h=some (.dp (.rows e t m l ver iv true none))) {i:Int} {j:Nat} (h0:0≤i) (h1:i<(l.length:Int)) (hm:m.any (Nat.beq j)=true)
  {e':TypeId} {t':Ty} {l':List (den U.T t')} (hd:J7 t l i j=some ⟨.slice e' t',l'⟩) {a:Array Value} (hN:β id=.tuple a) {v:Value} (hg:a[1+(i.toNat*szOf U t+j)]? =some v)
  {w':World} (hgrow:w.grownBy w' v.ownBlock) {v':Value} (hblk:v'.ownBlock=v.ownBlock∨v'.ownBlock=some w.heap.size) {zs:List Value} {l2:List (den U.T t')} (hown:Owns w' F.B e' (szOf U t') v' l2.length zs) (hlm:l2.length≤most) (h1c:∀ u∈zs,u.oneCell'=true) (hel:Els w β h t' l2 zs):
  ∃ β',β' fid=v'∧After F w β h w' β' (upds h [(id,.dp (.rows e t m l ver (iv+1) true (some (i,j)))),(fid,.row e' t' l2 0 true)]):=by
 have hdr:DRel F.B w β h (.rows e t m l ver iv true none) (β id):=k.obj id _ hl
 obtain ⟨⟨ys,y1,_⟩,_⟩:=ai2 hdr h0 h1 hm hd hN hg
 obtain ⟨root,xs,ns,hN',k1,k2,k3,k4,k5,k6,k7⟩:=hdr
 have hi:i.toNat<l.length:=by omega
 have hcj:(B4 U t l[i.toNat])[j]? =some ⟨.slice e' t',l'⟩:=by
  have:=hd
  unfold J7 at this
  rwa [Q4 hi] at this
 have hjs:=ac1 hcj
 have hnp:ns[i.toNat*szOf U t+j]? =some v:=by
  rw [hN'] at hN
  have:=G9 hN
  subst this
  rw [Nat.add_comm 1] at hg
  simpa using hg
 have hpos:=(co9.1 hnp).1
 have hvo:=R9 y1
 have hvo':=R9 hown
 have hnu:D8 undef=none:=rfl
 let N2:Value:=.tuple (root::ns.set (i.toNat*szOf U t+j) undef).toArray
 let β':Nm:=⟨fun q=>if q=id then N2 else if q=fid then v' else β q,β.M,β.lp⟩
 have hβid:β' id=N2:=by simp [β']
 have hβf:β' fid=v':=by simp [β',Ne.symm hne]
 have hset:∀ (p:Nat) (n:Value) (b:Nat),(ns.set (i.toNat*szOf U t+j) undef)[p]? =some n→D8 n=some b→ns[p]? =some n∧p≠i.toNat*szOf U t+j:=by
  intro p n b hp hb
  rw [cq9] at hp
  split at hp
  ·simp only [if_pos hpos,co4] at hp
   rw [←hp,hnu] at hb;cases hb
  ·rename_i hh;exact ⟨hp,fun hh2=>hh hh2.symm⟩
 have hN2:∀ b,Has N2 b→Has (β id) b∧D8 v≠some b:=by
  intro b hb
  rw [hN']
  rcases C3.1 hb with h3|⟨p,n,h3,h4⟩
  ·exact ⟨C3.2 (.inl h3),fun h5=>k7 _ v b hnp h5 h3⟩
  ·obtain ⟨h5,h6⟩:=hset p n b h3 h4
   exact ⟨C3.2 (.inr ⟨p,n,h5,h4⟩),fun h7=>h6 (k6 p _ n v b h5 hnp h4 h7)⟩
 have hvN:∀ b,D8 v=some b→Has (β id) b:=fun b hb=>by rw [hN'];exact C3.2 (.inr ⟨_,v,hnp,hb⟩)
 have hkeep:∀ b,b<w.heap.size→D8 v≠some b→w'.heap[b]? =w.heap[b]? :=fun b hb hn=>hgrow.block b hb (fun hh=>hn (by rw [hvo];exact hh.symm))
 have hf':∀ b,Has v' b→D8 v=some b∨b=w.heap.size:=by
  intro b hb
  have hb:=hown.has' hb
  rw [hvo'] at hb
  rcases hblk with h6|h6
  ·left;rw [hvo,←h6];exact hb
  ·right;rw [h6] at hb;simpa using hb.symm
 have hmem:∀ {q:Nat} {o:Ob U},(q,o)∈[(id,Ob.dp (.rows e t m l ver (iv+1) true (some (i,j)))),(fid,Ob.row e' t' l2 0 true)]→(q=id∧o=.dp (.rows e t m l ver (iv+1) true (some (i,j))))∨(q=fid∧o=.row e' t' l2 0 true):=by
  intro q o hq
  simpa using hq
 refine ⟨β',hβf,Q5 k (by simpa using hne) ?_ hgrow.os hgrow.tape hgrow.output hgrow.size ?_ rfl ?_ rfl ?_ ?_ ?_ ?_ ?_⟩
 ·intro q o ob hq hlq
  rcases hmem hq with ⟨rfl,rfl⟩|⟨rfl,rfl⟩
  ·rw [hl] at hlq;simp only [co4] at hlq;subst hlq;rfl
  ·rw [hf] at hlq;cases hlq
 ·intro b hb hn
  exact hkeep b hb (fun hh=>hn id (.dp (.rows e t m l ver (iv+1) true (some (i,j)))) _ (by simp) hl (hvN b hh))
 ·intro q hq
  have h2:q≠id:=fun hh=>hq (.dp (.rows e t m l ver (iv+1) true (some (i,j)))) (by simp [hh])
  have h3:q≠fid:=fun hh=>hq (.row e' t' l2 0 true) (by simp [hh])
  simp [β',h2,h3]
 ·intro q o b hq hb
  rcases hmem hq with ⟨rfl,rfl⟩|⟨rfl,rfl⟩
  ·rw [hβid] at hb
   exact .inl ⟨q,.dp (.rows e t m l ver (iv+1) true (some (i,j))),_,by simp,hl,(hN2 b hb).1⟩
  ·rw [hβf] at hb
   rcases hf' b hb with h3|h3
   ·exact .inl ⟨id,.dp (.rows e t m l ver (iv+1) true (some (i,j))),_,by simp,hl,hvN b h3⟩
   ·right;omega
 ·intro q o q' o' b hq hq' hb hb'
  have no:∀ b,Has N2 b→Has v' b→False:=by
   intro b hb hb'
   obtain ⟨h2,h3⟩:=hN2 b hb
   rcases hf' b hb' with h4|h4
   ·exact h3 h4
   ·have:=((k.obj id _ hl).blk h2).2;omega
  rcases hmem hq with ⟨rfl,rfl⟩|⟨rfl,rfl⟩<;>rcases hmem hq' with ⟨rfl,rfl⟩|⟨rfl,rfl⟩
  ·rfl
  ·rw [hβid] at hb;rw [hβf] at hb';exact (no b hb hb').elim
  ·rw [hβf] at hb;rw [hβid] at hb';exact (no b hb' hb).elim
  ·rfl
 ·intro q o ob hq hlq
  rcases hmem hq with ⟨rfl,rfl⟩|⟨rfl,rfl⟩
  ·rw [hl] at hlq
   simp only [co4] at hlq
   subst hlq
   rw [hβid,hN']
   intro c v hv
   exact bF6 rfl c v hv
  ·rw [hf] at hlq;cases hlq
 ·intro q o hq
  rcases hmem hq with ⟨rfl,rfl⟩|⟨rfl,rfl⟩<;>rfl
 ·intro xx q o hq
  rcases hmem hq with ⟨rfl,rfl⟩|⟨rfl,rfl⟩
  ·suffices key:DRel F.B w' β' (upds h [(q,.dp (.rows e t m l ver (iv+1) true (some (i,j)))),(fid,.row e' t' l2 0 true)]) (.rows e t m l ver (iv+1) true (some (i,j))) N2 by
    rw [←hβid] at key
    exact key
   refine ⟨root,xs,_,rfl,k1.kept (fun b hb=>hkeep b (k1.lt hb).2 (fun hh=>k7 _ v b hnp hh hb)),k2,k3,by rw [List.length_set];exact k4,fun i' x' hx' j' d hj=>?_,fun p q a c b ha hc hab hcb=>?_,fun p a b ha hab=>?_⟩
   ·obtain ⟨u,n,a1,a2,a3⟩:=k5 i' x' hx' j' d hj
    have hjs':=ac1 hj
    by_cases hs:i'*szOf U t+j'=i.toNat*szOf U t+j
    ·obtain ⟨rfl,rfl⟩:=ap7 hjs' hjs hs
     exact ⟨u,undef,a1,by rw [cq9,if_pos rfl,if_pos hpos],fun _=>⟨fun _=>rfl,fun hh=>absurd ⟨i,rfl,rfl⟩ hh⟩,fun hm2=>by rw [hm] at hm2;cases hm2⟩
    ·refine ⟨u,n,a1,by rw [cq9,if_neg (fun hh=>hs hh.symm)];exact a2,fun hm=>⟨?_,fun _=>?_⟩,fun hm=>⟨(a3.2 hm).1,xx.rep (a3.2 hm).2⟩⟩
     ·rintro ⟨hi2,hh1,hh2⟩
      simp only [co4,cp6] at hh1
      exact absurd (by rw [←hh2,←hh1.1,←hh1.2]) hs
     ·obtain ⟨r1,e2,t2,l3,r2,r3⟩:=(a3.1 hm).2 (by rintro ⟨_,hh,_⟩;cases hh)
      refine ⟨r1,e2,t2,l3,r2,r3.map (fun d v r=>xx.rep r) (fun b hb=>hkeep b ?_ (fun hh=>hs (k6 _ _ n v b a2 hnp (by rw [r1];exact hb) hh)))⟩
      obtain ⟨zs,z1,_⟩:=r3
      exact (z1.lt hb).2
   ·exact k6 p q a c b (hset p a b ha hab).1 (hset q c b hc hcb).1 hab hcb
   ·exact k7 p a b (hset p a b ha hab).1 hab
  ·exact ⟨zs,by rw [hβf];exact hown,hlm,h1c,Els.ext xx hel⟩
theorem Does.append (hE:E.Fits) (R:Rel F n β s tmps w) {c:Call} {x y:Operand} (hop:o.op=.call c) (hc:c.callee=.builtin .append) (hx:c.args.toList=[x,y]) {ty el:TypeId} {ts:List TypeId} (hts:c.argTypes.toList=ty::ts) (hts2:c.argTypes=#[ty,ty]) (hu:E.P.underlying ty=some (.slice el)) {t:Ty} (hcd:E.code el=some t)
  {a v:PV U} (r:PRel w β s.h s.σ a (ρ x)) (q:PRel w β s.h s.σ v (ρ y)) {ids:List Nat} (he:ao3 E (sub s.h ids) o.dst el t a v=some e)
  (hob:e.Obl) (hf:look (B5 o.dst 0) s.h=none∨((∀ p,a≠.one (.lit p))∧∀ id v i j,a≠.one (.dc id (.inn v i j)))):Does E.P F β s ρ w o e:=by
 obtain ⟨i,z,hi,hsz,hz,hzs,hpos,hby,hz1c,_⟩:=hE.code _ _ hcd
 have hbyT:O5 E.P el=i.bytes:=by simp [O5,Program.bytesOf,hi]
 have hargs:c.args.map ρ=#[ρ x,ρ y]:=by
  apply Array.toList_inj.1
  simp [hx]
 unfold ao3 at he
 split at he
 ·rename_i cy
  split at he
  ·rename_i d u hd
   split at he
   ·rename_i m hm
    have hdm:=Datum.as_eq hm
    subst hdm
    obtain ⟨hfz,_⟩:=K7 hd
    have A1:=I3 R.ok hfz
    have hrep:=am0 R.ok hd q.inv.2 hfz (fun _ hx=>hx)
    split at he
    ·rename_i id ver
     split at he
     ·rename_i e' t' l ver' lv hl
      split at he
      ·rename_i hcond
       simp only [co7] at hcond
       have hver:=co5 hcond.1.1
       have hlv:lv=true:=hcond.1.2
       subst hlv
       split at he
       ·rename_i l2 hl2
        have hl2:=Datum.as_eq hl2
        cases hl2
        split at he
        ·rename_i hnot
         simp only [co4] at he
         subst he
         have hl:=C1 hl
         obtain ⟨_,_,_,_,_,hl2,hle,hv⟩:=r.inv.2
         rw [hl] at hl2
         simp only [co4,Ob.row.injEq] at hl2
         have hxv:=hv (hver.trans hl2.2.2.2.1)
         have hnin:∀ ob,(id,ob)∉u:=fun ob hm=>by
          have:=cr4.1 hnot _ hm
          simp at this
         have hl1:look id (upds s.h u)=some (.row el t l2 ver' true):=by rw [B7 hnin];exact hl
         obtain ⟨xs,hown,hmost,h1c,hel⟩:=A1.obj id _ hl1
         rw [hbyT] at hob
         obtain ⟨v',w',ys,hrun,hown',hgrow,hblk,hy1,hye⟩:=ai9 (P:=E.P) (ty:=o.type) (c:=t) hu hi hz hsz hzs hpos hby A1.hB hown hrep hob
         have hlen:(l2++m).length≤most:=by
          rw [cq5]
          exact Nat.le_trans (Nat.le_mul_of_pos_right _ hby) hob
         have A2:After F w β (upds s.h u) w' (upd1 β id v') (write id (.row el t (l2++m) (ver+1) true) (upds s.h u)):=by
          refine J8 A1.ok hl1 rfl hgrow.os hgrow.tape hgrow.output hgrow.size (fun b hb hn=>hgrow.block b hb (fun hh=>hn ?_)) rfl (fun j hj=>ai5 β v' hj) rfl (fun h=>by simp [Ob.oth] at h) (fun b hb=>?_) (fun _ _ h5=>by cases h5) (fun e2 t2 l2 v2 lv2 h5=>?_) (fun xx=>?_)
          ·exact hown.has (by rw [R9 hown];exact hh.symm)
          ·rw [C2] at hb
           have hb:=hown'.has' hb
           rw [R9 hown'] at hb
           rcases hblk with h6|h6
           ·left;exact hown.has (by rw [R9 hown,←h6];exact hb)
           ·right;rw [h6] at hb;simp at hb;omega
          ·cases h5;exact ⟨_,_,_,rfl,by omega,fun hh=>by omega⟩
          ·refine ⟨xs++ys,by rw [C2];exact hown',hlen,fun u hu=>?_,Els.ext xx (ai8 hown.1 hel hye)⟩
           rcases cr1.1 hu with h6|h6
           ·exact h1c u h6
           ·exact hy1 u h6
         refine ⟨v',w',upd1 β id v',.inl ?_,?_,?_⟩
         ·refine H6 hop hc ?_
          rw [hargs,hxv,hts2]
          simp [builtin,hrun]
         ·dsimp only
          rw [C9]
          exact A1.trans A2
         ·dsimp only
          rw [C9]
          exact af6 (B0 _ _ _) (C2 _ _ _) (af7 hown') _
        ·cases he
       ·cases he
      ·cases he
     ·cases he
    ·simp only [co4] at he
     subst he
     have hf:=hf.resolve_right (fun h=>h.1 _ rfl)
     have hxv:ρ x=.slice none 0 0:=r.inv.2
     rw [hbyT] at hob
     have hob:List.length m*i.bytes≤most:=hob
     obtain ⟨v',w',ys,hrun,hown',hgrow,hblk,hy1,hye⟩:=ai9 (P:=E.P) (ty:=o.type) (c:=t) hu hi hz hsz hzs hpos hby A1.hB (Owns.of (World.ownsRow_nil w F.B el (szOf U t))) (l:=[]) hrep (by simpa using hob)
     have hlen:m.length≤most:=Nat.le_trans (Nat.le_mul_of_pos_right _ hby) hob
     have hnone:=hfz.none hf
     have A2:After F w β (upds s.h u) w' (upd1 β (B5 o.dst 0) v') (write (B5 o.dst 0) (.row el t m 0 true) (upds s.h u)):=by
      refine S9 A1.ok ((Below.refl _ _).grown hgrow (Nat.le_refl _) (fun k hk=>by simp [Value.ownBlock] at hk)) hnone (.inl rfl) (fun g hg=>?_) (fun xx=>?_)
      ·have hg:=hown'.has' hg
       rw [R9 hown'] at hg
       rcases hblk with h6|h6
       ·rw [h6] at hg;simp [Value.ownBlock] at hg
       ·rw [h6] at hg;simp at hg;omega
      ·exact ⟨ys,by rw [C2];exact hown',hlen,hy1,Els.ext xx hye⟩
     refine ⟨v',w',upd1 β (B5 o.dst 0) v',.inl ?_,?_,?_⟩
     ·refine H6 hop hc ?_
      rw [hargs,hxv,hts2]
      simp [builtin,hrun]
     ·dsimp only
      rw [C9]
      exact A1.trans A2
     ·dsimp only
      rw [C9]
      exact af6 (B0 _ _ _) (C2 _ _ _) (af7 hown') _
    ·--an T8 slice
     rename_i id v0 i j
     have hf:=hf.resolve_right (fun h=>h.2 _ _ _ _ rfl)
     split at he
     case h_2=>cases he
     rename_i e2 t2 m2 l2 ver iv hl
     split at he
     case h_2=>cases he
     rename_i e' t' l' hd
     split at he
     case isFalse=>cases he
     rename_i hb
     simp only [co7] at hb
     have hver:=co5 hb.1
     split at he
     case h_2=>cases he
     rename_i l3 hl3
     have hl3:=Datum.as_eq hl3
     cases hl3
     split at he
     case isFalse=>cases he
     rename_i hnot
     simp only [co7,Bool.not_eq_true'] at hnot
     have hne:id≠B5 o.dst 0:=fun hh=>by
      have:=hnot.2
      rw [hh,Nat.beq_refl] at this
      cases this
     simp only [co4] at he
     subst he
     have hl:=C1 hl
     have hnin:∀ ob,(id,ob)∉u:=fun ob hm=>by
      have:=cr4.1 hnot.1 _ hm
      simp at this
     have hl1:look id (upds s.h u)=some (.dp (.rows e2 t2 m2 l2 ver iv true none)):=by rw [B7 hnin];exact hl
     obtain ⟨D',hl',hv⟩:=r.inv.2
     rw [hl] at hl'
     simp only [co4,Ob.dp.injEq] at hl'
     subst hl'
     obtain ⟨h0,h1,hm,vs,hN,hg⟩:=hv.2 hver
     obtain ⟨⟨xs,hown,hmost,h1c,hel⟩,_⟩:=ai2 (show DRel F.B w β (upds s.h u) (.rows e2 t2 m2 l2 ver iv true none) (β id) from A1.obj id _ hl1) h0 h1 hm hd hN hg
     rw [hbyT] at hob
     obtain ⟨v',w',ys,hrun,hown',hgrow,hblk,hy1,hye⟩:=ai9 (P:=E.P) (ty:=o.type) (c:=t) hu hi hz hsz hzs hpos hby A1.hB hown hrep hob
     have hlen:(l3++m).length≤most:=by
      rw [cq5]
      exact Nat.le_trans (Nat.le_mul_of_pos_right _ hby) hob
     obtain ⟨β',hβf,A2⟩:=aC7 A1.ok (hfz.none hf) hne hl1 h0 h1 hm hd hN hg hgrow hblk hown' hlen (fun u hu=>by
      rcases cr1.1 hu with h6|h6
      ·exact h1c u h6
      ·exact hy1 u h6) (ai8 hown.1 hel hye)
     refine ⟨v',w',β',.inl ?_,?_,?_⟩
     ·refine H6 hop hc ?_
      rw [hargs,hts2]
      simp [builtin,hrun]
     ·dsimp only
      rw [C9]
      exact A1.trans A2
     ·dsimp only
      rw [C9]
      exact af6 (by show look _ (write _ _ _)=_;exact B0 _ _ _) hβf (af7 hown') _
    ·cases he
   ·cases he
  ·cases he
 ·cases he
def K8:List (Bool×Nat)→List Value→List Value→Prop
 |[],cs,vs=>cs=[]∧vs=[]
 |(true,n)::gs,cs,vs=>∃ a r v' vs',cs=a++r∧a.length=n∧v'=.agg a.toArray∧vs=v'::vs'∧K8 gs r vs'
 |(false,n)::gs,cs,vs=>∃ c r vs',cs=c::r∧n=1∧vs=c::vs'∧K8 gs r vs'
def ac2 (gs:List (Bool×Nat)) (cs:List Value) (v:Value):Prop:=
 match gs with
 |[g]=>K8 [g] cs [v]
 |_=>∃ vs:List Value,v=.tuple vs.toArray∧K8 gs cs vs
def Enters (P:Program) (f:FuncId):Prop:=∃ fn,P.funcs[f]? =some fn∧(fn.name=="runtime.NumGoroutine")=false∧fn.body.isNone=false
theorem Enters.run {P:Program} {f:FuncId} (h:Enters P f) (args:Array Value) (w:World):(callFunc f args).run P w=.ok (.enter f args) w:=by
 obtain ⟨fn,h1,h2,h3⟩:=h
 have h2':¬ fn.name="runtime.NumGoroutine":=by simpa using h2
 have h3':¬ fn.body=none:=by intro h;rw [h] at h3;simp at h3
 simp [callFunc,h1,h2',h3']
theorem O9 {σ:List (Nat×PV U)}:∀ {gs:List (Bool×Nat)} {ps:List (PV U)} {cs:List (Cell U)} {vs:List Value},F7 gs ps=some cs→vs.length=ps.length→
  (∀ (j:Nat) (p:PV U) (v:Value),ps[j]? =some p→vs[j]? =some v→PRel w β h σ p v)→∃ us,K8 gs us vs∧CsRel w β h cs us
 |[],[],cs,vs,hf,hl,_=>by
  simp only [F7,co4] at hf
  subst hf
  have:vs=[]:=by simpa using hl
  subst this
  exact ⟨[],⟨rfl,rfl⟩,rfl,by simp,fun j c v hc=>by simp at hc⟩
 |[],_::_,_,_,hf,_,_=>by simp [F7] at hf
 |(true,k)::gs,ps,cs,vs,hf,hl,hr=>by
  match ps,hf,hl,hr with
  | .agg ds::ps,hf,hl,hr=>
   simp only [F7] at hf
   split at hf
   ·rename_i hk
    have hk:=co5 hk
    simp only [cp1] at hf
    obtain ⟨cs',hcs,rfl⟩:=hf
    match vs,hl,hr with
    |v::vs,hl,hr=>
     obtain ⟨as,hv,ha⟩:=hr 0 _ _ rfl rfl
     obtain ⟨us,hu,hc⟩:=O9 (σ:=σ) (vs:=vs) hcs (by simpa using hl) (fun j p v hp hv=>hr (j+1) p v (by simpa using hp) (by simpa using hv))
     have hal:as.length=k:=by rw [←hk];exact ha.1
     refine ⟨as++us,⟨as,us,v,vs,rfl,hal,hv,rfl,hu⟩,by simp [ha.1,hc.1],fun u hu'=>?_,fun j c u hj hju=>?_⟩
     ·rcases cr1.1 hu' with h1|h1
      ·exact ha.2.1 u h1
      ·exact hc.2.1 u h1
     ·have h0:as.length=ds.length:=ha.1
      by_cases hlt:j<ds.length
      ·rw [cq4 hlt] at hj
       rw [cq4 (by omega)] at hju
       exact ha.2.2 j c u hj hju
      ·rw [cq3 (by omega)] at hj
       rw [cq3 (by omega),h0] at hju
       exact hc.2.2 _ c u hj hju
   ·cases hf
  |[],hf,_,_=>simp [F7] at hf
  | .un::ps,hf,_,_=>simp [F7] at hf
  | .one _::ps,hf,_,_=>simp [F7] at hf
  | .tup _::ps,hf,_,_=>simp [F7] at hf
  | .opt _ _::ps,hf,_,_=>simp [F7] at hf
 |(false,k)::gs,ps,cs,vs,hf,hl,hr=>by
  match k,ps,hf,hl,hr with
  |1,.one c::ps,hf,hl,hr=>
   simp only [F7,cp1] at hf
   obtain ⟨cs',hcs,rfl⟩:=hf
   match vs,hl,hr with
   |v::vs,hl,hr=>
    have ha:=hr 0 _ _ rfl rfl
    have ha1:=CsRel.inv ha
    obtain ⟨us,hu,hc⟩:=O9 (σ:=σ) (vs:=vs) hcs (by simpa using hl) (fun j p v hp hv=>hr (j+1) p v (by simpa using hp) (by simpa using hv))
    refine ⟨v::us,⟨v,us,vs,rfl,rfl,rfl,hu⟩,by simp [hc.1],fun u hu'=>?_,fun j c' u hj hju=>?_⟩
    ·rcases List.mem_cons.1 hu' with h1|h1
     ·subst h1;exact ha1.1
     ·exact hc.2.1 u h1
    ·match j,hj,hju with
     |0,hj,hju=>
      simp at hj hju
      subst hj;subst hju
      exact ha1.2
     |j+1,hj,hju=>exact hc.2.2 j c' u (by simpa using hj) (by simpa using hju)
  |0,.one _::_,hf,_,_=>simp [F7] at hf
  |(_+2),.one _::_,hf,_,_=>simp [F7] at hf
  |_,[],hf,_,_=>simp [F7] at hf
  |_,.un::ps,hf,_,_=>simp [F7] at hf
  |_,.agg _::ps,hf,_,_=>simp [F7] at hf
  |_,.tup _::ps,hf,_,_=>simp [F7] at hf
  |_,.opt _ _::ps,hf,_,_=>simp [F7] at hf
theorem Q6 {σ:List (Nat×PV U)}:∀ {gs:List (Bool×Nat)} {cs:List (Cell U)} {us vs:List Value},K8 gs us vs→CsRel w β h cs us→
  vs.length=gs.length∧∀ (j:Nat) (x:Bool×List (Cell U)) (v:Value),(D5 gs cs)[j]? =some x→vs[j]? =some v→VRel w β h x v
 |[],cs,us,vs,hp,hc=>by
  obtain ⟨rfl,rfl⟩:=hp
  exact ⟨rfl,fun j x v hx=>by simp [D5] at hx⟩
 |(true,k)::gs,cs,us,vs,hp,hc=>by
  obtain ⟨a,r,v',vs',rfl,hak,hv',rfl,hr⟩:=hp
  subst hak
  obtain ⟨hl,hh⟩:=Q6 (σ:=σ) hr (show CsRel w β h (cs.drop a.length) r by
   have:=hc.drop a.length
   rwa [List.drop_left] at this)
  refine ⟨by simp [hl],fun j x v hx hv=>?_⟩
  match j,hx,hv with
  |0,hx,hv=>
   simp only [D5,cp2,co4] at hx hv
   subst hx;subst hv
   refine ⟨a,hv',?_⟩
   have:=hc.take a.length
   rwa [List.take_left] at this
  |j+1,hx,hv=>exact hh j x v (by simpa [D5] using hx) (by simpa using hv)
 |(false,k)::gs,cs,us,vs,hp,hc=>by
  obtain ⟨c,r,vs',rfl,rfl,rfl,hr⟩:=hp
  obtain ⟨hl,hh⟩:=Q6 (σ:=σ) hr (show CsRel w β h (cs.drop 1) r from hc.drop 1)
  refine ⟨by simp [hl],fun j x v hx hv=>?_⟩
  match j,hx,hv with
  |0,hx,hv=>
   simp only [D5,cp2,co4] at hx hv
   subst hx;subst hv
   exact hc.take 1
  |j+1,hx,hv=>exact hh j x v (by simpa [D5] using hx) (by simpa using hv)
theorem J9 {α:Type}:∀ (gs:List (Bool×Nat)) (cs:List α),(D5 gs cs).length=gs.length
 |[],_=>rfl
 |(b,n)::gs,cs=>by simp [D5,J9 gs]
theorem bi2 (dst:Option Tmp) (j:Nat):B5 dst j=B5 dst 0+j:=by cases dst<;>simp [B5]
theorem bF7 {σ:List (Nat×PV U)} {b:Bool} {g:List (Cell U)} {v:Value} (r:VRel w β h (b,g) v) {p:PV U} (hp:aB2 b g=some p):PRel w β h σ p v:=by
 cases b with
 |true=>
  simp only [aB2,if_true,co4] at hp
  subst hp
  exact r
 |false=>
  simp only [aB2,Bool.false_eq_true,if_false] at hp
  split at hp
  ·simp only [co4] at hp
   subst hp
   exact r
  ·cases hp
theorem aa4 {α:Type} {k j:Nat} {a:α}:∀ {l:List (Nat×α)},look k (l++[(j,a)])=match look k l with
  |some x=>some x
  |none=>if j=k then some a else none
 |[]=>by
  by_cases h:j=k
  ·subst h;simp [look]
  ·simp [look,O2 h,h]
 |(i,b)::l=>by
  by_cases h:i=k
  ·subst h;simp [look]
  ·simp only [List.cons_append,look,O2 h,Bool.false_eq_true,if_false]
   exact aa4 (l:=l)
theorem ac3 {α:Type} {k:Nat} {a:α}:∀ {l:List (Nat×α)},look k l=some a→(k,a)∈l
 |[],h=>by simp [look] at h
 |(i,b)::l,h=>by
  simp only [look] at h
  split at h
  ·rename_i hb
   have:=co5 hb
   subst this
   simp only [co4] at h
   subst h
   simp
  ·simp [ac3 h]
structure Mt.Le (m m':Mt U):Prop where
 ι:∀ j id,look j m.ι=some id→look j m'.ι=some id
 ds:∀ k x,look k m.ds=some x→look k m'.ds=some x
 u:∀ x,x∈m.u→x∈m'.u
theorem Mt.Le.refl (m:Mt U):m.Le m:=⟨fun _ _ h=>h,fun _ _ h=>h,fun _ h=>h⟩
theorem Mt.Le.trans {a b c:Mt U} (x:a.Le b) (y:b.Le c):a.Le c:=⟨fun j id h=>y.ι j id (x.ι j id h),fun k d h=>y.ds k d (x.ds k d h),fun z h=>y.u z (x.u z h)⟩
def Mt.Inj (m:Mt U):Prop:=∀ j j' id,look j m.ι=some id→look j' m.ι=some id→j=j'
theorem Q7 {j id:Nat} {m m':Mt U} (hb:aQ9 j id m=some m'):m.Le m'∧look j m'.ι=some id∧(m.Inj→m'.Inj)∧m'.u=m.u:=by
 unfold aQ9 at hb
 split at hb
 ·rename_i id' hl
  revert hb
  cases hc:Nat.beq id' id with
  |false=>intro hb;cases hb
  |true=>
   intro hb
   simp only [cond_true,co4] at hb
   subst hb
   have:=co5 hc
   subst this
   exact ⟨Mt.Le.refl _,hl,id,rfl⟩
 ·rename_i hl
  revert hb
  cases hc:m.ι.any (fun x=>Nat.beq x.2 id) with
  |true=>intro hb;cases hb
  |false=>
   intro hb
   simp only [cond_false,co4] at hb
   subst hb
   have hno:∀ i,look i m.ι≠some id:=by
    intro i hi
    have h1:=List.any_eq_false.1 hc _ (ac3 hi)
    simp at h1
   refine ⟨⟨fun i id' hi=>?_,fun _ _ h=>h,fun _ h=>h⟩,?_,fun hI i i' id' hi hi'=>?_,rfl⟩
   ·dsimp only
    rw [aa4,hi]
   ·dsimp only
    rw [aa4,hl]
    simp
   ·dsimp only at hi hi'
    rw [aa4] at hi hi'
    cases h1:look i m.ι with
    |some x=>
     rw [h1] at hi
     simp only [co4] at hi
     subst hi
     cases h2:look i' m.ι with
     |some y=>
      rw [h2] at hi'
      simp only [co4] at hi'
      subst hi'
      exact hI i i' _ h1 h2
     |none=>
      rw [h2] at hi'
      simp only at hi'
      split at hi'
      ·simp only [co4] at hi'
       subst hi'
       exact absurd h1 (hno i)
      ·cases hi'
    |none=>
     rw [h1] at hi
     simp only at hi
     split at hi
     ·rename_i hji
      simp only [co4] at hi
      subst hi
      cases h2:look i' m.ι with
      |some y=>
       rw [h2] at hi'
       simp only [co4] at hi'
       subst hi'
       exact absurd h2 (hno i')
      |none=>
       rw [h2] at hi'
       simp only at hi'
       split at hi'
       ·rename_i hji';rw [←hji,←hji']
       ·cases hi'
     ·cases hi
theorem aC8:∀ {js ids:List Nat} {m m':Mt U},aB5 js ids m=some m'→m.Le m'∧ids.length=js.length∧(∀ (i j id:Nat),js[i]? =some j→ids[i]? =some id→look j m'.ι=some id)∧(m.Inj→m'.Inj)∧m'.u=m.u
 |[],[],m,m',h=>by
  simp only [aB5,co4] at h
  subst h
  exact ⟨Mt.Le.refl _,rfl,fun i j id h=>by simp at h,id,rfl⟩
 |[],_::_,_,_,h=>by simp [aB5] at h
 |_::_,[],_,_,h=>by simp [aB5] at h
 |j::js,id::ids,m,m',h=>by
  simp only [aB5] at h
  split at h
  ·rename_i m1 h1
   obtain ⟨a1,a2,a3,a4⟩:=Q7 h1
   obtain ⟨b1,b2,b3,b4,b5⟩:=aC8 h
   refine ⟨a1.trans b1,by simp [b2],fun i j' id' hj hid=>?_,fun hI=>b4 (a3 hI),b5.trans a4⟩
   match i,hj,hid with
   |0,hj,hid=>
    simp only [cp2,co4] at hj hid
    subst hj;subst hid
    exact b1.ι _ _ a2
   |i+1,hj,hid=>exact b3 i j' id' (by simpa using hj) (by simpa using hid)
  ·cases h
theorem V3 {k:Nat} {x:Datum U} {m m':Mt U} (h:aY3 k x m=some m'):m.Le m'∧look k m'.ds=some x∧(m.Inj→m'.Inj)∧m'.u=m.u:=by
 unfold aY3 at h
 split at h
 ·cases h
 ·rename_i hl
  simp only [co4] at h
  subst h
  refine ⟨⟨fun _ _ h=>h,fun i y hi=>?_,fun _ h=>h⟩,?_,id,rfl⟩
  ·dsimp only
   rw [aa4,hi]
  ·dsimp only
   rw [aa4,hl]
   simp
def CMatch (h g:Obs U) (tys:List Ty) (m:Mt U):CPat→Cell U→Prop
 | .un,_=>True
 | .d k,c=>∃ t x u,tys[k]? =some t∧asD g t c=some (x,u)∧look k m.ds=some x∧∀ y∈u,y∈m.u
 | .row j,c=>∃ id e t l ver,c=.row id ver∧look id h=some (.row e t l ver true)∧look j m.ι=some id
 | .ptr j off,c=>∃ id,c=.ptr id off∧look j m.ι=some id
 | .map j,c=>∃ id,c=.map id∧look j m.ι=some id
 | .clo f js,c=>∃ ids,c=.clo f ids∧ids.length=js.length∧∀ (i j id:Nat),js[i]? =some j→ids[i]? =some id→look j m.ι=some id
 | .yld j,c=>∃ id,c=.yld id∧look j m.ι=some id
 | .fn f,c=>c=.lit (.func (.func f) #[] #[])
 | .nil,c=>c=.lit (.slice none 0 0)
 | .dp j,c=>∃ id e t ms l ver iv,c=.dc id (.self ver)∧look id h=some (.dp (.rows e t ms l ver iv true none))∧look j m.ι=some id
 | .ms j,c=>∃ id kt e t l ver iv,c=.dc id (.self ver)∧look id h=some (.dp (.maps kt e t l ver iv true none))∧look j m.ι=some id
theorem CMatch.le {g:Obs U} {tys:List Ty} {m m':Mt U} (x:m.Le m') {p:CPat} {c:Cell U} (r:CMatch h g tys m p c):CMatch h g tys m' p c:=by
 cases p with
 |un=>trivial
 |d k=>obtain ⟨t,y,u,h1,h2,h3,h4⟩:=r;exact ⟨t,y,u,h1,h2,x.ds _ _ h3,fun z hz=>x.u z (h4 z hz)⟩
 |row j=>obtain ⟨id,e,t,l,ver,h1,h2,h3⟩:=r;exact ⟨id,e,t,l,ver,h1,h2,x.ι _ _ h3⟩
 |ptr j off=>obtain ⟨id,h1,h2⟩:=r;exact ⟨id,h1,x.ι _ _ h2⟩
 |map j=>obtain ⟨id,h1,h2⟩:=r;exact ⟨id,h1,x.ι _ _ h2⟩
 |clo f js=>obtain ⟨ids,h1,h2,h3⟩:=r;exact ⟨ids,h1,h2,fun i j id hj hid=>x.ι _ _ (h3 i j id hj hid)⟩
 |yld j=>obtain ⟨id,h1,h2⟩:=r;exact ⟨id,h1,x.ι _ _ h2⟩
 |fn f=>exact r
 |nil=>exact r
 |dp j=>obtain ⟨id,e,t,ms,l,ver,iv,h1,h2,h3⟩:=r;exact ⟨id,e,t,ms,l,ver,iv,h1,h2,x.ι _ _ h3⟩
 |ms j=>obtain ⟨id,kt,e,t,l,ver,iv,h1,h2,h3⟩:=r;exact ⟨id,kt,e,t,l,ver,iv,h1,h2,x.ι _ _ h3⟩
theorem cb1 {g:Obs U} (hg:∀ id o,look id g=some o→look id h=some o) {tys:List Ty} {p:CPat} {c:Cell U} {m m':Mt U} (hm:mC g tys p c m=some m') (hf:Freezes h m.u):
  m.Le m'∧Freezes h m'.u∧(m.Inj→m'.Inj)∧CMatch h g tys m' p c:=by
 cases p with
 |un=>
  simp only [mC,co4] at hm
  subst hm
  exact ⟨Mt.Le.refl _,hf,id,trivial⟩
 |d k=>
  simp only [mC] at hm
  split at hm
  ·rename_i t ht
   split at hm
   ·rename_i x u ha
    obtain ⟨a1,a2,a3,a4⟩:=V3 hm
    obtain ⟨b1,_⟩:=X7 hg ha
    refine ⟨⟨a1.ι,a1.ds,fun y hy=>a1.u y (cr1.2 (.inl hy))⟩,?_,a3,t,x,u,ht,ha,a2,fun y hy=>a1.u y (cr1.2 (.inr hy))⟩
    rw [a4]
    intro id o hm
    rcases cr1.1 hm with h1|h1
    ·exact hf id o h1
    ·exact b1 id o h1
   ·cases hm
  ·cases hm
 |row j=>
  simp only [mC] at hm
  split at hm
  ·rename_i id ver
   split at hm
   ·rename_i e t l ver' lv hl
    revert hm
    cases hc:(Nat.beq ver ver'&&lv) with
    |false=>intro hm;cases hm
    |true=>
     intro hm
     simp only [co7] at hc
     have h1:=co5 hc.1
     have h2:=hc.2
     subst h1;subst h2
     obtain ⟨a1,a2,a3,a4⟩:=Q7 hm
     exact ⟨a1,by rw [a4];exact hf,a3,id,e,t,l,ver,rfl,hg _ _ hl,a2⟩
   ·cases hm
  ·cases hm
 |ptr j off=>
  simp only [mC] at hm
  split at hm
  ·rename_i id off'
   revert hm
   cases hc:Nat.beq off off' with
   |false=>intro hm;cases hm
   |true=>
    intro hm
    have h1:=co5 hc
    subst h1
    obtain ⟨a1,a2,a3,a4⟩:=Q7 hm
    exact ⟨a1,by rw [a4];exact hf,a3,id,rfl,a2⟩
  ·cases hm
 |map j=>
  simp only [mC] at hm
  split at hm
  ·rename_i id
   obtain ⟨a1,a2,a3,a4⟩:=Q7 hm
   exact ⟨a1,by rw [a4];exact hf,a3,id,rfl,a2⟩
  ·cases hm
 |clo f js=>
  simp only [mC] at hm
  split at hm
  ·rename_i f' ids
   revert hm
   cases hc:Nat.beq f f' with
   |false=>intro hm;cases hm
   |true=>
    intro hm
    have h1:=co5 hc
    subst h1
    obtain ⟨a1,a2,a3,a4,a5⟩:=aC8 hm
    exact ⟨a1,by rw [a5];exact hf,a4,ids,rfl,a2,a3⟩
  ·cases hm
 |yld j=>
  simp only [mC] at hm
  split at hm
  ·rename_i id
   obtain ⟨a1,a2,a3,a4⟩:=Q7 hm
   exact ⟨a1,by rw [a4];exact hf,a3,id,rfl,a2⟩
  ·cases hm
 |fn f=>
  simp only [mC] at hm
  split at hm
  ·rename_i f' a b
   revert hm
   cases hc:(Nat.beq f f'&&(Nat.beq a.size 0&&Nat.beq b.size 0)) with
   |false=>intro hm;cases hm
   |true=>
    intro hm
    simp only [co7] at hc
    simp only [cond_true,co4] at hm
    subst hm
    have h1:=co5 hc.1
    have h2:=Array.eq_empty_of_size_eq_zero (co5 hc.2.1)
    have h3:=Array.eq_empty_of_size_eq_zero (co5 hc.2.2)
    subst h1;subst h2;subst h3
    exact ⟨Mt.Le.refl _,hf,id,rfl⟩
  ·cases hm
 |nil=>
  simp only [mC] at hm
  split at hm
  ·rename_i n c'
   revert hm
   cases hc:(Nat.beq n 0&&Nat.beq c' 0) with
   |false=>intro hm;cases hm
   |true=>
    intro hm
    simp only [co7] at hc
    simp only [cond_true,co4] at hm
    subst hm
    have h1:=co5 hc.1
    have h2:=co5 hc.2
    subst h1;subst h2
    exact ⟨Mt.Le.refl _,hf,id,rfl⟩
  ·cases hm
 |dp j=>
  simp only [mC] at hm
  split at hm
  ·rename_i id v
   split at hm
   ·rename_i e t ms l ver iv hl
    revert hm
    cases hc:Nat.beq v ver with
    |false=>intro hm;cases hm
    |true=>
     intro hm
     have h1:=co5 hc
     subst h1
     obtain ⟨a1,a2,a3,a4⟩:=Q7 hm
     exact ⟨a1,by rw [a4];exact hf,a3,id,_,_,_,_,_,_,rfl,hg _ _ hl,a2⟩
   ·cases hm
  ·cases hm
 |ms j=>
  simp only [mC] at hm
  split at hm
  ·rename_i id v
   split at hm
   ·rename_i kt e t l ver iv hl
    revert hm
    cases hc:Nat.beq v ver with
    |false=>intro hm;cases hm
    |true=>
     intro hm
     have h1:=co5 hc
     subst h1
     obtain ⟨a1,a2,a3,a4⟩:=Q7 hm
     exact ⟨a1,by rw [a4];exact hf,a3,id,_,_,_,_,_,_,rfl,hg _ _ hl,a2⟩
   ·cases hm
  ·cases hm
theorem aA0 {g:Obs U} (hg:∀ id o,look id g=some o→look id h=some o) {tys:List Ty}:∀ {ps:List CPat} {cs:List (Cell U)} {m m':Mt U},mCs g tys ps cs m=some m'→Freezes h m.u→
  m.Le m'∧Freezes h m'.u∧(m.Inj→m'.Inj)∧cs.length=ps.length∧∀ (i:Nat) (p:CPat) (c:Cell U),ps[i]? =some p→cs[i]? =some c→CMatch h g tys m' p c
 |[],[],m,m',hm,hf=>by
  simp only [mCs,co4] at hm
  subst hm
  exact ⟨Mt.Le.refl _,hf,id,rfl,fun i p c h=>by simp at h⟩
 |[],_::_,_,_,hm,_=>by simp [mCs] at hm
 |_::_,[],_,_,hm,_=>by simp [mCs] at hm
 |p::ps,c::cs,m,m',hm,hf=>by
  simp only [mCs] at hm
  split at hm
  ·rename_i m1 h1
   obtain ⟨a1,a2,a3,a4⟩:=cb1 hg h1 hf
   obtain ⟨b1,b2,b3,b4,b5⟩:=aA0 hg hm a2
   refine ⟨a1.trans b1,b2,fun hI=>b3 (a3 hI),by simp [b4],fun i q d hq hd=>?_⟩
   match i,hq,hd with
   |0,hq,hd=>
    simp only [cp2,co4] at hq hd
    subst hq;subst hd
    exact a4.le b1
   |i+1,hq,hd=>exact b5 i q d (by simpa using hq) (by simpa using hd)
  ·cases hm
def OMatch (h g:Obs U) (tys:List Ty) (m:Mt U):OPat→Ob U→Prop
 | .box e ps,o=>∃ cs,o=.box e cs∧cs.length=ps.length∧∀ (i:Nat) (p:CPat) (c:Cell U),ps[i]? =some p→cs[i]? =some c→CMatch h g tys m p c
 | .row k,o=>∃ e t l ver,o=.row e t l ver true∧tys[k]? =some (.slice e t)∧look k m.ds=some ⟨.slice e t,l⟩
 | .map k,o=>∃ kt vt l,o=.map kt vt l∧tys[k]? =some (.map kt vt)∧look k m.ds=some ⟨.map kt vt,l⟩
 | .loop k,o=>∃ st,o=.loop st∧tys[k]? =some (.int .i64)∧look k m.ds=some ⟨.int .i64,st⟩
 | .dp k ms,o=>∃ e t l ver iv,o=.dp (.rows e t ms l ver iv true none)∧tys[k]? =some (.slice e t)∧look k m.ds=some ⟨.slice e t,l⟩
 | .ms k,o=>∃ kt e t l ver iv,o=.dp (.maps kt e t l ver iv true none)∧tys[k]? =some (.map kt (.slice e t))∧look k m.ds=some ⟨.map kt (.slice e t),l⟩
theorem OMatch.le {g:Obs U} {tys:List Ty} {m m':Mt U} (x:m.Le m') {p:OPat} {o:Ob U} (r:OMatch h g tys m p o):OMatch h g tys m' p o:=by
 cases p with
 |box e ps=>obtain ⟨cs,h1,h2,h3⟩:=r;exact ⟨cs,h1,h2,fun i p c hp hc=>(h3 i p c hp hc).le x⟩
 |row k=>obtain ⟨e,t,l,ver,h1,h2,h3⟩:=r;exact ⟨e,t,l,ver,h1,h2,x.ds _ _ h3⟩
 |map k=>obtain ⟨e,t,l,h1,h2,h3⟩:=r;exact ⟨e,t,l,h1,h2,x.ds _ _ h3⟩
 |loop k=>obtain ⟨st,h1,h2,h3⟩:=r;exact ⟨st,h1,h2,x.ds _ _ h3⟩
 |dp k ms=>obtain ⟨e,t,l,ver,iv,h1,h2,h3⟩:=r;exact ⟨e,t,l,ver,iv,h1,h2,x.ds _ _ h3⟩
 |ms k=>obtain ⟨kt,e,t,l,ver,iv,h1,h2,h3⟩:=r;exact ⟨kt,e,t,l,ver,iv,h1,h2,x.ds _ _ h3⟩
theorem cb2 {g:Obs U} (hg:∀ id o,look id g=some o→look id h=some o) {tys:List Ty} {p:OPat} {o:Ob U} {m m':Mt U} (hm:mO g tys p o m=some m') (hf:Freezes h m.u):
  m.Le m'∧Freezes h m'.u∧(m.Inj→m'.Inj)∧OMatch h g tys m' p o:=by
 cases p with
 |box e ps=>
  simp only [mO] at hm
  split at hm
  ·rename_i e' cs
   revert hm
   cases hc:Nat.beq e e' with
   |false=>intro hm;cases hm
   |true=>
    intro hm
    have h1:=co5 hc
    subst h1
    obtain ⟨a1,a2,a3,a4,a5⟩:=aA0 hg hm hf
    exact ⟨a1,a2,a3,cs,rfl,a4,a5⟩
  ·cases hm
 |row k=>
  simp only [mO] at hm
  split at hm
  ·rename_i e t l ver lv
   revert hm
   cases hc:(lv&&tys[k]? ==some (.slice e t)) with
   |false=>intro hm;cases hm
   |true=>
    intro hm
    simp only [co7,beq_iff_eq] at hc
    obtain ⟨h1,h2⟩:=hc
    subst h1
    obtain ⟨a1,a2,a3,a4⟩:=V3 hm
    exact ⟨a1,by rw [a4];exact hf,a3,e,t,l,ver,rfl,h2,a2⟩
  ·cases hm
 |map k=>
  simp only [mO] at hm
  split at hm
  ·rename_i e t l
   revert hm
   cases hc:(tys[k]? ==some (.map e t)) with
   |false=>intro hm;cases hm
   |true=>
    intro hm
    simp only [beq_iff_eq] at hc
    obtain ⟨a1,a2,a3,a4⟩:=V3 hm
    exact ⟨a1,by rw [a4];exact hf,a3,e,t,l,rfl,hc,a2⟩
  ·cases hm
 |loop k=>
  simp only [mO] at hm
  split at hm
  ·rename_i st
   revert hm
   cases hc:(tys[k]? ==some (.int .i64)) with
   |false=>intro hm;cases hm
   |true=>
    intro hm
    simp only [beq_iff_eq] at hc
    obtain ⟨a1,a2,a3,a4⟩:=V3 hm
    exact ⟨a1,by rw [a4];exact hf,a3,st,rfl,hc,a2⟩
  ·cases hm
 |dp k ms=>
  simp only [mO] at hm
  split at hm
  ·rename_i e t ms' l ver iv
   revert hm
   cases hc:(tys[k]? ==some (.slice e t)&&(ms==ms')) with
   |false=>intro hm;cases hm
   |true=>
    intro hm
    simp only [co7,beq_iff_eq] at hc
    obtain ⟨h1,rfl⟩:=hc
    obtain ⟨a1,a2,a3,a4⟩:=V3 hm
    exact ⟨a1,by rw [a4];exact hf,a3,e,t,l,ver,iv,rfl,h1,a2⟩
  ·cases hm
 |ms k=>
  simp only [mO] at hm
  split at hm
  ·rename_i kt e t l ver iv
   revert hm
   cases hc:(tys[k]? ==some (.map kt (.slice e t))) with
   |false=>intro hm;cases hm
   |true=>
    intro hm
    simp only [beq_iff_eq] at hc
    obtain ⟨a1,a2,a3,a4⟩:=V3 hm
    exact ⟨a1,by rw [a4];exact hf,a3,kt,e,t,l,ver,iv,rfl,hc,a2⟩
  ·cases hm
theorem aS3 {g:Obs U} (hg:∀ id o,look id g=some o→look id h=some o) {tys:List Ty}:∀ {os:List OPat} {j:Nat} {m m':Mt U},mOs g tys j os m=some m'→Freezes h m.u→
  m.Le m'∧Freezes h m'.u∧(m.Inj→m'.Inj)∧∀ (i:Nat) (p:OPat),os[i]? =some p→∃ id o,look (j+i) m'.ι=some id∧look id g=some o∧look id h=some o∧OMatch h g tys m' p o
 |[],j,m,m',hm,hf=>by
  simp only [mOs,co4] at hm
  subst hm
  exact ⟨Mt.Le.refl _,hf,id,fun i p h=>by simp at h⟩
 |p::os,j,m,m',hm,hf=>by
  simp only [mOs] at hm
  split at hm
  ·rename_i id hid
   split at hm
   ·rename_i o ho
    split at hm
    ·rename_i m1 h1
     obtain ⟨a1,a2,a3,a4⟩:=cb2 hg h1 hf
     obtain ⟨b1,b2,b3,b4⟩:=aS3 hg hm a2
     refine ⟨a1.trans b1,b2,fun hI=>b3 (a3 hI),fun i q hq=>?_⟩
     match i,hq with
     |0,hq=>
      simp only [cp2,co4] at hq
      subst hq
      exact ⟨id,o,b1.ι _ _ (a1.ι _ _ (by simpa using hid)),ho,hg _ _ ho,a4.le b1⟩
     |i+1,hq=>
      obtain ⟨id',o',q1,q2,q3,q4⟩:=b4 i q (by simpa using hq)
      exact ⟨id',o',by rw [show j+(i+1)=j+1+i by omega];exact q1,q2,q3,q4⟩
    ·cases hm
   ·cases hm
  ·cases hm
theorem am2 {α:Type} {l:List (Nat×α)}:∀ {c k:Nat} {xs:List α},aL0 l k c=some xs→xs.length=c∧∀ i,i<c→xs[i]? =look (k+i) l
 |0,k,xs,h=>by
  simp only [aL0,co4] at h
  subst h
  exact ⟨rfl,fun i hi=>by omega⟩
 |c+1,k,xs,h=>by
  simp only [aL0] at h
  split at h
  ·rename_i x hx
   simp only [cp1] at h
   obtain ⟨ys,hy,rfl⟩:=h
   obtain ⟨h1,h2⟩:=am2 hy
   refine ⟨by simp [h1],fun i hi=>?_⟩
   match i with
   |0=>simp [hx]
   |i+1=>
    rw [List.getElem?_cons_succ,h2 i (by omega)]
    congr 1
    omega
  ·cases h
theorem aC9 {ts:List Ty} {c:Dens U.T ts} {k:Nat} {d:Datum U}:(A9 U ts c)[k]? =some d→ts[k]? =some d.1:=by
 induction ts generalizing k with
 |nil=>intro h;simp [A9] at h
 |cons t ts ih=>
  intro h
  match k,h with
  |0,h=>
   simp only [A9,cp2,co4] at h
   subst h
   rfl
  |k+1,h=>simpa using ih (c:=c.2) (by simpa [A9] using h)
theorem aS4 {ds:List (Datum U)} {ι vr:Nat→Nat}:∀ {os:List OPat} {j0:Nat},(∀ i i',j0≤i→i<j0+os.length→j0≤i'→i'<j0+os.length→ι i=ι i'→i=i')→
  (∀ (i:Nat) (p:OPat),os[i]? =some p→look (ι (j0+i)) (iOs ds ι vr j0 os)=some (iO ds ι vr (j0+i) p))∧
  (∀ id o,look id (iOs ds ι vr j0 os)=some o→∃ i p,os[i]? =some p∧id=ι (j0+i)∧o=iO ds ι vr (j0+i) p)
 |[],j0,_=>⟨fun i p h=>by simp at h,fun id o h=>by simp [iOs,look] at h⟩
 |p::os,j0,hI=>by
  obtain ⟨h1,h2⟩:=aS4 (ds:=ds) (ι:=ι) (vr:=vr) (os:=os) (j0:=j0+1) (fun i i' a b c d e=>hI i i' (by omega) (by simp;omega) (by omega) (by simp;omega) e)
  refine ⟨fun i q hq=>?_,fun id o h=>?_⟩
  ·match i,hq with
   |0,hq=>
    simp only [cp2,co4] at hq
    subst hq
    simp [iOs,look]
   |i+1,hq=>
    have hil:i<os.length:=by
     have:os[i]? =some q:=by simpa using hq
     exact (co9.1 this).1
    have hne:¬ ι j0=ι (j0+(i+1)):=by
     intro e
     have:=hI j0 (j0+(i+1)) (Nat.le_refl _) (by simp) (by omega) (by simp;omega) e
     omega
    simp only [iOs,look,O2 hne,Bool.false_eq_true,if_false]
    rw [show j0+(i+1)=j0+1+i by omega]
    exact h1 i q (by simpa using hq)
  ·simp only [iOs,look] at h
   split at h
   ·rename_i hb
    have hb:=co5 hb
    simp only [co4] at h
    exact ⟨0,p,rfl,hb.symm,h.symm⟩
   ·obtain ⟨i,q,q1,q2,q3⟩:=h2 id o h
    exact ⟨i+1,q,by simpa using q1,by rw [q2];congr 1;omega,by rw [q3];congr 1;omega⟩
theorem bi3 {ds:List (Datum U)} {ι vr:Nat→Nat} {id:Nat} {o:Ob U}:∀ {os:List OPat} {j0:Nat},(id,o)∈iOs ds ι vr j0 os→∃ i p,os[i]? =some p∧id=ι (j0+i)∧o=iO ds ι vr (j0+i) p
 |[],_,h=>by simp [iOs] at h
 |p::os,j0,h=>by
  simp only [iOs,List.mem_cons,cp6] at h
  rcases h with ⟨h1,h2⟩|h
  ·exact ⟨0,p,rfl,h1,h2⟩
  ·obtain ⟨i,q,q1,q2,q3⟩:=bi3 h
   exact ⟨i+1,q,by simpa using q1,by rw [q2];congr 1;omega,by rw [q3];congr 1;omega⟩
theorem T7 {i j:Nat} (h:oid i=oid j):i=j:=by simp only [oid] at h;omega
theorem bF8 {ds:List (Datum U)} {ι vr:Nat→Nat} {j:Nat} {p:OPat}:(iO ds ι vr j p).live=true:=by
 cases p<;>simp only [iO]<;>(try split)<;>rfl
end
end Go.VT
end
section
namespace Go.VT
noncomputable section
open Go.RowKit
variable {U:Univ} {E:Env U} {F:Fr} {n:Nat} {β:Nm} {s:St U} {ρ:Operand→Value} {tmps:Array Value} {w:World} {o:Oper} {e:Eff U} {h:Obs U}
def ιOf (m:Mt U) (j:Nat):Nat:=(look j m.ι).getD 0
def T8 (β:Nm) (m:Mt U) (M:Nat→Prop):Nm:=⟨fun id=>β (ιOf m (id-1000000)),M,fun id=>β.lp (ιOf m (id-1000000))⟩
def E6 (ds:List (Datum U)) (os:List OPat):Obs U:=iOs ds oid (fun _=>0) 0 os
theorem D6 {ds:List (Datum U)} {os:List OPat} {j:Nat} {p:OPat} (hp:os[j]? =some p):look (oid j) (E6 ds os)=some (iO ds oid (fun _=>0) j p):=by
 have:=(aS4 (ds:=ds) (ι:=oid) (vr:=fun _=>0) (os:=os) (j0:=0) (fun i i' _ _ _ _ e=>T7 e)).1 j p hp
 rwa [Nat.zero_add] at this
theorem H0 {ds:List (Datum U)} {os:List OPat} {id:Nat} {o:Ob U} (hl:look id (E6 ds os)=some o):∃ j p,os[j]? =some p∧id=oid j∧o=iO ds oid (fun _=>0) j p:=by
 obtain ⟨i,p,h1,h2,h3⟩:=(aS4 (ds:=ds) (ι:=oid) (vr:=fun _=>0) (os:=os) (j0:=0) (fun i i' _ _ _ _ e=>T7 e)).2 id o hl
 rw [Nat.zero_add] at h2 h3
 exact ⟨i,p,h1,h2,h3⟩
structure Matched (F:Fr) (w:World) (β:Nm) (h g:Obs U) (tys:List Ty) (os:List OPat) (ds:List (Datum U)) (m:Mt U):Prop where
 k:Ok F w β h
 hg:∀ id o,look id g=some o→look id h=some o
 hf:Freezes h m.u
 inj:m.Inj
 lt:∀ j id,look j m.ι=some id→j<os.length
 obs:∀ (i:Nat) (p:OPat),os[i]? =some p→∃ id o,look i m.ι=some id∧look id h=some o∧OMatch h g tys m p o
 dj:∀ j id,look j m.ι=some id→∀ o,(id,o)∉m.u
 dat:∀ (k:Nat) (x:Datum U) (t:Ty),tys[k]? =some t→look k m.ds=some x→ds[k]? =some x
section
variable {g:Obs U} {tys:List Ty} {os:List OPat} {ds:List (Datum U)} {m:Mt U}
theorem H7 {M:Nat→Prop} {j id:Nat} (hj:look j m.ι=some id):T8 β m M (oid j)=β id:=by
 simp [T8,oid,ιOf,hj]
theorem aA1 {M:Nat→Prop} {j id:Nat} (hj:look j m.ι=some id):(T8 β m M).lp (oid j)=β.lp id:=by
 simp [T8,oid,ιOf,hj]
theorem Matched.keep (G:Matched F w β h g tys os ds m) {j id:Nat} (hj:look j m.ι=some id):look id (upds h m.u)=look id h:=B7 (G.dj j id hj)
theorem Matched.at_ (G:Matched F w β h g tys os ds m) {j id:Nat} (hj:look j m.ι=some id):∃ p o,os[j]? =some p∧look id h=some o∧OMatch h g tys m p o:=by
 have hlt:=G.lt j id hj
 obtain ⟨id',o,h1,h2,h3⟩:=G.obs j os[j] (co6 hlt)
 rw [hj] at h1
 simp only [co4] at h1
 subst h1
 exact ⟨os[j],o,co6 hlt,h2,h3⟩
theorem OMatch.live {p:OPat} {o:Ob U} (r:OMatch h g tys m p o):o.live=true:=by
 cases p with
 |box e ps=>obtain ⟨cs,rfl,_⟩:=r;rfl
 |row k=>obtain ⟨e,t,l,ver,rfl,_⟩:=r;rfl
 |map k=>obtain ⟨e,t,l,rfl,_⟩:=r;rfl
 |loop k=>obtain ⟨st,rfl,_⟩:=r;rfl
 |dp k ms=>obtain ⟨e,t,l,ver,iv,rfl,_⟩:=r;rfl
 |ms k=>obtain ⟨kt,e,t,l,ver,iv,rfl,_⟩:=r;rfl
theorem Matched.live (G:Matched F w β h g tys os ds m) {M:Nat→Prop} (hM:∀ b,M b→Live β (upds h m.u) b):∀ b,Live (T8 β m M) (E6 ds os) b→Live β (upds h m.u) b:=by
 rintro b (hm|⟨id,o,h1,h2,h3⟩)
 ·exact hM b hm
 ·obtain ⟨j,p,q1,q2,q3⟩:=H0 h1
  obtain ⟨id',o',r1,r2,r3⟩:=G.obs j p q1
  rw [q2,H7 r1] at h3
  exact .inr ⟨id',o',(G.keep r1).trans r2,r3.live,h3⟩
theorem Matched.rep (G:Matched F w β h g tys os ds m) {M:Nat→Prop} (hM:∀ b,M b→Live β (upds h m.u) b) {d:Datum U} {v:Value} (r:Rep U w (Live β (upds h m.u)) d v):Rep U w (Live (T8 β m M) (E6 ds os)) d v:=
 r.mono (Nat.le_refl _) (fun _ _ _=>rfl) (fun b _ hb=>G.live hM b hb)
theorem Matched.cell (G:Matched F w β h g tys os ds m) {M:Nat→Prop} (hM:∀ b,M b→Live β (upds h m.u) b) {p:CPat} {c:Cell U} {v:Value} (r:CMatch h g tys m p c) (hc:CRel w β h c v):
  CRel w (T8 β m M) (E6 ds os) (iC ds oid (fun _=>0) p) v:=by
 have A:=I3 G.k G.hf
 have hc1:=A.ext.cell hc
 cases p with
 |un=>trivial
 |d k=>
  obtain ⟨t,x,u,h1,h2,h3,h4⟩:=r
  have hd:=G.dat k x t h1 h3
  simp only [iC,hd]
  exact G.rep hM (ai3 G.k G.hg h2 hc G.hf h4)
 |row j=>
  obtain ⟨id,e,t,l,ver,rfl,h2,h3⟩:=r
  obtain ⟨p,o,q1,q2,q3⟩:=G.at_ h3
  rw [h2] at q2
  simp only [co4] at q2
  subst q2
  obtain ⟨e',t',l',ver',lv',r1,r2,r3⟩:=hc
  rw [h2] at r1
  simp only [co4,Ob.row.injEq] at r1
  obtain ⟨rfl,rfl,_,rfl,_⟩:=r1
  have hv:=r3 rfl
  cases p with
  |row k=>
   obtain ⟨e2,t2,l2,ver2,s1,s2,s3⟩:=q3
   have hd:=G.dat k _ _ s2 s3
   have hl:=D6 (ds:=ds) q1
   simp only [iO,hd] at hl
   exact ⟨_,_,_,_,_,hl,Nat.le_refl _,fun _=>by rw [hv];exact (H7 h3).symm⟩
  |box e ps=>obtain ⟨cs,s1,_⟩:=q3;cases s1
  |map k=>obtain ⟨_,_,_,s1,_⟩:=q3;cases s1
  |loop k=>obtain ⟨_,s1,_⟩:=q3;cases s1
  |dp k ms=>obtain ⟨_,_,_,_,_,s1,_⟩:=q3;cases s1
  |ms k=>obtain ⟨_,_,_,_,_,_,s1,_⟩:=q3;cases s1
 |ptr j off=>
  obtain ⟨id,rfl,h3⟩:=r
  obtain ⟨p,o,q1,q2,q3⟩:=G.at_ h3
  obtain ⟨e,cs,b,r1,r2,r3⟩:=hc
  rw [q2] at r1
  simp only [co4] at r1
  subst r1
  cases p with
  |box e ps=>exact ⟨e,_,b,D6 q1,(H7 h3).trans r2,r3⟩
  |row k=>obtain ⟨_,_,_,_,s1,_⟩:=q3;cases s1
  |map k=>obtain ⟨_,_,_,s1,_⟩:=q3;cases s1
  |loop k=>obtain ⟨_,s1,_⟩:=q3;cases s1
  |dp k ms=>obtain ⟨_,_,_,_,_,s1,_⟩:=q3;cases s1
  |ms k=>obtain ⟨_,_,_,_,_,_,s1,_⟩:=q3;cases s1
 |map j=>
  obtain ⟨id,rfl,h3⟩:=r
  obtain ⟨p,o,q1,q2,q3⟩:=G.at_ h3
  obtain ⟨kt,vt,l,r1,r2⟩:=hc
  rw [q2] at r1
  simp only [co4] at r1
  subst r1
  cases p with
  |map k=>
   obtain ⟨e2,t2,l2,s1,s2,s3⟩:=q3
   have hd:=G.dat k _ _ s2 s3
   have hl:=D6 (ds:=ds) q1
   simp only [iO,hd] at hl
   exact ⟨_,_,_,hl,by rw [r2];exact (H7 h3).symm⟩
  |box e ps=>obtain ⟨cs,s1,_⟩:=q3;cases s1
  |row k=>obtain ⟨_,_,_,_,s1,_⟩:=q3;cases s1
  |loop k=>obtain ⟨_,s1,_⟩:=q3;cases s1
  |dp k ms=>obtain ⟨_,_,_,_,_,s1,_⟩:=q3;cases s1
  |ms k=>obtain ⟨_,_,_,_,_,_,s1,_⟩:=q3;cases s1
 |clo f js=>
  obtain ⟨ids,rfl,h2,h3⟩:=r
  obtain ⟨bs,r1,r2,r3⟩:=hc
  refine ⟨bs,r1,by simp [r2,h2],fun i id' b hi hb=>?_⟩
  simp only [cp9,cp1] at hi
  obtain ⟨j,hj,rfl⟩:=hi
  have hil:i<ids.length:=by rw [h2];exact (co9.1 hj).1
  have hid:=co6 hil
  have h3:=h3 i j _ hj hid
  obtain ⟨e,cs,s1,s2⟩:=r3 i _ b hid hb
  obtain ⟨p,o,q1,q2,q3⟩:=G.at_ h3
  rw [q2] at s1
  simp only [co4] at s1
  subst s1
  cases p with
  |box e' ps=>exact ⟨e',_,D6 q1,(H7 h3).trans s2⟩
  |row k=>obtain ⟨_,_,_,_,s1,_⟩:=q3;cases s1
  |map k=>obtain ⟨_,_,_,s1,_⟩:=q3;cases s1
  |loop k=>obtain ⟨_,s1,_⟩:=q3;cases s1
  |dp k ms=>obtain ⟨_,_,_,_,_,s1,_⟩:=q3;cases s1
  |ms k=>obtain ⟨_,_,_,_,_,_,s1,_⟩:=q3;cases s1
 |yld j=>
  obtain ⟨id,rfl,h3⟩:=r
  obtain ⟨p,o,q1,q2,q3⟩:=G.at_ h3
  obtain ⟨st,r1,r2⟩:=hc
  rw [q2] at r1
  simp only [co4] at r1
  subst r1
  cases p with
  |loop k=>
   obtain ⟨st2,s1,s2,s3⟩:=q3
   have hd:=G.dat k _ _ s2 s3
   have hl:=D6 (ds:=ds) q1
   simp only [iO,hd] at hl
   exact ⟨_,hl,by rw [r2];exact (H7 h3).symm⟩
  |box e ps=>obtain ⟨cs,s1,_⟩:=q3;cases s1
  |row k=>obtain ⟨_,_,_,_,s1,_⟩:=q3;cases s1
  |map k=>obtain ⟨_,_,_,s1,_⟩:=q3;cases s1
  |dp k ms=>obtain ⟨_,_,_,_,_,s1,_⟩:=q3;cases s1
  |ms k=>obtain ⟨_,_,_,_,_,_,s1,_⟩:=q3;cases s1
 |fn f=>subst r;exact hc
 |nil=>subst r;exact hc
 |dp j=>
  obtain ⟨id,e,t,ms,l,ver,iv,rfl,h2,h3⟩:=r
  obtain ⟨p,o,q1,q2,q3⟩:=G.at_ h3
  rw [h2] at q2
  simp only [co4] at q2
  subst q2
  obtain ⟨D,r1,r2⟩:=hc
  rw [h2] at r1
  simp only [co4,Ob.dp.injEq] at r1
  subst r1
  cases p with
  |dp k ms'=>
   obtain ⟨e2,t2,l2,ver2,iv2,s1,s2,s3⟩:=q3
   cases s1
   have hd:=G.dat k _ _ s2 s3
   have hl:=D6 (ds:=ds) q1
   simp only [iO,hd] at hl
   exact ⟨_,hl,Nat.le_refl _,fun _=>by rw [H7 h3];exact r2.2 rfl⟩
  |row k=>obtain ⟨_,_,_,_,s1,_⟩:=q3;cases s1
  |box e ps=>obtain ⟨cs,s1,_⟩:=q3;cases s1
  |map k=>obtain ⟨_,_,_,s1,_⟩:=q3;cases s1
  |loop k=>obtain ⟨_,s1,_⟩:=q3;cases s1
  |ms k=>obtain ⟨_,_,_,_,_,_,s1,_⟩:=q3;cases s1
 |ms j=>
  obtain ⟨id,kt,e,t,l,ver,iv,rfl,h2,h3⟩:=r
  obtain ⟨p,o,q1,q2,q3⟩:=G.at_ h3
  rw [h2] at q2
  simp only [co4] at q2
  subst q2
  obtain ⟨D,r1,r2⟩:=hc
  rw [h2] at r1
  simp only [co4,Ob.dp.injEq] at r1
  subst r1
  cases p with
  |ms k=>
   obtain ⟨kt2,e2,t2,l2,ver2,iv2,s1,s2,s3⟩:=q3
   cases s1
   have hd:=G.dat k _ _ s2 s3
   have hl:=D6 (ds:=ds) q1
   simp only [iO,hd] at hl
   exact ⟨_,hl,Nat.le_refl _,fun _=>by rw [H7 h3];exact r2.2 rfl⟩
  |row k=>obtain ⟨_,_,_,_,s1,_⟩:=q3;cases s1
  |box e ps=>obtain ⟨cs,s1,_⟩:=q3;cases s1
  |map k=>obtain ⟨_,_,_,s1,_⟩:=q3;cases s1
  |loop k=>obtain ⟨_,s1,_⟩:=q3;cases s1
  |dp k ms=>obtain ⟨_,_,_,_,_,s1,_⟩:=q3;cases s1
theorem CsRel.of {β:Nm} {h:Obs U} {cs:List (Cell U)} {vs:List Value} (hl:vs.length=cs.length) (h1:∀ v∈vs,v.oneCell'=true) (hc:∀ (j:Nat) (c:Cell U) (v:Value),cs[j]? =some c→vs[j]? =some v→CRel w β h c v):CsRel w β h cs vs:=⟨hl,h1,hc⟩
theorem Matched.cells (G:Matched F w β h g tys os ds m) {M:Nat→Prop} (hM:∀ b,M b→Live β (upds h m.u) b) {ps:List CPat} {cs:List (Cell U)} (hl:cs.length=ps.length)
  (r:∀ (i:Nat) (p:CPat) (c:Cell U),ps[i]? =some p→cs[i]? =some c→CMatch h g tys m p c) {vs:List Value} (hc:CsRel w β h cs vs):CsRel w (T8 β m M) (E6 ds os) (ps.map (iC ds oid (fun _=>0))) vs:=by
 refine ⟨by rw [hc.1,hl];simp,hc.2.1,fun j c v hj hv=>?_⟩
 simp only [cp9,cp1] at hj
 obtain ⟨p,hp,rfl⟩:=hj
 have hjl:j<cs.length:=by rw [hl];exact (co9.1 hp).1
 exact G.cell hM (r j p _ hp (co6 hjl)) (hc.2.2 j _ v (co6 hjl) hv)
theorem Matched.obj (G:Matched F w β h g tys os ds m) {M:Nat→Prop} (hM:∀ b,M b→Live β (upds h m.u) b) {j:Nat} {p:OPat} (hp:os[j]? =some p):
  ORel F.B w (T8 β m M) (E6 ds os) (oid j) (iO ds oid (fun _=>0) j p):=by
 have A:=I3 G.k G.hf
 obtain ⟨id,o,h1,h2,h3⟩:=G.obs j p hp
 have ho:=G.k.obj id o h2
 have ho1:=A.obj id o ((G.keep h1).trans h2)
 cases p with
 |box e ps=>
  obtain ⟨cs,rfl,q2,q3⟩:=h3
  obtain ⟨b,vs,r1,r2,r3,r4⟩:=ho
  exact ⟨b,vs,(H7 h1).trans r1,r2,r3,G.cells hM q2 q3 r4⟩
 |row k=>
  obtain ⟨e,t,l,ver,rfl,q2,q3⟩:=h3
  have hd:=G.dat k _ _ q2 q3
  obtain ⟨xs,r1,r2,r3,r4⟩:=ho1
  simp only [iO,hd]
  refine ⟨xs,by rw [H7 h1];exact r1,r2,r3,fun i x hx j' d hdd=>?_⟩
  obtain ⟨u,hu,hr⟩:=r4 i x hx j' d hdd
  exact ⟨u,hu,G.rep hM hr⟩
 |map k=>
  obtain ⟨kt,vt,l,rfl,q2,q3⟩:=h3
  have hd:=G.dat k _ _ q2 q3
  obtain ⟨b,es,clock,r1,r2,r3,r4,r5⟩:=ho1
  simp only [iO,hd]
  refine ⟨b,es,clock,(H7 h1).trans r1,r2,r3,r4,fun i x y hx hy=>?_⟩
  obtain ⟨s1,s2⟩:=r5 i x y hx hy
  exact ⟨s1.mono (Nat.le_refl _) (fun _ _ _=>rfl) (fun b _ hb=>G.live hM b hb),s2.mono (Nat.le_refl _) (fun _ _ _=>rfl) (fun b _ hb=>G.live hM b hb)⟩
 |loop k=>
  obtain ⟨st,rfl,q2,q3⟩:=h3
  have hd:=G.dat k _ _ q2 q3
  obtain ⟨b,r,r1,r2,r3,r4⟩:=ho1
  simp only [iO,hd]
  exact ⟨b,r,(H7 h1).trans r1,r2,r3,by rw [aA1 h1];exact r4⟩
 |dp k ms=>
  obtain ⟨e,t,l,ver,iv,rfl,q2,q3⟩:=h3
  have hd:=G.dat k _ _ q2 q3
  simp only [iO,hd]
  show DRel F.B w (T8 β m M) (E6 ds os) (.rows e t ms l 0 0 true none) (T8 β m M (oid j))
  rw [H7 h1]
  exact DRel.mapR (fun d v r=>G.rep hM r) (fun _ _=>rfl) (show DRel F.B w β (upds h m.u) (.rows e t ms l ver iv true none) (β id) from ho1)
 |ms k=>
  obtain ⟨kt,e,t,l,ver,iv,rfl,q2,q3⟩:=h3
  have hd:=G.dat k _ _ q2 q3
  simp only [iO,hd]
  show DRel F.B w (T8 β m M) (E6 ds os) (.maps kt e t l 0 0 true none) (T8 β m M (oid j))
  rw [H7 h1]
  exact DRel.mapM (fun d v r=>G.rep hM r) (fun _ _=>rfl) (show DRel F.B w β (upds h m.u) (.maps kt e t l ver iv true none) (β id) from ho1)
theorem Matched.dis (G:Matched F w β h g tys os ds m) {M:Nat→Prop}:∀ id o id' o' b,look id (E6 ds os)=some o→look id' (E6 ds os)=some o'→Has (T8 β m M id) b→Has (T8 β m M id') b→id=id':=by
 intro id o id' o' b h1 h2 h3 h4
 obtain ⟨j,p,q1,q2,q3⟩:=H0 h1
 obtain ⟨j',p',q1',q2',q3'⟩:=H0 h2
 obtain ⟨i1,o1,r1,r2,r3⟩:=G.obs j p q1
 obtain ⟨i2,o2,r1',r2',r3'⟩:=G.obs j' p' q1'
 rw [q2,H7 r1] at h3
 rw [q2',H7 r1'] at h4
 have:=G.k.dis i1 o1 i2 o2 b r2 r2' h3 h4
 subst this
 rw [q2,q2',G.inj j j' i1 r1 r1']
def kb (β:Nm) (m:Mt U) (b:Nat):Prop:=∃ j id,look j m.ι=some id∧Has (β id) b
def nmOf (β:Nm) (h:Obs U) (m:Mt U) (id:Nat):Option (Value×Loop×(Int→Option Code)):=
 if 1000000≤id then match look (id-1000000) m.ι with
  |some i=>match look i h with
   |some o=>if o.isRow=true then none else some (β i,β.lp i)
   |none=>none
  |none=>none
 else none
def frOf (F:Fr) (w:World) (β:Nm) (h:Obs U) (m:Mt U):Fr:=⟨F.B,w,kb β m,fun b=>Live β (upds h m.u) b∧¬ kb β m b,nmOf β h m,F.G⟩
theorem Matched.given (G:Matched F w β h g tys os ds m):Ok (frOf F w β h m) w (T8 β m (frOf F w β h m).M) (E6 ds os):=by
 have A:=I3 G.k G.hf
 have hM:∀ b,(frOf F w β h m).M b→Live β (upds h m.u) b:=fun b hb=>hb.1
 have hw0:F.w0.heap.size≤w.heap.size:=G.k.bel.size
 have hLw:∀ b,Live β (upds h m.u) b→b<w.heap.size:=by
  rintro b (hm|⟨id,ob,h1,h2,h3⟩)
  ·exact Nat.lt_of_lt_of_le (G.k.Mlt b hm) hw0
  ·exact ((A.obj id ob h1).blk h3).2
 refine ⟨Below.refl _ _,G.k.hB,fun id o hl=>?_,G.dis,fun _ _ _=>rfl,fun id o b hl hb=>?_,fun id o b hl hb hm=>?_,fun b hm=>hLw b hm.1,rfl,fun id o v hl hv=>?_,fun id v hv=>?_,fun g' fs hgf=>?_⟩
 ·obtain ⟨j,p,q1,q2,q3⟩:=H0 hl
  rw [q2,q3]
  exact G.obj hM q1
 ·obtain ⟨j,p,q1,q2,q3⟩:=H0 hl
  obtain ⟨i,o1,r1,r2,r3⟩:=G.obs j p q1
  rw [q2,H7 r1] at hb
  exact .inl ⟨j,i,r1,hb⟩
 ·obtain ⟨j,p,q1,q2,q3⟩:=H0 hl
  obtain ⟨i,o1,r1,r2,r3⟩:=G.obs j p q1
  rw [q2,H7 r1] at hb
  exact hm.2 ⟨j,i,r1,hb⟩
 ·obtain ⟨j,p,q1,q2,q3⟩:=H0 hl
  obtain ⟨i,o1,r1,r2,r3⟩:=G.obs j p q1
  subst q2
  simp only [frOf,nmOf,oid] at hv
  rw [if_pos (by omega),Nat.add_sub_cancel_left,r1] at hv
  simp only [r2] at hv
  split at hv
  ·cases hv
  ·simp only [co4] at hv
   rw [←hv,H7 r1,aA1 r1]
   exact .inr rfl
 ·simp only [frOf,nmOf] at hv
  split at hv
  ·assumption
  ·cases hv
 ·obtain ⟨q1,q2,q3⟩:=G.k.glo g' fs hgf
  refine ⟨Nat.lt_of_lt_of_le q1 hw0,?_,fun i f hf=>?_⟩
  ·rintro ⟨j,id,r1,r2⟩
   obtain ⟨p,o,s1,s2,s3⟩:=G.at_ r1
   rcases G.k.own id o g' s2 r2 with h1|h1
   ·exact q2 h1
   ·omega
  ·rw [←q3 i f hf]
   exact World.cell?_of_block (G.k.frm g' q1 q2)
end
end
end Go.VT
end
section
namespace Go.VT
noncomputable section
open Go.RowKit
variable {U:Univ} {E:Env U} {F:Fr} {n:Nat} {β:Nm} {s:St U} {ρ:Operand→Value} {tmps:Array Value} {w:World} {o:Oper} {e:Eff U} {h:Obs U}
def Says:Datum U→Value→Prop
 |⟨.int k,n⟩,v=>v=.int k n
 |⟨.bool,b⟩,v=>v=.bool b
 |_,_=>False
def ap8 (p:PanV U) (u:Value):Prop:=
 ∃ vs:List Value,u=.iface p.t (aX7 p.agg vs)∧vs.length=p.ds.length∧(p.agg=false→vs.length=1)∧∀ (j:Nat) (d:Datum U) (v:Value),p.ds[j]? =some d→vs[j]? =some v→Says d v
def OPat.isRow:OPat→Bool
 | .row _=>true
 | .dp _ _=>true
 | .ms _=>true
 |_=>false
structure Within (Y F:Fr) (yl:List (Nat×Nat)):Prop where
 B:F.B=Y.B
 G:F.G=Y.G
 bel:Below Y.B Y.w0 F.w0
 frm:∀ b,b<Y.w0.heap.size→¬ Y.K b→F.w0.heap[b]? =Y.w0.heap[b]?
 K:∀ b,b<Y.w0.heap.size→F.K b→Y.K b
 M:∀ b,Y.M b→F.M b
 Mup:∀ b,b<Y.w0.heap.size→F.M b→Y.M b∨Y.K b
 nm:∀ j i v,(j,i)∈yl→Y.nm (oid j)=some v→F.nm (oid i)=some v
def P0 (Y F:Fr) (yl:List (Nat×Nat)):Prop:=yl≠[]→Within Y F yl
abbrev Runs:=List Value→World→(Ending→World→Prop)→Prop
def Runs.Mono (C:Runs):Prop:=∀ vs w R R',C vs w R→(∀ e w',R e w'→R' e w')→C vs w R'
def bZ2 (F:Fr) (C:Runs) (G:List (Nat×Glob)) (k:Con U) (xs:Dens U.T k.params):Prop:=
 ∀ (β:Nm) (w:World) (us vs:List Value),F.w0=w→F.G=G→Ok F w β (E6 (A9 U k.params xs) k.oin)→
  (∀ j p,k.oin[j]? =some p→p.isRow=false→F.nm (oid j)=some (β (oid j),β.lp (oid j)))→(∀ id v,F.nm id=some v→∃ j,j<k.oin.length∧id=oid j)→
  CsRel w β (E6 (A9 U k.params xs) k.oin) (k.ain.map (iC (A9 U k.params xs) oid (fun _=>0))) us→K8 k.args us vs→
  C vs w fun e w'=>match e with
   | .returned v=>(∀ b,k.bad=some b→(b xs).1=false)∧∃ β' rs,Ok F w' β' (E6 (A9 U k.tys (k.fn xs)) k.oout)∧ac2 k.res rs v∧
     CsRel w' β' (E6 (A9 U k.tys (k.fn xs)) k.oout) (k.rout.map (iC (A9 U k.tys (k.fn xs)) oid (fun _=>0))) rs
   | .panicked ch=>∃ b u,k.bad=some b∧(b xs).1=true∧ch=[{ v:=u,recovered:=false }]∧ap8 (b xs).2 u∧Below F.B w w'∧∀ b,b<w.heap.size→¬ F.K b→w'.heap[b]? =w.heap[b]?
   | .outgrown=>False
def bi4 (Y:Fr) (C:Runs) (G:List (Nat×Glob)) (k:Con U) (xs:Dens U.T k.params):Prop:=∀ F:Fr,P0 Y F k.yl→bZ2 F C G k xs
def GivesC (Y:Fr) (C:Runs) (G:List (Nat×Glob)) (k:Con U):Prop:=∀ xs:Dens U.T k.params,holds (k.pre.map fun p=>p xs)→bi4 Y C G k xs
def fen (P:Program) (ro:Option Nat):Fence:={ fn:=fun f=>(P.funcs[f]?).isSome=true,depth:=none,alive:=false,round:=ro }
def runF (P:Program) (f:FuncId):Runs:=fun vs w R=>CallsIn (fen P none) 0 P f vs.toArray w R
def runY (P:Program):Runs:=fun vs w R=>∃ (as:List Value) (b:Nat) (r:Loop),vs=as++[.func (.yield b) #[] #[]]∧w.heap[b]? =some (.loop r)∧as.length=r.params.size∧
 ∀ ro,RoundIn (fen P ro) 0 P b r.fn ((r.params.zip as.toArray).foldl (fun tmps (t,a)=>tmps.setIfInBounds t a) r.tmps) r.assign r.body w R
def runI (P:Program) (name:String):Runs:=fun vs w R=>∃ f as,(invoke (.fn (.method name) #[]) vs.toArray).run P w=.ok (.enter f as) w∧CallsIn (fen P none) 0 P f as w R
def ad9 (Y:Fr) (P:Program) (G:List (Nat×Glob)) (f:FuncId) (k:Con U):Prop:=Enters P f∧GivesC Y (runF P f) G k
def C8 (P:Program) (G:List (Nat×Glob)) (f:FuncId) (k:Con U):Prop:=∀ Y,ad9 Y P G f k
structure Env.Sound (Y:Fr) (E:Env U):Prop where
 con:∀ f k,k∈E.con f→ad9 Y E.P E.G f k
 tab:∀ fs (i:Int) f k,fs[i.toNat]? =some f→k∈E.tab fs i→ad9 Y E.P E.G f k
 inv:∀ i name k,k∈E.inv i name→GivesC Y (runI E.P name) E.G k
 y:∀ k,E.Y=some k→GivesC Y (runY E.P) E.G k
 it:∀ f k kY mp,(k,kY,mp)∈E.it f→∀ Y',GivesC Y' (runY E.P) E.G kY→ad9 Y' E.P E.G f k
theorem aD0 {P:Program} {f:FuncId}:Runs.Mono (runF P f):=fun _ _ _ _ h hr=>CallsIn.mono h hr
theorem bF9 {P:Program}:Runs.Mono (runY P):=by
 intro vs w R R' h hr
 obtain ⟨as,b,r,h1,h2,h3,h4⟩:=h
 exact ⟨as,b,r,h1,h2,h3,fun ro=>RoundIn.mono (h4 ro) hr⟩
theorem bG0 {P:Program} {name:String}:Runs.Mono (runI P name):=by
 intro vs w R R' h hr
 obtain ⟨f,as,h1,h2⟩:=h
 exact ⟨f,as,h1,CallsIn.mono h2 hr⟩
def outV {α:Type} (a:Nat→α) (b:Nat→α) (ι:Nat→Nat) (n:Nat) (id:Nat):α:=match (List.range n).find? (fun j=>ι j==id) with
 |some j=>b (oid j)
 |none=>a id
theorem bG1 {α:Type} {a b:Nat→α} {ι:Nat→Nat} {n:Nat} (hI:∀ i j,i<n→j<n→ι i=ι j→i=j) {j:Nat} (hj:j<n):outV a b ι n (ι j)=b (oid j):=by
 unfold outV
 cases hf:(List.range n).find? (fun i=>ι i==ι j) with
 |none=>
  rw [List.find?_eq_none] at hf
  exact absurd (hf j (List.mem_range.2 hj)) (by simp)
 |some i=>
  have h1:=List.find?_some hf
  have h2:=List.mem_range.1 (List.mem_of_find?_eq_some hf)
  have:=hI i j h2 hj (by simpa using h1)
  rw [this]
theorem bq7 {α:Type} {a b:Nat→α} {ι:Nat→Nat} {n id:Nat} (h:∀ j,j<n→ι j≠id):outV a b ι n id=a id:=by
 unfold outV
 cases hf:(List.range n).find? (fun i=>ι i==id) with
 |none=>rfl
 |some i=>
  have h1:=List.find?_some hf
  have h2:=List.mem_range.1 (List.mem_of_find?_eq_some hf)
  exact absurd (by simpa using h1) (h i h2)
def cn5 (β β2:Nm) (ι:Nat→Nat) (n:Nat):Nm:=⟨outV β β2 ι n,β.M,outV β.lp β2.lp ι n⟩
theorem aL6 {id:Nat} {o:Ob U}:∀ {u h:Obs U},(u.map (·.1)).Nodup→(id,o)∈u→look id (upds h u)=some o
 |[],_,_,hm=>by simp at hm
 |(i,oi)::u,h,hn,hm=>by
  simp only [List.map_cons,List.nodup_cons] at hn
  rcases List.mem_cons.1 hm with h1|h1
  ·simp only [cp6] at h1
   obtain ⟨rfl,rfl⟩:=h1
   show look id (upds (write id o h) u)=_
   rw [B7 (fun o' ho'=>hn.1 (List.mem_map.2 ⟨_,ho',rfl⟩)),B0]
  ·exact aL6 (u:=u) (h:=write i oi h) hn.2 h1
theorem bq8 {ds:List (Datum U)} {ι vr:Nat→Nat}:∀ {os:List OPat} {j0:Nat},(iOs ds ι vr j0 os).map (·.1)=(List.range' j0 os.length).map ι
 |[],j0=>rfl
 |p::os,j0=>by simp [iOs,bq8 (os:=os),List.range'_succ]
theorem bi5 {ds:List (Datum U)} {ι vr:Nat→Nat}:∀ {os:List OPat} {j0 i:Nat} {p:OPat},os[i]? =some p→(ι (j0+i),iO ds ι vr (j0+i) p)∈iOs ds ι vr j0 os
 |[],_,_,_,h=>by simp at h
 |q::os,j0,i,p,h=>by
  match i,h with
  |0,h=>
   simp only [cp2,co4] at h
   subst h
   simp [iOs]
  |i+1,h=>
   have:=bi5 (ds:=ds) (ι:=ι) (vr:=vr) (os:=os) (j0:=j0+1) (i:=i) (p:=p) (by simpa using h)
   rw [show j0+(i+1)=j0+1+i by omega]
   simp [iOs,this]
theorem ac4 {a b:List Ty}:∀ {ps qs:List OPat},av8 a b ps qs=true→∀ (i:Nat) (p:OPat),ps[i]? =some p→∃ q,qs[i]? =some q∧H2 a b p q=true
 |[],_,_,i,p,h=>by simp at h
 |_::_,[],h,_,_,_=>by simp [av8] at h
 |p::ps,q::qs,h,i,x,hx=>by
  simp only [av8,co7] at h
  match i,hx with
  |0,hx=>
   simp only [cp2,co4] at hx
   subst hx
   exact ⟨q,rfl,h.1⟩
  |i+1,hx=>simpa using ac4 h.2 i x (by simpa using hx)
theorem bR5 {w:World} {β β2:Nm} {h h2:Obs U} {ds:List (Datum U)} {os:List OPat} {ι vr:Nat→Nat} (hLive:∀ b,Live β2 h2 b→Live β (E6 ds os) b)
  (hl:∀ (j:Nat) (p:OPat),os[j]? =some p→look (ι j) h2=some (iO ds ι vr j p)∧β2 (ι j)=β (oid j)) {p:CPat} {v:Value} (hc:CRel w β (E6 ds os) (iC ds oid (fun _=>0) p) v):
  CRel w β2 h2 (iC ds ι vr p) v:=by
 have hrep:∀ {d:Datum U} {v:Value},Rep U w (Live β (E6 ds os)) d v→Rep U w (Live β2 h2) d v:=fun r=>r.mono (Nat.le_refl _) (fun _ _ _=>rfl) (fun b _ hb=>hLive b hb)
 cases p with
 |un=>trivial
 |d k=>
  simp only [iC] at hc ⊢
  split
  ·rename_i x hx
   rw [hx] at hc
   exact hrep hc
  ·trivial
 |row j=>
  obtain ⟨e,t,l,ver',lv,h1,h2',h3⟩:=hc
  obtain ⟨j',p,q1,q2,q3⟩:=H0 h1
  have:=T7 q2
  subst this
  obtain ⟨r1,r2⟩:=hl j p q1
  cases p with
  |row k=>
   simp only [iO] at q3 r1
   split at q3
   ·rename_i e' t' l' hk
    rw [hk] at r1
    simp only [Ob.row.injEq] at q3
    obtain ⟨rfl,rfl,_,rfl,_⟩:=q3
    exact ⟨_,_,_,_,_,r1,Nat.le_refl _,fun _=>(h3 rfl).trans r2.symm⟩
   ·cases q3
  |box e' ps=>simp [iO] at q3
  |map k=>simp only [iO] at q3;split at q3<;>cases q3
  |loop k=>simp only [iO] at q3;split at q3<;>cases q3
  |dp k ms=>simp only [iO] at q3;split at q3<;>cases q3
  |ms k=>simp only [iO] at q3;split at q3<;>cases q3
 |ptr j off=>
  obtain ⟨e,cs,b,h1,h2',h3⟩:=hc
  obtain ⟨j',p,q1,q2,q3⟩:=H0 h1
  have:=T7 q2
  subst this
  obtain ⟨r1,r2⟩:=hl j p q1
  have:∃ e' cs',iO ds ι vr j p=.box e' cs':=by
   cases p with
   |box e' ps=>exact ⟨_,_,rfl⟩
   |row k=>simp only [iO] at q3 ⊢;split<;>rename_i hk<;>first|exact ⟨_,_,rfl⟩|(rw [hk] at q3;cases q3)
   |map k=>simp only [iO] at q3 ⊢;split<;>rename_i hk<;>first|exact ⟨_,_,rfl⟩|(rw [hk] at q3;cases q3)
   |loop k=>simp only [iO] at q3 ⊢;split<;>rename_i hk<;>first|exact ⟨_,_,rfl⟩|(rw [hk] at q3;cases q3)
   |dp k ms=>simp only [iO] at q3 ⊢;split<;>rename_i hk<;>first|exact ⟨_,_,rfl⟩|(rw [hk] at q3;cases q3)
   |ms k=>simp only [iO] at q3 ⊢;split<;>rename_i hk<;>first|exact ⟨_,_,rfl⟩|(rw [hk] at q3;cases q3)
  obtain ⟨e',cs',hx⟩:=this
  exact ⟨e',cs',b,r1.trans (by rw [hx]),r2.trans h2',h3⟩
 |map j=>
  obtain ⟨kt,vt,l,h1,h3⟩:=hc
  obtain ⟨j',p,q1,q2,q3⟩:=H0 h1
  have:=T7 q2
  subst this
  obtain ⟨r1,r2⟩:=hl j p q1
  cases p with
  |map k=>
   simp only [iO] at q3 r1
   split at q3
   ·rename_i kt' vt' l' hk
    rw [hk] at r1
    exact ⟨_,_,_,r1,h3.trans r2.symm⟩
   ·cases q3
  |box e' ps=>simp [iO] at q3
  |row k=>simp only [iO] at q3;split at q3<;>cases q3
  |loop k=>simp only [iO] at q3;split at q3<;>cases q3
  |dp k ms=>simp only [iO] at q3;split at q3<;>cases q3
  |ms k=>simp only [iO] at q3;split at q3<;>cases q3
 |clo f js=>
  obtain ⟨bs,h1,h2',h3⟩:=hc
  refine ⟨bs,h1,by simpa using h2',fun i id b hi hb=>?_⟩
  simp only [cp9,cp1] at hi
  obtain ⟨j,hj,rfl⟩:=hi
  obtain ⟨e,cs,s1,s2⟩:=h3 i (oid j) b (by simp [hj]) hb
  obtain ⟨j',p,q1,q2,q3⟩:=H0 s1
  have:=T7 q2
  subst this
  obtain ⟨r1,r2⟩:=hl j p q1
  have:∃ e' cs',iO ds ι vr j p=.box e' cs':=by
   cases p with
   |box e' ps=>exact ⟨_,_,rfl⟩
   |row k=>simp only [iO] at q3 ⊢;split<;>rename_i hk<;>first|exact ⟨_,_,rfl⟩|(rw [hk] at q3;cases q3)
   |map k=>simp only [iO] at q3 ⊢;split<;>rename_i hk<;>first|exact ⟨_,_,rfl⟩|(rw [hk] at q3;cases q3)
   |loop k=>simp only [iO] at q3 ⊢;split<;>rename_i hk<;>first|exact ⟨_,_,rfl⟩|(rw [hk] at q3;cases q3)
   |dp k ms=>simp only [iO] at q3 ⊢;split<;>rename_i hk<;>first|exact ⟨_,_,rfl⟩|(rw [hk] at q3;cases q3)
   |ms k=>simp only [iO] at q3 ⊢;split<;>rename_i hk<;>first|exact ⟨_,_,rfl⟩|(rw [hk] at q3;cases q3)
  obtain ⟨e',cs',hx⟩:=this
  exact ⟨e',cs',r1.trans (by rw [hx]),r2.trans s2⟩
 |yld j=>
  obtain ⟨st,h1,h3⟩:=hc
  obtain ⟨j',p,q1,q2,q3⟩:=H0 h1
  have:=T7 q2
  subst this
  obtain ⟨r1,r2⟩:=hl j p q1
  cases p with
  |loop k=>
   simp only [iO] at q3 r1
   split at q3
   ·rename_i x st' hk
    rw [hk] at r1
    exact ⟨_,r1,h3.trans r2.symm⟩
   ·cases q3
  |box e' ps=>simp [iO] at q3
  |row k=>simp only [iO] at q3;split at q3<;>cases q3
  |map k=>simp only [iO] at q3;split at q3<;>cases q3
  |dp k ms=>simp only [iO] at q3;split at q3<;>cases q3
  |ms k=>simp only [iO] at q3;split at q3<;>cases q3
 |fn f=>exact hc
 |nil=>exact hc
 |dp j=>
  obtain ⟨D,h1,h3⟩:=hc
  obtain ⟨j',p,q1,q2,q3⟩:=H0 h1
  have:=T7 q2
  subst this
  obtain ⟨r1,r2⟩:=hl j p q1
  cases p with
  |dp k ms=>
   simp only [iO] at q3 r1
   split at q3
   ·rename_i e t l hk
    rw [hk] at r1
    simp only [Ob.dp.injEq] at q3
    subst q3
    refine ⟨_,r1,Nat.le_refl _,fun _=>?_⟩
    rw [r2]
    exact h3.2 rfl
   ·cases q3
  |box e' ps=>simp [iO] at q3
  |row k=>simp only [iO] at q3;split at q3<;>cases q3
  |map k=>simp only [iO] at q3;split at q3<;>cases q3
  |loop k=>simp only [iO] at q3;split at q3<;>cases q3
  |ms k=>
   simp only [iO] at q3 r1
   split at q3
   ·rename_i kt e t l hk
    rw [hk] at r1
    simp only [Ob.dp.injEq] at q3
    subst q3
    refine ⟨_,r1,Nat.le_refl _,fun _=>?_⟩
    rw [r2]
    exact h3.2 rfl
   ·cases q3
 |ms j=>
  obtain ⟨D,h1,h3⟩:=hc
  obtain ⟨j',p,q1,q2,q3⟩:=H0 h1
  have:=T7 q2
  subst this
  obtain ⟨r1,r2⟩:=hl j p q1
  cases p with
  |dp k ms=>
   simp only [iO] at q3 r1
   split at q3
   ·rename_i e t l hk
    rw [hk] at r1
    simp only [Ob.dp.injEq] at q3
    subst q3
    refine ⟨_,r1,Nat.le_refl _,fun _=>?_⟩
    rw [r2]
    exact h3.2 rfl
   ·cases q3
  |ms k=>
   simp only [iO] at q3 r1
   split at q3
   ·rename_i kt e t l hk
    rw [hk] at r1
    simp only [Ob.dp.injEq] at q3
    subst q3
    refine ⟨_,r1,Nat.le_refl _,fun _=>?_⟩
    rw [r2]
    exact h3.2 rfl
   ·cases q3
  |box e' ps=>simp [iO] at q3
  |row k=>simp only [iO] at q3;split at q3<;>cases q3
  |map k=>simp only [iO] at q3;split at q3<;>cases q3
  |loop k=>simp only [iO] at q3;split at q3<;>cases q3
theorem aZ7 {w:World} {β β2:Nm} {h h2:Obs U} {ds:List (Datum U)} {os:List OPat} {ι vr:Nat→Nat} (hLive:∀ b,Live β2 h2 b→Live β (E6 ds os) b)
  (hl:∀ (j:Nat) (p:OPat),os[j]? =some p→look (ι j) h2=some (iO ds ι vr j p)∧β2 (ι j)=β (oid j)) {ps:List CPat} {vs:List Value} (hc:CsRel w β (E6 ds os) (ps.map (iC ds oid (fun _=>0))) vs):
  CsRel w β2 h2 (ps.map (iC ds ι vr)) vs:=by
 refine ⟨by simpa using hc.1,hc.2.1,fun j c v hj hv=>?_⟩
 simp only [cp9,cp1] at hj
 obtain ⟨p,hp,rfl⟩:=hj
 exact bR5 (h:=h) hLive hl (hc.2.2 j _ v (by simp [hp]) hv)
theorem cb3 {B:Nat} {w:World} {β β2:Nm} {h2:Obs U} {ds:List (Datum U)} {os:List OPat} {ι vr:Nat→Nat} (hLive:∀ b,Live β2 h2 b→Live β (E6 ds os) b)
  (hl:∀ (j:Nat) (p:OPat),os[j]? =some p→look (ι j) h2=some (iO ds ι vr j p)∧β2 (ι j)=β (oid j)) {j:Nat} {p:OPat} (hlp:β2.lp (ι j)=β.lp (oid j)) (hv:β2 (ι j)=β (oid j))
  (r:ORel B w β (E6 ds os) (oid j) (iO ds oid (fun _=>0) j p)):ORel B w β2 h2 (ι j) (iO ds ι vr j p):=by
 have hrep:∀ {d:Datum U} {v:Value},Rep U w (Live β (E6 ds os)) d v→Rep U w (Live β2 h2) d v:=fun r=>r.mono (Nat.le_refl _) (fun _ _ _=>rfl) (fun b _ hb=>hLive b hb)
 have hbox:∀ {e:TypeId} {ps:List CPat},ORel B w β (E6 ds os) (oid j) (.box e (ps.map (iC ds oid (fun _=>0))))→ORel B w β2 h2 (ι j) (.box e (ps.map (iC ds ι vr))):=by
  intro e ps r
  obtain ⟨b,vs,r1,r2,r3,r4⟩:=r
  exact ⟨b,vs,hv.trans r1,r2,r3,aZ7 (h:=h2) hLive hl r4⟩
 cases p with
 |box e ps=>exact hbox r
 |row k=>
  simp only [iO] at r ⊢
  split
  ·rename_i e t l hk
   rw [hk] at r
   obtain ⟨xs,r1,r2,r3,r4⟩:=r
   refine ⟨xs,by rw [hv];exact r1,r2,r3,fun i x hx j' d hd=>?_⟩
   obtain ⟨u,hu,hr⟩:=r4 i x hx j' d hd
   exact ⟨u,hu,hrep hr⟩
  ·rename_i hk
   split at r
   ·rename_i hk2;exact absurd hk2 (hk _ _ _)
   ·exact hbox (ps:=[]) r
 |map k=>
  simp only [iO] at r ⊢
  split
  ·rename_i e t l hk
   rw [hk] at r
   obtain ⟨b,es,clock,r1,r2,r3,r4,r5⟩:=r
   refine ⟨b,es,clock,hv.trans r1,r2,r3,r4,fun i x y hx hy=>?_⟩
   obtain ⟨s1,s2⟩:=r5 i x y hx hy
   exact ⟨s1.mono (Nat.le_refl _) (fun _ _ _=>rfl) (fun b _ hb=>hLive b hb),s2.mono (Nat.le_refl _) (fun _ _ _=>rfl) (fun b _ hb=>hLive b hb)⟩
  ·rename_i hk
   split at r
   ·rename_i hk2;exact absurd hk2 (hk _ _ _)
   ·exact hbox (ps:=[]) r
 |loop k=>
  simp only [iO] at r ⊢
  split
  ·rename_i e st hk
   rw [hk] at r
   obtain ⟨b,r0,r1,r2,r3,r4⟩:=r
   exact ⟨b,r0,hv.trans r1,r2,r3,by rw [hlp];exact r4⟩
  ·rename_i hk
   split at r
   ·rename_i hk2;exact absurd hk2 (hk _ _)
   ·exact hbox (ps:=[]) r
 |dp k ms=>
  simp only [iO] at r ⊢
  split
  ·rename_i e t l hk
   rw [hk] at r
   show DRel B w β2 h2 (.rows e t ms l (vr j) (vr j) true none) (β2 (ι j))
   rw [hv]
   exact DRel.mapR (fun d v r=>hrep r) (fun _ _=>rfl) (show DRel B w β (E6 ds os) (.rows e t ms l 0 0 true none) (β (oid j)) from r)
  ·rename_i hk
   split at r
   ·rename_i hk2;exact absurd hk2 (hk _ _ _)
   ·exact hbox (ps:=[]) r
 |ms k=>
  simp only [iO] at r ⊢
  split
  ·rename_i kt e t l hk
   rw [hk] at r
   show DRel B w β2 h2 (.maps kt e t l (vr j) (vr j) true none) (β2 (ι j))
   rw [hv]
   exact DRel.mapM (fun d v r=>hrep r) (fun _ _=>rfl) (show DRel B w β (E6 ds os) (.maps kt e t l 0 0 true none) (β (oid j)) from r)
  ·rename_i hk
   split at r
   ·rename_i hk2;exact absurd hk2 (hk _ _ _ _)
   ·exact hbox (ps:=[]) r
end
end Go.VT
end
section
namespace Go.VT
noncomputable section
open Go.RowKit
variable {U:Univ} {E:Env U} {F:Fr} {n:Nat} {β:Nm} {s:St U} {ρ:Operand→Value} {tmps:Array Value} {w:World} {o:Oper} {e:Eff U} {h g:Obs U}
theorem aZ8:∀ {l:List (Nat×Nat)},bv2 l=true→∀ {j j' id:Nat},look j l=some id→look j' l=some id→j=j'
 |[],_,_,_,_,h,_=>by simp [look] at h
 |(i,b)::r,ho,j,j',id,h1,h2=>by
  simp only [bv2,co7] at ho
  have hno:∀ k,look k r=some b→False:=fun k hk=>by
   have:=cr4.1 ho.1 _ (ac3 hk)
   simp at this
  simp only [look] at h1 h2
  split at h1
  ·rename_i hb1
   simp only [co4] at h1
   subst h1
   split at h2
   ·rename_i hb2
    rw [←co5 hb1,←co5 hb2]
   ·exact (hno _ h2).elim
  ·split at h2
   ·simp only [co4] at h2
    subst h2
    exact (hno _ h1).elim
   ·exact aZ8 ho.2 h1 h2
theorem ac5 (k:Ok F w β h) (hg:∀ id o,look id g=some o→look id h=some o) {K:Con U} {cs:List (Cell U)} {xs:Dens U.T K.params} {m:Mt U} (hm:ao8 g K cs=some (xs,m)):
  Matched F w β h g K.params K.oin (A9 U K.params xs) m∧av8 K.params K.tys K.oin K.oout=true∧cs.length=K.ain.length∧(∀ (i:Nat) (p:CPat) (c:Cell U),K.ain[i]? =some p→cs[i]? =some c→CMatch h g K.params m p c)∧
  ∀ (i:Nat) (p:OPat),K.oin[i]? =some p→∃ id o,look i m.ι=some id∧look id g=some o∧look id h=some o∧OMatch h g K.params m p o:=by
 unfold ao8 bD9 at hm
 split at hm
 case h_2=>cases hm
 rename_i m1 h1
 obtain ⟨hgh,h1⟩:bv2 K.gh=true∧mCs g K.params K.ain cs ⟨K.gh,[],[]⟩=some m1:=by
  revert h1
  cases bv2 K.gh with
  |false=>intro h1;cases h1
  |true=>intro h1;exact ⟨rfl,h1⟩
 split at hm
 case h_2=>cases hm
 rename_i m2 h2
 revert hm
 cases hc:((m2.ι.all fun x=>Nat.blt x.1 K.oin.length)&&av8 K.params K.tys K.oin K.oout&&!(Z8 (m2.ι.map (·.2)) (keys m2.u))) with
 |false=>intro hm;cases hm
 |true=>
  intro hm
  simp only [cond_true] at hm
  simp only [co7,Bool.not_eq_true'] at hc
  obtain ⟨⟨c1,c2⟩,c3⟩:=hc
  split at hm
  case h_2=>cases hm
  rename_i ds hds
  split at hm
  case h_2=>cases hm
  rename_i ys hys
  simp only [co4,cp6] at hm
  obtain ⟨rfl,rfl⟩:=hm
  obtain ⟨a1,a2,a3,a4,a5⟩:=aA0 hg h1 (fun id o hh=>by simp at hh)
  obtain ⟨b1,b2,b3,b4⟩:=aS3 hg h2 a2
  have hds2:=ao0 hys
  obtain ⟨d1,d2⟩:=am2 hds
  have hlt:∀ j id,look j m2.ι=some id→j<K.oin.length:=fun j id hj=>cq7 (cr4.1 c1 _ (ac3 hj))
  refine ⟨⟨k,hg,b2,b3 (a3 (fun j j' id q1 q2=>aZ8 hgh q1 q2)),hlt,fun i p hp=>?_,fun j id hj o ho=>?_,fun i x t ht hx=>?_⟩,c2,a4,fun i p c hp hcc=>(a5 i p c hp hcc).le b1,fun i p hp=>?_⟩
  ·obtain ⟨id,o,q1,q2,q3,q4⟩:=b4 i p hp
   exact ⟨id,o,by simpa using q1,q3,q4⟩
  ·have:Z8 (m2.ι.map (·.2)) (keys m2.u)=true:=by
    simp only [Z8,List.any_eq_true]
    exact ⟨id,List.mem_map.2 ⟨_,ac3 hj,rfl⟩,id,by simp only [keys,List.mem_map];exact ⟨_,ho,rfl⟩,Nat.beq_refl id⟩
   rw [c3] at this
   cases this
  ·rw [←hds2]
   have hil:i<K.params.length:=(co9.1 ht).1
   rw [d2 i hil,Nat.zero_add]
   exact hx
  ·obtain ⟨id,o,q⟩:=b4 i p hp
   exact ⟨id,o,by simpa using q⟩
theorem aZ9 {m:Mt U} {dst:Option Tmp} {n j id:Nat} (h:look j m.ι=some id):ae7 m dst n j=id:=by simp [ae7,h]
theorem aA2 {ds:List (Datum U)} {ι vr:Nat→Nat} {j:Nat} {p:OPat} (h:p.isRow=false):(iO ds ι vr j p).isRow=false:=by
 cases p with
 |box e ps=>rfl
 |row k=>cases h
 |map k=>
  simp only [iO]
  generalize ds[k]? =x
  rcases x with _|⟨t,d⟩
  ·rfl
  ·cases t<;>rfl
 |loop k=>
  simp only [iO]
  generalize ds[k]? =x
  rcases x with _|⟨t,d⟩
  ·rfl
  ·cases t<;>rfl
 |dp k ms=>cases h
 |ms k=>cases h
theorem bG2 {ds:List (Datum U)} {ι vr ι' vr':Nat→Nat} {j:Nat} {p:OPat} (h:(iO ds ι vr j p).isRow=false):(iO ds ι' vr' j p).isRow=false:=by
 cases p with
 |row k=>
  simp only [iO] at h ⊢
  revert h
  generalize ds[k]? =x
  rcases x with _|⟨t,d⟩
  ·exact fun _=>rfl
  ·cases t<;>first|exact fun _=>rfl|(intro h;cases h)
 |dp k ms=>
  simp only [iO] at h ⊢
  revert h
  generalize ds[k]? =x
  rcases x with _|⟨t,d⟩
  ·exact fun _=>rfl
  ·cases t<;>first|exact fun _=>rfl|(intro h;cases h)
 |ms k=>
  simp only [iO] at h ⊢
  revert h
  generalize ds[k]? =x
  rcases x with _|⟨t,d⟩
  ·exact fun _=>rfl
  ·cases t with
   |map a b=>cases b<;>first|exact fun _=>rfl|(intro h;cases h)
   |_=>exact fun _=>rfl
 |box=>exact aA2 rfl
 |map=>exact aA2 rfl
 |loop=>exact aA2 rfl
set_option maxHeartbeats 2000000 in
theorem bw0 {tys:List Ty} {os oout:List OPat} {ds ds':List (Datum U)} {m:Mt U} (G:Matched F w β h g tys os ds m) {tys':List Ty} (hty:∀ (k:Nat) (d:Datum U),ds[k]? =some d→tys[k]? =some d.1) (hty':∀ (k:Nat) (d:Datum U),ds'[k]? =some d→tys'[k]? =some d.1) (htyn:∀ (k:Nat) (t:Ty),tys'[k]? =some t→∃ d,ds'[k]? =some d)
  (hlike:av8 tys tys' os oout=true) (hgo:∀ (i:Nat) (p:OPat),os[i]? =some p→∃ id o,look i m.ι=some id∧look id g=some o∧look id h=some o∧OMatch h g tys m p o)
  {dst:Option Tmp} (hnew:∀ j,j<oout.length-os.length→look (B5 dst j) h=none∧B5 dst j<1000000)
  {w':World} {β2:Nm} (k2:Ok (frOf F w β h m) w' β2 (E6 ds' oout)):
  ∃ β3,After F w β h w' β3 (upds (upds h m.u) (iOs ds' (ae7 m dst os.length) (aK2 g m) 0 oout))∧
   ∀ (ps:List CPat) (vs:List Value),CsRel w' β2 (E6 ds' oout) (ps.map (iC ds' oid (fun _=>0))) vs→CsRel w' β3 (upds (upds h m.u) (iOs ds' (ae7 m dst os.length) (aK2 g m) 0 oout)) (ps.map (iC ds' (ae7 m dst os.length) (aK2 g m))) vs:=by
 have A1:=I3 G.k G.hf
 have k1:=A1.ok
 have hlen:os.length≤oout.length:=by
  by_cases h0:os.length=0
  ·omega
  ·obtain ⟨q,hq,_⟩:=ac4 hlike (os.length-1) os[os.length-1] (co6 (by omega))
   have:=(co9.1 hq).1
   omega
 generalize hι:ae7 m dst os.length=ι
 generalize hvr:aK2 g m=vr
 have hin:∀ j,j<os.length→∃ id o,look j m.ι=some id∧look id g=some o∧look id h=some o∧OMatch h g tys m os[j]! o∧ι j=id:=by
  intro j hj
  obtain ⟨id,o,q1,q2,q3,q4⟩:=hgo j os[j] (co6 hj)
  exact ⟨id,o,q1,q2,q3,by rw [getElem!_pos os j hj];exact q4,by rw [←hι];exact aZ9 q1⟩
 have hout:∀ j,os.length≤j→ι j=B5 dst (j-os.length):=by
  intro j hj
  rw [←hι]
  unfold ae7
  split
  ·rename_i id hid;have:=G.lt j id hid;omega
  ·rfl
 have hI:∀ i j,i<oout.length→j<oout.length→ι i=ι j→i=j:=by
  intro i j hi hj hij
  by_cases h1:i<os.length<;>by_cases h2:j<os.length
  ·obtain ⟨id,o,q1,_,_,_,q5⟩:=hin i h1
   obtain ⟨id',o',r1,_,_,_,r5⟩:=hin j h2
   rw [q5,r5] at hij
   subst hij
   exact G.inj i j id q1 r1
  ·obtain ⟨id,o,q1,_,q3,_,q5⟩:=hin i h1
   rw [q5,hout j (by omega)] at hij
   have:=(hnew (j-os.length) (by omega)).1
   rw [←hij,q3] at this
   cases this
  ·obtain ⟨id,o,q1,_,q3,_,q5⟩:=hin j h2
   rw [q5,hout i (by omega)] at hij
   have:=(hnew (i-os.length) (by omega)).1
   rw [hij,q3] at this
   cases this
  ·rw [hout i (by omega),hout j (by omega)] at hij
   have h3:∀ k,B5 dst k=B5 dst 0+k:=bi2 dst
   rw [h3 (i-os.length),h3 (j-os.length)] at hij
   omega
 have hnd:((iOs ds' ι vr 0 oout).map (·.1)).Nodup:=by
  rw [bq8]
  rw [List.nodup_iff_pairwise_ne,List.pairwise_map]
  have:(List.range' 0 oout.length).Pairwise (fun a b=>a<b):=List.pairwise_lt_range'
  refine (List.Pairwise.imp_of_mem ?_ this)
  intro a b ha hb hab hh
  have ha:=(List.mem_range'_1.1 ha).2
  have hb:=(List.mem_range'_1.1 hb).2
  have:=hI a b (by omega) (by omega) hh
  omega
 generalize hh1:upds h m.u=h1 at*
 generalize hh3:upds h1 (iOs ds' ι vr 0 oout)=h3
 have hlook:∀ (j:Nat) (p:OPat),oout[j]? =some p→look (ι j) h3=some (iO ds' ι vr j p):=by
  intro j p hp
  rw [←hh3]
  have:=bi5 (ds:=ds') (ι:=ι) (vr:=vr) (os:=oout) (j0:=0) (i:=j) hp
  rw [Nat.zero_add] at this
  exact aL6 hnd this
 have hold:∀ id,(∀ j,j<oout.length→ι j≠id)→look id h3=look id h1:=by
  intro id hid
  rw [←hh3]
  refine B7 (fun o ho=>?_)
  obtain ⟨i,p,q1,q2,q3⟩:=bi3 ho
  exact hid i (co9.1 q1).1 (by rw [q2,Nat.zero_add])
 have hcase:∀ id o,look id h3=some o→(∃ j p,j<oout.length∧oout[j]? =some p∧id=ι j∧o=iO ds' ι vr j p)∨((∀ j,j<oout.length→ι j≠id)∧look id h1=some o):=by
  intro id o hl
  by_cases hex:∃ j,j<oout.length∧ι j=id
  ·obtain ⟨j,hj,rfl⟩:=hex
   have:=hlook j oout[j] (co6 hj)
   rw [this] at hl
   simp only [co4] at hl
   exact .inl ⟨j,oout[j],hj,co6 hj,rfl,hl.symm⟩
  ·have hno:∀ j,j<oout.length→ι j≠id:=fun j hj hh=>hex ⟨j,hj,hh⟩
   rw [hold id hno] at hl
   exact .inr ⟨hno,hl⟩
 let β3:=cn5 β β2 ι oout.length
 have hβin:∀ j,j<oout.length→β3 (ι j)=β2 (oid j):=fun j hj=>bG1 hI hj
 have hlpin:∀ j,j<oout.length→β3.lp (ι j)=β2.lp (oid j):=fun j hj=>bG1 hI hj
 have hβout:∀ id,(∀ j,j<oout.length→ι j≠id)→β3 id=β id:=fun id hid=>bq7 hid
 have hlpout:∀ id,(∀ j,j<oout.length→ι j≠id)→β3.lp id=β.lp id:=fun id hid=>bq7 hid
 have hM3:β3.M=β.M:=rfl
 have hkeep:∀ j id,look j m.ι=some id→look id h1=look id h:=fun j id hj=>by rw [←hh1];exact G.keep hj
 have hsz:w.heap.size≤w'.heap.size:=k2.bel.size
 have hw0:F.w0.heap.size≤w.heap.size:=k1.bel.size
 --the blocks that are given
 have hK:∀ b,kb β m b→∃ j id o,look j m.ι=some id∧look id h1=some o∧o.live=true∧Has (β id) b:=by
  rintro b ⟨j,id,q1,q2⟩
  obtain ⟨p,o,r1,r2,r3⟩:=G.at_ q1
  exact ⟨j,id,o,q1,(hkeep j id q1).trans r2,r3.live,q2⟩
 have hKo:∀ b,kb β m b→Own β h1 b:=fun b hb=>by
  obtain ⟨j,id,o,q1,q2,q3,q4⟩:=hK b hb
  exact ⟨id,o,q2,q3,q4⟩
 have hfrm:∀ b,b<w.heap.size→¬ kb β m b→w'.heap[b]? =w.heap[b]? :=k2.frm
 have hM2:β2.M=fun b=>Live β h1 b∧¬ kb β m b:=by have:=k2.Meq;simp only [frOf,hh1] at this;exact this
 have hno_old:∀ id o b,(∀ j,j<oout.length→ι j≠id)→look id h1=some o→Has (β id) b→¬ kb β m b:=by
  intro id o b hid hl hb hk
  obtain ⟨j,id',o',q1,q2,q3,q4⟩:=hK b hk
  have:=k1.dis id o id' o' b hl q2 hb q4
  subst this
  have hj:=G.lt j _ q1
  obtain ⟨id2,o2,r1,_,_,_,r5⟩:=hin j hj
  rw [q1] at r1
  simp only [co4] at r1
  exact hid j (by omega) (r5.trans r1.symm)
 --objects that came in,and how they are
 have hinout:∀ j,j<os.length→∃ id o q,look j m.ι=some id∧ι j=id∧look id g=some o∧look id h1=some o∧OMatch h g tys m os[j]! o∧oout[j]? =some q∧H2 tys tys' os[j]! q=true:=by
  intro j hj
  obtain ⟨id,o,q1,q2,q3,q4,q5⟩:=hin j hj
  obtain ⟨q,r1,r2⟩:=ac4 hlike j os[j] (co6 hj)
  exact ⟨id,o,q,q1,q5,q2,(hkeep j id q1).trans q3,q4,r1,by rw [getElem!_pos os j hj];exact r2⟩
 have hfix:∀ j,j<os.length→∀ id o,look j m.ι=some id→look id h1=some o→o.isRow=false→∀ q,oout[j]? =some q→(iO ds' oid (fun _=>0) j q).isRow=false→β2 (oid j)=β id∧β2.lp (oid j)=β.lp id:=by
  intro j hj id o h1' h2' h3' q hq hqr
  have hnm:(frOf F w β h m).nm (oid j)=some (β id,β.lp id):=by
   simp only [frOf,nmOf,oid]
   rw [if_pos (by omega),Nat.add_sub_cancel_left,h1']
   rw [hkeep j id h1'] at h2'
   simp only [h2',h3']
   rfl
  have:=k2.fix (oid j) _ _ (D6 hq) hnm
  rw [hqr] at this
  rcases this with h5|h5
  ·cases h5
  ·simp only [cp6] at h5
   exact h5
 have ext:Ext w β h1 w' β3 h3:=by
  refine ⟨hsz,fun b hb hn=>hfrm b hb (fun hk=>hn (hKo b hk)),?_,hM3,fun id e cs hl=>?_,fun id e t l ver lv hl=>?_,fun id o hl ho=>?_,fun id D hl=>?_⟩
  ·rintro b hb ⟨id,o,q1,q2,q3⟩
   rcases hcase id o q1 with ⟨j,p,r1,r2,rfl,r4⟩|⟨r1,r2⟩
   ·rw [hβin j r1] at q3
    rcases k2.own (oid j) _ b (D6 r2) q3 with h5|h5
    ·exact hKo b h5
    ·exact absurd hb (Nat.not_lt.2 h5)
   ·rw [hβout id r1] at q3
    exact ⟨id,o,r2,q2,q3⟩
  ·by_cases hex:∃ j,j<oout.length∧ι j=id
   ·obtain ⟨j,hj,rfl⟩:=hex
    by_cases hjo:j<os.length
    ·obtain ⟨id',o',q,r1,r2,r3,r4,r5,r6,r7⟩:=hinout j hjo
     rw [r2] at hl ⊢
     rw [hl] at r4
     simp only [co4] at r4
     subst r4
     obtain ⟨e2,ps2,hp2⟩:∃ e2 ps2,os[j]! =.box e2 ps2:=by
      cases hp:os[j]! with
      |box e2 ps2=>exact ⟨_,_,rfl⟩
      |row k=>rw [hp] at r5;obtain ⟨_,_,_,_,s1,_⟩:=r5;cases s1
      |map k=>rw [hp] at r5;obtain ⟨_,_,_,s1,_⟩:=r5;cases s1
      |loop k=>rw [hp] at r5;obtain ⟨_,s1,_⟩:=r5;cases s1
      |dp k ms=>rw [hp] at r5;obtain ⟨_,_,_,_,_,s1,_⟩:=r5;cases s1
      |ms k=>rw [hp] at r5;obtain ⟨_,_,_,_,_,_,s1,_⟩:=r5;cases s1
     rw [hp2] at r5 r7
     obtain ⟨cs2,s1,_⟩:=r5
     simp only [Ob.box.injEq] at s1
     obtain ⟨rfl,rfl⟩:=s1
     cases q with
     |box e3 ps3=>
      have he:=co5 r7
      subst he
      obtain ⟨f1,f2⟩:=hfix j hjo id' _ r1 hl rfl _ r6 rfl
      refine ⟨?_,ps3.map (iC ds' ι vr),?_⟩
      rotate_left
      ·rw [←r2];exact hlook j _ r6
      ·rw [←f1,←r2];exact hβin j hj
     |row k=>simp [H2] at r7
     |map k=>simp [H2] at r7
     |loop k=>simp [H2] at r7
     |dp k ms=>simp [H2] at r7
     |ms k=>simp [H2] at r7
    ·have:=(hnew (j-os.length) (by omega)).1
     rw [hout j (by omega)] at hl
     rw [←hh1,G.hf.none this] at hl
     cases hl
   ·have hno:∀ j,j<oout.length→ι j≠id:=fun j hj hh=>hex ⟨j,hj,hh⟩
    exact ⟨hβout id hno,cs,(hold id hno).trans hl⟩
  ·by_cases hex:∃ j,j<oout.length∧ι j=id
   ·obtain ⟨j,hj,rfl⟩:=hex
    by_cases hjo:j<os.length
    ·obtain ⟨id',o',q,r1,r2,r3,r4,r5,r6,r7⟩:=hinout j hjo
     rw [r2] at hl ⊢
     rw [hl] at r4
     simp only [co4] at r4
     subst r4
     obtain ⟨k2',hp2⟩:∃ k2,os[j]! =.row k2:=by
      cases hp:os[j]! with
      |row k=>exact ⟨_,rfl⟩
      |box e2 ps2=>rw [hp] at r5;obtain ⟨_,s1,_⟩:=r5;cases s1
      |map k=>rw [hp] at r5;obtain ⟨_,_,_,s1,_⟩:=r5;cases s1
      |loop k=>rw [hp] at r5;obtain ⟨_,s1,_⟩:=r5;cases s1
      |dp k ms=>rw [hp] at r5;obtain ⟨_,_,_,_,_,s1,_⟩:=r5;cases s1
      |ms k=>rw [hp] at r5;obtain ⟨_,_,_,_,_,_,s1,_⟩:=r5;cases s1
     rw [hp2] at r5 r7
     obtain ⟨e5,t5,l5,ver5,s1,s2,s3⟩:=r5
     simp only [Ob.row.injEq] at s1
     obtain ⟨rfl,rfl,s4,rfl,rfl⟩:=s1
     cases q with
     |row k3=>
      simp only [H2,beq_iff_eq] at r7
      rw [s2] at r7
      obtain ⟨d,hd⟩:=htyn k3 _ r7.symm
      have hdt:=hty' k3 d hd
      rw [←r7] at hdt
      simp only [co4] at hdt
      obtain ⟨d1,d2⟩:=d
      simp only at hdt
      subst hdt
      have hver:vr j=ver+1:=by
       rw [←hvr]
       simp [aK2,r1,bQ7,r3]
      have hl3:=hlook j _ r6
      simp only [iO,hd] at hl3
      rw [r2] at hl3
      exact ⟨d2,vr j,true,hl3,by omega,fun hh=>by omega⟩
     |box e3 ps3=>simp [H2] at r7
     |map k=>simp [H2] at r7
     |loop k=>simp [H2] at r7
     |dp k ms=>simp [H2] at r7
     |ms k=>simp [H2] at r7
    ·have:=(hnew (j-os.length) (by omega)).1
     rw [hout j (by omega)] at hl
     rw [←hh1,G.hf.none this] at hl
     cases hl
   ·have hno:∀ j,j<oout.length→ι j≠id:=fun j hj hh=>hex ⟨j,hj,hh⟩
    exact ⟨l,ver,lv,(hold id hno).trans hl,Nat.le_refl _,fun _=>⟨hβout id hno,rfl⟩⟩
  ·by_cases hex:∃ j,j<oout.length∧ι j=id
   ·obtain ⟨j,hj,rfl⟩:=hex
    by_cases hjo:j<os.length
    ·obtain ⟨id',o',q,r1,r2,r3,r4,r5,r6,r7⟩:=hinout j hjo
     rw [r2] at hl ⊢
     rw [hl] at r4
     simp only [co4] at r4
     subst r4
     have hres:∃ oo,look id' h3=some oo∧Ob.like o oo∧(iO ds' oid (fun _=>0) j q).isRow=false:=by
      rw [←r2,hlook j _ r6]
      cases hp:os[j]! with
      |box e2 ps2=>rw [hp] at r5;obtain ⟨_,s1,_⟩:=r5;rw [s1] at ho;simp [Ob.oth] at ho
      |row k=>rw [hp] at r5;obtain ⟨_,_,_,_,s1,_⟩:=r5;rw [s1] at ho;simp [Ob.oth] at ho
      |map k=>
       rw [hp] at r5 r7
       obtain ⟨kt,vt,l,s1,s2,s3⟩:=r5
       cases q with
       |map k3=>
        simp only [H2,beq_iff_eq] at r7
        rw [s2] at r7
        obtain ⟨d,hd⟩:=htyn k3 _ r7.symm
        have hdt:=hty' k3 d hd
        rw [←r7] at hdt
        simp only [co4] at hdt
        obtain ⟨d1,d2⟩:=d
        simp only at hdt
        subst hdt
        subst s1
        simp only [iO,hd]
        refine ⟨_,rfl,⟨rfl,rfl⟩,rfl⟩
       |box e3 ps3=>simp [H2] at r7
       |row k=>simp [H2] at r7
       |loop k=>simp [H2] at r7
       |dp k ms=>simp [H2] at r7
       |ms k=>simp [H2] at r7
      |dp k ms=>rw [hp] at r5;obtain ⟨_,_,_,_,_,s1,_⟩:=r5;rw [s1] at ho;simp [Ob.oth] at ho
      |ms k=>rw [hp] at r5;obtain ⟨_,_,_,_,_,_,s1,_⟩:=r5;rw [s1] at ho;simp [Ob.oth] at ho
      |loop k=>
       rw [hp] at r5 r7
       obtain ⟨st,s1,s2,s3⟩:=r5
       cases q with
       |loop k3=>
        subst s1
        have hl0:=D6 (ds:=ds') r6
        have hbad:ORel F.B w' β2 (E6 ds' oout) (oid j) _:=k2.obj (oid j) _ hl0
        simp only [iO] at hbad ⊢
        split
        ·exact ⟨_,rfl,trivial,rfl⟩
        ·rename_i hk
         exfalso
         --a loop that is no loop any more cannot bear the loop's name
         split at hbad
         ·rename_i hk2;exact absurd hk2 (hk _ _)
         ·rename_i hk2
          obtain ⟨b5,vs5,t1,t2,t3,_⟩:=hbad
          have hrow:(iO ds' oid (fun _=>0) j (.loop k3)).isRow=false:=aA2 rfl
          have:=(hfix j hjo id' _ r1 hl rfl _ r6 hrow).1
          rw [this] at t1
          have ho1:=k1.obj id' _ hl
          obtain ⟨b6,r6',u1,u2,u3,u4⟩:=ho1
          rw [u1] at t1
          cases t1
       |box e3 ps3=>simp [H2] at r7
       |row k=>simp [H2] at r7
       |map k=>simp [H2] at r7
       |dp k ms=>simp [H2] at r7
       |ms k=>simp [H2] at r7
     obtain ⟨oo,h5,h6,h7⟩:=hres
     have hor:o.isRow=false:=by cases o<;>simp_all [Ob.oth,Ob.isRow]
     obtain ⟨f1,f2⟩:=hfix j hjo id' _ r1 hl hor _ r6 h7
     exact ⟨by rw [←f1,←r2];exact hβin j hj,by rw [←f2,←r2];exact hlpin j hj,oo,h5,h6⟩
    ·have:=(hnew (j-os.length) (by omega)).1
     rw [hout j (by omega)] at hl
     rw [←hh1,G.hf.none this] at hl
     cases hl
   ·have hno:∀ j,j<oout.length→ι j≠id:=fun j hj hh=>hex ⟨j,hj,hh⟩
    exact ⟨hβout id hno,hlpout id hno,o,(hold id hno).trans hl,Ob.like_refl ho⟩
  ·by_cases hex:∃ j,j<oout.length∧ι j=id
   ·obtain ⟨j,hj,rfl⟩:=hex
    by_cases hjo:j<os.length
    ·obtain ⟨id',o',q,r1,r2,r3,r4,r5,r6,r7⟩:=hinout j hjo
     rw [r2] at hl ⊢
     rw [hl] at r4
     simp only [co4] at r4
     subst r4
     rcases (show (∃ k2 ms2,os[j]! =.dp k2 ms2)∨∃ k2,os[j]! =.ms k2 by
      cases hp:os[j]! with
      |dp k ms=>exact .inl ⟨_,_,rfl⟩
      |ms k=>exact .inr ⟨_,rfl⟩
      |box e2 ps2=>rw [hp] at r5;obtain ⟨_,s1,_⟩:=r5;cases s1
      |row k=>rw [hp] at r5;obtain ⟨_,_,_,_,s1,_⟩:=r5;cases s1
      |map k=>rw [hp] at r5;obtain ⟨_,_,_,s1,_⟩:=r5;cases s1
      |loop k=>rw [hp] at r5;obtain ⟨_,s1,_⟩:=r5;cases s1) with ⟨k2',ms2',hp2⟩|⟨k2',hp2⟩
     ·rw [hp2] at r5 r7
      obtain ⟨e5,t5,l5,ver5,iv5,s1,s2,s3⟩:=r5
      simp only [Ob.dp.injEq] at s1
      subst s1
      cases q with
      |dp k3 ms3=>
       simp only [H2,co7,beq_iff_eq] at r7
       obtain ⟨r7,rfl⟩:=r7
       rw [s2] at r7
       obtain ⟨d,hd⟩:=htyn k3 _ r7.symm
       have hdt:=hty' k3 d hd
       rw [←r7] at hdt
       simp only [co4] at hdt
       obtain ⟨d1,d2⟩:=d
       simp only at hdt
       subst hdt
       have hver:vr j=Nat.max ver5 iv5+1:=by
        rw [←hvr]
        simp [aK2,r1,bQ7,r3]
       have hv1:ver5≤Nat.max ver5 iv5:=Nat.le_max_left _ _
       have hv2:iv5≤Nat.max ver5 iv5:=Nat.le_max_right _ _
       have hl3:=hlook j _ r6
       simp only [iO,hd] at hl3
       rw [r2] at hl3
       refine ⟨_,hl3,fun c v hv=>?_⟩
       cases c with
       |self v0=>exact ⟨by have:=hv.1;omega,fun hh=>by have:=hv.1;omega⟩
       |elt v0 i off=>exact ⟨by have:=hv.1;omega,fun hh=>by have:=hv.1;omega⟩
       |inn v0 i j=>exact ⟨by have:=hv.1;omega,fun hh=>by have:=hv.1;omega⟩
       |iat v0 i j k off=>exact ⟨by have:=hv.1;omega,fun hh=>by have:=hv.1;omega⟩
       |key=>exact hv
       |it=>exact hv
      |ms k=>simp [H2] at r7
      |box e3 ps3=>simp [H2] at r7
      |row k=>simp [H2] at r7
      |map k=>simp [H2] at r7
      |loop k=>simp [H2] at r7
     ·rw [hp2] at r5 r7
      obtain ⟨kt5,e5,t5,l5,ver5,iv5,s1,s2,s3⟩:=r5
      simp only [Ob.dp.injEq] at s1
      subst s1
      cases q with
      |ms k3=>
       simp only [H2,beq_iff_eq] at r7
       rw [s2] at r7
       obtain ⟨d,hd⟩:=htyn k3 _ r7.symm
       have hdt:=hty' k3 d hd
       rw [←r7] at hdt
       simp only [co4] at hdt
       obtain ⟨d1,d2⟩:=d
       simp only at hdt
       subst hdt
       have hver:vr j=Nat.max ver5 iv5+1:=by
        rw [←hvr]
        simp [aK2,r1,bQ7,r3]
       have hv1:ver5≤Nat.max ver5 iv5:=Nat.le_max_left _ _
       have hv2:iv5≤Nat.max ver5 iv5:=Nat.le_max_right _ _
       have hl3:=hlook j _ r6
       simp only [iO,hd] at hl3
       rw [r2] at hl3
       refine ⟨_,hl3,fun c v hv=>?_⟩
       cases c with
       |self v0=>exact ⟨by have:=hv.1;omega,fun hh=>by have:=hv.1;omega⟩
       |key v0 d=>exact ⟨by have:=hv.1;omega,fun hh=>by have:=hv.1;omega⟩
       |elt=>exact hv
       |inn=>exact hv
       |iat=>exact hv
       |it=>exact hv
      |dp k ms=>simp [H2] at r7
      |box e3 ps3=>simp [H2] at r7
      |row k=>simp [H2] at r7
      |map k=>simp [H2] at r7
      |loop k=>simp [H2] at r7
    ·have:=(hnew (j-os.length) (by omega)).1
     rw [hout j (by omega)] at hl
     rw [←hh1,G.hf.none this] at hl
     cases hl
   ·have hno:∀ j,j<oout.length→ι j≠id:=fun j hj hh=>hex ⟨j,hj,hh⟩
    exact ⟨D,(hold id hno).trans hl,fun c v hv=>by rw [hβout id hno];exact hv⟩
 have hLive:∀ b,Live β3 h3 b→Live β2 (E6 ds' oout) b:=by
  rintro b (hm|⟨id,o,q1,q2,q3⟩)
  ·left
   rw [hM2]
   refine ⟨.inl hm,fun hk=>?_⟩
   obtain ⟨j,id,o,r1,r2,r3,r4⟩:=hK b hk
   exact k1.Mo id o b r2 r4 hm
  ·rcases hcase id o q1 with ⟨j,p,r1,r2,rfl,r4⟩|⟨r1,r2⟩
   ·right
    rw [hβin j r1] at q3
    exact ⟨oid j,_,D6 r2,bF8,q3⟩
   ·left
    rw [hβout id r1] at q3
    rw [hM2]
    exact ⟨.inr ⟨id,o,r2,q2,q3⟩,hno_old id o b r1 r2 q3⟩
 have hcells:∀ (j:Nat) (p:OPat),oout[j]? =some p→look (ι j) h3=some (iO ds' ι vr j p)∧β3 (ι j)=β2 (oid j):=fun j p hp=>⟨hlook j p hp,hβin j (co9.1 hp).1⟩
 refine ⟨β3,A1.trans (Ext.after ext ⟨k1.bel.trans k2.bel,k2.hB,fun id o hl=>?_,fun id o id' o' b q1 q2 q3 q4=>?_,fun b hb hKb=>?_,fun id o b q1 q2=>?_,fun id o b q1 q2=>?_,fun b hm=>k1.Mlt b hm,k1.Meq,fun id o v q1 q2=>?_,k1.nmg,k1.glo⟩),fun ps vs hc=>aZ7 (h:=h3) hLive hcells hc⟩
 ·rcases hcase id o hl with ⟨j,p,r1,r2,rfl,rfl⟩|⟨r1,r2⟩
  ·exact cb3 hLive hcells (hlpin j r1) (hβin j r1) (k2.obj (oid j) _ (D6 r2))
  ·exact ext.o (hβout id r1) (hlpout id r1) (fun b hb=>hfrm b ((k1.obj id o r2).blk hb).2 (hno_old id o b r1 r2 hb)) (k1.obj id o r2)
 ·rcases hcase id o q1 with ⟨j,p,r1,r2,rfl,r4⟩|⟨r1,r2⟩<;>rcases hcase id' o' q2 with ⟨j',p',r1',r2',rfl,r4'⟩|⟨r1',r2'⟩
  ·rw [hβin j r1] at q3
   rw [hβin j' r1'] at q4
   rw [T7 (k2.dis _ _ _ _ b (D6 r2) (D6 r2') q3 q4)]
  ·rw [hβin j r1] at q3
   rw [hβout id' r1'] at q4
   exfalso
   rcases k2.own (oid j) _ b (D6 r2) q3 with h5|h5
   ·exact hno_old id' o' b r1' r2' q4 h5
   ·have h5:w.heap.size≤b:=h5
    have:=((k1.obj id' o' r2').blk q4).2;omega
  ·rw [hβout id r1] at q3
   rw [hβin j' r1'] at q4
   exfalso
   rcases k2.own (oid j') _ b (D6 r2') q4 with h5|h5
   ·exact hno_old id o b r1 r2 q3 h5
   ·have h5:w.heap.size≤b:=h5
    have:=((k1.obj id o r2).blk q3).2;omega
  ·rw [hβout id r1] at q3
   rw [hβout id' r1'] at q4
   exact k1.dis id o id' o' b r2 r2' q3 q4
 ·by_cases hk:kb β m b
  ·obtain ⟨j,id,o,r1,r2,r3,r4⟩:=hK b hk
   rcases k1.own id o b r2 r4 with h5|h5
   ·exact absurd h5 hKb
   ·omega
  ·rw [hfrm b (by omega) hk]
   exact k1.frm b hb hKb
 ·rcases hcase id o q1 with ⟨j,p,r1,r2,rfl,r4⟩|⟨r1,r2⟩
  ·rw [hβin j r1] at q2
   rcases k2.own (oid j) _ b (D6 r2) q2 with h5|h5
   ·obtain ⟨j',id',o',s1,s2,s3,s4⟩:=hK b h5
    exact k1.own id' o' b s2 s4
   ·have h5:w.heap.size≤b:=h5
    right;omega
  ·rw [hβout id r1] at q2
   exact k1.own id o b r2 q2
 ·rcases hcase id o q1 with ⟨j,p,r1,r2,rfl,r4⟩|⟨r1,r2⟩
  ·rw [hβin j r1] at q2
   rcases k2.own (oid j) _ b (D6 r2) q2 with h5|h5
   ·obtain ⟨j',id',o',s1,s2,s3,s4⟩:=hK b h5
    exact k1.Mo id' o' b s2 s4
   ·have h5:w.heap.size≤b:=h5
    intro hm
    have:=k1.Mlt b hm
    omega
  ·rw [hβout id r1] at q2
   exact k1.Mo id o b r2 q2
 ·rcases hcase id o q1 with ⟨j,p,r1,r2,rfl,rfl⟩|⟨r1,r2⟩
  ·by_cases hjo:j<os.length
   ·obtain ⟨id',o',q,s1,s2,s3,s4,s5,s6,s7⟩:=hinout j hjo
    rw [r2] at s6
    simp only [co4] at s6
    subst s6
    cases hro:(iO ds' ι vr j p).isRow with
    |true=>exact .inl rfl
    |false=>
     right
     have hro2:(iO ds' oid (fun _=>0) j p).isRow=false:=bG2 hro
     have hor:o'.isRow=false:=by
      cases hp:os[j]! with
      |box e2 ps2=>rw [hp] at s5;obtain ⟨_,t1,_⟩:=s5;rw [t1];rfl
      |row k=>
       exfalso
       rw [hp] at s5 s7
       obtain ⟨e5,t5,l5,ver5,t1,t2,t3⟩:=s5
       cases p with
       |row k3=>
        simp only [H2,beq_iff_eq] at s7
        rw [t2] at s7
        obtain ⟨d,hd⟩:=htyn k3 _ s7.symm
        have hdt:=hty' k3 d hd
        rw [←s7] at hdt
        simp only [co4] at hdt
        obtain ⟨d1,d2⟩:=d
        simp only at hdt
        subst hdt
        simp [iO,hd,Ob.isRow] at hro
       |box e3 ps3=>simp [H2] at s7
       |map k=>simp [H2] at s7
       |loop k=>simp [H2] at s7
       |dp k ms=>simp [H2] at s7
       |ms k=>simp [H2] at s7
      |dp k ms=>
       exfalso
       rw [hp] at s5 s7
       obtain ⟨e5,t5,l5,ver5,iv5,t1,t2,t3⟩:=s5
       cases p with
       |dp k3 ms3=>
        simp only [H2,co7,beq_iff_eq] at s7
        obtain ⟨s7,_⟩:=s7
        rw [t2] at s7
        obtain ⟨d,hd⟩:=htyn k3 _ s7.symm
        have hdt:=hty' k3 d hd
        rw [←s7] at hdt
        simp only [co4] at hdt
        obtain ⟨d1,d2⟩:=d
        simp only at hdt
        subst hdt
        simp [iO,hd,Ob.isRow] at hro
       |ms k=>simp [H2] at s7
       |box e3 ps3=>simp [H2] at s7
       |row k=>simp [H2] at s7
       |map k=>simp [H2] at s7
       |loop k=>simp [H2] at s7
      |ms k=>
       exfalso
       rw [hp] at s5 s7
       obtain ⟨kt5,e5,t5,l5,ver5,iv5,t1,t2,t3⟩:=s5
       cases p with
       |ms k3=>
        simp only [H2,beq_iff_eq] at s7
        rw [t2] at s7
        obtain ⟨d,hd⟩:=htyn k3 _ s7.symm
        have hdt:=hty' k3 d hd
        rw [←s7] at hdt
        simp only [co4] at hdt
        obtain ⟨d1,d2⟩:=d
        simp only at hdt
        subst hdt
        simp [iO,hd,Ob.isRow] at hro
       |box e3 ps3=>simp [H2] at s7
       |row k=>simp [H2] at s7
       |map k=>simp [H2] at s7
       |loop k=>simp [H2] at s7
       |dp k ms=>simp [H2] at s7
      |map k=>rw [hp] at s5;obtain ⟨_,_,_,t1,_⟩:=s5;rw [t1];rfl
      |loop k=>rw [hp] at s5;obtain ⟨_,t1,_⟩:=s5;rw [t1];rfl
     obtain ⟨f1,f2⟩:=hfix j hjo id' _ s1 s4 hor _ r2 hro2
     rw [hβin j r1,hlpin j r1,f1,f2]
     rw [s2] at q2
     rcases k1.fix id' o' v s4 q2 with h6|h6
     ·rw [hor] at h6;cases h6
     ·exact h6
   ·have h5:=(hnew (j-os.length) (by omega)).2
    rw [hout j (by omega)] at q2
    have:=k1.nmg _ v q2
    omega
  ·rw [hβout id r1,hlpout id r1]
   exact k1.fix id o v r2 q2
theorem ba0 {σ:List (Nat×PV U)} {gs:List (Bool×Nat)} {cs:List (Cell U)} {p:PV U} (hp:ca1 gs cs=some p) {us:List Value} {v:Value} (hv:ac2 gs us v) (hc:CsRel w β h cs us):PRel w β h σ p v:=by
 unfold ca1 at hp
 split at hp
 ·rename_i b g hg
  have hlen:gs.length=1:=by rw [←J9 gs cs,hg];rfl
  match gs,hlen with
  |[g0],_=>
   have h1:K8 [g0] us [v]:=hv
   obtain ⟨_,h3⟩:=Q6 (σ:=σ) h1 hc
   exact bF7 (h3 0 (b,g) v (by rw [hg];rfl) rfl) hp
 ·rename_i hne
  simp only [co4] at hp
  subst hp
  have hne1:∀ g0,gs≠[g0]:=by
   intro g0 hg0
   obtain ⟨b0,n0⟩:=g0
   rw [hg0] at hne
   exact hne _ _ rfl
  have h1':∃ vs:List Value,v=.tuple vs.toArray∧K8 gs us vs:=by
   unfold ac2 at hv
   split at hv
   ·rename_i g0;exact absurd rfl (hne1 g0)
   ·exact hv
  obtain ⟨vs,hv,h4⟩:=h1'
  obtain ⟨h5,h6⟩:=Q6 (σ:=σ) h4 hc
  exact ⟨vs,hv,by rw [h5,J9],h6⟩
theorem bi6 {Y:Fr} {yl:List (Nat×Nat)} {k:Con U} {xs:Dens U.T k.params} {m:Mt U} (hY:P0 Y F yl) (G:Matched F w β h g k.params k.oin (A9 U k.params xs) m) (hok:ylOk g yl m k.yl=true):P0 Y (frOf F w β h m) k.yl:=by
 intro hne
 have K:=G.k
 unfold ylOk at hok
 rw [cr4] at hok
 have hpair:∀ j i',(j,i')∈k.yl→∃ i o,look j yl=some i∧look i' m.ι=some (oid i)∧look (oid i) h=some o∧o.isRow=false:=by
  intro j i' hm
  have h1:=hok _ hm
  simp only at h1
  split at h1
  case h_2=>cases h1
  rename_i i hi
  rw [co7] at h1
  obtain ⟨h2,h3⟩:=h1
  split at h2
  case h_2=>cases h2
  rename_i id hid
  split at h3
  case h_2=>cases h3
  rename_i o ho
  have h4:=co5 h2
  subst h4
  exact ⟨i,o,hi,hid,G.hg _ _ ho,by simpa using h3⟩
 have hmem:∀ {j i:Nat} {l:List (Nat×Nat)},look j l=some i→(j,i)∈l:=by
  intro j i l
  induction l with
  |nil=>intro hl;simp [look] at hl
  |cons x r ih=>
   obtain ⟨a,b⟩:=x
   intro hl
   simp only [look] at hl
   split at hl
   ·rename_i hb
    simp only [co4] at hl
    subst hl
    rw [co5 hb]
    simp
   ·exact List.mem_cons_of_mem _ (ih hl)
 have hylne:yl≠[]:=by
  obtain ⟨x,hx⟩:∃ x,x∈k.yl:=List.exists_mem_of_ne_nil _ hne
  obtain ⟨i,o,h1,_⟩:=hpair x.1 x.2 hx
  intro h0
  rw [h0] at h1
  simp [look] at h1
 have W:=hY hylne
 have hsz:Y.w0.heap.size≤F.w0.heap.size:=W.bel.size
 have hown:∀ b,b<Y.w0.heap.size→Own β h b→Y.K b:=by
  rintro b hb ⟨id,o,h1,_,h3⟩
  rcases K.own id o b h1 h3 with h5|h5
  ·exact W.K b hb h5
  ·omega
 refine ⟨W.B,W.G,W.bel.trans (W.B▸K.bel),fun b hb hK=>?_,fun b hb hK=>?_,fun b hb=>?_,fun b hb hM=>?_,fun j i' v hm hv=>?_⟩
 ·show w.heap[b]? =_
  rw [←W.frm b hb hK]
  exact K.frm b (by omega) (fun h=>hK (W.K b hb h))
 ·obtain ⟨j,id,h1,h2⟩:=hK
  obtain ⟨p,o,_,h4,_⟩:=G.at_ h1
  rcases K.own id o b h4 h2 with h5|h5
  ·exact W.K b hb h5
  ·omega
 ·have hM:=W.M b hb
  rw [←K.Meq] at hM
  refine ⟨.inl hM,?_⟩
  rintro ⟨j,id,h1,h2⟩
  obtain ⟨p,o,_,h4,_⟩:=G.at_ h1
  exact K.Mo id o b h4 h2 hM
 ·have A:=I3 G.k G.hf
  rcases A.ext.live b (by have:=K.bel.size;omega) hM.1 with h1|h1
  ·rw [K.Meq] at h1
   exact W.Mup b hb h1
  ·exact .inr (hown b hb h1)
 ·obtain ⟨i,o,h1,h2,h3,h4⟩:=hpair j i' hm
  have h5:=W.nm j i v (hmem h1) hv
  show nmOf β h m (oid i')=some v
  have hn:nmOf β h m (oid i')=some (β (oid i),β.lp (oid i)):=by
   unfold nmOf
   have e1:1000000≤oid i':=by unfold oid;omega
   have e2:oid i'-1000000=i':=by unfold oid;omega
   simp only [e1,if_true,e2,h2,h3,h4,Bool.false_eq_true,if_false]
  rw [hn]
  rcases K.fix _ _ _ h3 h5 with h6|h6
  ·rw [h4] at h6;cases h6
  ·rw [h6]
def aD1 (F:Fr) (w:World) (β:Nm) (h g:Obs U) (C:Runs) (yl:List (Nat×Nat)) (k:Con U) (vs:List (PV U)):Prop:=
 ∀ xs m cs,F7 k.args vs=some cs→ao8 g k cs=some (xs,m)→Matched F w β h g k.params k.oin (A9 U k.params xs) m→ylOk g yl m k.yl=true→holds (k.pre.map fun p=>p xs)→bZ2 (frOf F w β h m) C F.G k xs
theorem GivesC.calls {Y:Fr} {C:Runs} {yl:List (Nat×Nat)} (hY:P0 Y F yl) {k:Con U} (hgive:GivesC Y C F.G k) {vs:List (PV U)}:aD1 F w β h g C yl k vs:=
 fun xs m _ _ _ G hyl hp=>hgive xs hp _ (bi6 hY G hyl)
theorem aw4 {C:Runs} (hmono:C.Mono) {yl:List (Nat×Nat)} {k:Con U} {vs:List (PV U)} (hgive:aD1 F w β h g C yl k vs) (K:Ok F w β h) (hg:∀ id o,look id g=some o→look id h=some o) {dst:Option Tmp} {c:CallE U} (he:ab4 g yl dst k vs=some c) (hob:c.e.Obl)
  (hnew:∀ id∈c.news,look id h=none∧id<1000000) {σ:List (Nat×PV U)} {us:List Value} (hl:us.length=vs.length) (r:∀ (j:Nat) (p:PV U) (v:Value),vs[j]? =some p→us[j]? =some v→PRel w β h σ p v):
  C us w fun e w'=>match e with
   | .returned v=>(∀ b,c.pan=some b→b.1=false)∧∃ β',After F w β h w' β' (upds h c.e.upd)∧PRel w' β' (upds h c.e.upd) σ c.e.val v
   | .panicked ch=>∃ b u,c.pan=some b∧b.1=true∧ch=[{ v:=u,recovered:=false }]∧ap8 b.2 u∧Below F.B w w'∧∀ blk,blk<w.heap.size→(∀ id∈keys c.e.upd,∀ o,look id h=some o→o.live=true→¬ Has (β id) blk)→w'.heap[blk]? =w.heap[blk]?
   | .outgrown=>False:=by
 unfold ab4 at he
 split at he
 case h_2=>cases he
 rename_i cs hcs
 split at he
 case h_2=>cases he
 rename_i xs m hm
 split at he
 case h_2=>cases he
 rename_i v hv
 simp only [cp7] at hv
 split at hv
 case isFalse=>cases hv
 rename_i hyl
 simp only [co4] at he
 subst he
 obtain ⟨G,hlike,hlen,hcm,hgo⟩:=ac5 K hg hm
 obtain ⟨ys,hpack,hcr⟩:=O9 (w:=w) (β:=β) (h:=h) (σ:=σ) (vs:=us) hcs hl r
 have hcells:=G.cells (M:=(frOf F w β h m).M) (fun b hb=>hb.1) hlen hcm hcr
 have hcalls:=hgive xs m cs hcs hm G hyl hob (T8 β m (frOf F w β h m).M) w ys us rfl rfl G.given (fun j p hp hrow=>by
  obtain ⟨id,o,q1,q2,q3,q4⟩:=hgo j p hp
  simp only [frOf,nmOf,oid]
  rw [if_pos (by omega),Nat.add_sub_cancel_left,q1]
  simp only [q3]
  have hor:o.isRow=false:=by
   cases p with
   |box e ps=>obtain ⟨_,rfl,_⟩:=q4;rfl
   |row k=>cases hrow
   |map k=>obtain ⟨_,_,_,rfl,_⟩:=q4;rfl
   |loop k=>obtain ⟨_,rfl,_⟩:=q4;rfl
   |dp k ms=>cases hrow
   |ms k=>cases hrow
  rw [if_neg (by rw [hor];simp)]
  have h1:=H7 (β:=β) (M:=(frOf F w β h m).M) q1
  have h2:=aA1 (β:=β) (M:=(frOf F w β h m).M) q1
  simp only [oid] at h1 h2
  simp only [frOf] at h1 h2
  rw [h1,h2]) (fun id v hv=>by
  simp only [frOf,nmOf] at hv
  split at hv
  ·rename_i hge
   split at hv
   ·rename_i i hi
    exact ⟨id-1000000,G.lt _ _ hi,by simp only [oid];omega⟩
   ·cases hv
  ·cases hv) hcells hpack
 refine hmono _ _ _ _ hcalls (fun en w' hen=>?_)
 cases en with
 |outgrown=>exact hen
 |returned u=>
  obtain ⟨hb,β2,rs,k2,hpr,hrs⟩:=hen
  obtain ⟨β3,A,hc⟩:=bw0 (dst:=dst) G (fun _ _ hd=>aC9 hd) (tys':=k.tys) (fun _ _ hd=>aC9 hd) (fun j t hj=>by
   have hjl:j<(A9 U k.tys (k.fn xs)).length:=by rw [G3];exact (co9.1 hj).1
   exact ⟨_,co6 hjl⟩) hlike hgo (fun j hj=>hnew _ (List.mem_map.2 ⟨j,List.mem_range.2 hj,rfl⟩)) k2
  refine ⟨fun b hbb=>?_,β3,?_,?_⟩
  ·simp only [cp1] at hbb
   obtain ⟨b',hb',rfl⟩:=hbb
   exact hb b' hb'
  ·dsimp only
   rw [C9]
   exact A
  ·dsimp only
   rw [C9]
   exact ba0 hv hpr (hc _ _ hrs)
 |panicked ch=>
  obtain ⟨b,u,q1,q2,q3,q4,q5,q6⟩:=hen
  refine ⟨b xs,u,by simp [q1],q2,q3,q4,q5,fun blk hblk hno=>q6 blk hblk ?_⟩
  rintro ⟨j,id,r1,r2⟩
  obtain ⟨p0,o0,t1,t2,t3⟩:=G.at_ r1
  refine hno id ?_ o0 t2 t3.live r2
  have hj:=G.lt j id r1
  obtain ⟨q,s1,_⟩:=ac4 hlike j _ (co6 hj)
  have:=bi5 (ds:=A9 U k.tys (k.fn xs)) (ι:=ae7 m dst k.oin.length) (vr:=aK2 g m) (os:=k.oout) (j0:=0) s1
  rw [Nat.zero_add,aZ9 r1] at this
  simp only [keys,List.map_append,cr1]
  exact .inr (List.mem_map.2 ⟨_,this,rfl⟩)
theorem aj0 {x y:Datum U} {q:Prop} (h:eqD x y q):x=y∧q:=by
 unfold eqD at h
 split at h
 ·rename_i v hv
  obtain ⟨rfl,hq⟩:=h
  exact ⟨Datum.as_eq hv,hq⟩
 ·exact h.elim
theorem S0 {b:Bool} {p:Prop} (h:bif b then p else False):b=true∧p:=by
 cases b with
 |true=>exact ⟨rfl,h⟩
 |false=>exact h.elim
theorem bG3 {x y:DC U} {q:Prop} (h:eqDC x y q):x=y∧q:=by
 unfold eqDC at h
 split at h
 ·obtain ⟨h1,hq⟩:=S0 h
  rw [co5 h1];exact ⟨rfl,hq⟩
 ·obtain ⟨h1,rfl,hq⟩:=S0 h
  simp only [co7] at h1
  rw [co5 h1.1,co5 h1.2];exact ⟨rfl,hq⟩
 ·obtain ⟨h1,rfl,hq⟩:=S0 h
  simp only [co7] at h1
  rw [co5 h1.1,co5 h1.2];exact ⟨rfl,hq⟩
 ·obtain ⟨h1,rfl,rfl,hq⟩:=S0 h
  simp only [co7] at h1
  rw [co5 h1.1.1,co5 h1.1.2,co5 h1.2];exact ⟨rfl,hq⟩
 ·obtain ⟨h1,hq⟩:=S0 h
  rw [co5 h1];exact ⟨rfl,hq⟩
 ·exact h.elim
theorem bi7 {x y:Deep U} {q:Prop} (h:bE0 x y q):x=y∧q:=by
 unfold bE0 at h
 split at h
 ·rename_i q e t m l ver iv lv e' t' m' l' ver' iv' lv'
  obtain ⟨h1,h2⟩:=S0 h
  simp only [co7,beq_iff_eq] at h1
  obtain ⟨⟨⟨rfl,h4⟩,h5⟩,rfl⟩:=h1
  have h4:=co5 h4
  have h5:=co5 h5
  subst h4;subst h5
  obtain ⟨heq,hq⟩:=aj0 (show eqD (U:=U) ⟨.slice e t,l⟩ ⟨.slice e' t',l'⟩ _ from h2)
  cases heq
  exact ⟨rfl,hq⟩
 ·rename_i q kt e t l ver iv lv kt' e' t' l' ver' iv' lv'
  obtain ⟨h1,h2⟩:=S0 h
  simp only [co7,beq_iff_eq] at h1
  obtain ⟨⟨h4,h5⟩,rfl⟩:=h1
  have h4:=co5 h4
  have h5:=co5 h5
  subst h4;subst h5
  obtain ⟨heq,hq⟩:=aj0 (show eqD (U:=U) ⟨.map kt (.slice e t),l⟩ ⟨.map kt' (.slice e' t'),l'⟩ _ from h2)
  cases heq
  exact ⟨rfl,hq⟩
 ·obtain ⟨h1,rfl,rfl,rfl,hq⟩:=S0 h
  simp only [co7,beq_iff_eq] at h1
  obtain ⟨⟨h2,rfl⟩,rfl⟩:=h1
  rw [co5 h2];exact ⟨rfl,hq⟩
 ·exact h.elim
theorem bq9 {x y:Cell U} {q:Prop} (h:eqC x y q):x=y∧q:=by
 unfold eqC at h
 split at h
 ·exact ⟨rfl,h⟩
 ·obtain ⟨rfl,hq⟩:=aj0 h;exact ⟨rfl,hq⟩
 ·rename_i q' a b a' b'
  revert h
  cases hc:(Nat.beq a a'&&Nat.beq b b') with
  |false=>intro h;exact False.elim h
  |true=>
   intro h
   simp only [co7] at hc
   have h1:=co5 hc.1
   have h2:=co5 hc.2
   subst h1;subst h2
   exact ⟨rfl,h⟩
 ·rename_i q' a b a' b'
  revert h
  cases hc:(Nat.beq a a'&&Nat.beq b b') with
  |false=>intro h;exact False.elim h
  |true=>
   intro h
   simp only [co7] at hc
   have h1:=co5 hc.1
   have h2:=co5 hc.2
   subst h1;subst h2
   exact ⟨rfl,h⟩
 ·obtain ⟨rfl,rfl,hq⟩:=h;exact ⟨rfl,hq⟩
 ·rename_i q' a a'
  revert h
  cases hc:Nat.beq a a' with
  |false=>intro h;exact False.elim h
  |true=>
   intro h
   have h1:=co5 hc
   subst h1
   exact ⟨rfl,h⟩
 ·exact ⟨rfl,h⟩
 ·obtain ⟨rfl,hq⟩:=h;exact ⟨rfl,hq⟩
 ·rename_i q' a a'
  revert h
  cases hc:Nat.beq a a' with
  |false=>intro h;exact False.elim h
  |true=>
   intro h
   have h1:=co5 hc
   subst h1
   exact ⟨rfl,h⟩
 ·rename_i q' a a'
  revert h
  cases hc:Nat.beq a a' with
  |false=>intro h;exact False.elim h
  |true=>
   intro h
   have h1:=co5 hc
   subst h1
   exact ⟨rfl,h⟩
 ·rename_i q' f a f' a'
  revert h
  cases hc:(Nat.beq f f'&&(a==a')) with
  |false=>intro h;exact False.elim h
  |true=>
   intro h
   simp only [co7,beq_iff_eq] at hc
   have h1:=co5 hc.1
   have h2:=hc.2
   subst h1;subst h2
   exact ⟨rfl,h⟩
 ·obtain ⟨h1,hq⟩:=S0 h
  simp only [co7] at h1
  rw [co5 h1.1,co5 h1.2];exact ⟨rfl,hq⟩
 ·obtain ⟨h1,h2⟩:=S0 h
  obtain ⟨rfl,hq⟩:=bG3 h2
  rw [co5 h1];exact ⟨rfl,hq⟩
 ·exact h.elim
theorem ap9 {q:Prop}:∀ {x y:List (Cell U)},eqCs x y q→x=y∧q
 |[],[],h=>⟨rfl,h⟩
 |[],_::_,h=>h.elim
 |_::_,[],h=>h.elim
 |x::r,y::r',h=>by
  obtain ⟨rfl,h2⟩:=bq9 (show eqC x y (eqCs r r' q) from h)
  obtain ⟨rfl,h3⟩:=ap9 h2
  exact ⟨rfl,h3⟩
theorem br0 {x y:Ob U} {q:Prop} (h:eqO x y q):x=y∧q:=by
 unfold eqO at h
 split at h
 ·rename_i q e x e' y
  revert h
  cases hc:Nat.beq e e' with
  |false=>intro h;exact False.elim h
  |true=>
   intro h
   have h1:=co5 hc
   subst h1
   obtain ⟨rfl,hq⟩:=ap9 (show eqCs x y _ from h)
   exact ⟨rfl,hq⟩
 ·rename_i q e t l ver lv e' t' l' ver' lv'
  revert h
  cases hc:(Nat.beq ver ver'&&(lv==lv')) with
  |false=>intro h;exact False.elim h
  |true=>
   intro h
   simp only [co7,beq_iff_eq] at hc
   have h1:=co5 hc.1
   have h2:=hc.2
   subst h1;subst h2
   obtain ⟨heq,hq⟩:=aj0 (show eqD (U:=U) ⟨.slice e t,l⟩ ⟨.slice e' t',l'⟩ _ from h)
   cases heq
   exact ⟨rfl,hq⟩
 ·rename_i q k v l k' v' l'
  obtain ⟨heq,hq⟩:=aj0 (show eqD (U:=U) ⟨.map k v,l⟩ ⟨.map k' v',l'⟩ _ from h)
  cases heq
  exact ⟨rfl,hq⟩
 ·obtain ⟨rfl,hq⟩:=h
  exact ⟨rfl,hq⟩
 ·obtain ⟨rfl,hq⟩:=bi7 h
  exact ⟨rfl,hq⟩
 ·exact h.elim
theorem aL7 {id:Nat} {o:Ob U}:∀ {h:Obs U},look id h=some o→write id o h=h
 |[],hl=>by simp [look] at hl
 |(j,b)::r,hl=>by
  simp only [look] at hl
  simp only [write]
  cases hb:Nat.beq j id with
  |true=>
   rw [hb] at hl
   simp only [if_true,co4] at hl
   simp only [if_true]
   rw [hl,co5 hb]
  |false=>
   rw [hb] at hl
   simp only [Bool.false_eq_true,if_false] at hl ⊢
   rw [aL7 hl]
theorem aA3 {g:Obs U} {ids:List Nat}:∀ {u:Obs U} {seen:List Nat} {r:Option Prop×Obs U},(∀ x∈(trim g ids u seen r).2,x∈r.2∨x∈u)∧∀ id∈keys u,id∈ids∨id∈keys (trim g ids u seen r).2
 |[],seen,r=>⟨fun x hx=>.inl hx,fun id hid=>by simp [keys] at hid⟩
 |(j,o)::u,seen,r=>by
  have hkeep:∀ {seen:List Nat} {r:Option Prop×Obs U},∀ x∈r.2,x∈(trim g ids u seen r).2:=by
   intro seen r
   induction u generalizing seen r with
   |nil=>intro x hx;exact hx
   |cons y u ih=>
    intro x hx
    simp only [trim]
    split
    ·exact ih (r:=(_,r.2)) x hx
    ·exact ih (r:=(_,r.2++[y])) x (cr1.2 (.inl hx))
  simp only [trim]
  split
  ·rename_i o' heq
   obtain ⟨h1,h2⟩:=aA3 (g:=g) (ids:=ids) (u:=u) (seen:=seen) (r:=(andO r.1 (eqO o' o True),r.2))
   refine ⟨fun x hx=>(h1 x hx).imp (fun h=>h) (fun h=>List.mem_cons_of_mem _ h),fun id hid=>?_⟩
   simp only [keys,List.map_cons,List.mem_cons] at hid
   rcases hid with rfl|hid
   ·left
    cases hb:(ids.any (Nat.beq id)&&!(seen.any (Nat.beq id))) with
    |false=>rw [hb] at heq;cases heq
    |true=>
     simp only [co7,List.any_eq_true] at hb
     obtain ⟨⟨x,hx,he⟩,_⟩:=hb
     rw [co5 he]
     exact hx
   ·exact h2 id hid
  ·obtain ⟨h1,h2⟩:=aA3 (g:=g) (ids:=ids) (u:=u) (seen:=j::seen) (r:=(r.1,r.2++[(j,o)]))
   refine ⟨fun x hx=>?_,fun id hid=>?_⟩
   ·rcases h1 x hx with h|h
    ·simp only [cr1,cp5] at h
     rcases h with h|h
     ·exact .inl h
     ·exact .inr (by simp [h])
    ·exact .inr (List.mem_cons_of_mem _ h)
   ·simp only [keys,List.map_cons,List.mem_cons] at hid
    rcases hid with rfl|hid
    ·right
     exact List.mem_map.2 ⟨(id,o),hkeep (seen:=id::seen) (r:=(r.1,r.2++[(id,o)])) _ (by simp),rfl⟩
    ·exact h2 id hid
theorem aD2 {g h:Obs U} (hg:∀ id o,look id g=some o→look id h=some o) {ids:List Nat}:∀ {u:Obs U} {seen:List Nat} {r:Option Prop×Obs U},(∀ id∈keys r.2,id∈seen)→holds (trim g ids u seen r).1→
  holds r.1∧upds (upds h r.2) u=upds h (trim g ids u seen r).2
 |[],seen,r,hs,ho=>⟨ho,rfl⟩
 |(j,o)::u,seen,r,hs,ho=>by
  simp only [trim] at ho ⊢
  split at ho
  ·rename_i o' heq
   obtain ⟨h1,h2⟩:=aD2 hg (u:=u) (seen:=seen) (r:=(andO r.1 (eqO o' o True),r.2)) hs ho
   cases hb:(ids.any (Nat.beq j)&&!(seen.any (Nat.beq j))) with
   |false=>rw [hb] at heq;cases heq
   |true=>
    rw [hb] at heq
    simp only [cond_true] at heq
    have h3:holds r.1∧eqO o' o True:=by
     revert h1
     cases r.1 with
     |none=>exact fun h1=>⟨trivial,h1⟩
     |some p=>exact fun h1=>h1
    have he:=(br0 h3.2).1
    subst he
    refine ⟨h3.1,?_⟩
    simp only [upds]
    rw [←h2]
    congr 1
    refine aL7 ?_
    rw [B7]
    ·exact hg _ _ heq
    ·intro o2 hm
     have:=hs j (List.mem_map.2 ⟨_,hm,rfl⟩)
     simp only [co7,Bool.not_eq_true',List.any_eq_false] at hb
     exact hb.2 j this (Nat.beq_refl j)
  ·rename_i heq
   obtain ⟨h1,h2⟩:=aD2 hg (u:=u) (seen:=j::seen) (r:=(r.1,r.2++[(j,o)])) (fun id hid=>by
    simp only [keys,List.map_append,List.map_cons,List.map_nil,cr1,cp5] at hid
    rcases hid with hid|hid
    ·exact List.mem_cons_of_mem _ (hs id hid)
    ·simp [hid]) ho
   refine ⟨h1,?_⟩
   rw [←h2,C9]
   rfl
theorem bR6 {t:Ty} (ht:scal t=true) {x:den U.T t} {v:Value} {w':World} {M M':Nat→Prop} (r:Rep U w M ⟨t,x⟩ v):Rep U w' M' ⟨t,x⟩ v:=by
 cases t with
 |int k=>cases r;exact .int _ _
 |bool=>cases r;exact .bool _
 |_=>cases ht
theorem bR7 {C:Runs} (hmono:C.Mono) {yl:List (Nat×Nat)} {k:Con U} {vs:List (PV U)} (hgive:aD1 F w β h g C yl k vs) (K:Ok F w β h) (hg:∀ id o,look id g=some o→look id h=some o) {dst:Option Tmp} {c:CallE U} (he:ab4 g yl dst k vs=some c) (hob:c.e.Obl) (hle:ca2 k=true)
  {σ:List (Nat×PV U)} {us:List Value} (hl:us.length=vs.length) (r:∀ (j:Nat) (p:PV U) (v:Value),vs[j]? =some p→us[j]? =some v→PRel w β h σ p v):
  C us w fun e w'=>match e with
   | .returned v=>After F w β h w' β h∧PRel w' β h σ c.e.val v
   | .panicked ch=>False
   | .outgrown=>False:=by
 simp only [ca2,co7,List.isEmpty_iff,cr4,Option.isNone_iff_eq_none] at hle
 obtain ⟨⟨⟨⟨l1,l2⟩,l3⟩,l4⟩,l5⟩:=hle
 unfold ab4 at he
 split at he
 case h_2=>cases he
 rename_i cs hcs
 split at he
 case h_2=>cases he
 rename_i xs m hm
 split at he
 case h_2=>cases he
 rename_i v hv
 simp only [cp7] at hv
 split at hv
 case isFalse=>cases hv
 rename_i hyl
 simp only [co4] at he
 subst he
 obtain ⟨G,hlike,hlen,hcm,hgo⟩:=ac5 K hg hm
 obtain ⟨ys,hpack,hcr⟩:=O9 (w:=w) (β:=β) (h:=h) (σ:=σ) (vs:=us) hcs hl r
 have hcells:=G.cells (M:=(frOf F w β h m).M) (fun b hb=>hb.1) hlen hcm hcr
 have hcalls:=hgive xs m cs hcs hm G hyl hob (T8 β m (frOf F w β h m).M) w ys us rfl rfl G.given (fun j p hp hrow=>by rw [l1] at hp;simp at hp) (fun id v hv=>by
  simp only [frOf,nmOf] at hv
  split at hv
  ·rename_i hge
   split at hv
   ·rename_i i hi
    exact ⟨id-1000000,G.lt _ _ hi,by simp only [oid];omega⟩
   ·cases hv
  ·cases hv) hcells hpack
 refine hmono _ _ _ _ hcalls (fun en w' hen=>?_)
 cases en with
 |outgrown=>exact hen
 |panicked ch=>
  obtain ⟨b,u,q1,_⟩:=hen
  rw [l3] at q1
  cases q1
 |returned u=>
  obtain ⟨hb,β2,rs,k2,hpr,hrs⟩:=hen
  have hblk:∀ b,b<w.heap.size→w'.heap[b]? =w.heap[b]? :=fun b hlt=>k2.frm b hlt (by
   rintro ⟨j,id,h1,_⟩
   have:=G.lt j id h1
   rw [l1] at this
   simp at this)
  have hbel:Below w.heap.size w w':=⟨k2.bel.os,k2.bel.tape,k2.bel.output,k2.bel.size,hblk⟩
  refine ⟨ai4 (u:=[]) K hbel rfl (fun _ _ _=>rfl) (fun _ _ _=>rfl) (fun _ _ h=>by simp at h) (fun _ _ h=>by simp at h) (fun _ _ _ h=>by simp at h) (fun _ _ h=>by simp at h) (fun _ _ _ _ _ h=>by simp at h),ba0 hv hpr ?_⟩
  refine ⟨by simpa using hrs.1,hrs.2.1,fun j x u hx hu=>?_⟩
  simp only [cp9,cp1] at hx
  obtain ⟨p,hp,rfl⟩:=hx
  have hd:=l5 p (List.mem_of_getElem? hp)
  have hc:=hrs.2.2 j (iC (A9 U k.tys (k.fn xs)) oid (fun _=>0) p) u (by simp [hp]) hu
  cases p with
  |d q=>
   simp only [iC] at hc ⊢
   split
   ·rename_i y hy
    rw [hy] at hc
    have hty:=aC9 hy
    obtain ⟨t,y⟩:=y
    exact bR6 (l4 t (List.mem_of_getElem? hty)) hc
   ·trivial
  |_=>cases hd
theorem aD3 {C:Runs} (hmono:C.Mono) {yl:List (Nat×Nat)} {k:Con U} {vs:List (PV U)} (hgive:aD1 F w β h g C yl k vs) (K:Ok F w β h) (hg:∀ id o,look id g=some o→look id h=some o) {dst:Option Tmp} {c:CallE U} (he:ae8 g yl dst k vs=some c) (hob:c.e.Obl)
  (hnew:∀ id∈c.news,look id h=none∧id<1000000) {σ:List (Nat×PV U)} {us:List Value} (hl:us.length=vs.length) (r:∀ (j:Nat) (p:PV U) (v:Value),vs[j]? =some p→us[j]? =some v→PRel w β h σ p v):
  C us w fun e w'=>match e with
   | .returned v=>(∀ b,c.pan=some b→b.1=false)∧∃ β',After F w β h w' β' (upds h c.e.upd)∧PRel w' β' (upds h c.e.upd) σ c.e.val v
   | .panicked ch=>∃ b u,c.pan=some b∧b.1=true∧ch=[{ v:=u,recovered:=false }]∧ap8 b.2 u∧Below F.B w w'∧∀ blk,blk<w.heap.size→(∀ id∈keys c.e.upd++c.lost,∀ o,look id h=some o→o.live=true→¬ Has (β id) blk)→w'.heap[blk]? =w.heap[blk]?
   | .outgrown=>False:=by
 unfold ae8 at he
 split at he
 case h_2=>cases he
 rename_i c0 hc0
 split at he
 ·rename_i hlost
  simp only [cp7] at he
  split at he
  ·rename_i hle
   simp only [co4] at he
   subst he
   refine hmono _ _ _ _ (bR7 hmono hgive K hg hc0 hob hle hl r) (fun en w' hen=>?_)
   cases en with
   |returned v=>exact ⟨fun b hb=>(by cases hb),β,hen.1,hen.2⟩
   |panicked ch=>exact hen.elim
   |outgrown=>exact hen
  simp only [co4] at he
  subst he
  refine hmono _ _ _ _ (aw4 hmono hgive K hg hc0 hob hnew hl r) (fun en w' hen=>?_)
  cases en with
  |returned v=>exact hen
  |panicked ch=>
   obtain ⟨b,u,q1,q2,q3,q4,q5,q6⟩:=hen
   exact ⟨b,u,q1,q2,q3,q4,q5,fun blk hblk hno=>q6 blk hblk (fun id hid=>hno id (cr1.2 (.inl hid)))⟩
  |outgrown=>exact hen
 ·rename_i ids _
  simp only [co4] at he
  subst he
  obtain ⟨h1,h2⟩:=aD2 hg (ids:=c0.lost) (u:=c0.e.upd) (seen:=[]) (r:=(c0.e.obl,[])) (fun id hid=>by simp [keys] at hid) hob
  have h2:upds h c0.e.upd=upds h (trim g c0.lost c0.e.upd [] (c0.e.obl,[])).2:=h2
  refine hmono _ _ _ _ (aw4 hmono hgive K hg hc0 h1 hnew hl r) (fun en w' hen=>?_)
  cases en with
  |returned v=>
   dsimp only at hen ⊢
   rw [h2] at hen
   exact hen
  |panicked ch=>
   obtain ⟨b,u,q1,q2,q3,q4,q5,q6⟩:=hen
   refine ⟨b,u,q1,q2,q3,q4,q5,fun blk hblk hno=>q6 blk hblk (fun id hid=>?_)⟩
   rcases (aA3 (g:=g) (ids:=c0.lost) (u:=c0.e.upd) (seen:=[]) (r:=(c0.e.obl,[]))).2 id hid with h|h
   ·exact hno id (cr1.2 (.inr h))
   ·exact hno id (cr1.2 (.inl h))
  |outgrown=>exact hen
end
end Go.VT
end
section
namespace Go.VT
noncomputable section
open Go.RowKit
variable {U:Univ} {E:Env U} {F:Fr} {n:Nat} {β:Nm} {s:St U} {ρ:Operand→Value} {tmps:Array Value} {w:World} {o:Oper} {e:Eff U} {h:Obs U}
theorem Rep.cut {M:Nat→Prop} {e:TypeId} {t:Ty} {l:List (den U.T t)} {A:Option Addr} {k c:Nat} (r:Rep U w M ⟨.slice e t,l⟩ (.slice A k c)) {a b:Nat} (ha:a≤b) (hb:b≤l.length):
  k=l.length∧(0<k→k≤c)∧Rep U w M ⟨.slice e t,(l.take b).drop a⟩ (sliced A a b c (szOf U t)):=by
 generalize hv:Value.slice A k c=v at r
 cases r with
 |nil=>
  simp only [Value.slice.injEq] at hv
  obtain ⟨rfl,rfl,rfl⟩:=hv
  have:b=0:=by simpa using hb
  subst this
  have:a=0:=by omega
  subst this
  refine ⟨rfl,fun hh=>by omega,?_⟩
  unfold sliced
  exact .nil _ _ _ _
 |slice _ _ _ g q cap f h0 hc hm hM hg hcell hr=>
  simp only [Value.slice.injEq] at hv
  obtain ⟨rfl,rfl,rfl⟩:=hv
  refine ⟨rfl,fun _=>hc,?_⟩
  have hlen:((l.take b).drop a).length=b-a:=by simp;omega
  unfold sliced
  rcases Nat.eq_or_lt_of_le ha with rfl|hlt
  ·have:(l.take a).drop a=[]:=List.drop_eq_nil_of_le (by simp;omega)
   rw [this,Nat.sub_self]
   exact .nil _ _ _ _
  ·rw [if_neg (by omega)]
   have hr':Rep U w M ⟨.slice e t,(l.take b).drop a⟩ (.slice (some ⟨g,q+a*szOf U t,none⟩) ((l.take b).drop a).length (c-a)):=by
    refine .slice e t _ g (q+a*szOf U t) (c-a) (fun i j=>f (i+a) j) (by omega) (by omega) (by omega) hM hg (fun i hi j hj=>?_) (fun i x hx j d hd=>?_)
    ·rw [hlen] at hi
     have:=hcell (i+a) (by omega) j hj
     rw [←this]
     congr 2
     rw [Nat.add_mul]
     omega
    ·rw [List.getElem?_drop,List.getElem?_take] at hx
     split at hx
     ·exact hr (i+a) x (by rw [Nat.add_comm];exact hx) j d hd
     ·cases hx
   rw [hlen] at hr'
   have:(some (⟨g,q,none⟩:Addr)).map (fun x=>x.add (a*szOf U t))=some ⟨g,q+a*szOf U t,none⟩:=by simp [Addr.add_lit]
   rw [this]
   exact hr'
theorem br1 (hE:E.Fits) {t e:TypeId} {c:Ty} (hu:E.P.underlying t=some (.slice e)) (hc:E.code e=some c):E.P.elem t=e∧(sizeOf e).run E.P w=.ok (szOf U c) w:=by
 obtain ⟨i,z,hi,hsz,_⟩:=hE.code _ _ hc
 exact ⟨by simp [Program.elem,hu],by simp [sizeOf,typeInfo,hi,hsz]⟩
theorem Does.slice (hE:E.Fits) (R:Rel F n β s tmps w) {t:TypeId} {x:Operand} {lo hi:Option Operand} (hop:o.op=.slice t x lo hi none) {vs:List (PV U)} (hl:vs.length=(x::(lo.toList++hi.toList)).length)
  (r:∀ (j:Nat) (p:PV U) (y:Operand),vs[j]? =some p→(x::(lo.toList++hi.toList))[j]? =some y→PRel w β s.h s.σ p (ρ y)) {ids:List Nat} (he:az2 E (sub s.h ids) t lo.isSome hi.isSome vs=some e) (hob:e.Obl):Does E.P F β s ρ w o e:=by
 unfold az2 at he
 split at he
 case h_2=>cases he
 rename_i el hu
 split at he
 case h_2=>cases he
 rename_i c hc
 obtain ⟨hel,hsz⟩:=br1 (w:=w) hE hu hc
 have hu':E.P.underlying t=some (.slice (E.P.elem t)):=by rw [hel];exact hu
 split at he
 case h_2=>cases he
 rename_i x0 bs
 split at he
 case h_2=>cases he
 rename_i d u hd
 split at he
 case h_2=>cases he
 rename_i l0 hlas
 have:=Datum.as_eq hlas
 subst this
 obtain ⟨l,hl0⟩:∃ l:List (den U.T c),l=l0:=⟨l0,rfl⟩
 subst hl0
 obtain ⟨hfz,_⟩:=K7 hd
 have A:=I3 R.ok hfz
 have hrep:=am0 R.ok hd (r 0 _ _ rfl rfl).inv.2 hfz (fun _ hx=>hx)
 have hform:∃ (A0:Option Addr) (k0 c0:Nat),ρ x=.slice A0 k0 c0:=by
  generalize hv:ρ x=v at hrep
  cases hrep with
  |nil=>exact ⟨_,_,_,rfl⟩
  |slice=>exact ⟨_,_,_,rfl⟩
 obtain ⟨A0,k0,c0,hv⟩:=hform
 rw [hv] at hrep
 have fin:∀ (a b:Nat) (p:PV U) (ob:Option Prop),a≤b→b≤l.length→(execOp ρ o).run E.P w=.ok (.value (sliced A0 a b c0 (szOf U c))) w→p=.one (.d ⟨.slice el c,(l.take b).drop a⟩)→
   Does E.P F β s ρ w o ⟨ob,p,u⟩:=by
  intro a b p ob ha hb hrun hp
  subst hp
  obtain ⟨_,_,hr⟩:=hrep.cut ha hb
  exact ⟨_,w,β,.inl hrun,A,CsRel.one hr.one hr⟩
 have hk:=(hrep.cut (Nat.le_refl 0) (Nat.zero_le _)).1
 have hkc:=(hrep.cut (Nat.le_refl 0) (Nat.zero_le _)).2.1
 have hkc':l.length≤c0:=by
  rcases Nat.eq_zero_or_pos k0 with h0|h0
  ·omega
  ·have:=hkc h0;omega
 subst hk
 split at he
 ·rename_i hlo hhi
  have h1:lo=none:=by simpa using hlo
  have h2:hi=none:=by simpa using hhi
  subst h1;subst h2
  simp only [co4] at he
  subst he
  refine fin 0 l.length _ _ (Nat.zero_le _) (Nat.le_refl _) ?_ (by simp)
  simp [execOp,hop,hv,run_sliceAt_slice w t _ _ _ _ hu',run_slice_all w t A0 l.length c0 hu',hel,hsz]
 ·rename_i k a0 hlo hhi
  obtain ⟨a,ha0⟩:∃ a:Int,a=a0:=⟨a0,rfl⟩
  subst ha0
  obtain ⟨lo',rfl⟩:=Option.isSome_iff_exists.1 hlo
  have h2:hi=none:=by simpa using hhi
  subst h2
  simp only [co4] at he
  subst he
  have hob:0≤a∧a≤(l.length:Int):=hob
  have ha:=(r 1 _ _ rfl rfl).int
  refine fin a.toNat l.length _ _ (by omega) (Nat.le_refl _) ?_ (by simp)
  simp [execOp,hop,hv,ha,run_sliceAt_slice w t _ _ _ _ hu',run_slice_l w t A0 l.length c0 hu' k a hob.1 hob.2,hel,hsz]
 ·rename_i k b0 hlo hhi
  obtain ⟨b,hb0⟩:∃ b:Int,b=b0:=⟨b0,rfl⟩
  subst hb0
  obtain ⟨hi',rfl⟩:=Option.isSome_iff_exists.1 hhi
  have h2:lo=none:=by simpa using hlo
  subst h2
  simp only [co4] at he
  subst he
  have hob:0≤b∧b≤(l.length:Int):=hob
  have hb:=(r 1 _ _ rfl rfl).int
  refine fin 0 b.toNat _ _ (Nat.zero_le _) (by omega) ?_ (by simp)
  simp [execOp,hop,hv,hb,run_sliceAt_slice w t _ _ _ _ hu',run_slice_h w t A0 l.length c0 hu' k b hob.1 (by omega),hel,hsz]
 ·rename_i k a0 k' b0 hlo hhi
  obtain ⟨a,ha0⟩:∃ a:Int,a=a0:=⟨a0,rfl⟩
  subst ha0
  obtain ⟨b,hb0⟩:∃ b:Int,b=b0:=⟨b0,rfl⟩
  subst hb0
  obtain ⟨lo',rfl⟩:=Option.isSome_iff_exists.1 hlo
  obtain ⟨hi',rfl⟩:=Option.isSome_iff_exists.1 hhi
  simp only [co4] at he
  subst he
  have hob:0≤a∧a≤b∧b≤(l.length:Int):=hob
  have ha:=(r 1 _ _ rfl rfl).int
  have hb:=(r 2 _ _ rfl rfl).int
  refine fin a.toNat b.toNat _ _ (by omega) (by omega) ?_ rfl
  simp [execOp,hop,hv,ha,hb,run_sliceAt_slice w t _ _ _ _ hu',run_slice_lh w t A0 l.length c0 hu' k k' a b hob.1 hob.2.1 (by omega),hel,hsz]
 ·cases he
theorem bw1 (hE:E.Fits) (hρ:∀ v,ρ (.const v)=v) {t:TypeId} {x y:Operand} (hop:o.op=.makeSlice t x y) (hxy:aB4 x y=true) {k:IntKind} {a:Int} (hx:ρ x=.int k a)
  {el:TypeId} (hu:E.P.underlying t=some (.slice el)) {c:Ty} (hc:E.code el=some c) (hob:0≤a∧a*(O5 E.P el:Int)≤(most:Int)):
  ∃ (i:TypeInfo) (z:Value) (xs:List Value),E.P.info? el=some i∧i.zero=some z∧0<szOf U c∧a.toNat≤most∧(execOp ρ o).run E.P w=.ok (.value (.slice (some ⟨w.heap.size,0,none⟩) a.toNat a.toNat)) (w.alloc (.cells xs.toArray el))∧xs.length=a.toNat*szOf U c∧(∀ v∈xs,v.oneCell'=true)∧
   ∀ (q j:Nat) (d:Datum U),q<a.toNat→(B4 U c (dfl U c))[j]? =some d→∃ u,z.cells[j]? =some u∧xs[q*szOf U c+j]? =some u∧∀ (w:World) (M:Nat→Prop),Rep U w M d u:=by
 obtain ⟨i,z,hi,hsz,hz,hzs,hpos,hby,hz1c,hzr⟩:=hE.code _ _ hc
 have hbyT:O5 E.P el=i.bytes:=by simp [O5,Program.bytesOf,hi]
 rw [hbyT] at hob
 obtain ⟨m,rfl⟩:=cp0 hob.1
 have hy:∃ k',ρ y=.int k' (m:Int):=by
  unfold aB4 at hxy
  split at hxy
  ·have:=co5 hxy
   subst this
   exact ⟨k,hx⟩
  ·rename_i kx ax ky ay
   simp only [beq_iff_eq] at hxy
   subst hxy
   rw [hρ] at hx
   simp only [Value.int.injEq] at hx
   exact ⟨ky,by rw [hρ,hx.2]⟩
  ·cases hxy
 obtain ⟨k',hy⟩:=hy
 have hm:m*i.bytes≤most:=by
  have:=hob.2
  omega
 have hmm:m≤most:=Nat.le_trans (Nat.le_mul_of_pos_right _ hby) hm
 have hrun:=run_make (P:=E.P) w t el i z hu hi hz k k' (m:Int) (m:Int) (by omega) (Int.le_refl _) (by
  have:((i.bytes*m:Nat):Int)≤281474976710656:=by rw [Nat.mul_comm];simp only [most] at hm;omega
  rwa [Int.natCast_mul] at this) (by simp only [most] at hmm;omega)
 simp only [co8] at hrun ⊢
 have hgets:∀ q,q<m*i.size→(madeCells z.cells (m*i.size))[q]? =some (z.cells[q % i.size]!):=by
  intro q hq
  simp [madeCells,hq,hzs]
 refine ⟨i,z,(madeCells z.cells (m*i.size)).toList,hi,hz,hpos,hmm,by simp [execOp,hop,hx,hy,hrun],by simp [madeCells,hsz],fun v hv=>?_,fun q j d hq hd=>?_⟩
 ·obtain ⟨q,hq,rfl⟩:=List.mem_iff_getElem.1 hv
  have hq':q<m*i.size:=by simpa [madeCells] using hq
  have:=hgets q hq'
  have hmod:q % i.size<z.cells.size:=by rw [hzs];exact Nat.mod_lt _ (by rw [hsz];exact hpos)
  rw [cq1 (by simpa [madeCells] using hq')] at this
  simp only [co4] at this
  rw [Array.getElem_toList,this,getElem!_pos z.cells _ hmod]
  exact hz1c _ (Array.getElem_mem_toList hmod)
 ·obtain ⟨u,hu,hr⟩:=hzr j d hd
  have hj:j<i.size:=by
   rw [←hzs]
   by_cases hj:j<z.cells.size
   ·exact hj
   ·rw [Array.getElem?_eq_none (by omega)] at hu;cases hu
  refine ⟨u,hu,?_,fun w M=>hr w M⟩
  have hlt:q*szOf U c+j<m*i.size:=by
   rw [←hsz]
   have:(q+1)*i.size≤m*i.size:=Nat.mul_le_mul_right _ hq
   rw [Nat.add_mul,Nat.one_mul] at this
   omega
  rw [Array.getElem?_toList,hgets _ hlt,←hsz,Nat.mul_comm,Nat.mul_add_mod,Nat.mod_eq_of_lt hj]
  rw [cq1 (by omega)] at hu
  simp only [co4] at hu
  rw [getElem!_pos z.cells j (by omega),hu]
theorem Does.make (hE:E.Fits) (R:Rel F n β s tmps w) (hρ:∀ v,ρ (.const v)=v) {t:TypeId} {x y:Operand} (hop:o.op=.makeSlice t x y) (hxy:aB4 x y=true) {v:PV U} (r:PRel w β s.h s.σ v (ρ x))
  (he:aQ6 E o.dst t v=some e) (hob:e.Obl) (hf:look (B5 o.dst 0) s.h=none):Does E.P F β s ρ w o e:=by
 unfold aQ6 at he
 split at he
 case h_2=>cases he
 rename_i k a0
 obtain ⟨a,ha0⟩:∃ a:Int,a=a0:=⟨a0,rfl⟩
 subst ha0
 split at he
 case h_2=>cases he
 rename_i el hu
 split at he
 case h_2=>cases he
 rename_i c hc
 simp only [co4] at he
 subst he
 obtain ⟨i,z,hi,hsz,hz,hzs,hpos,hby,hz1c,hzr⟩:=hE.code _ _ hc
 have hbyT:O5 E.P el=i.bytes:=by simp [O5,Program.bytesOf,hi]
 have hob:0≤a∧a*(O5 E.P el:Int)≤(most:Int):=hob
 rw [hbyT] at hob
 obtain ⟨m,rfl⟩:=cp0 hob.1
 have hx:=r.int
 have hy:∃ k',ρ y=.int k' (m:Int):=by
  unfold aB4 at hxy
  split at hxy
  ·have:=co5 hxy
   subst this
   exact ⟨k,hx⟩
  ·rename_i kx ax ky ay
   simp only [beq_iff_eq] at hxy
   subst hxy
   rw [hρ] at hx
   simp only [Value.int.injEq] at hx
   exact ⟨ky,by rw [hρ,hx.2]⟩
  ·cases hxy
 obtain ⟨k',hy⟩:=hy
 have hm:m*i.bytes≤most:=by
  have:=hob.2
  omega
 have hmm:m≤most:=Nat.le_trans (Nat.le_mul_of_pos_right _ hby) hm
 have hrun:=run_make (P:=E.P) w t el i z hu hi hz k k' (m:Int) (m:Int) (by omega) (Int.le_refl _) (by
  have:((i.bytes*m:Nat):Int)≤281474976710656:=by rw [Nat.mul_comm];simp only [most] at hm;omega
  rwa [Int.natCast_mul] at this) (by simp only [most] at hmm;omega)
 simp only [co8] at hrun
 have hgets:∀ q,q<m*i.size→(madeCells z.cells (m*i.size))[q]? =some (z.cells[q % i.size]!):=by
  intro q hq
  simp [madeCells,hq,hzs]
 have A:=aZ2 R.ok hf (e:=el) (t:=c) (l:=List.replicate m (dfl U c)) (xs:=(madeCells z.cells (m*i.size)).toList) (by simp [madeCells,hsz]) (by simpa using hmm) (fun v hv=>by
   obtain ⟨q,hq,rfl⟩:=List.mem_iff_getElem.1 hv
   have hq':q<m*i.size:=by simpa [madeCells] using hq
   have:=hgets q hq'
   have hmod:q % i.size<z.cells.size:=by rw [hzs];exact Nat.mod_lt _ (by rw [hsz];exact hpos)
   rw [cq1 (by simpa [madeCells] using hq')] at this
   simp only [co4] at this
   rw [Array.getElem_toList,this,getElem!_pos z.cells _ hmod]
   exact hz1c _ (Array.getElem_mem_toList hmod)) (fun q x hx j d hd=>by
   have hqm:q<m:=by
    by_cases hq:q<m
    ·exact hq
    ·rw [List.getElem?_eq_none (by simpa using Nat.le_of_not_lt hq)] at hx;cases hx
   rw [co6 (by simpa using hqm)] at hx
   simp only [List.getElem_replicate,co4] at hx
   subst hx
   obtain ⟨u,hu,hr⟩:=hzr j d hd
   have hj:j<i.size:=by
    rw [←hzs]
    by_cases hj:j<z.cells.size
    ·exact hj
    ·rw [Array.getElem?_eq_none (by omega)] at hu;cases hu
   refine ⟨u,?_,hr _ _⟩
   have hlt:q*szOf U c+j<m*i.size:=by
    rw [←hsz]
    have:(q+1)*i.size≤m*i.size:=Nat.mul_le_mul_right _ hqm
    rw [Nat.add_mul,Nat.one_mul] at this
    omega
   rw [Array.getElem?_toList,hgets _ hlt,←hsz,Nat.mul_comm,Nat.mul_add_mod,Nat.mod_eq_of_lt hj]
   rw [cq1 (by omega)] at hu
   simp only [co4] at hu
   rw [getElem!_pos z.cells j (by omega),hu])
 simp only [List.length_replicate] at A
 refine ⟨.slice (some ⟨w.heap.size,0,none⟩) m m,_,_,.inl ?_,A,af6 (B0 _ _ _) (C2 _ _ _) rfl _⟩
 simp [execOp,hop,hx,hy,hrun]
theorem Z4 {B:Nat} {id:Nat} {D:Deep U} {N:Value} (r:DRel B w β h D N) (hN:β id=N):ORel B w β h id (.dp D):=by
 subst hN;exact r
theorem Does.slice3 (hE:E.Fits) (R:Rel F n β s tmps w) {t:TypeId} {x hi mx:Operand} (hop:o.op=.slice t x none (some hi) (some mx)) {vs:List (PV U)} (hl:vs.length=[x,hi,mx].length)
  (r:∀ (j:Nat) (p:PV U) (y:Operand),vs[j]? =some p→[x,hi,mx][j]? =some y→PRel w β s.h s.σ p (ρ y)) {ids:List Nat} (he:ao4 E (sub s.h ids) t vs=some e) (hob:e.Obl):Does E.P F β s ρ w o e:=by
 unfold ao4 at he
 split at he
 case h_2=>cases he
 rename_i el hu
 split at he
 case h_2=>cases he
 rename_i c hc
 obtain ⟨hel,hsz⟩:=br1 (w:=w) hE hu hc
 have hu':E.P.underlying t=some (.slice (E.P.elem t)):=by rw [hel];exact hu
 split at he
 case h_2=>cases he
 rename_i x0 k1 a0 k2 b0
 obtain ⟨a,ha0⟩:∃ a:Int,a=a0:=⟨a0,rfl⟩
 subst ha0
 obtain ⟨b,hb0⟩:∃ b:Int,b=b0:=⟨b0,rfl⟩
 subst hb0
 have ha:=(r 1 _ _ rfl rfl).int
 have hb:=(r 2 _ _ rfl rfl).int
 have hrun:∀ (A0:Option Addr) (k0 c0:Nat),ρ x=.slice A0 k0 c0→0≤a→a≤b→b≤(c0:Int)→(execOp ρ o).run E.P w=.ok (.value (sliced A0 0 a.toNat b.toNat (szOf U c))) w:=by
  intro A0 k0 c0 hv h0 h1 h2
  simp [execOp,hop,hv,ha,hb,run_sliceAt_slice w t _ _ _ _ hu',run_slice_hm w t A0 k0 c0 hu' k1 k2 a b h0 h1 h2,hel,hsz]
 split at he
 ·--a row of the call's own
  rename_i id ver
  split at he
  case h_2=>cases he
  rename_i e' t' l ver' hlk
  split at he
  case isFalse=>cases he
  rename_i hbq
  simp only [co7,beq_iff_eq] at hbq
  have hver:=co5 hbq.1
  simp only [co4] at he
  subst he
  have hlk:=C1 hlk
  obtain ⟨q1,q2⟩:a=(l.length:Int)∧b=(l.length:Int):=hob
  obtain ⟨_,_,_,_,_,hl2,_,hvv⟩:=(r 0 _ _ rfl rfl).inv.2
  rw [hlk] at hl2
  simp only [co4,Ob.row.injEq] at hl2
  have hx:=hvv (hver.trans hl2.2.2.2.1)
  obtain ⟨xs,hown,hm,h1c,hel2⟩:=R.obj id _ hlk
  obtain ⟨v',hrv,hown'⟩:∃ v',(execOp ρ o).run E.P w=.ok (.value v') w∧Owns w F.B e' (szOf U t') v' l.length xs∧D8 v'=D8 (β id):=by
   rcases hown.2 with ⟨h3,h4⟩|⟨g,cap,cur,h3,h4,h5,h6,h7,h8,h9⟩
   ·refine ⟨.slice none 0 0,?_,⟨hown.1,.inl ⟨rfl,h4⟩⟩,by rw [h3]⟩
    rw [hrun none 0 0 (by rw [hx,h3]) (by omega) (by omega) (by omega)]
    have h4':l.length=0:=h4
    rw [q1,q2,h4']
    rfl
   ·refine ⟨.slice (some ⟨g,0,none⟩) l.length l.length,?_,⟨hown.1,.inr ⟨g,l.length,cur,rfl,h4,h5,Nat.le_refl _,by omega,Nat.le_trans (Nat.mul_le_mul_right _ h6) h8,h9⟩⟩,by rw [h3];rfl⟩
    rw [hrun _ _ cap (by rw [hx,h3]) (by omega) (by omega) (by omega),q1,q2]
    simp [sliced,Addr.add_lit]
  have A:After F w β s.h w (upd1 β id v') (write id (.row e' t' l (ver+1) true) s.h):=by
   refine J8 R.ok hlk rfl rfl rfl rfl (Nat.le_refl _) (fun _ _ _=>rfl) rfl (fun j hj=>ai5 β v' hj) rfl (fun h=>by simp [Ob.oth] at h) (fun bb hbb=>.inl ?_) (fun _ _ h5=>by cases h5) (fun e2 t2 l2 v2 lv2 h5=>?_) (fun xx=>?_)
   ·rw [C2] at hbb
    refine hown.has ?_
    rw [←hown'.2]
    exact hown'.1.has' hbb
   ·cases h5;exact ⟨_,_,_,rfl,by omega,fun hh=>by omega⟩
   ·exact ⟨xs,by rw [C2];exact hown'.1,hm,h1c,Els.ext xx hel2⟩
  refine ⟨v',w,upd1 β id v',.inl hrv,A,?_⟩
  exact af6 (B0 _ _ _) (C2 _ _ _) (af7 hown'.1) _
 ·--data
  split at he
  case h_2=>cases he
  rename_i d u hd
  split at he
  case h_2=>cases he
  rename_i l0 hlas
  have:=Datum.as_eq hlas
  subst this
  obtain ⟨l,hl0⟩:∃ l:List (den U.T c),l=l0:=⟨l0,rfl⟩
  subst hl0
  simp only [co4] at he
  subst he
  obtain ⟨h0,h1,h2⟩:0≤a∧a≤b∧b≤(l.length:Int):=hob
  obtain ⟨hfz,_⟩:=K7 hd
  have A:=I3 R.ok hfz
  have hrep:=am0 R.ok hd (r 0 _ _ rfl rfl).inv.2 hfz (fun _ hx=>hx)
  have hform:∃ (A0:Option Addr) (k0 c0:Nat),ρ x=.slice A0 k0 c0:=by
   generalize hv:ρ x=v at hrep
   cases hrep with
   |nil=>exact ⟨_,_,_,rfl⟩
   |slice=>exact ⟨_,_,_,rfl⟩
  obtain ⟨A0,k0,c0,hv⟩:=hform
  rw [hv] at hrep
  obtain ⟨hk,hkc,hr⟩:=hrep.cut (Nat.zero_le a.toNat) (by omega)
  have hc0:l.length≤c0:=by
   rcases Nat.eq_zero_or_pos k0 with h3|h3
   ·omega
   ·have:=hkc h3;omega
  have hr2:Rep U w (Live β (upds s.h u)) ⟨.slice el c,l.take a.toNat⟩ (sliced A0 0 a.toNat b.toNat (szOf U c)):=by
   rw [List.drop_zero] at hr
   unfold sliced at hr ⊢
   rcases Nat.eq_zero_or_pos a.toNat with h3|h3
   ·rw [h3,List.take_zero]
    exact .nil _ _ _ _
   ·have hc1:¬ c0=0:=by omega
    have hb1:¬ b.toNat=0:=by omega
    rw [if_neg hc1] at hr
    rw [if_neg hb1]
    simp only [Nat.sub_zero] at hr ⊢
    generalize hlt:l.take a.toNat=lt at hr
    have hll:lt.length=a.toNat:=by rw [←hlt];simp;omega
    generalize hAA:A0.map (fun x=>x.add (0*szOf U c))=AA at hr
    generalize hvv:Value.slice AA a.toNat c0=vv at hr
    cases hr with
    |nil=>simp at hll;omega
    |slice _ _ _ g q cap f p0 p1 p2 p3 p4 p5 p6=>
     simp only [Value.slice.injEq] at hvv
     obtain ⟨rfl,_,rfl⟩:=hvv
     rw [←hll]
     exact .slice el c lt g q b.toNat f p0 (by omega) p2 p3 p4 p5 p6
  exact ⟨_,w,β,.inl (hrun A0 k0 c0 hv h0 h1 (by omega)),A,CsRel.one hr2.one hr2⟩
theorem bR8 {c:Cell U} (h:bv0 c=true):c=.lit (.slice none 0 0):=by
 unfold bv0 at h
 split at h
 ·rfl
 ·cases h
theorem aD4 {v:Value} (h:bv0 (V7 (U:=U) v)=true):v=.slice none 0 0:=by
 have h:=bR8 h
 cases v<;>simp_all [V7]
def nsOf (sz:Nat) (m:List Nat) (xs:List Value):List Value:=xs.mapIdx fun p u=>if m.any (Nat.beq (p % sz)) then u else undef
theorem br2 {sz:Nat} {m:List Nat} {xs:List Value} {p:Nat} {u:Value} (h:xs[p]? =some u):(nsOf sz m xs)[p]? =some (if m.any (Nat.beq (p % sz)) then u else undef):=by
 simp [nsOf,List.getElem?_mapIdx,h]
theorem br3 {sz:Nat} {m:List Nat} {xs:List Value} {p:Nat} {n:Value} (h:(nsOf sz m xs)[p]? =some n):∃ u,xs[p]? =some u∧n=(if m.any (Nat.beq (p % sz)) then u else undef):=by
 simp only [nsOf,List.getElem?_mapIdx,cp1] at h
 obtain ⟨u,hu,hn⟩:=h
 exact ⟨u,hu,hn.symm⟩
theorem bR9 {sz i j:Nat} (h:j<sz):(i*sz+j) % sz=j:=by rw [Nat.mul_comm,Nat.mul_add_mod,Nat.mod_eq_of_lt h]
theorem Does.makeDp (hE:E.Fits) (R:Rel F n β s tmps w) (hρ:∀ v,ρ (.const v)=v) {t:TypeId} {x y:Operand} (hop:o.op=.makeSlice t x y) (hxy:aB4 x y=true) {v:PV U} (r:PRel w β s.h s.σ v (ρ x))
  {el:TypeId} {m:List Nat} (hdp:dpOf E t=some (el,m)) (he:ao5 E o.dst el m v=some e) (hob:e.Obl) (hf:look (B5 o.dst 0) s.h=none):Does E.P F β s ρ w o e:=by
 have hu:E.P.underlying t=some (.slice el):=by
  unfold dpOf at hdp
  split at hdp
  ·rename_i e' hu
   simp only [cp1,cp6] at hdp
   obtain ⟨_,_,rfl,_⟩:=hdp
   exact hu
  ·cases hdp
 unfold ao5 at he
 split at he
 case h_2=>cases he
 rename_i k a0
 obtain ⟨a,ha0⟩:∃ a:Int,a=a0:=⟨a0,rfl⟩
 subst ha0
 split at he
 case h_2=>cases he
 rename_i c hc
 split at he
 case h_2=>cases he
 rename_i zs hzs
 split at he
 case isFalse=>cases he
 rename_i hall
 simp only [co4] at he
 subst he
 obtain ⟨i,z,xs,hi,hz,hsz,hmost,hrun,hxl,hx1,hcell⟩:=bw1 (w:=w) hE hρ hop hxy r.int hu hc hob
 obtain ⟨i',z',hi',hz',rfl,_⟩:=az8 hzs
 rw [hi] at hi'
 simp only [co4] at hi'
 subst hi'
 rw [hz] at hz'
 simp only [co4] at hz'
 subst hz'
 have hnil:∀ (j:Nat) (u:Value),m.any (Nat.beq j)=true→z.cells[j]? =some u→u=.slice none 0 0:=by
  intro j u hm hu
  have:=cr4.1 hall j (aC6.1 hm)
  simp only [cp9,Array.getElem?_toList,hu,Option.map_some] at this
  exact aD4 this
 have hnb:D8 undef=none:=rfl
 have hcellx:∀ (p:Nat) (u:Value),xs[p]? =some u→m.any (Nat.beq (p % szOf U c))=true→u=.slice none 0 0:=by
  intro p u hp hm
  have hpl:=(co9.1 hp).1
  rw [hxl] at hpl
  have hq:p / szOf U c<a.toNat:=by rw [Nat.div_lt_iff_lt_mul hsz];exact hpl
  have hj:p % szOf U c<(B4 U c (dfl U c)).length:=by rw [B3];exact Nat.mod_lt _ hsz
  obtain ⟨u',h1,h2,_⟩:=hcell _ _ _ hq (co6 hj)
  rw [show p / szOf U c*szOf U c+p % szOf U c=p by rw [Nat.mul_comm];exact Nat.div_add_mod _ _,hp] at h2
  simp only [co4] at h2
  subst h2
  exact hnil _ _ hm h1
 have hnsb:∀ (p:Nat) (q:Value),(nsOf (szOf U c) m xs)[p]? =some q→D8 q=none:=by
  intro p q hq
  obtain ⟨u,h1,h2⟩:=br3 hq
  split at h2
  ·rename_i hm;rw [h2,hcellx p u h1 hm];rfl
  ·rw [h2];rfl
 have A:After F w β s.h (w.alloc (.cells xs.toArray el)) (upd1 β (B5 o.dst 0) (.tuple ((.slice (some ⟨w.heap.size,0,none⟩) a.toNat a.toNat:Value)::nsOf (szOf U c) m xs).toArray)) (write (B5 o.dst 0) (.dp (.rows el c m (List.replicate a.toNat (dfl U c)) 0 0 true none)) s.h):=by
  refine S9 R.ok (O8 _ _) hf (.inl rfl) (fun g hg=>?_) (fun xx=>?_)
  ·rcases C3.1 hg with h1|⟨p,q,h1,h2⟩
   ·have:w.heap.size=g:=by simpa [D8] using h1
    omega
   ·rw [hnsb p q h1] at h2;cases h2
  ·refine Z4 ?_ (C2 _ _ _)
   refine ⟨_,xs,_,rfl,?_,by simpa using hmost,hx1,by simp [nsOf],fun q x hx j d hd=>?_,fun p q u v b hp hq hb _=>?_,fun p u b hp hb=>?_⟩
   ·rw [List.length_replicate]
    refine ⟨hxl,.inr ⟨w.heap.size,a.toNat,xs.toArray,rfl,R.hB,heap_alloc_new w _,Nat.le_refl _,?_,by simp only [List.size_toArray];omega,?_⟩⟩
    ·simp only [most,maxLen] at*;omega
    ·rw [←hxl];simp
   ·have hq:q<a.toNat:=by have:=(co9.1 hx).1;simpa using this
    rw [co6 (by simpa using hq)] at hx
    simp only [List.getElem_replicate,co4] at hx
    subst hx
    have hj:=ac1 hd
    obtain ⟨u,h1,h2,h3⟩:=hcell q j d hq hd
    have hns:=br2 (sz:=szOf U c) (m:=m) h2
    rw [bR9 hj] at hns
    refine ⟨u,_,h2,hns,fun hm=>⟨(by rintro ⟨_,hh,_⟩;cases hh),fun _=>?_⟩,fun hm=>⟨by rw [if_neg (by rw [hm];simp)],h3 _ _⟩⟩
    rw [if_pos hm]
    have hun:=hnil j u hm h1
    subst hun
    have h4:=h3 w (Live β s.h)
    generalize hv:Value.slice none 0 0=vv at h4
    cases h4 with
    |nil e t A c=>exact ⟨rfl,e,t,[],rfl,[],by rw [←hv];exact Owns.of (World.ownsRow_nil _ _ _ _),by simp [most],by simp,fun i y hy=>by simp at hy⟩
    |_=>cases hv
   ·rw [hnsb p u hp] at hb;cases hb
   ·rw [hnsb p u hp] at hb;cases hb
 exact ⟨_,_,_,.inl hrun,A,CsRel.one rfl ⟨_,B0 _ _ _,Nat.le_refl _,fun _=>⟨_,C2 _ _ _,by simp⟩⟩⟩
theorem bZ3 {e:TypeId} {t:Ty} {m m':List Nat} {l l':List (den U.T t)} {ver iv:Nat} {lv lv':Bool} {hole hole':Option (Int×Nat)} {N N':Value} (c:DC U) (v:Value)
  (hv:DCRel (.rows e t m l ver iv lv hole) N c v):DCRel (.rows e t m' l' (ver+1) (iv+1) lv' hole') N' c v:=by
 cases c with
 |self v0=>exact ⟨Nat.le_succ_of_le hv.1,fun hh=>by have:=hv.1;omega⟩
 |elt v0 i off=>exact ⟨Nat.le_succ_of_le hv.1,fun hh=>by have:=hv.1;omega⟩
 |inn v0 i j=>exact ⟨Nat.le_succ_of_le hv.1,fun hh=>by have:=hv.1;omega⟩
 |iat v0 i j k off=>exact ⟨Nat.le_succ_of_le hv.1,fun hh=>by have:=hv.1;omega⟩
 |key=>exact hv
 |it=>exact hv
theorem Does.appendDp (hE:E.Fits) (R:Rel F n β s tmps w) {c:Call} {x y:Operand} (hop:o.op=.call c) (hc:c.callee=.builtin .append) (hx:c.args.toList=[x,y]) {ty el:TypeId} (hts2:c.argTypes=#[ty,ty]) (hu:E.P.underlying ty=some (.slice el)) {t:Ty} (hcd:E.code el=some t)
  {a v:PV U} (r:PRel w β s.h s.σ a (ρ x)) (q:PRel w β s.h s.σ v (ρ y)) {ids:List Nat} (he:ab1 E (sub s.h ids) el t a v=some e)
  (hob:e.Obl):Does E.P F β s ρ w o e:=by
 obtain ⟨i,z,hi,hsz,hz,hzs,hpos,hby,hz1c,_⟩:=hE.code _ _ hcd
 have hbyT:O5 E.P el=i.bytes:=by simp [O5,Program.bytesOf,hi]
 have hargs:c.args.map ρ=#[ρ x,ρ y]:=by
  apply Array.toList_inj.1
  simp [hx]
 unfold ab1 at he
 split at he
 case h_2=>cases he
 rename_i id v1 id2 v2
 split at he
 case h_2=>cases he
 rename_i e1 t1 m1 l1 ver1 iv1 e2 t2 m2 l2 ver2 iv2 hl1 hl2
 split at he
 case isFalse=>cases he
 rename_i hcond
 simp only [co7,Bool.not_eq_true',beq_iff_eq] at hcond
 obtain ⟨⟨⟨⟨⟨c1,c2⟩,c3⟩,rfl⟩,rfl⟩,rfl⟩:=hcond
 have hne:id≠id2:=fun hh=>by rw [hh,Nat.beq_refl] at c3;cases c3
 split at he
 case h_2=>cases he
 rename_i la lb ha hb
 have ha:=Datum.as_eq ha
 cases ha
 have hb:=Datum.as_eq hb
 cases hb
 simp only [co4] at he
 subst he
 have hl1:=C1 hl1
 have hl2:=C1 hl2
 obtain ⟨D1,hd1,hv1⟩:=r.inv.2
 rw [hl1] at hd1
 simp only [co4,Ob.dp.injEq] at hd1
 subst hd1
 obtain ⟨D2,hd2,hv2⟩:=q.inv.2
 rw [hl2] at hd2
 simp only [co4,Ob.dp.injEq] at hd2
 subst hd2
 have o1:=R.obj id _ hl1
 have o2:=R.obj id2 _ hl2
 have s1:=af5 (show DRel F.B w β s.h (.rows el t m1 la ver1 iv1 true none) (β id) from o1) (co5 c1) hv1
 have s2:=af5 (show DRel F.B w β s.h (.rows el t m1 lb ver2 iv2 true none) (β id2) from o2) (co5 c2) hv2
 generalize hrx:ρ x=root1 at s1 hargs
 generalize hry:ρ y=root2 at s2 hargs
 obtain ⟨_,_,hN1,_⟩:=s1
 obtain ⟨_,_,hN2,_⟩:=s2
 obtain ⟨root1',xs1,ns1,hN1',p1,p2,p3,p4,p5,p6,p7⟩:=o1
 obtain ⟨root2',xs2,ns2,hN2',q1,q2,q3,q4,q5,q6,q7⟩:=o2
 rw [hN1'] at hN1
 have hN1:=congrArg Array.toList (G9 hN1)
 simp only [List.cons.injEq] at hN1
 obtain ⟨rfl,_⟩:=hN1
 rw [hN2'] at hN2
 have hN2:=congrArg Array.toList (G9 hN2)
 simp only [List.cons.injEq] at hN2
 obtain ⟨rfl,_⟩:=hN2
 rw [hbyT] at hob
 have hob:(List.length la+List.length lb)*i.bytes≤most:=hob
 have hlen:(la++lb).length≤most:=by
  rw [cq5]
  exact Nat.le_trans (Nat.le_mul_of_pos_right _ hby) hob
 have happ:∃ v' w',(Builtin.append_ #[ty,ty] o.type #[root1,root2]).run E.P w=.ok v' w'∧Owns w' F.B el (szOf U t) v' (la.length+lb.length) (xs1++xs2)∧w.grownBy w' root1.ownBlock∧(v'.ownBlock=root1.ownBlock∨v'.ownBlock=some w.heap.size):=by
  rcases q1.2 with ⟨h3,h4⟩|⟨g,cap,cur,h3,h4,h5,h6,h7,h8,h9⟩
  ·obtain ⟨⟨A',cap',hv,hle⟩,_⟩:=p1.form
   have hx2:xs2=[]:=List.eq_nil_of_length_eq_zero (by rw [q1.1,h4,Nat.zero_mul])
   refine ⟨root1,w,?_,by rw [hx2,h4];simpa using p1,⟨rfl,rfl,rfl,Nat.le_refl _,fun _ _ _=>rfl⟩,.inl rfl⟩
   rw [h3,hv]
   exact X8 hu hi A' la.length cap' hle 0 w
  ·have hcells:=q1.cells (g:=g) (by rw [h3];rfl)
   rw [h3]
   rw [←hsz] at p1 q1 ⊢
   rw [←hsz] at hpos
   exact ad8 (P:=E.P) (ty:=o.type) hu hi hz hzs hpos R.hB p1 ⟨g,0,none⟩ lb.length cap xs2 q1.1 (fun j u hj=>by rw [Addr.add_lit,Nat.zero_add];exact hcells j u hj) q3 (by rw [cq5] at hlen;simp only [most,maxLen] at*;omega) (by simp only [most] at hob;omega)
 obtain ⟨v',w',hrun,hown',hgrow,hblk⟩:=happ
 have hvo:=R9 p1
 have hvo':=R9 hown'
 let N1:Value:=.tuple (v'::(ns1++ns2)).toArray
 let N2:Value:=.tuple ((.slice none 0 0:Value)::[]).toArray
 let β':Nm:=⟨fun j=>if j=id then N1 else if j=id2 then N2 else β j,β.M,β.lp⟩
 have hβ1:β' id=N1:=by simp [β']
 have hβ2:β' id2=N2:=by simp [β',Ne.symm hne]
 have hno2:∀ b,¬ Has N2 b:=by
  intro b hb
  rcases C3.1 hb with h3|⟨p,n,h3,_⟩
  ·simp [D8] at h3
  ·simp at h3
 have hr1:∀ b,D8 root1=some b→Has (β id) b:=fun b hb=>by rw [hN1'];exact C3.2 (.inl hb)
 have hn1:∀ (p:Nat) (n:Value) (b:Nat),ns1[p]? =some n→D8 n=some b→Has (β id) b:=fun p n b hp hb=>by rw [hN1'];exact C3.2 (.inr ⟨p,n,hp,hb⟩)
 have hn2:∀ (p:Nat) (n:Value) (b:Nat),ns2[p]? =some n→D8 n=some b→Has (β id2) b:=fun p n b hp hb=>by rw [hN2'];exact C3.2 (.inr ⟨p,n,hp,hb⟩)
 have hx12:∀ b,Has (β id) b→¬ Has (β id2) b:=fun b h3 h4=>hne (R.dis id _ id2 _ b hl1 hl2 h3 h4)
 have hlt1:∀ b,Has (β id) b→b<w.heap.size:=fun b hb=>((R.obj id _ hl1).blk hb).2
 have hlt2:∀ b,Has (β id2) b→b<w.heap.size:=fun b hb=>((R.obj id2 _ hl2).blk hb).2
 have hv'b:∀ b,D8 v'=some b→D8 root1=some b∨b=w.heap.size:=by
  intro b hb
  rw [hvo'] at hb
  rcases hblk with h6|h6
  ·left;rw [hvo,←h6];exact hb
  ·right;rw [h6] at hb;simpa using hb.symm
 have happ:∀ (p:Nat) (n:Value),(ns1++ns2)[p]? =some n→(p<ns1.length∧ns1[p]? =some n)∨(ns1.length≤p∧ns2[p-ns1.length]? =some n):=by
  intro p n hp
  by_cases h3:p<ns1.length
  ·rw [cq4 h3] at hp;exact .inl ⟨h3,hp⟩
  ·rw [cq3 (by omega)] at hp;exact .inr ⟨by omega,hp⟩
 have hkeep:∀ b,b<w.heap.size→D8 root1≠some b→w'.heap[b]? =w.heap[b]? :=fun b hb hn=>hgrow.block b hb (fun hh=>hn (by rw [hvo];exact hh.symm))
 have hmem:∀ {j:Nat} {ob:Ob U},(j,ob)∈[(id2,Ob.dp (.rows el t m1 [] (ver2+1) (iv2+1) true none)),(id,Ob.dp (.rows el t m1 (la++lb) (ver1+1) (iv1+1) true none))]→(j=id2∧ob=.dp (.rows el t m1 [] (ver2+1) (iv2+1) true none))∨(j=id∧ob=.dp (.rows el t m1 (la++lb) (ver1+1) (iv1+1) true none)):=by
  intro j ob hj
  simpa using hj
 have A:After F w β s.h w' β' (upds s.h [(id2,.dp (.rows el t m1 [] (ver2+1) (iv2+1) true none)),(id,.dp (.rows el t m1 (la++lb) (ver1+1) (iv1+1) true none))]):=by
  refine Q5 R.ok (by simpa using Ne.symm hne) ?_ hgrow.os hgrow.tape hgrow.output hgrow.size ?_ rfl ?_ rfl ?_ ?_ ?_ ?_ ?_
  ·intro j ob ob0 hj hlj
   rcases hmem hj with ⟨rfl,rfl⟩|⟨rfl,rfl⟩
   ·rw [hl2] at hlj;simp only [co4] at hlj;subst hlj;rfl
   ·rw [hl1] at hlj;simp only [co4] at hlj;subst hlj;rfl
  ·intro b hb hn
   exact hkeep b hb (fun hh=>hn id (.dp (.rows el t m1 (la++lb) (ver1+1) (iv1+1) true none)) _ (by simp) hl1 (hr1 b hh))
  ·intro j hj
   have h2:j≠id:=fun hh=>hj (.dp (.rows el t m1 (la++lb) (ver1+1) (iv1+1) true none)) (by simp [hh])
   have h3:j≠id2:=fun hh=>hj (.dp (.rows el t m1 [] (ver2+1) (iv2+1) true none)) (by simp [hh])
   simp [β',h2,h3]
  ·intro j ob b hj hb
   rcases hmem hj with ⟨rfl,rfl⟩|⟨rfl,rfl⟩
   ·rw [hβ2] at hb;exact absurd hb (hno2 b)
   ·rw [hβ1] at hb
    rcases C3.1 hb with h3|⟨p,n,h3,h4⟩
    ·rcases hv'b b h3 with h5|h5
     ·exact .inl ⟨j,.dp (.rows el t m1 (la++lb) (ver1+1) (iv1+1) true none),_,by simp,hl1,hr1 b h5⟩
     ·right;omega
    ·rcases happ p n h3 with ⟨_,h5⟩|⟨_,h5⟩
     ·exact .inl ⟨j,.dp (.rows el t m1 (la++lb) (ver1+1) (iv1+1) true none),_,by simp,hl1,hn1 _ n b h5 h4⟩
     ·exact .inl ⟨id2,.dp (.rows el t m1 [] (ver2+1) (iv2+1) true none),_,by simp,hl2,hn2 _ n b h5 h4⟩
  ·intro j ob j' ob' b hj hj' hb hb'
   rcases hmem hj with ⟨rfl,rfl⟩|⟨rfl,rfl⟩
   ·rw [hβ2] at hb;exact absurd hb (hno2 b)
   ·rcases hmem hj' with ⟨rfl,rfl⟩|⟨rfl,rfl⟩
    ·rw [hβ2] at hb';exact absurd hb' (hno2 b)
    ·rfl
  ·intro j ob ob0 hj hlj
   rcases hmem hj with ⟨rfl,rfl⟩|⟨rfl,rfl⟩
   ·rw [hl2] at hlj
    simp only [co4] at hlj
    subst hlj
    exact fun c v hv=>bZ3 c v hv
   ·rw [hl1] at hlj
    simp only [co4] at hlj
    subst hlj
    exact fun c v hv=>bZ3 c v hv
  ·intro j ob hj
   rcases hmem hj with ⟨rfl,rfl⟩|⟨rfl,rfl⟩<;>rfl
  ·intro xx j ob hj
   rcases hmem hj with ⟨rfl,rfl⟩|⟨rfl,rfl⟩
   ·refine Z4 ⟨.slice none 0 0,[],[],rfl,Owns.of (World.ownsRow_nil _ _ _ _),by simp [most],by simp,rfl,fun i x hx=>by simp at hx,fun p q a c b ha=>by simp at ha,fun p a b ha=>by simp at ha⟩ hβ2
   ·refine Z4 ⟨v',xs1++xs2,ns1++ns2,rfl,by rw [cq5];exact hown',hlen,fun u hu=>?_,by simp [p4,q4],fun k x hk jj d hd=>?_,fun p q a c b ha hc hab hcb=>?_,fun p a b ha hab hvb=>?_⟩ hβ1
    ·rcases cr1.1 hu with h3|h3
     ·exact p3 u h3
     ·exact q3 u h3
    ·have hjs:=ac1 hd
     have conv:∀ {id0:Nat} {ns:List Value} {k0:Nat} {u n:Value},(∀ b,D8 n=some b→b<w.heap.size∧D8 root1≠some b)→InnR F.B w (Live β s.h) m1 none k0 jj d u n→InnR F.B w' (Live β' (upds s.h [(id2,.dp (.rows el t m1 [] (ver2+1) (iv2+1) true none)),(j,.dp (.rows el t m1 (la++lb) (ver1+1) (iv1+1) true none))])) m1 none k jj d u n:=by
      intro id0 ns k0 u n hn hI
      refine ⟨fun hm=>⟨(by rintro ⟨_,hh,_⟩;cases hh),fun _=>?_⟩,fun hm=>⟨(hI.2 hm).1,xx.rep (hI.2 hm).2⟩⟩
      obtain ⟨r1,e2,t2,l3,r2,r3⟩:=(hI.1 hm).2 (by rintro ⟨_,hh,_⟩;cases hh)
      exact ⟨r1,e2,t2,l3,r2,r3.map (fun d v r=>xx.rep r) (fun b hb=>hkeep b (hn b (by rw [r1];exact hb)).1 (hn b (by rw [r1];exact hb)).2)⟩
     have hxl1:=p1.1
     by_cases hk2:k<la.length
     ·rw [cq4 hk2] at hk
      obtain ⟨u,n,a1,a2,a3⟩:=p5 k x hk jj d hd
      have hlt:k*szOf U t+jj<xs1.length:=(co9.1 a1).1
      refine ⟨u,n,by rw [cq4 hlt];exact a1,by rw [cq4 (by omega)];exact a2,conv (id0:=0) (ns:=[]) (fun b hb=>⟨hlt1 b (hn1 _ n b a2 hb),p7 _ n b a2 hb⟩) a3⟩
     ·rw [cq3 (by omega)] at hk
      obtain ⟨u,n,a1,a2,a3⟩:=q5 (k-la.length) x hk jj d hd
      have hge:la.length*szOf U t≤k*szOf U t:=Nat.mul_le_mul_right _ (by omega)
      have hidx:k*szOf U t+jj-xs1.length=(k-la.length)*szOf U t+jj:=by rw [hxl1,Nat.sub_mul];omega
      refine ⟨u,n,by rw [cq3 (by omega),hidx];exact a1,by rw [cq3 (by omega),p4,hidx];exact a2,conv (id0:=0) (ns:=[]) (fun b hb=>⟨hlt2 b (hn2 _ n b a2 hb),fun hh=>hx12 b (hr1 b hh) (hn2 _ n b a2 hb)⟩) a3⟩
    ·rcases happ p a ha with ⟨h3,h4⟩|⟨h3,h4⟩<;>rcases happ q c hc with ⟨h5,h6⟩|⟨h5,h6⟩
     ·exact p6 p q a c b h4 h6 hab hcb
     ·exact absurd (hn2 _ c b h6 hcb) (hx12 b (hn1 _ a b h4 hab))
     ·exact absurd (hn2 _ a b h4 hab) (hx12 b (hn1 _ c b h6 hcb))
     ·have:=q6 _ _ a c b h4 h6 hab hcb;omega
    ·rcases hv'b b hvb with h5|h5
     ·rcases happ p a ha with ⟨_,h4⟩|⟨_,h4⟩
      ·exact p7 _ a b h4 hab h5
      ·exact hx12 b (hr1 b h5) (hn2 _ a b h4 hab)
     ·rcases happ p a ha with ⟨_,h4⟩|⟨_,h4⟩
      ·have:=hlt1 b (hn1 _ a b h4 hab);omega
      ·have:=hlt2 b (hn2 _ a b h4 hab);omega
 refine ⟨v',w',β',.inl ?_,A,?_⟩
 ·refine H6 hop hc ?_
  rw [hargs,hts2]
  simp [builtin,hrun]
 ·refine CsRel.one (af7 hown') ⟨.rows el t m1 (la++lb) (ver1+1) (iv1+1) true none,?_,Nat.le_refl _,fun _=>⟨_,hβ1,by simp⟩⟩
  show look id (write id _ (write id2 _ s.h))=_
  exact B0 _ _ _
theorem bi8 {cs:List (Cell U)} (h:aQ7 (ae6 cs)=true):∀ {j j' r a b:Nat},cs[j]? =some (.row r a)→cs[j']? =some (.row r b)→j=j':=by
 have mem:∀ {cs:List (Cell U)} {j r a:Nat},cs[j]? =some (.row r a)→r∈ae6 cs:=by
  intro cs
  induction cs with
  |nil=>intro j r a h;simp at h
  |cons c cs ih=>
   intro j r a h
   cases j with
   |zero=>
    simp only [cp2,co4] at h
    subst h
    simp [ae6]
   |succ j=>
    have:=ih (j:=j) (by simpa using h)
    cases c<;>simp_all [ae6]
 induction cs with
 |nil=>intro j j' r a b h;simp at h
 |cons c cs ih=>
  intro j j' r a b h1 h2
  have ho:aQ7 (ae6 cs)=true:=by
   cases c<;>simp_all [ae6,aQ7]
  have hno:∀ {k r a b:Nat},c=.row r a→cs[k]? =some (.row r b)→False:=by
   intro k r a b hc hk
   subst hc
   simp only [ae6,aQ7,co7,Bool.not_eq_true'] at h
   have:=mem hk
   have h3:(ae6 cs).any (Nat.beq r)=true:=aC6.2 this
   rw [h.1] at h3;cases h3
  cases j with
  |zero=>
   cases j' with
   |zero=>rfl
   |succ j'=>exact (hno (by simpa using h1) (by simpa using h2)).elim
  |succ j=>
   cases j' with
   |zero=>exact (hno (by simpa using h2) (by simpa using h1)).elim
   |succ j'=>
    have:=ih ho (j:=j) (j':=j') (r:=r) (a:=a) (b:=b) (by simpa using h1) (by simpa using h2)
    omega
theorem aD5:∀ {l:List Nat},aQ7 l=true→l.Nodup
 |[],_=>List.nodup_nil
 |x::l,h=>by
  simp only [aQ7,co7,Bool.not_eq_true'] at h
  refine List.nodup_cons.2 ⟨fun hm=>?_,aD5 h.2⟩
  have:=aC6.2 hm
  rw [h.1] at this;cases this
theorem aq0 (k:Ok F w β h) {ids:List Nat} {m:List Nat}:∀ {ts:List Ty} {j0:Nat} {cs:List (Cell U)} {ds:List (Datum U)} {u v:Obs U} {vs:List Value},O6 (sub h ids) m j0 ts cs=some (ds,u,v)→CsRel w β h cs vs→
  Freezes h u∧ds.length=cs.length∧(∀ r o,(r,o)∈v→∃ e t l vr,o=.row e t [] (vr+1) true∧look r h=some (.row e t l vr true))∧
  ∀ (j:Nat) (d:Datum U) (x:Value),ds[j]? =some d→vs[j]? =some x→
   (m.any (Nat.beq (j0+j))=true→∃ e t l,d=⟨.slice e t,l⟩∧((x=.slice none 0 0∧l=[])∨∃ r a vr,cs[j]? =some (.row r a)∧(r,.row e t [] (vr+1) true)∈v∧look r h=some (.row e t l vr true)∧x=β r))∧
   (m.any (Nat.beq (j0+j))=false→∀ u',Freezes h u'→(∀ y,y∈u→y∈u')→Rep U w (Live β (upds h u')) d x)
 |[],j0,[],ds,u,v,vs,ht,hc=>by
  simp only [O6,co4,cp6] at ht
  obtain ⟨rfl,rfl,rfl⟩:=ht
  exact ⟨fun _ _ hm=>by simp at hm,rfl,fun _ _ hm=>by simp at hm,fun j d x hd=>by simp at hd⟩
 |[],_,_::_,_,_,_,_,ht,_=>by simp [O6] at ht
 |_::_,_,[],_,_,_,_,ht,_=>by simp [O6] at ht
 |t::ts,j0,c::cs,ds,u,v,vs,ht,hc=>by
  simp only [O6] at ht
  split at ht
  case h_2=>cases ht
  rename_i ds1 u1 v1 h1
  obtain ⟨x0,vs',rfl⟩:∃ x0 vs',vs=x0::vs':=by
   have:=hc.1
   cases vs with
   |nil=>simp at this
   |cons x0 vs'=>exact ⟨x0,vs',rfl⟩
  have hc':CsRel w β h cs vs':=⟨by simpa using hc.1,fun v hv=>hc.2.1 v (by simp [hv]),fun j c v h3 h4=>hc.2.2 (j+1) c v (by simpa using h3) (by simpa using h4)⟩
  have hc0:=hc.2.2 0 c x0 rfl rfl
  obtain ⟨i1,i2,i3,i4⟩:=aq0 k (j0:=j0+1) h1 hc'
  have tail:∀ (j:Nat) (d:Datum U) (x:Value) (v2:Obs U),(∀ y,y∈v1→y∈v2)→(∀ y,y∈u1→y∈u1)→ds1[j]? =some d→vs'[j]? =some x→
    (m.any (Nat.beq (j0+(j+1)))=true→∃ e t l,d=⟨.slice e t,l⟩∧((x=.slice none 0 0∧l=[])∨∃ r a vr,(c::cs)[j+1]? =some (.row r a)∧(r,.row e t [] (vr+1) true)∈v2∧look r h=some (.row e t l vr true)∧x=β r))∧
    (m.any (Nat.beq (j0+(j+1)))=false→∀ u',Freezes h u'→(∀ y,y∈u1→y∈u')→Rep U w (Live β (upds h u')) d x):=by
   intro j d x v2 hv2 _ hd hx
   obtain ⟨k1,k2⟩:=i4 j d x hd hx
   rw [show j0+(j+1)=j0+1+j by omega]
   refine ⟨fun hm=>?_,k2⟩
   obtain ⟨e,t,l,q1,q2⟩:=k1 hm
   refine ⟨e,t,l,q1,q2.imp id ?_⟩
   rintro ⟨r,a,vr,r1,r2,r3⟩
   exact ⟨r,a,vr,by simpa using r1,hv2 _ r2,r3⟩
  split at ht
  ·--a row
   rename_i hmask
   split at ht
   ·rename_i r vr
    split at ht
    case h_2=>cases ht
    rename_i e' t' l' vr' hl
    split at ht
    case isFalse=>cases ht
    rename_i hb
    simp only [co7,beq_iff_eq] at hb
    have hver:=co5 hb.1
    simp only [co4,cp6] at ht
    obtain ⟨rfl,rfl,rfl⟩:=ht
    have hl:=C1 hl
    obtain ⟨_,_,_,_,_,hl2,_,hvv⟩:=hc0
    rw [hl] at hl2
    simp only [co4,Ob.row.injEq] at hl2
    have hxv:=hvv (hver.trans hl2.2.2.2.1)
    refine ⟨i1,by simp [i2],fun r2 o2 hm=>?_,fun j d x hd hx=>?_⟩
    ·rcases List.mem_cons.1 hm with h5|h5
     ·simp only [cp6] at h5
      obtain ⟨rfl,rfl⟩:=h5
      exact ⟨e',t',l',vr',rfl,hl⟩
     ·exact i3 r2 o2 h5
    ·cases j with
     |zero=>
      simp only [cp2,co4] at hd hx
      subst hd;subst hx
      exact ⟨fun _=>⟨e',t',l',rfl,.inr ⟨r,vr,vr',rfl,by simp,hl,hxv⟩⟩,fun hm=>by rw [Nat.add_zero,hmask] at hm;cases hm⟩
     |succ j=>exact tail j d x _ (fun y hy=>by simp [hy]) (fun _ hy=>hy) (by simpa using hd) (by simpa using hx)
   ·split at ht
    case h_2=>cases ht
    rename_i e' t'
    simp only [co4,cp6] at ht
    obtain ⟨rfl,rfl,rfl⟩:=ht
    refine ⟨i1,by simp [i2],i3,fun j d x hd hx=>?_⟩
    cases j with
    |zero=>
     simp only [cp2,co4] at hd hx
     subst hd;subst hx
     exact ⟨fun _=>⟨e',t',[],rfl,.inl ⟨hc0,rfl⟩⟩,fun hm=>by rw [Nat.add_zero,hmask] at hm;cases hm⟩
    |succ j=>exact tail j d x _ (fun _ hy=>hy) (fun _ hy=>hy) (by simpa using hd) (by simpa using hx)
   ·cases ht
  ·rename_i hmask
   split at ht
   case h_2=>cases ht
   rename_i d0 u0 hd0
   simp only [co4,cp6] at ht
   obtain ⟨rfl,rfl,rfl⟩:=ht
   obtain ⟨f0,_⟩:=K7 hd0
   refine ⟨fun id o hm=>?_,by simp [i2],i3,fun j d x hd hx=>?_⟩
   ·rcases cr1.1 hm with h5|h5
    ·exact f0 id o h5
    ·exact i1 id o h5
   ·cases j with
    |zero=>
     simp only [cp2,co4] at hd hx
     subst hd;subst hx
     exact ⟨fun hm=>by rw [Nat.add_zero] at hm;exact absurd hm hmask,fun _ u' hf hu'=>am0 k hd0 hc0 hf (fun y hy=>hu' y (by simp [hy]))⟩
    |succ j=>
     obtain ⟨k1,k2⟩:=tail j d x _ (fun _ hy=>hy) (fun _ hy=>hy) (by simpa using hd) (by simpa using hx)
     exact ⟨k1,fun hm u' hf hu'=>k2 hm u' hf (fun y hy=>hu' y (by simp [hy]))⟩
theorem aS5 {a b:List Nat} (h:Z8 a b=false) {x:Nat} (ha:x∈a) (hb:x∈b):False:=by
 have:Z8 a b=true:=by
  simp only [Z8,List.any_eq_true]
  exact ⟨x,ha,x,hb,Nat.beq_refl x⟩
 rw [h] at this;cases this
theorem Does.buildDp (hE:E.Fits) (R:Rel F n β s tmps w) {t:TypeId} {len:Nat} {parts:Array (Nat×Operand)} (hop:o.op=.buildSlice t len parts) {ps:List (Nat×PV U)} (r:ap5 w β s.h s.σ ps (parts.toList.map fun x=>(x.1,ρ x.2)))
  {el:TypeId} {m:List Nat} (hdp:dpOf E t=some (el,m)) {ids:List Nat} (he:ai0 E (sub s.h ids) o.dst el m len ps=some e) (hf:look (B5 o.dst 0) s.h=none):Does E.P F β s ρ w o e:=by
 have hu:E.P.underlying t=some (.slice el):=by
  unfold dpOf at hdp
  split at hdp
  ·rename_i e' hu
   simp only [cp1,cp6] at hdp
   obtain ⟨_,_,rfl,_⟩:=hdp
   exact hu
  ·cases hdp
 unfold ai0 at he
 split at he
 case h_2=>cases he
 rename_i c cs hc
 split at he
 case h_2=>cases he
 rename_i ds u v htr
 split at he
 case h_2=>cases he
 rename_i x hx
 split at he
 case isFalse=>cases he
 rename_i hcond
 simp only [co7,Bool.not_eq_true'] at hcond
 obtain ⟨⟨⟨⟨hus,hro⟩,hkv⟩,huv⟩,hfr⟩:=hcond
 simp only [co4] at he
 subst he
 obtain ⟨i,z,hi,hsz,hz,hzs,hpos,hby,hz1c,_⟩:=hE.code _ _ hc
 have hmk:=ao1 hx
 have hdl:ds.length=szOf U c:=by rw [hmk,B3]
 have hcl:cs.length=szOf U c:=by
  have:∀ {ts:List Ty} {j0:Nat} {cs:List (Cell U)} {ds:List (Datum U)} {u v:Obs U},O6 (sub s.h ids) m j0 ts cs=some (ds,u,v)→cs.length=ts.length:=by
   intro ts
   induction ts with
   |nil=>intro j0 cs ds u v h;cases cs with
    |nil=>rfl
    |cons=>simp [O6] at h
   |cons t ts ih=>intro j0 cs ds u v h;cases cs with
    |nil=>simp [O6] at h
    |cons c cs=>
     simp only [O6] at h
     split at h
     ·rename_i h1;simp [ih h1]
     ·cases h
  rw [this htr]
  cases c<;>rfl
 --the cells
 have hfill:aQ0 (U:=U) (fun i=>some (i*szOf U c,szOf U c)) (List.replicate (1*szOf U c) .un) [(0,.agg cs)]=some cs:=by
  have h1:Nat.beq cs.length (szOf U c)=true:=by rw [hcl];exact Nat.beq_refl _
  have h2:Nat.ble (0*szOf U c+cs.length) (List.replicate (1*szOf U c) (Cell.un:Cell U)).length=true:=by
   rw [List.length_replicate,hcl];exact Nat.ble_eq_true_of_le (by omega)
  simp only [aQ0,U1,h1,h2,Bool.and_self,if_true]
  simp [D7,hcl]
 obtain ⟨vs,h1,h2,h3⟩:=az9 (w:=w) (β:=β) (h:=s.h) (σ:=s.σ) hfill r.1 r.2 (vs:=(aC5 1 i z).toList) ⟨by simp [aC5,hsz],fun v hv=>by
   simp only [aC5,Array.toList_map,List.mem_map,Array.toList_range,List.mem_range] at hv
   obtain ⟨x,hx,rfl⟩:=hv
   have hne:¬ 1*i.size=0:=by omega
   simp only [if_neg hne]
   have hpos':0<z.cells.size:=by omega
   have hmod:x % z.cells.size<z.cells.size:=Nat.mod_lt x hpos'
   rw [getElem!_pos z.cells _ hmod]
   exact hz1c _ (by simp),fun j c v hc _=>by
   rw [List.getElem?_replicate] at hc
   split at hc
   ·simp only [co4] at hc;subst hc;trivial
   ·cases hc⟩
 have hrun:(Instr.buildSlice t 1 (parts.map fun x=>(x.1,ρ x.2))).run E.P w=.ok (.slice (some ⟨w.heap.size,0,none⟩) 1 1) (w.alloc (.cells vs.toArray el)):=by
  refine Z3 hu hi hz 1 ?_ _ _ w ?_
  ·have:=cq7 hus.2
   rw [hsz]
   omega
  ·rw [hsz]
   simpa using h1
 obtain ⟨f1,len1,hv,hel⟩:=aq0 R.ok htr h2
 have A1:=I3 R.ok f1
 have hvl:vs.length=szOf U c:=by rw [h2.1,hcl]
 have hfid:look (B5 o.dst 0) (upds s.h u)=none:=f1.none hf
 have hnr:∀ r0 o0,(r0,o0)∈v→r0≠B5 o.dst 0:=by
  intro r0 o0 hm hh
  exact aS5 hfr (x:=r0) (by simp [hh]) (by simp only [keys,cr1,List.mem_map];exact .inr ⟨_,hm,rfl⟩)
 have hlr:∀ r0,look r0 (upds s.h u)=look r0 s.h∨∃ o0,(r0,o0)∈u:=by
  intro r0
  by_cases hh:∃ o0,(r0,o0)∈u
  ·exact .inr hh
  ·exact .inl (B7 fun o0 ho=>hh ⟨o0,ho⟩)
 have hvrow:∀ r0 o0,(r0,o0)∈v→∃ e t l vr,o0=.row e t [] (vr+1) true∧look r0 (upds s.h u)=some (.row e t l vr true):=by
  intro r0 o0 hm
  obtain ⟨e,t,l,vr,q1,q2⟩:=hv r0 o0 hm
  refine ⟨e,t,l,vr,q1,?_⟩
  rcases hlr r0 with h5|⟨o1,h5⟩
  ·rw [h5];exact q2
  ·exact (aS5 huv (x:=r0) (List.mem_map.2 ⟨_,h5,rfl⟩) (List.mem_map.2 ⟨_,hm,rfl⟩)).elim
 let N:Value:=.tuple ((.slice (some ⟨w.heap.size,0,none⟩) 1 1:Value)::nsOf (szOf U c) m vs).toArray
 let β':Nm:=⟨fun j=>open Classical in if j=B5 o.dst 0 then N else if (∃ o0,(j,o0)∈v) then .slice none 0 0 else β j,β.M,β.lp⟩
 have hβf:β' (B5 o.dst 0)=N:=by simp [β']
 have hβr:∀ j,j≠B5 o.dst 0→(∃ o0,(j,o0)∈v)→β' j=.slice none 0 0:=by
  intro j hj hex
  simp only [β']
  rw [if_neg hj,if_pos hex]
 have hnu:D8 undef=none:=rfl
 --the T8 slices
 have hns:∀ (p:Nat) (q:Value) (b:Nat),(nsOf (szOf U c) m vs)[p]? =some q→D8 q=some b→∃ r0 a e t l vr,cs[p]? =some (.row r0 a)∧(r0,.row e t [] (vr+1) true)∈v∧look r0 (upds s.h u)=some (.row e t l vr true)∧q=β r0:=by
  intro p q b hp hb
  obtain ⟨y,hy,hq⟩:=br3 hp
  have hpl:=(co9.1 hy).1
  rw [hvl] at hpl
  rw [Nat.mod_eq_of_lt hpl] at hq
  split at hq
  ·rename_i hm
   subst hq
   have hpd:p<ds.length:=by rw [hdl];exact hpl
   obtain ⟨k1,_⟩:=hel p _ _ (co6 hpd) hy
   rw [Nat.zero_add] at k1
   obtain ⟨e,t,l,q1,q2⟩:=k1 hm
   rcases q2 with ⟨q3,_⟩|⟨r0,a,vr,q3,q4,q5,q6⟩
   ·rw [q3] at hb;simp [D8] at hb
   ·obtain ⟨e2,t2,l2,vr2,q7,q8⟩:=hvrow r0 _ q4
    cases q7
    exact ⟨r0,a,e,t,l2,vr,q3,q4,q8,q6⟩
  ·rw [hq,hnu] at hb;cases hb
 have hmem:∀ {j:Nat} {ob:Ob U},(j,ob)∈v++[(B5 o.dst 0,Ob.dp (.rows el c m [x] 0 0 true none))]→(j,ob)∈v∨(j=B5 o.dst 0∧ob=.dp (.rows el c m [x] 0 0 true none)):=by
  intro j ob hj
  rcases cr1.1 hj with h5|h5
  ·exact .inl h5
  ·right;simpa using h5
 have A2:After F w β (upds s.h u) (w.alloc (.cells vs.toArray el)) β' (upds (upds s.h u) (v++[(B5 o.dst 0,.dp (.rows el c m [x] 0 0 true none))])):=by
  refine Q5 A1.ok ?_ ?_ rfl rfl rfl (by simp) ?_ rfl ?_ rfl ?_ ?_ ?_ ?_ ?_
  ·rw [List.map_append,List.nodup_append]
   refine ⟨aD5 hkv,by simp,fun a ha b hb=>?_⟩
   simp only [List.map_cons,List.map_nil,cp5] at hb
   obtain ⟨⟨r0,o0⟩,hm,rfl⟩:=List.mem_map.1 ha
   rw [hb]
   exact hnr r0 o0 hm
  ·intro j ob ob0 hj hlj
   rcases hmem hj with h5|⟨rfl,rfl⟩
   ·obtain ⟨e,t,l,vr,q1,q2⟩:=hvrow j ob h5
    rw [q2] at hlj;simp only [co4] at hlj;subst hlj;rfl
   ·rw [hfid] at hlj;cases hlj
  ·intro b hb _
   exact heap_alloc_old w _ hb
  ·intro j hj
   have h2:j≠B5 o.dst 0:=fun hh=>hj (.dp (.rows el c m [x] 0 0 true none)) (by simp [hh])
   have h3:¬ ∃ o0,(j,o0)∈v:=fun ⟨o0,ho⟩=>hj o0 (by simp [ho])
   simp only [β']
   rw [if_neg h2,if_neg h3]
  ·intro j ob b hj hb
   rcases hmem hj with h5|⟨rfl,rfl⟩
   ·rw [hβr j (hnr j ob h5) ⟨ob,h5⟩] at hb;exact (W2 hb).elim
   ·rw [hβf] at hb
    rcases C3.1 hb with h6|⟨p,q,h6,h7⟩
    ·right
     have:w.heap.size=b:=by simpa [D8] using h6
     omega
    ·obtain ⟨r0,a,e,t,l,vr,_,q4,q5,q6⟩:=hns p q b h6 h7
     refine .inl ⟨r0,_,_,cr1.2 (.inl q4),q5,?_⟩
     obtain ⟨ys,y1,_⟩:=A1.obj r0 _ q5
     exact y1.has (by rw [←q6];exact h7)
  ·intro j ob j' ob' b hj hj' hb hb'
   rcases hmem hj with h5|⟨rfl,rfl⟩
   ·rw [hβr j (hnr j ob h5) ⟨ob,h5⟩] at hb;exact (W2 hb).elim
   ·rcases hmem hj' with h6|⟨rfl,rfl⟩
    ·rw [hβr j' (hnr j' ob' h6) ⟨ob',h6⟩] at hb';exact (W2 hb').elim
    ·rfl
  ·intro j ob ob0 hj hlj
   rcases hmem hj with h5|⟨rfl,rfl⟩
   ·obtain ⟨e,t,l,vr,rfl,q2⟩:=hvrow j ob h5
    rw [q2] at hlj
    simp only [co4] at hlj
    subst hlj
    exact ⟨rfl,rfl,by omega,fun hh=>by omega⟩
   ·rw [hfid] at hlj;cases hlj
  ·intro j ob hj
   rcases hmem hj with h5|⟨rfl,rfl⟩
   ·obtain ⟨e,t,l,vr,rfl,q2⟩:=hvrow j ob h5;rfl
   ·rfl
  ·intro xx j ob hj
   rcases hmem hj with h5|⟨rfl,rfl⟩
   ·obtain ⟨e,t,l,vr,rfl,q2⟩:=hvrow j ob h5
    exact ⟨[],by rw [hβr j (hnr j _ h5) ⟨_,h5⟩];exact Owns.of (World.ownsRow_nil _ _ _ _),by simp [most],by simp,fun i y hy=>by simp at hy⟩
   ·refine Z4 ⟨_,vs,_,rfl,?_,by simp [most],h2.2.1,by simp [nsOf],fun k y hk j d hd=>?_,fun p q a cc b ha hcc hab hcb=>?_,fun p a b ha hab=>?_⟩ hβf
    ·refine ⟨by simpa using hvl,.inr ⟨w.heap.size,1,vs.toArray,rfl,R.hB,heap_alloc_new w _,Nat.le_refl _,by simp [maxLen],by simp only [List.size_toArray];omega,by simp only [cq8,Nat.one_mul];exact List.take_of_length_le (by omega)⟩⟩
    ·cases k with
     |succ k=>simp at hk
     |zero=>
      simp only [cp2,co4] at hk
      subst hk
      have hjs:=ac1 hd
      rw [←hmk] at hd
      have hvj:vs[j]? =some vs[j]:=co6 (by omega)
      obtain ⟨k1,k2⟩:=hel j d _ hd hvj
      rw [Nat.zero_add] at k1 k2
      have hnsj:=br2 (sz:=szOf U c) (m:=m) hvj
      rw [Nat.mod_eq_of_lt hjs] at hnsj
      rw [Nat.zero_mul,Nat.zero_add]
      refine ⟨_,_,hvj,hnsj,fun hm=>⟨(by rintro ⟨_,hh,_⟩;cases hh),fun _=>?_⟩,fun hm=>⟨by rw [if_neg (by rw [hm];simp)],xx.rep (k2 hm u f1 (fun _ hy=>hy))⟩⟩
      rw [if_pos hm]
      obtain ⟨e,t,l,q1,q2⟩:=k1 hm
      refine ⟨rfl,e,t,l,q1,?_⟩
      rcases q2 with ⟨q3,rfl⟩|⟨r0,a,vr,q3,q4,q5,q6⟩
      ·rw [q3]
       exact ⟨[],Owns.of (World.ownsRow_nil _ _ _ _),by simp [most],by simp,fun i y hy=>by simp at hy⟩
      ·obtain ⟨e2,t2,l2,vr2,q7,q8⟩:=hvrow r0 _ q4
       cases q7
       have hl2:l2=l:=by
        rcases hlr r0 with h5|⟨o1,h5⟩
        ·rw [h5,q5] at q8
         simp only [co4,Ob.row.injEq,heq_eq_eq,true_and,and_true] at q8
         exact q8.symm
        ·exact (aS5 huv (x:=r0) (List.mem_map.2 ⟨_,h5,rfl⟩) (List.mem_map.2 ⟨_,q4,rfl⟩)).elim
       subst hl2
       rw [q6]
       exact RowC.map (fun d v r=>xx.rep r) (fun b hb=>heap_alloc_old w _ (by
        obtain ⟨ys,y1,_⟩:=A1.obj r0 _ q8
        exact (y1.lt hb).2)) (A1.obj r0 _ q8)
    ·obtain ⟨r1,a1,e1,t1,l1,vr1,w1,_,w3,w4⟩:=hns p a b ha hab
     obtain ⟨r2,a2,e2,t2,l2,vr2,x1,_,x3,x4⟩:=hns q cc b hcc hcb
     obtain ⟨ys,y1,_⟩:=A1.obj r1 _ w3
     obtain ⟨zs,z1,_⟩:=A1.obj r2 _ x3
     have:=A1.dis r1 _ r2 _ b w3 x3 (y1.has (by rw [←w4];exact hab)) (z1.has (by rw [←x4];exact hcb))
     subst this
     exact bi8 hro w1 x1
    ·intro hb
     have hb:w.heap.size=b:=by simpa [D8] using hb
     obtain ⟨r1,a1,e1,t1,l1,vr1,w1,_,w3,w4⟩:=hns p a b ha hab
     obtain ⟨ys,y1,_⟩:=A1.obj r1 _ w3
     have:=(y1.lt (by rw [←w4];exact hab)).2
     omega
 refine ⟨.slice (some ⟨w.heap.size,0,none⟩) 1 1,w.alloc (.cells vs.toArray el),β',.inl ?_,?_,?_⟩
 ·simp only [execOp,hop]
  simp only [Sem.run_bind,hrun]
  rfl
 ·dsimp only
  rw [C9]
  exact A1.trans A2
 ·dsimp only
  refine CsRel.one rfl ⟨.rows el c m [x] 0 0 true none,?_,Nat.le_refl _,fun _=>⟨_,hβf,by simp⟩⟩
  rw [C9]
  have:upds (upds s.h u) (v++[(B5 o.dst 0,Ob.dp (.rows el c m [x] 0 0 true none))])=write (B5 o.dst 0) (Ob.dp (.rows el c m [x] 0 0 true none)) (upds (upds s.h u) v):=by rw [C9];rfl
  rw [this]
  exact B0 _ _ _
theorem X9 {P:Program} {K:TypeId} {kt:Ty} (h:L8 U P K kt=true):(∃ q,P.underlying K=some (.int q)∧kt=.int q)∨∃ i fs,P.underlying K=some (.struct fs)∧kt=.user i∧ae5 P K=some (U.fields i)∧P.stoodInHeld K=false:=by
 unfold L8 at h
 split at h
 ·rename_i q hu
  split at h
  ·rename_i q'
   simp only [cq6] at h
   subst h
   exact .inl ⟨q,hu,rfl⟩
  ·cases h
 ·rename_i fs hu
  split at h
  ·rename_i i
   split at h
   ·rename_i ts hts
    simp only [co7,beq_iff_eq,Bool.not_eq_true'] at h
    exact .inr ⟨i,fs,hu,rfl,by rw [hts,h.1],h.2⟩
   ·cases h
  ·cases h
 ·cases h
theorem M8 {P:Program}:∀ {fs:List Field} {k:Nat} {ts:List Ty},Q1 P fs k=some ts→∀ t∈ts,ab0 t=true
 |[],_,ts,h,t,ht=>by simp only [Q1,co4] at h;subst h;simp at ht
 |f::fs,k,ts,h,t,ht=>by
  simp only [Q1] at h
  split at h
  case h_2=>cases h
  split at h
  ·split at h
   case isFalse=>cases h
   simp only [cp1] at h
   obtain ⟨ts',h1,rfl⟩:=h
   rcases List.mem_cons.1 ht with rfl|h2
   ·rfl
   ·exact M8 h1 t h2
  ·split at h
   case isFalse=>cases h
   simp only [cp1] at h
   obtain ⟨ts',h1,rfl⟩:=h
   rcases List.mem_cons.1 ht with rfl|h2
   ·rfl
   ·exact M8 h1 t h2
  ·cases h
theorem aL8:∀ {ts:List Ty} (hs:∀ t∈ts,ab0 t=true) (c d:Dens U.T ts),J6 ts (A9 U ts c) (A9 U ts d)=some (N4 (A9 U ts d) (A9 U ts c))
 |[],_,_,_=>rfl
 |t::ts,hs,c,d=>by
  have h1:=hs t (by simp)
  have ih:=aL8 (ts:=ts) (fun t ht=>hs t (by simp [ht])) c.2 d.2
  cases t with
  |int q=>
   simp only [A9,J6,if_true,ih,Option.map_some,N4]
   rw [show ((c.1:Int)==d.1)=(d.1==c.1) from BEq.comm]
  |bool=>
   simp only [A9,J6,ih,Option.map_some,N4]
   rw [show (c.1==d.1)=(d.1==c.1) from BEq.comm]
  |str=>cases h1
  |slice=>cases h1
  |user=>cases h1
  |map=>cases h1
  |ifc=>cases h1
theorem at2:∀ {ts:List Ty} {c d:Dens U.T ts},N4 (A9 U ts c) (A9 U ts d)=true→A9 U ts c=A9 U ts d
 |[],_,_,_=>rfl
 |t::ts,c,d,h=>by
  cases t with
  |int q=>
   simp only [A9,N4,co7,beq_iff_eq] at h ⊢
   rw [h.1,at2 h.2]
  |bool=>
   simp only [A9,N4,co7,beq_iff_eq] at h ⊢
   rw [h.1,at2 h.2]
  |str=>simp [A9,N4] at h
  |slice=>simp [A9,N4] at h
  |user=>simp [A9,N4] at h
  |map=>simp [A9,N4] at h
  |ifc=>simp [A9,N4] at h
theorem VIs.int {M:Nat→Prop} {q:IntKind} {a:Int} {v:Value} (h:VIs (U:=U) w M (.int q) a v):v=.int q a:=by
 obtain ⟨vs,h1,h2,h3,h4⟩:=h
 match vs,h2 with
 |[u],_=>
  have:=h4 0 ⟨.int q,a⟩ u rfl rfl
  cases this
  exact h1
theorem VIs.mkInt {M:Nat→Prop} (q:IntKind) (a:Int):VIs (U:=U) w M (.int q) a (.int q a):=
 ⟨[.int q a],rfl,rfl,by simp [Value.oneCell'],fun j d u hd hu=>by
  match j,hd,hu with
  |0,hd,hu=>
   simp only [B4,cp2,co4] at hd hu
   subst hd;subst hu
   exact Rep.int _ _
  |j+1,hd,hu=>simp [B4] at hd⟩
theorem br4 {β:Type} {q:IntKind} (a:Int) (y:β):∀ {l:List (Int×β)} {es:List MapEntry} (i0:Nat),es.length=l.length→(∀ (i:Nat) (x:Int×β) (e:MapEntry),l[i]? =some x→es[i]? =some e→e.key=.int q x.1)→
  (Instr.findNow (.int q) (.int q a) es i0=some none∧mget (fun x y=>x==y) l a=none∧mput (fun x y=>x==y) l a y=l++[(a,y)])∨
  ∃ j e x,es[j]? =some e∧l[j]? =some x∧x.1=a∧Instr.findNow (.int q) (.int q a) es i0=some (some (i0+j,e.val))∧mget (fun x y=>x==y) l a=some x.2∧mput (fun x y=>x==y) l a y=l.set j (a,y)
 |[],[],i0,_,_=>.inl ⟨rfl,rfl,rfl⟩
 |[],_::_,_,hl,_=>by simp at hl
 |_::_,[],_,hl,_=>by simp at hl
 |(k,v)::l,e::es,i0,hl,hr=>by
  have hk:=hr 0 (k,v) e rfl rfl
  have hn:Instr.sameNow (.int q) (.int q a) e.key=some (a==k):=by rw [hk];simp [Instr.sameNow]
  by_cases hak:a=k
  ·subst hak
   refine .inr ⟨0,e,(a,v),rfl,rfl,rfl,?_,?_,?_⟩
   ·simp [Instr.findNow,hn]
   ·simp [mget]
   ·simp [mput]
  ·have hne:(k==a)=false:=by simpa using (Ne.symm hak)
   have hn':(a==k)=false:=by simpa using hak
   rcases br4 a y (l:=l) (es:=es) (i0+1) (by simpa using hl) (fun i x e' hx he=>hr (i+1) x e' (by simpa using hx) (by simpa using he)) with ⟨h1,h2,h3⟩|⟨j,e',x,h1,h2,h3,h4,h5,h6⟩
   ·refine .inl ⟨?_,?_,?_⟩
    ·simp [Instr.findNow,hn,hn',h1]
    ·simp [mget,hne,h2]
    ·simp [mput,hne,h3]
   ·refine .inr ⟨j+1,e',x,by simpa using h1,by simpa using h2,h3,?_,?_,?_⟩
    ·simp only [Instr.findNow,hn,hn',h4]
     congr 3
     omega
    ·simp [mget,hne,h5]
    ·simp [mput,hne,h6]
theorem VIs.agg {M:Nat→Prop} {i:Nat} {x:U.T i} {v:Value} (h:VIs (U:=U) w M (.user i) x v):∃ vs:List Value,v=.agg vs.toArray∧vs.length=(U.fields i).length∧∀ (j:Nat) (d:Datum U),(A9 U (U.fields i) (U.get i x))[j]? =some d→∃ u,vs[j]? =some u∧Rep U w M d u:=by
 obtain ⟨vs,h1,h2,h3,h4⟩:=h
 refine ⟨vs,h1,h2,fun j d hd=>?_⟩
 have hlt:j<vs.length:=by
  rw [h2]
  have:=(co9.1 hd).1
  rwa [G3] at this
 exact ⟨vs[j],co6 hlt,h4 j d _ hd (co6 hlt)⟩
theorem aD6 {P:Program} {M:Nat→Prop} {b:Bool} {n:Nat}:∀ {fs:List Field} {k:Nat} {ts:List Ty} {ds:List (Datum U)} {xs:List Value},Q1 P fs k=some ts→(ds.map (·.1))=ts→(∀ (j:Nat) (x:Datum U),ds[j]? =some x→∃ u,xs[k+j]? =some u∧Rep U w M x u)→
  (do for f in fs do if f.name≠"_" then Instr.checkKey b (n+1) f.type (←part f.type xs.toArray f.offset):Sem Unit).run P w=.ok () w
 |[],_,_,_,_,_,_,_=>by simp
 |f::fs,k,ts,ds,xs,hp,hts,hx=>by
  simp only [Q1] at hp
  split at hp
  case h_2=>cases hp
  rename_i td i htd hi
  have go:∀ {d:TypeDesc} {ty:Ty} {ts':List Ty},td=d→((∃ q,d=.int q∧ty=.int q)∨(d=.bool∧ty=.bool))→(f.name !="_"&&Nat.beq f.offset k&&Nat.beq i.size 1)=true→Q1 P fs (k+1)=some ts'→ts=ty::ts'→
    (do for f in (f::fs) do if f.name≠"_" then Instr.checkKey b (n+1) f.type (←part f.type xs.toArray f.offset):Sem Unit).run P w=.ok () w:=by
   intro d ty ts' hd hty hc hp' htt
   subst hd
   simp only [co7,bne_iff_ne,ne_eq] at hc
   obtain ⟨⟨hname,hoff⟩,hsz⟩:=hc
   have hoff:=co5 hoff
   have hsz:=co5 hsz
   rw [htt] at hts
   cases ds with
   |nil=>simp at hts
   |cons d0 ds=>
    simp only [List.map_cons,List.cons.injEq] at hts
    obtain ⟨u,hu,hur⟩:=hx 0 _ rfl
    rw [Nat.add_zero,←hoff] at hu
    have p1:=aa2 (w:=w) htd (hty.imp (fun ⟨q,h1,_⟩=>⟨q,h1⟩) (fun h1=>h1.1)) hi hsz hu
    have ih:=aD6 (b:=b) (n:=n) hp' hts.2 (fun j z hz=>by rw [Nat.add_assoc,Nat.add_comm 1];exact hx (j+1) z (by simpa using hz))
    have hck:(Instr.checkKey b (n+1) f.type u).run P w=.ok () w:=by
     refine MapKept.run_checkKey htd ?_ b n
     obtain ⟨d1,d2⟩:=d0
     simp only at hts
     rcases hty with ⟨q,h1,h2⟩|⟨h1,h2⟩
     ·rw [h1]
      rw [h2] at hts
      obtain ⟨rfl,_⟩:=hts
      cases hur
      rfl
     ·rw [h1]
      rw [h2] at hts
      obtain ⟨rfl,_⟩:=hts
      cases hur
      trivial
    simp only [List.forIn_cons,Sem.run_bind,Sem.run_ite,if_pos hname,p1,Result.andThen_ok,hck,Sem.run_pure]
    simp only [Sem.run_bind,Sem.run_pure] at ih
    exact ih
  split at hp
  ·rename_i q
   split at hp
   case isFalse=>cases hp
   rename_i hc
   simp only [cp1] at hp
   obtain ⟨ts',h1,rfl⟩:=hp
   exact go rfl (.inl ⟨q,rfl,rfl⟩) hc h1 rfl
  ·split at hp
   case isFalse=>cases hp
   rename_i hc
   simp only [cp1] at hp
   obtain ⟨ts',h1,rfl⟩:=hp
   exact go rfl (.inr ⟨rfl,rfl⟩) hc h1 rfl
  ·cases hp
theorem aj1:∀ {ts:List Ty} {c:Dens U.T ts},(A9 U ts c).map (·.1)=ts
 |[],_=>rfl
 |t::ts,c=>by simp [A9,aj1 (ts:=ts)]
theorem aq1 {P:Program} {M:Nat→Prop} {K:TypeId} {kt:Ty} (hk:L8 U P K kt=true) {a:den U.T kt} {kv:Value} (hv:VIs w M kt a kv) (b:Bool):(Instr.checkKey b 10000 K kv).run P w=.ok () w:=by
 rcases X9 hk with ⟨q,hu,rfl⟩|⟨i,fs,hu,rfl,hp,_⟩
 ·rw [hv.int]
  exact MapKept.run_checkKey hu (by simp [MapKept.IsKey]) _ _
 ·obtain ⟨vs,rfl,hl,hc⟩:=hv.agg
  unfold ae5 at hp
  rw [hu] at hp
  simp only at hp
  have:=aD6 (w:=w) (b:=b) (n:=9998) (ds:=A9 U (U.fields i) (U.get i a)) hp aj1 (fun j x hx=>by rw [Nat.zero_add];exact hc j x hx)
  rw [show (10000:Nat)=9999+1 from rfl]
  unfold Instr.checkKey
  simp only [Sem.run_bind,run_underlying hu,Result.andThen_ok]
  rw [←Array.forIn_toList]
  simp only [Sem.run_bind] at this
  exact this
theorem bG4 {P:Program} {M:Nat→Prop} {K:TypeId} {i:Nat} (hp:ae5 P K=some (U.fields i)) (hs:P.stoodInHeld K=false) {a x:U.T i} {kv xv:Value} (hv:VIs (U:=U) w M (.user i) a kv) (hx:VIs (U:=U) w M (.user i) x xv):(Op.equal K kv xv).run P w=.ok (E7 U (.user i) x a) w:=by
 obtain ⟨vs,rfl,hl,hc⟩:=hv.agg
 obtain ⟨us,rfl,hl2,hc2⟩:=hx.agg
 refine af4 (M:=M) hs hp (aL8 (fun t ht=>?_) _ _) hc hc2
 unfold ae5 at hp
 split at hp
 ·exact M8 hp t ht
 ·cases hp
theorem br5 {P:Program} {M:Nat→Prop} {K:TypeId} {kt:Ty} (hk:L8 U P K kt=true) {a x:den U.T kt} {kv xv:Value} (hv:VIs w M kt a kv) (hx:VIs w M kt x xv) (he:E7 U kt x a=true):xv=kv:=by
 rcases X9 hk with ⟨q,hu,rfl⟩|⟨i,fs,hu,rfl,hp,_⟩
 ·rw [hv.int,hx.int]
  have he:((x:Int)==a)=true:=he
  simp only [beq_iff_eq] at he
  rw [he]
 ·have hcells:=at2 (show N4 (A9 U (U.fields i) (U.get i x)) (A9 U (U.fields i) (U.get i a))=true from he)
  have hsimple:∀ t∈U.fields i,ab0 t=true:=fun t ht=>by
   unfold ae5 at hp
   split at hp
   ·exact M8 hp t ht
   ·cases hp
  obtain ⟨vs,rfl,hl,hc⟩:=hv.agg
  obtain ⟨us,rfl,hl2,hc2⟩:=hx.agg
  congr 2
  apply List.ext_getElem?
  intro j
  by_cases hj:j<(U.fields i).length
  ·have hjd:j<(A9 U (U.fields i) (U.get i a)).length:=by rw [G3];exact hj
   obtain ⟨u,h1,h2⟩:=hc j _ (co6 hjd)
   obtain ⟨u',h3,h4⟩:=hc2 j _ (by rw [hcells];exact co6 hjd)
   rw [h1,h3]
   have hty:((A9 U (U.fields i) (U.get i a))[j]).1∈U.fields i:=by
    have h5:=aj1 (U:=U) (c:=U.get i a)
    have h6:((A9 U (U.fields i) (U.get i a)).map (·.1))[j]? =some ((A9 U (U.fields i) (U.get i a))[j]).1:=by
     rw [cp9,co6 hjd];rfl
    rw [h5] at h6
    exact List.mem_of_getElem? h6
   have hst:=hsimple _ hty
   generalize (A9 U (U.fields i) (U.get i a))[j]=d at h2 h4 hst
   obtain ⟨t,dd⟩:=d
   cases t with
   |int q=>cases h2;cases h4;rfl
   |bool=>cases h2;cases h4;rfl
   |str=>cases hst
   |slice=>cases hst
   |user=>cases hst
   |map=>cases hst
   |ifc=>cases hst
  ·rw [List.getElem?_eq_none (by omega),List.getElem?_eq_none (by omega)]
theorem aD7:∀ {vs:List Value} {n:Nat},(∀ v∈vs,(∃ q a,v=.int q a)∨∃ b,v=.bool b)→((vs.zip vs).all fun (x,y)=>Instr.sameBits n x y)=true
 |[],_,_=>rfl
 |v::vs,n,h=>by
  simp only [List.zip_cons_cons,List.all_cons,co7]
  refine ⟨?_,aD7 (fun v hv=>h v (by simp [hv]))⟩
  rcases h v (by simp) with ⟨q,a,rfl⟩|⟨b,rfl⟩
  ·cases n<;>simp [Instr.sameBits]
  ·cases n<;>simp [Instr.sameBits]
theorem ba1 {P:Program} {M:Nat→Prop} {K:TypeId} {kt:Ty} (hk:L8 U P K kt=true) {a:den U.T kt} {kv:Value} (hv:VIs w M kt a kv):(Instr.keyThatStays kv kv).run P w=.ok kv w:=by
 have hb:Instr.sameBits 10000 kv kv=true:=by
  rcases X9 hk with ⟨q,hu,rfl⟩|⟨i,fs,hu,rfl,hp,_⟩
  ·rw [hv.int];simp [Instr.sameBits]
  ·have hsimple:∀ t∈U.fields i,ab0 t=true:=fun t ht=>by
    unfold ae5 at hp
    split at hp
    ·exact M8 hp t ht
    ·cases hp
   obtain ⟨vs,rfl,hl,hc⟩:=hv.agg
   have hall:∀ v∈vs,(∃ q a,v=.int q a)∨∃ b,v=.bool b:=by
    intro v hvm
    obtain ⟨j,hj⟩:=List.mem_iff_getElem?.1 hvm
    have hjl:=(co9.1 hj).1
    have hjd:j<(A9 U (U.fields i) (U.get i a)).length:=by rw [G3];omega
    obtain ⟨u,h1,h2⟩:=hc j _ (co6 hjd)
    rw [hj] at h1
    simp only [co4] at h1
    subst h1
    have hty:((A9 U (U.fields i) (U.get i a))[j]).1∈U.fields i:=by
     have h5:=aj1 (U:=U) (c:=U.get i a)
     have h6:((A9 U (U.fields i) (U.get i a)).map (·.1))[j]? =some ((A9 U (U.fields i) (U.get i a))[j]).1:=by
      rw [cp9,co6 hjd];rfl
     rw [h5] at h6
     exact List.mem_of_getElem? h6
    have hst:=hsimple _ hty
    generalize (A9 U (U.fields i) (U.get i a))[j]=d at h2 hst
    obtain ⟨t,dd⟩:=d
    cases t with
    |int q=>cases h2;exact .inl ⟨_,_,rfl⟩
    |bool=>cases h2;exact .inr ⟨_,rfl⟩
    |str=>cases hst
    |slice=>cases hst
    |user=>cases hst
    |map=>cases hst
    |ifc=>cases hst
   have:=aD7 (n:=9999) hall
   show Instr.sameBits (9999+1) _ _=true
   simp only [Instr.sameBits,beq_self_eq_true,Bool.true_and]
   exact this
 simp [Instr.keyThatStays,hb]
theorem aD8 {P:Program} {M:Nat→Prop} {K:TypeId} {i:Nat} (hp:ae5 P K=some (U.fields i)) (hs:P.stoodInHeld K=false) {a:U.T i} {kv:Value} (hv:VIs (U:=U) w M (.user i) a kv) {β:Type} (y:β):∀ {l:List (U.T i×β)} {es:List MapEntry} (i0:Nat),es.length=l.length→
  (∀ (k:Nat) (x:U.T i×β) (e:MapEntry),l[k]? =some x→es[k]? =some e→VIs (U:=U) w M (.user i) x.1 e.key)→
  ((Instr.findAsking K kv es i0).run P w=.ok none w∧mget (E7 U (.user i)) l a=none∧mput (E7 U (.user i)) l a y=l++[(a,y)])∨
  ∃ j e x,es[j]? =some e∧l[j]? =some x∧E7 U (.user i) x.1 a=true∧(Instr.findAsking K kv es i0).run P w=.ok (some (i0+j,e.val)) w∧mget (E7 U (.user i)) l a=some x.2∧mput (E7 U (.user i)) l a y=l.set j (a,y)
 |[],[],i0,_,_=>.inl ⟨rfl,rfl,rfl⟩
 |[],_::_,_,hl,_=>by simp at hl
 |_::_,[],_,hl,_=>by simp at hl
 |(k,v)::l,e::es,i0,hl,hr=>by
  have hke:=bG4 hp hs hv (hr 0 (k,v) e rfl rfl)
  cases hb:E7 U (.user i) k a with
  |true=>
   rw [hb] at hke
   refine .inr ⟨0,e,(k,v),rfl,rfl,hb,?_,?_,?_⟩
   ·simp [Instr.findAsking,hke]
   ·simp [mget,hb]
   ·simp [mput,hb]
  |false=>
   rw [hb] at hke
   rcases aD8 hp hs hv y (l:=l) (es:=es) (i0+1) (by simpa using hl) (fun i x e' hx he=>hr (i+1) x e' (by simpa using hx) (by simpa using he)) with ⟨h1,h2,h3⟩|⟨j,e',x,h1,h2,h3,h4,h5,h6⟩
   ·refine .inl ⟨?_,?_,?_⟩
    ·simp [Instr.findAsking,hke,h1]
    ·simp [mget,hb,h2]
    ·simp [mput,hb,h3]
   ·refine .inr ⟨j+1,e',x,by simpa using h1,by simpa using h2,h3,?_,?_,?_⟩
    ·simp only [Instr.findAsking,Sem.run_bind,hke,Result.andThen_ok,Bool.false_eq_true,if_false,h4]
     rw [show i0+1+j=i0+(j+1) by omega]
    ·simp [mget,hb,h5]
    ·simp [mput,hb,h6]
theorem aA4 {P:Program} {M:Nat→Prop} {K:TypeId} {kt:Ty} (hk:L8 U P K kt=true) {a:den U.T kt} {kv:Value} (hv:VIs w M kt a kv) {β:Type} (y:β) {l:List (den U.T kt×β)} {es:List MapEntry} (hl:es.length=l.length)
  (hr:∀ (k:Nat) (x:den U.T kt×β) (e:MapEntry),l[k]? =some x→es[k]? =some e→VIs w M kt x.1 e.key):
  ((Instr.findKey K kv es).run P w=.ok none w∧mget (E7 U kt) l a=none∧mput (E7 U kt) l a y=l++[(a,y)])∨
  ∃ j e x,es[j]? =some e∧l[j]? =some x∧E7 U kt x.1 a=true∧(Instr.findKey K kv es).run P w=.ok (some (j,e.val)) w∧mget (E7 U kt) l a=some x.2∧mput (E7 U kt) l a y=l.set j (a,y):=by
 rcases X9 hk with ⟨q,hu,rfl⟩|⟨i,fs,hu,rfl,hp,hs⟩
 ·rw [hv.int]
  rcases br4 (q:=q) a y (l:=l) (es:=es) 0 hl (fun i x e hx he=>(hr i x e hx he).int) with ⟨f1,f2,f3⟩|⟨j,e,x,f0,f1,f2,f3,f4,f5⟩
  ·exact .inl ⟨MapKept.run_findKey hu f1,f2,f3⟩
  ·refine .inr ⟨j,e,x,f0,f1,?_,?_,f4,f5⟩
   ·show ((x.1:Int)==a)=true
    rw [f2];simp
   ·rw [Nat.zero_add] at f3
    exact MapKept.run_findKey hu f3
 ·obtain ⟨vs,hva,_⟩:=hv.agg
  cases es with
  |nil=>
   have hl0:l=[]:=List.eq_nil_of_length_eq_zero (by simpa using hl.symm)
   subst hl0
   exact .inl ⟨MapKept.run_findKey hu rfl,rfl,rfl⟩
  |cons e0 es=>
   have hrun:(Instr.findKey K kv (e0::es)).run P w=(Instr.findAsking K kv (e0::es) 0).run P w:=by
    have:Instr.findNow (.struct fs) kv (e0::es) 0=none:=by
     rw [hva]
     simp [Instr.findNow,Instr.sameNow]
    simp only [Instr.findKey,Sem.run_bind,run_underlying hu,Result.andThen_ok,this]
   rw [hrun]
   rcases aD8 hp hs hv y (l:=l) (es:=e0::es) 0 hl hr with h1|⟨j,e,x,h1,h2,h3,h4,h5⟩
   ·exact .inl h1
   ·rw [Nat.zero_add] at h4
    exact .inr ⟨j,e,x,h1,h2,h3,h4,h5⟩
theorem Does.makeMap (R:Rel F n β s tmps w) {t:TypeId} (hop:o.op=.makeMap t none) (he:ai1 E o.dst t=some e) (hf:look (B5 o.dst 0) s.h=none) (hn:B5 o.dst 0<1000000):Does E.P F β s ρ w o e:=by
 unfold ai1 at he
 split at he
 case h_2=>cases he
 rename_i K V hu
 split at he
 case h_2=>cases he
 rename_i kt hk
 split at he
 case h_2=>cases he
 rename_i vt hv
 revert he
 cases hc:L8 U E.P K kt with
 |false=>intro he;cases he
 |true=>
  intro he
  simp only [cond_true,co4] at he
  subst he
  have A:=S9 R.ok (w':=w.alloc (.map #[] 0)) (id:=B5 o.dst 0) (ob:=.map kt vt []) (v:=.map (some w.heap.size)) (O8 _ _) hf (.inr hn) (fun g hg=>by have:=bF1 hg;omega) (fun x=>
   ⟨w.heap.size,#[],0,C2 _ _ _,R.hB,heap_alloc_new w _,⟨rfl,rfl,fun i e he=>by simp at he⟩,fun i y e hy=>by simp at hy⟩)
  refine ⟨.map (some w.heap.size),_,_,.inl ?_,A,CsRel.one rfl ⟨kt,vt,[],B0 _ _ _,(C2 _ _ _).symm⟩⟩
  simp [execOp,hop,Instr.makeMap,newObj]
  rfl
theorem at3 {σ:List (Nat×PV U)} {vt:Ty} {x:den U.T vt} {p:PV U} (hp:Z9 vt ((B4 U vt x).map .d)=some p) {v:Value} (hv:VIs w (Live β h) vt x v):PRel w β h σ p v∧VRel w β h (H4 vt,(B4 U vt x).map .d) v:=by
 obtain ⟨vs,h1,h2,h3,h4⟩:=hv
 have hl:vs.length=(B4 U vt x).length:=by rw [h2,B3]
 have hc:CsRel w β h ((B4 U vt x).map .d) vs:=CsRel.data hl h4
 have one:H4 vt=false→(∃ c,(B4 U vt x).map .d=[c]∧p=.one c)→PRel w β h σ p v∧VRel w β h (H4 vt,(B4 U vt x).map .d) v:=by
  rintro hu ⟨c,hc1,rfl⟩
  rw [hu]
  rw [hc1] at hc ⊢
  have hl1:vs.length=1:=by rw [hc.1];rfl
  match vs,hl1 with
  |[u],_=>
   rw [hu] at h1
   have h1:v=u:=h1
   subst h1
   exact ⟨hc,hc⟩
 cases vt with
 |user i=>
  simp only [Z9,co4] at hp
  subst hp
  exact ⟨⟨vs,h1,hc⟩,⟨vs,h1,hc⟩⟩
 |int k=>exact one rfl ⟨_,rfl,by simpa [Z9,B4] using hp.symm⟩
 |bool=>exact one rfl ⟨_,rfl,by simpa [Z9,B4] using hp.symm⟩
 |str=>exact one rfl ⟨_,rfl,by simpa [Z9,B4] using hp.symm⟩
 |slice e t=>exact one rfl ⟨_,rfl,by simpa [Z9,B4] using hp.symm⟩
 |map k v=>exact one rfl ⟨_,rfl,by simpa [Z9,B4] using hp.symm⟩
 |ifc i=>exact one rfl ⟨_,rfl,by simpa [Z9,B4] using hp.symm⟩
theorem bG5 (hE:E.Fits) {V:TypeId} {vt:Ty} (hc:E.code V=some vt) (hz:S5 E.P V vt=true) (M:Nat→Prop):∃ z,(zeroValue V).run E.P w=.ok z w∧VIs w M vt (dfl U vt) z:=by
 obtain ⟨i,z,hi,hsz,hzero,hzs,hpos,_,h1,hr⟩:=hE.code _ _ hc
 refine ⟨z,by simp [zeroValue,typeInfo,hi,hzero],?_⟩
 unfold S5 at hz
 rw [hi] at hz
 simp only [hzero] at hz
 have hz':(match z with
  | .agg _=>H4 vt
  |_=>!(H4 vt))=true:=by
  revert hz
  cases z<;>exact id
 refine ⟨z.cells.toList,?_,by simp [hzs,hsz],h1,fun j d u hd hu=>?_⟩
 ·cases hu:H4 vt with
  |true=>
   cases z<;>simp_all [Value.cells,aX7]
  |false=>
   cases z<;>simp_all [Value.cells,aX7]
 ·obtain ⟨u',hu',hrr⟩:=hr j d hd
  rw [Array.getElem?_toList,hu'] at hu
  simp only [co4] at hu
  subst hu
  exact hrr _ _
theorem cb4 (k:Ok F w β h) {ids:List Nat} {vt:Ty} {p:PV U} {c:den U.T vt} {u:Obs U} (ha:asE (sub h ids) vt p=some (c,u)) (hform:bp3 vt p=true) {σ:List (Nat×PV U)} {v:Value} (r:PRel w β h σ p v):
  Freezes h u∧VIs w (Live β (upds h u)) vt c v:=by
 unfold asE at ha
 split at ha
 case h_2=>cases ha
 rename_i cs hcs
 split at ha
 case h_2=>cases ha
 rename_i ds u1 hds
 split at ha
 case h_2=>cases ha
 rename_i x hx
 simp only [co4,cp6] at ha
 obtain ⟨rfl,rfl⟩:=ha
 obtain ⟨hf,hl⟩:=L9 hds
 refine ⟨hf,?_⟩
 have hdc:=ao1 hx
 have fin:∀ vs:List Value,v=aX7 (H4 vt) vs→CsRel w β h cs vs→VIs w (Live β (upds h u1)) vt x v:=by
  intro vs hv hc
  refine ⟨vs,hv,by rw [hc.1,←hl,hdc,B3],hc.2.1,fun j d y hd hy=>?_⟩
  rw [←hdc] at hd
  exact ai6 k hf hds hc (fun _ h=>h) j d y hd hy
 cases p with
 |one c=>
  simp only [U1,co4] at hcs
  subst hcs
  have hu:H4 vt=false:=by simpa [bp3] using hform
  exact fin [v] (by rw [hu];rfl) r
 |agg cs'=>
  simp only [U1,co4] at hcs
  subst hcs
  have hu:H4 vt=true:=by simpa [bp3] using hform
  obtain ⟨vs,hv,hc⟩:=r
  exact fin vs (by rw [hu];exact hv) hc
 |_=>simp [U1] at hcs
theorem aq2 {kt:Ty} {p:PV U} {k:den U.T kt} (hk:bv1 kt p=some k) {σ:List (Nat×PV U)} {v:Value} (r:PRel w β h σ p v):VIs w (Live β h) kt k v:=by
 unfold bv1 at hk
 split at hk
 ·rename_i d
  split at hk
  ·cases hk
  ·rename_i hu
   have hu:H4 kt=false:=by simpa using hu
   have hd:=Datum.as_eq hk
   subst hd
   have hr:=r.inv
   refine ⟨[v],by rw [hu];rfl,(by cases kt<;>first|rfl|(cases hu)),by simpa using hr.1,fun j d u hd hu'=>?_⟩
   have hc:B4 U kt k=[⟨kt,k⟩]:=by cases kt<;>first|rfl|(cases hu)
   rw [hc] at hd
   cases j with
   |zero=>
    simp only [cp2,co4] at hd hu'
    subst hd;subst hu'
    exact hr.2
   |succ j=>simp at hd
 ·rename_i cs
  split at hk
  case isFalse=>cases hk
  rename_i hu
  split at hk
  case h_2=>cases hk
  rename_i ds hds
  obtain ⟨vs,hv,hr⟩:=r
  rw [af3 hds] at hr
  have hc:=ao1 hk
  refine ⟨vs,by rw [hu];exact hv,by rw [hr.1,cr5,hc,B3],hr.2.1,fun j d u hd hu'=>?_⟩
  rw [←hc] at hd
  exact hr.2.2 j (.d d) u (by simp [hd]) hu'
 ·cases hk
theorem Does.lookup (hE:E.Fits) (R:Rel F n β s tmps w) {t:TypeId} {x y:Operand} {ok:Bool} (hop:o.op=.lookup t x y ok) {u v:PV U} (r:PRel w β s.h s.σ u (ρ x)) (q:PRel w β s.h s.σ v (ρ y))
  {ids:List Nat} (he:ao6 E (sub s.h ids) t ok u v=some e):Does E.P F β s ρ w o e:=by
 unfold ao6 at he
 split at he
 case h_2=>cases he
 rename_i id
 split at he
 case h_2=>cases he
 rename_i kt vt l hl
 split at he
 case h_2=>cases he
 rename_i K V hu
 revert he
 cases hc:(L8 U E.P K kt&&(E.code V==some vt&&S5 E.P V vt)) with
 |false=>intro he;cases he
 |true=>
  intro he
  simp only [cond_true] at he
  simp only [co7,beq_iff_eq] at hc
  obtain ⟨c1,c2,c3⟩:=hc
  split at he
  case h_2=>cases he
  rename_i k hk
  split at he
  case h_2=>cases he
  rename_i p hp
  have hkey:=aq2 hk q
  generalize hkv:ρ y=kv at hkey
  have hl:=C1 hl
  obtain ⟨b,es,clock,h1,h2,h3,⟨h4,_,_⟩,h5⟩:=R.obj id _ hl
  obtain ⟨_,_,_,hl2,hv⟩:=r.inv.2
  rw [h1] at hv
  obtain ⟨z,hz,hzi⟩:=bG5 (w:=w) hE c2 c3 (Live β s.h)
  have hchk:(Instr.checkKey es.isEmpty 10000 K kv).run E.P w=.ok () w:=aq1 c1 hkey _
  have hval:∃ val ok',(Instr.lookup t (.map (some b)) kv false).run E.P w=.ok val w∧(Instr.lookup t (.map (some b)) kv true).run E.P w=.ok (.tuple #[val,.bool ok']) w∧VIs w (Live β s.h) vt ((mget (E7 U kt) l k).getD (dfl U vt)) val∧ok'=(mget (E7 U kt) l k).isSome:=by
   rcases aA4 (P:=E.P) c1 hkey (dfl U vt) (l:=l) (es:=es.toList) (by simpa using h4) (fun i x e hx he=>(h5 i x e hx (by simpa using he)).1) with ⟨f1,f2,f3⟩|⟨j,e,x,f0,f1,f2,f3,f4,f5⟩
   ·refine ⟨z,false,?_,?_,?_,?_⟩
    ·simp [Instr.lookup,run_underlying hu,MapKept.run_getObj_map h3,hchk,f1,hz]
    ·simp [Instr.lookup,run_underlying hu,MapKept.run_getObj_map h3,hchk,f1,hz]
    ·rw [f2];exact hzi
    ·rw [f2];rfl
   ·refine ⟨e.val,true,?_,?_,?_,?_⟩
    ·simp [Instr.lookup,run_underlying hu,MapKept.run_getObj_map h3,hchk,f3]
    ·simp [Instr.lookup,run_underlying hu,MapKept.run_getObj_map h3,hchk,f3]
    ·rw [f4]
     exact (h5 j x e f1 (by simpa using f0)).2
    ·rw [f4];rfl
  obtain ⟨val,ok',v1,v2,v3,v4⟩:=hval
  obtain ⟨p1,p2⟩:=at3 (σ:=s.σ) hp v3
  cases ok with
  |false=>
   simp only [co4] at he
   subst he
   refine Does.pure (n:=n) R rfl (v:=val) ?_ p1
   simp [execOp,hop,hv,hkv,v1]
  |true=>
   have hrun:(execOp ρ o).run E.P w=.ok (.value (.tuple #[val,.bool ok'])) w:=by simp [execOp,hop,hv,hkv,v2]
   have fin:∀ (b:Bool) (cs:List (Cell U)),VRel w β s.h (b,cs) val→Does E.P F β s ρ w o (F9 (.tup [(b,cs),(false,[.d ⟨.bool,(mget (E7 U kt) l k).isSome⟩])])):=by
    intro b cs hvr
    refine Does.pure (n:=n) R rfl (v:=.tuple #[val,.bool ok']) hrun ⟨[val,.bool ok'],rfl,rfl,fun j x u hx hu'=>?_⟩
    match j,hx,hu' with
    |0,hx,hu'=>
     simp only [cp2,co4] at hx hu'
     subst hx;subst hu'
     exact hvr
    |1,hx,hu'=>
     simp only [List.getElem?_cons_succ,cp2,co4] at hx hu'
     subst hx;subst hu'
     rw [v4]
     exact PRel.mkBool (σ:=s.σ) _
    |j+2,hx,hu'=>simp at hx
   simp only at he
   split at he
   ·rename_i c
    simp only [co4] at he
    subst he
    exact fin false [c] p1
   ·rename_i cs
    simp only [co4] at he
    subst he
    exact fin true cs p1
   ·cases he
theorem Does.mapPut (hE:E.Fits) (R:Rel F n β s tmps w) {t:TypeId} {x y z:Operand} (hop:o.op=.mapUpdate t x y z) {u v p:PV U} (r:PRel w β s.h s.σ u (ρ x)) (q:PRel w β s.h s.σ v (ρ y)) (rz:PRel w β s.h s.σ p (ρ z))
  {ids:List Nat} (he:ao7 E (sub s.h ids) t u v p=some e):Does E.P F β s ρ w o e:=by
 unfold ao7 at he
 split at he
 case h_2=>cases he
 rename_i id
 split at he
 case h_2=>cases he
 rename_i kt vt l hl
 split at he
 case h_2=>cases he
 rename_i K V hu
 revert he
 cases hc:(L8 U E.P K kt&&(E.code V==some vt&&S5 E.P V vt)) with
 |false=>intro he;cases he
 |true=>
  intro he
  simp only [cond_true] at he
  simp only [co7,beq_iff_eq] at hc
  obtain ⟨c1,c2,c3⟩:=hc
  split at he
  case h_2=>cases he
  rename_i k hk
  split at he
  case h_2=>cases he
  rename_i c u hcu
  split at he
  case isFalse=>cases he
  rename_i hall
  simp only [co7] at hall
  obtain ⟨hall,hform⟩:=hall
  simp only [co4] at he
  subst he
  have hkey0:=aq2 hk q
  generalize hkv:ρ y=kv at hkey0
  have hl:=C1 hl
  obtain ⟨hfz,hvis⟩:=cb4 R.ok hcu hform rz
  have A1:=I3 R.ok hfz
  have hkey:VIs w (Live β (upds s.h u)) kt k kv:=hkey0.mono A1.ext.size A1.ext.heapL A1.ext.live
  have hl1:look id (upds s.h u)=some (.map kt vt l):=by
   rw [B7 (fun o' ho'=>by
    have:=cr4.1 hall _ ho'
    simp at this)]
   exact hl
  obtain ⟨b,es,clock,h1,h2,h3,⟨h4,h4c,h4b⟩,h5⟩:=A1.obj id _ hl1
  obtain ⟨_,_,_,hl2,hv⟩:=r.inv.2
  rw [h1] at hv
  have hchk:(Instr.checkKey false 10000 K kv).run E.P w=.ok () w:=aq1 c1 hkey _
  have hrun:∃ es' clock',(Instr.mapUpdate t (.map (some b)) kv (ρ z)).run E.P w=.ok () { w with heap:=w.heap.setIfInBounds b (.map es' clock') }∧(es'.size=(mput (E7 U kt) l k c).length∧clock'=es'.size∧∀ (i:Nat) (e:MapEntry),es'[i]? =some e→e.born=i)∧
    ∀ (i:Nat) (x:den U.T kt×den U.T vt) (e:MapEntry),(mput (E7 U kt) l k c)[i]? =some x→es'[i]? =some e→VIs w (Live β (upds s.h u)) kt x.1 e.key∧VIs w (Live β (upds s.h u)) vt x.2 e.val:=by
   rcases aA4 (P:=E.P) c1 hkey c (l:=l) (es:=es.toList) (by simpa using h4) (fun i x e hx he=>(h5 i x e hx (by simpa using he)).1) with ⟨f1,f2,f3⟩|⟨j,e,x,f0,f1,f2,f3,f4,f5⟩
   ·rw [f3]
    refine ⟨es.push { key:=kv,val:=ρ z,born:=clock },clock+1,?_,⟨by simp [h4],by simp [h4c],fun i e he=>?_⟩,fun i x e hx he=>?_⟩
    ·simp [Instr.mapUpdate,run_underlying hu,MapKept.run_getObj_map h3,hchk,f1,MapKept.run_setObj_map _ h3]
    ·rw [Array.getElem?_push] at he
     split at he
     ·rename_i hi
      simp only [co4] at he
      subst he
      rw [hi];exact h4c
     ·exact h4b i e he
    ·rcases Nat.lt_trichotomy i l.length with hi|hi|hi
     ·rw [cq4 hi] at hx
      rw [Array.getElem?_push,if_neg (by omega)] at he
      exact h5 i x e hx he
     ·rw [cq3 (by omega),hi,Nat.sub_self] at hx
      simp only [cp2,co4] at hx
      subst hx
      rw [Array.getElem?_push,if_pos (by omega)] at he
      simp only [co4] at he
      subst he
      exact ⟨hkey,hvis⟩
     ·rw [cq3 (by omega)] at hx
      have:i-l.length=(i-l.length-1)+1:=by omega
      rw [this] at hx
      simp at hx
   ·rw [f5]
    have hekey:=br5 (P:=E.P) c1 hkey (h5 j x e f1 (by simpa using f0)).1 f2
    have hjl:j<es.size:=by
     have:=(co9.1 f0).1
     simpa using this
    have hes:es[j]=e:=by
     have:es[j]? =some e:=by simpa using f0
     rw [cq1 hjl] at this
     simpa using this
    refine ⟨es.modify j fun e=>{ e with key:=kv,val:=ρ z },clock,?_,⟨by simp [h4],by simpa using h4c,fun i e' he=>?_⟩,fun i x' e' hx he=>?_⟩
    ·have hst:=ba1 (P:=E.P) (w:=w) c1 hkey
     simp [Instr.mapUpdate,run_underlying hu,MapKept.run_getObj_map h3,hchk,f3,cq1 hjl,hes,hekey,hst,MapKept.run_setObj_map _ h3]
    ·rw [Array.getElem?_modify] at he
     split at he
     ·simp only [cp1] at he
      obtain ⟨e0,he0,rfl⟩:=he
      exact h4b i e0 he0
     ·exact h4b i e' he
    ·rw [cq9] at hx
     split at hx
     ·rename_i hij
      subst hij
      split at hx
      ·simp only [co4] at hx
       subst hx
       rw [Array.getElem?_modify,if_pos rfl] at he
       simp only [cp1] at he
       obtain ⟨e0,_,rfl⟩:=he
       exact ⟨hkey,hvis⟩
      ·cases hx
     ·rename_i hij
      rw [Array.getElem?_modify,if_neg hij] at he
      exact h5 i x' e' hx he
  obtain ⟨es',clock',hr1,hr2,hr3⟩:=hrun
  have hbl:b<w.heap.size:=(cq2.1 h3).1
  have A2:After F w β (upds s.h u) { w with heap:=w.heap.setIfInBounds b (.map es' clock') } β (write id (.map kt vt (mput (E7 U kt) l k c)) (upds s.h u)):=by
   refine J8 A1.ok hl1 rfl rfl rfl rfl (by simp) (fun b' hb' hn=>?_) rfl (fun _ _=>rfl) rfl (fun _=>⟨rfl,rfl,rfl⟩) (fun b hb'=>.inl hb') (fun _ _ h5=>by cases h5) (fun _ _ _ _ _ h5=>by cases h5) (fun x=>?_)
   ·have:b'≠b:=fun hh=>hn (by rw [h1,hh];exact rfl)
    simp [Ne.symm this]
   ·refine ⟨b,es',clock',h1,h2,by simp [hbl],hr2,fun i y e' hy he'=>?_⟩
    obtain ⟨q1,q2⟩:=hr3 i y e' hy he'
    exact ⟨q1.mono x.size x.heapL x.live,q2.mono x.size x.heapL x.live⟩
  refine ⟨undef,{ w with heap:=w.heap.setIfInBounds b (.map es' clock') },β,.inr ⟨?_,rfl⟩,?_,trivial⟩
  ·simp [execOp,hop,hv,hkv,hr1]
  ·dsimp only
   rw [C9]
   exact A1.trans A2
theorem bZ4 {cs:List (Cell U)} {ds:List (Datum U)} (hd:allD cs=some ds) {vs:List Value} (hc:CsRel w β h cs vs) (t:TypeId) (b:Bool) (hb:b=false→vs.length=1) (σ:List (Nat×PV U)):PRel w β h σ (.one (.ifc t b ds)) (.iface t (aX7 b vs)):=by
 have:=af3 hd
 subst this
 refine CsRel.one rfl ⟨vs,rfl,by simpa using hc.1,hb,hc.2.1,fun j d u hd hu=>hc.2.2 j (.d d) u (by simp [hd]) hu⟩
theorem Does.iface (R:Rel F n β s tmps w) {t:TypeId} {x:Operand} (hop:o.op=.makeInterface t x) {u:PV U} (r:PRel w β s.h s.σ u (ρ x)) (he:az6 E t u=some e):Does E.P F β s ρ w o e:=by
 unfold az6 at he
 split at he
 ·cases he
 ·rename_i d hnot hu
  have hnoti:∀ ms,d≠.interface ms:=fun ms hh=>hnot ms hh
  have hrun:(execOp ρ o).run E.P w=.ok (.value (.iface t (ρ x))) w:=by
   have:(Instr.makeInterface t (ρ x)).run E.P w=.ok (.iface t (ρ x)) w:=by
    unfold Instr.makeInterface
    simp only [Sem.run_bind,run_underlying hu,Result.andThen_ok]
    cases d<;>first|rfl|exact absurd rfl (hnoti _)
   simp [execOp,hop,this]
  split at he
  ·rename_i c
   simp only [cp1] at he
   obtain ⟨ds,hds,rfl⟩:=he
   exact Does.pure (n:=n) R rfl (v:=.iface t (ρ x)) hrun (bZ4 (vs:=[ρ x]) hds r t false (fun _=>rfl) _)
  ·rename_i cs
   simp only [cp1] at he
   obtain ⟨ds,hds,rfl⟩:=he
   obtain ⟨vs,hv,hc⟩:=r
   refine Does.pure (n:=n) R rfl (v:=.iface t (ρ x)) hrun ?_
   rw [hv]
   exact bZ4 (vs:=vs) hds hc t true (fun h=>by cases h) _
  ·cases he
 ·cases he
theorem aD9 {σ:List (Nat×PV U)}:∀ {vs:List (PV U)} {ids:List Nat},aY2 vs=some ids→∀ {us:List Value},us.length=vs.length→(∀ (j:Nat) (p:PV U) (v:Value),vs[j]? =some p→us[j]? =some v→PRel w β h σ p v)→
  ∃ bs:List Nat,us=bs.map (fun b=>Value.pointer (some ⟨b,0,none⟩))∧bs.length=ids.length∧∀ (j id b:Nat),ids[j]? =some id→bs[j]? =some b→∃ e cs,look id h=some (.box e cs)∧β id=.pointer (some ⟨b,0,none⟩)
 |[],ids,hc,us,hl,hr=>by
  simp only [aY2,co4] at hc
  subst hc
  have:us=[]:=by simpa using hl
  subst this
  exact ⟨[],rfl,rfl,fun j id b h=>by simp at h⟩
 |v::vs,ids,hc,us,hl,hr=>by
  match us,hl with
  |u::us,hl=>
   unfold aY2 at hc
   split at hc
   ·rename_i heq;cases heq
   ·rename_i id off r heq
    simp only [List.cons.injEq] at heq
    obtain ⟨rfl,rfl⟩:=heq
    revert hc
    cases ho:Nat.beq off 0 with
    |false=>intro hc;cases hc
    |true=>
     intro hc
     have ho:=co5 ho
     subst ho
     simp only [cond_true,cp1] at hc
     obtain ⟨ids',hids,rfl⟩:=hc
     obtain ⟨bs,h1,h2,h3⟩:=aD9 hids (us:=us) (by simpa using hl) (fun j p v hp hv=>hr (j+1) p v (by simpa using hp) (by simpa using hv))
     obtain ⟨e,cs,b,q1,q2,q3⟩:=(hr 0 _ u rfl rfl).inv.2
     refine ⟨b::bs,by simp [h1,q3],by simp [h2],fun j id' b' hj hb=>?_⟩
     match j,hj,hb with
     |0,hj,hb=>
      simp only [cp2,co4] at hj hb
      subst hj;subst hb
      exact ⟨e,cs,q1,q2⟩
     |j+1,hj,hb=>exact h3 j id' b' (by simpa using hj) (by simpa using hb)
   ·cases hc
theorem Does.func (R:Rel F n β s tmps w) {f:Fn} {first cap:Array Operand} (hop:o.op=.makeFunc f first cap) (hf:first.size=0) {vs:List (PV U)} (hl:vs.length=cap.toList.length) (r:∀ (j:Nat) (p:PV U) (x:Operand),vs[j]? =some p→cap.toList[j]? =some x→PRel w β s.h s.σ p (ρ x))
  (he:aQ8 f vs=some e):Does E.P F β s ρ w o e:=by
 have hfirst:=Array.eq_empty_of_size_eq_zero hf
 unfold aQ8 at he
 split at he
 case h_2=>cases he
 rename_i fid
 split at he
 case h_2=>cases he
 rename_i ids hids
 obtain ⟨bs,h1,h2,h3⟩:=aD9 (σ:=s.σ) hids (us:=cap.toList.map ρ) (by simp [hl]) (fun j p v hp hv=>by
  simp only [cp9,cp1] at hv
  obtain ⟨x,hx,rfl⟩:=hv
  exact r j p x hp hx)
 have hrun:(execOp ρ o).run E.P w=.ok (.value (.func (.func fid) #[] (cap.map ρ))) w:=by
  simp [execOp,hop,hfirst,Instr.makeFunc]
 have hcap:cap.map ρ=(bs.map (fun b=>Value.pointer (some ⟨b,0,none⟩))).toArray:=by
  apply Array.toList_inj.1
  simp [←h1]
 split at he
 ·simp only [co4] at he
  subst he
  have hb:bs=[]:=by simpa using h2
  subst hb
  refine Does.pure (n:=n) R rfl hrun ?_
  rw [hcap]
  exact CsRel.one rfl rfl
 ·simp only [co4] at he
  subst he
  refine Does.pure (n:=n) R rfl hrun ?_
  rw [hcap]
  exact CsRel.one rfl ⟨bs,rfl,h2,h3⟩
theorem Does.bnd (R:Rel F n β s tmps w) {f:FuncId} {first cap:Array Operand} (hop:o.op=.makeFunc (.func f) first cap) (hc:cap.size=0) {g:Operand→PV U} {id:Nat} (hv:(first.toList++cap.toList).map g=[.one (.ptr id 0)]) (r:∀ x,PRel w β s.h s.σ (g x) (ρ x)):
  Does E.P F β s ρ w o (F9 (.one (.bnd f id))):=by
 have hcap:=Array.eq_empty_of_size_eq_zero hc
 subst hcap
 simp only [List.append_nil] at hv
 obtain ⟨x,hx,hg⟩:∃ x,first.toList=[x]∧g x=.one (.ptr id 0):=by
  cases hf:first.toList with
  |nil=>rw [hf] at hv;simp at hv
  |cons x r=>
   rw [hf] at hv
   simp only [List.map_cons,List.cons.injEq,List.map_eq_nil_iff] at hv
   exact ⟨x,by rw [hv.2],hv.1⟩
 have hfirst:first=#[x]:=by
  apply Array.toList_inj.1
  simpa using hx
 have hr:=r x
 rw [hg] at hr
 obtain ⟨e,cs,b,h1,h2,h3⟩:=hr.inv.2
 refine Does.pure (n:=n) R rfl (v:=.func (.func f) #[.pointer (some ⟨b,0,none⟩)] #[]) ?_ (CsRel.one rfl ⟨e,cs,b,h1,h2,rfl⟩)
 simp [execOp,hop,hfirst,Instr.makeFunc,h3]
theorem Does.lenM (R:Rel F n β s tmps w) {c:Call} {x:Operand} (hop:o.op=.call c) (hc:c.callee=.builtin .len) (hx:c.args.toList=[x]) {t k' v':TypeId} {ts:List TypeId} (ht:c.argTypes.toList=t::ts) (hu:E.P.underlying t=some (.map k' v'))
  {u:PV U} (r:PRel w β s.h s.σ u (ρ x)) {ids:List Nat} (he:aQ3 (sub s.h ids) u=some e):Does E.P F β s ρ w o e:=by
 have hargs:c.args.map ρ=#[ρ x]:=by
  apply Array.toList_inj.1
  simp [hx]
 have h0:c.argTypes[0]? =some t:=by
  rw [←Array.getElem?_toList,ht];rfl
 unfold aQ3 at he
 split at he
 case h_2=>cases he
 rename_i id
 split at he
 case h_2=>cases he
 rename_i kt vt l hl
 simp only [co4] at he
 subst he
 have hl:=C1 hl
 obtain ⟨_,_,_,hl2,hv⟩:=r.inv.2
 obtain ⟨b,es,clock,h1,h2,h3,⟨h4,_⟩,_⟩:=R.obj id _ hl
 refine Does.pure (n:=n) R rfl (H6 hop hc ?_) (PRel.mkInt _ _)
 rw [hargs,hv,h1]
 simp [builtin,Builtin.len_,h0,run_underlying hu,MapKept.run_getObj_map h3,goInt,h4]
theorem bS0 {t:Ty} {l:List (den U.T t)} {xs:List Value} (r:Els w β h t l xs) (k:Nat):Els w β h t (l.take k) (xs.take (k*szOf U t)):=by
 intro i x hx j d hd
 rw [List.getElem?_take] at hx
 split at hx
 ·rename_i hik
  obtain ⟨u,hu,hr⟩:=r i x hx j d hd
  have hj:j<szOf U t:=by
   rw [←B3 U t x]
   exact (co9.1 hd).1
  refine ⟨u,?_,hr⟩
  rw [List.getElem?_take,if_pos]
  ·exact hu
  ·have:(i+1)*szOf U t≤k*szOf U t:=Nat.mul_le_mul_right _ hik
   rw [Nat.add_mul,Nat.one_mul] at this
   omega
 ·cases hx
theorem bS1 {t:Ty} {l:List (den U.T t)} {xs:List Value} (r:Els w β h t l xs) (k:Nat):Els w β h t (l.drop k) (xs.drop (k*szOf U t)):=by
 intro i x hx j d hd
 rw [List.getElem?_drop] at hx
 obtain ⟨u,hu,hr⟩:=r (k+i) x hx j d hd
 refine ⟨u,?_,hr⟩
 rw [List.getElem?_drop,←hu]
 congr 1
 rw [Nat.add_mul]
 omega
theorem bS2 {P:Program} (w:World) (dT sT ty elem:TypeId) {i:TypeInfo} (g dLen dCap:Nat) (a:Addr) (sLen sCap:Nat) (cur:Array Value) (t:TypeId) (cs:List Value)
  (hu:P.underlying dT=some (.slice elem)) (hi:P.info? elem=some i) (hg:w.heap[g]? =some (.cells cur t (0,0))) (hn:cs.length=Nat.min sLen dLen*i.size)
  (hsrc:∀ j v,cs[j]? =some v→w.cell? (a.add j)=some v) (hfit:cs.length≤cur.size) (h1:∀ v∈cs,v.oneCell'=true):
  (Builtin.copy_ #[dT,sT] ty #[.slice (some ⟨g,0,none⟩) dLen dCap,.slice (some a) sLen sCap]).run P w=.ok (goInt (Nat.min sLen dLen)) (w.setRow g (D7 cur.toList 0 cs).toArray):=by
 have hl:=run_loadCells_list (P:=P) w a cs hsrc
 have hst:=run_storeCells_at P g 0 t cs 0 cur w hg (by simpa using hfit) h1
 have hnm:∀ a b:Nat,Nat.min a b=min a b:=fun _ _=>rfl
 simp only [hnm] at hn
 simp [Builtin.copy_,run_underlying hu,Builtin.lenOf,Builtin.firstCells,sizeOf,typeInfo,hi,hnm,←hn,hl,hst,D7]
theorem bw2 {P:Program} (w:World) (dT sT ty elem:TypeId) {i:TypeInfo} (d a:Option Addr) (dLen dCap sLen sCap:Nat) (hu:P.underlying dT=some (.slice elem)) (hi:P.info? elem=some i) (hn:min sLen dLen=0):
  (Builtin.copy_ #[dT,sT] ty #[.slice d dLen dCap,.slice a sLen sCap]).run P w=.ok (goInt 0) w:=by
 have hnm:∀ a b:Nat,Nat.min a b=min a b:=fun _ _=>rfl
 cases a with
 |none=>cases d<;>simp [Builtin.copy_,run_underlying hu,Builtin.lenOf,Builtin.firstCells,sizeOf,typeInfo,hi,storeCells,hnm,hn]
 |some a=>
  have hl:=run_loadCells_list (P:=P) w a [] (by simp)
  simp only [List.length_nil] at hl
  cases d<;>simp [Builtin.copy_,run_underlying hu,Builtin.lenOf,Builtin.firstCells,sizeOf,typeInfo,hi,storeCells,hnm,hn,hl]
theorem bG6 (hE:E.Fits) (R:Rel F n β s tmps w) {c:Call} {x y:Operand} (hop:o.op=.call c) (hc:c.callee=.builtin .copy) (hx:c.args.toList=[x,y]) {ty ty2 el:TypeId} (hts:c.argTypes.toList=[ty,ty2]) (hu:E.P.underlying ty=some (.slice el)) {t:Ty} (hcd:E.code el=some t)
  {u v:PV U} (r:PRel w β s.h s.σ u (ρ x)) (q:PRel w β s.h s.σ v (ρ y)) {ids:List Nat} (he:aQ5 E (sub s.h ids) el t u v=some e):Does E.P F β s ρ w o e:=by
 obtain ⟨i,z,hi,hsz,hz,hzs,hpos,hby,_,_⟩:=hE.code _ _ hcd
 have hargs:(c.args.map ρ)=#[ρ x,ρ y]:=by
  apply Array.toList_inj.1
  simp [hx]
 have hts2:c.argTypes=#[ty,ty2]:=by
  apply Array.toList_inj.1
  simpa using hts
 unfold aQ5 at he
 split at he
 case h_2=>cases he
 rename_i cy
 split at he
 case h_2=>cases he
 rename_i d us hd
 split at he
 case h_2=>cases he
 rename_i m hm
 have:=Datum.as_eq hm
 subst this
 split at he
 case h_2=>cases he
 rename_i id ver
 split at he
 case h_2=>cases he
 rename_i e' t' l0 ver' lv hl
 split at he
 case isFalse=>cases he
 rename_i hcond
 simp only [co7,beq_iff_eq] at hcond
 obtain ⟨⟨c1,c2⟩,c3⟩:=hcond
 have c1:=co5 c1
 subst c1;subst c2;subst c3
 split at he
 case h_2=>cases he
 rename_i l hll
 have h0:=Datum.as_eq hll
 cases h0
 split at he
 case isFalse=>cases he
 rename_i hall
 simp only [co4] at he
 subst he
 obtain ⟨l,hl0⟩:∃ k:List (den U.T t),k=l:=⟨l,rfl⟩
 obtain ⟨m,hm0⟩:∃ k:List (den U.T t),k=m:=⟨m,rfl⟩
 subst hl0;subst hm0
 obtain ⟨hfz,_⟩:=K7 hd
 have A1:=I3 R.ok hfz
 have hrep:=am0 R.ok hd q.inv.2 hfz (fun _ hx=>hx)
 have hl:=C1 hl
 have hl1:look id (upds s.h us)=some (.row el t l ver true):=by
  rw [B7 (fun o' ho'=>by
   have:=cr4.1 hall _ ho'
   simp at this)]
  exact hl
 obtain ⟨_,_,_,_,_,hl2,hle,hv⟩:=r.inv.2
 rw [hl] at hl2
 simp only [co4,Ob.row.injEq] at hl2
 have hxv:=hv hl2.2.2.2.1
 obtain ⟨xs,hown,hmm,h1c,hel⟩:=A1.obj id _ hl1
 have hnm:∀ a b:Nat,Nat.min a b=min a b:=fun _ _=>rfl
 have fin:∀ (v2:Value) (w':World),(Builtin.copy_ c.argTypes o.type (c.args.map ρ)).run E.P w=.ok v2 w'→v2=.int .i64 ((min m.length l.length:Nat):Int)→After F w β (upds s.h us) w' β (write id (.row el t (m.take l.length++l.drop m.length) ver true) (upds s.h us))→
   Does E.P F β s ρ w o ⟨none,.one (.d ⟨.int .i64,(Nat.min (List.length m) (List.length l):Nat)⟩),us++[(id,.row el t (m.take l.length++l.drop m.length) ver true)]⟩:=by
  intro v2 w' hrun hv2 A2
  refine ⟨v2,w',β,.inl ?_,?_,?_⟩
  ·refine H6 hop hc ?_
   simp [builtin,hrun]
  ·dsimp only
   rw [C9]
   exact A1.trans A2
  ·rw [hv2]
   exact PRel.mkInt _ _
 have hform:∃ A2 c2,ρ y=.slice A2 m.length c2:=by
  generalize hvy:ρ y=vy at hrep
  cases hrep with
  |nil=>exact ⟨_,_,rfl⟩
  |slice=>exact ⟨_,_,rfl⟩
 have hformx:∃ A2 c2,ρ x=.slice A2 l.length c2:=by
  rw [hxv]
  rcases hown.2 with ⟨h3,h4⟩|⟨g,cap,cur,h3,_⟩
  ·exact ⟨none,0,by rw [h3,h4]⟩
  ·exact ⟨_,_,h3⟩
 by_cases hz0:min m.length l.length=0
 ·obtain ⟨Ay,cy2,hy⟩:=hform
  obtain ⟨Ax,cx2,hxx⟩:=hformx
  have hrun:=bw2 (P:=E.P) w ty ty2 o.type el Ax Ay l.length cx2 m.length cy2 hu hi hz0
  have hsame:m.take l.length++l.drop m.length=l:=by
   rcases Nat.eq_zero_or_pos m.length with h0|h0
   ·have:m=[]:=List.length_eq_zero_iff.1 h0
    subst this
    simp
   ·have h1:l.length=0:=by omega
    have:l=[]:=List.length_eq_zero_iff.1 h1
    subst this
    simp
  refine fin (goInt 0) w (by rw [hargs,hts2,hy,hxx];exact hrun) (by rw [hz0];rfl) ?_
  rw [hsame]
  have hw:∀ j,look j (write id (.row el t l ver true) (upds s.h us))=look j (upds s.h us):=by
   intro j
   rw [A7]
   split
   ·rename_i hj;rw [hj,hl1]
   ·rfl
  have x:Ext w β (upds s.h us) w β (write id (.row el t l ver true) (upds s.h us)):=by
   refine ⟨Nat.le_refl _,fun _ _ _=>rfl,fun b _ hb=>?_,rfl,fun j e cs hj=>⟨rfl,cs,by rw [hw];exact hj⟩,fun j e t l ver lv hj=>⟨l,ver,lv,by rw [hw];exact hj,Nat.le_refl _,fun _=>⟨rfl,rfl⟩⟩,fun j o hj ho=>⟨rfl,rfl,o,by rw [hw];exact hj,Ob.like_refl ho⟩,fun j D hj=>⟨D,by rw [hw];exact hj,fun _ _ h=>h⟩⟩
   obtain ⟨j,oj,q1,q2,q3⟩:=hb
   rw [hw] at q1
   exact ⟨j,oj,q1,q2,q3⟩
  have k:=A1.ok
  exact x.after ⟨k.bel,k.hB,fun j o hj=>x.o rfl rfl (fun _ _=>rfl) (k.obj j o (by rw [←hw];exact hj)),fun j o j' o' b h1 h2=>k.dis j o j' o' b (by rw [←hw];exact h1) (by rw [←hw];exact h2),k.frm,fun j o b h1=>k.own j o b (by rw [←hw];exact h1),fun j o b h1=>k.Mo j o b (by rw [←hw];exact h1),k.Mlt,k.Meq,fun j o v h1=>k.fix j o v (by rw [←hw];exact h1),k.nmg,k.glo⟩
 ·have hml:0<m.length∧0<l.length:=by omega
  rcases aL5 hpos hrep with ⟨h0,_⟩|⟨a,cap2,ys,hyv,_,hyl,hyc,hy1,hye,_⟩
  ·rw [h0] at hml;simp at hml
  ·obtain ⟨g,cap,cur,h3,h4,h5,h6,h7,h8,h9⟩:=ap6 hown (by omega)
   have hxs:=hown.1
   have hk:min m.length l.length*szOf U t≤ys.length:=by rw [hyl];exact Nat.mul_le_mul_right _ (Nat.min_le_left _ _)
   have hcl:(ys.take (min m.length l.length*szOf U t)).length=min m.length l.length*szOf U t:=by rw [cr3];omega
   have hkl:min m.length l.length*szOf U t≤xs.length:=by rw [hxs];exact Nat.mul_le_mul_right _ (Nat.min_le_right _ _)
   have hlc:l.length*szOf U t≤cap*szOf U t:=Nat.mul_le_mul_right _ h6
   have hrun:=bS2 (P:=E.P) w ty ty2 o.type el g l.length cap a m.length cap2 cur el (ys.take (min m.length l.length*szOf U t)) hu hi h5 (by rw [hcl,hsz]) (fun j v hj=>by
    rw [List.getElem?_take] at hj
    split at hj
    ·exact hyc j v hj
    ·cases hj) (by rw [hcl];omega) (fun v hv=>hy1 v (List.mem_of_mem_take hv))
   have htk:m.take l.length=m.take (min m.length l.length):=by
    rcases Nat.le_total m.length l.length with h|h
    ·rw [List.take_of_length_le h,List.take_of_length_le (by omega)]
    ·rw [Nat.min_eq_right h]
   have hdk:l.drop m.length=l.drop (min m.length l.length):=by
    rcases Nat.le_total m.length l.length with h|h
    ·rw [Nat.min_eq_left h]
    ·rw [Nat.min_eq_right h,List.drop_eq_nil_of_le h,List.drop_eq_nil_of_le (Nat.le_refl _)]
   have hlen:(m.take l.length++l.drop m.length).length=l.length:=by simp;omega
   refine fin (goInt (Nat.min m.length l.length)) _ (by rw [hargs,hts2,hyv,hxv,h3];exact hrun) rfl ?_
   refine J8 A1.ok hl1 rfl rfl rfl rfl (by simp) (fun b hb' hn=>setRow_other w g b _ (fun hh=>hn (by rw [hh,h3];rfl))) rfl (fun _ _=>rfl) rfl (fun h=>by simp [Ob.oth] at h) (fun b hb'=>.inl hb') (fun _ _ h5=>by cases h5) (fun e2 t2 l2 v2 lv2 h5=>?_) (fun x=>?_)
   ·cases h5
    exact ⟨_,_,_,rfl,Nat.le_refl _,fun _=>⟨rfl,hlen⟩⟩
   ·refine ⟨D7 xs 0 (ys.take (min m.length l.length*szOf U t)),?_,by rw [hlen];exact hmm,fun v hv=>?_,?_⟩
    ·rw [h3,hlen]
     exact aa3 h5 h4 h6 h7 h8 h9 hxs (by omega)
    ·simp only [D7,List.take_zero,List.nil_append,cr1] at hv
     rcases hv with hv|hv
     ·exact hy1 v (List.mem_of_mem_take hv)
     ·exact h1c v (List.mem_of_mem_drop hv)
    ·refine Els.ext x ?_
     rw [htk,hdk]
     have:D7 xs 0 (ys.take (min m.length l.length*szOf U t))=ys.take (min m.length l.length*szOf U t)++xs.drop (min m.length l.length*szOf U t):=by
      simp only [D7,List.take_zero,List.nil_append,Nat.zero_add,hcl]
     rw [this]
     refine ai8 (by rw [hcl,cr3,Nat.min_eq_left (Nat.min_le_left _ _)]) (bS0 hye _) (bS1 hel _)
theorem Does.range (R:Rel F n β s tmps w) {t:TypeId} {x:Operand} (hop:o.op=.range t x) {u:PV U} (r:PRel w β s.h s.σ u (ρ x)) {ids:List Nat} (he:az4 E (sub s.h ids) o.dst t u=some e) (hf:look (B5 o.dst 0) s.h=none):Does E.P F β s ρ w o e:=by
 unfold az4 at he
 split at he
 case h_2=>cases he
 rename_i id
 split at he
 case h_2=>cases he
 rename_i kt vt l hl
 split at he
 case h_2=>cases he
 rename_i K V hu
 split at he
 case isTrue=>cases he
 rename_i hne
 have hne:id≠B5 o.dst 0:=fun hh=>hne (by rw [←hh];exact Nat.beq_refl id)
 simp only [co4] at he
 subst he
 have hl:=C1 hl
 obtain ⟨b,es,clock,h1,h2,h3,⟨h4,h4c,_⟩,h5⟩:=R.obj id _ hl
 obtain ⟨_,_,_,hl2,hv⟩:=r.inv.2
 rw [h1] at hv
 have hcl:clock=l.length:=by rw [h4c,h4]
 have A:=S9 R.ok (w':=w.alloc (.mapIter (some b) clock #[] clock)) (id:=B5 o.dst 0) (ob:=.dp (.iter (some id) kt vt l.length [] 0)) (v:=.pointer (some ⟨w.heap.size,0,none⟩)) (O8 _ _) hf (.inl rfl) (fun g hg=>by have:=bi0 hg;simp only at this;omega) (fun xx=>
   Z4 ⟨w.heap.size,b,clock,rfl,R.hB,by rw [heap_alloc_new w _,hcl],fun hh=>absurd rfl hh,fun m hm=>by cases hm;exact xx.cell (c:=.map id) ⟨kt,vt,l,hl,h1.symm⟩⟩ (C2 _ _ _))
 refine ⟨.pointer (some ⟨w.heap.size,0,none⟩),_,_,.inl ?_,A,CsRel.one rfl ⟨_,B0 _ _ _,rfl,(C2 _ _ _).symm⟩⟩
 have hg:(getObj b).run E.P w=.ok (.map es clock) w:=by simp [getObj,Sem.run,h3]
 simp [execOp,hop,hv,Instr.range,run_underlying hu,hg,newObj]
 rfl
theorem Does.entry (R:Rel F n β s tmps w) {x:Operand} (hop:o.op=.entry x) {u:PV U} (r:PRel w β s.h s.σ u (ρ x)) {ids:List Nat} (he:az5 (sub s.h ids) u=some e) (hob:e.Obl):Does E.P F β s ρ w o e:=by
 unfold az5 at he
 split at he
 case h_2=>cases he
 rename_i id mid
 split at he
 case h_2=>cases he
 rename_i mid' kt vt nn seen cur kt' vt' l hl hlm
 split at he
 case isFalse=>cases he
 rename_i hb
 simp only [co7,beq_iff_eq] at hb
 obtain ⟨⟨b1,rfl⟩,rfl⟩:=hb
 have b1:=co5 b1
 subst b1
 split at he
 case h_2=>cases he
 rename_i pk pv hpk hpv
 split at he
 case h_2=>cases he
 rename_i kc vc hkc hvc
 simp only [co4] at he
 subst he
 obtain ⟨o1,o2,o3⟩:l.length=nn∧seen.getLast? =some cur∧cur<nn:=hob
 have hl:=C1 hl
 have hlm:=C1 hlm
 obtain ⟨D,hd,hv⟩:=r.inv.2
 rw [hl] at hd
 simp only [co4,Ob.dp.injEq] at hd
 subst hd
 obtain ⟨_,hv⟩:=hv
 have hit:DRel F.B w β s.h (.iter (some mid) kt vt nn seen cur) (β id):=R.obj id _ hl
 obtain ⟨rb,b,last,q1,q2,q3,q4,q5⟩:=hit
 obtain ⟨_,_,_,q6,q7⟩:=q5 mid rfl
 obtain ⟨b',es,clock,h1,h2,h3,⟨h4,h4c,h4b⟩,h5⟩:=R.obj mid _ hlm
 rw [h1] at q7
 simp only [Value.map.injEq,co4] at q7
 subst q7
 have hne:seen≠[]:=fun hh=>by rw [hh] at o2;cases o2
 obtain ⟨_,hlast⟩:=q4 hne
 have hcur:cur<es.size:=by omega
 have hcl:cur<l.length:=by omega
 have hes:es[cur]? =some es[cur]:=cq1 hcur
 have hborn:=h4b cur _ hes
 obtain ⟨e1,e2⟩:=h5 cur l[cur] es[cur] (co6 hcl) hes
 have hk:(l.map (·.1)).getD cur (dfl U kt)=(l[cur]).1:=by simp [List.getD,co6 hcl]
 have hvv:(l.map (·.2)).getD cur (dfl U vt)=(l[cur]).2:=by simp [List.getD,co6 hcl]
 rw [hk] at hpk
 rw [hvv] at hpv
 obtain ⟨_,p2⟩:=at3 (σ:=s.σ) hpk e1
 obtain ⟨_,p4⟩:=at3 (σ:=s.σ) hpv e2
 have hcells:∀ {t:Ty} {x:den U.T t} {p:PV U} {cs:List (Cell U)},Z9 t ((B4 U t x).map .d)=some p→U1 p=some cs→cs=(B4 U t x).map .d:=by
  intro t x p cs hp hc
  cases t<;>simp_all [Z9,U1,B4]<;>(subst hp;simpa using hc.symm)
 rw [hcells hpk hkc,hcells hpv hvc]
 have hfind:es.find? (fun e=>e.born==cur)=some es[cur]:=by
  rw [Array.find?_eq_some_iff_getElem]
  refine ⟨by simp [hborn],cur,hcur,rfl,fun j hj=>?_⟩
  have:=h4b j es[j] (cq1 (by omega))
  simp [this]
  omega
 refine Does.pure (n:=n) R rfl (v:=.tuple #[es[cur].key,es[cur].val]) ?_ ⟨[es[cur].key,es[cur].val],rfl,rfl,fun j x u hx hu'=>?_⟩
 ·have hg1:(getObj rb).run E.P w=.ok (.mapIter (some b) nn seen.toArray last) w:=by simp [getObj,Sem.run,q3]
  have hg2:(getObj b).run E.P w=.ok (.map es clock) w:=by simp [getObj,Sem.run,h3]
  have hback:seen.toArray.back? =some cur:=by rw [←o2];simp
  have hclk:clock=last:=by rw [h4c,h4,o1,hlast]
  simp [execOp,hop,hv,q1,Instr.entry,hg1,hg2,hback,hclk,hfind]
 ·match j,hx,hu' with
  |0,hx,hu'=>
   simp only [cp2,co4] at hx hu'
   subst hx;subst hu'
   exact p2
  |1,hx,hu'=>
   simp only [List.getElem?_cons_succ,cp2,co4] at hx hu'
   subst hx;subst hu'
   exact p4
  |j+2,hx,hu'=>simp at hx
end
end Go.VT
end
