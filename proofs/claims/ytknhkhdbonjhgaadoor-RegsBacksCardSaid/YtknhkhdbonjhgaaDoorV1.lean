/-
What the last text of this claim uses: VtA, VtB, VtHo, VtC, VtD, VtE, VtF, VtG, VtH, VtI, VtJ, VtK, VtL, VtM, VtN.
-/
import Derived.Below
import Derived.Laws.AppendOwn
import Derived.Laws.Sem
import Derived.CallsIn
import Derived.OrdersIn
import Derived.Laws.Entries
import Derived.Laws.Cells
import Derived.Laws.CopyRow
import Derived.Laws.Tables
import Derived.WalkKit
import Derived.Laws.StructEq
import Derived.Laws.OwnMore
set_option linter.unusedVariables false
set_option linter.unusedSimpArgs false
set_option maxRecDepth 100000
noncomputable section
namespace Go
universe u v
theorem cn4:type_of% @Option.some.injEq.{u}:=@Option.some.injEq
theorem cn5:type_of% @Nat.eq_of_beq_eq_true:=@Nat.eq_of_beq_eq_true
theorem cn6:type_of% @List.getElem?_eq_getElem.{u}:=@List.getElem?_eq_getElem
theorem cn7:type_of% @Bool.and_eq_true:=@Bool.and_eq_true
theorem cn8:type_of% @Int.toNat_natCast:=@Int.toNat_natCast
theorem cn9:type_of% @List.getElem?_eq_some_iff.{u}:=@List.getElem?_eq_some_iff
theorem co0:type_of% @Int.eq_ofNat_of_zero_le:=@Int.eq_ofNat_of_zero_le
theorem co1:type_of% @Option.map_eq_some_iff.{u,v}:=@Option.map_eq_some_iff
theorem co2:type_of% @List.getElem?_cons_zero.{u}:=@List.getElem?_cons_zero
theorem co3:type_of% @of_decide_eq_false:=@of_decide_eq_false
theorem co4:type_of% @of_decide_eq_true:=@of_decide_eq_true
theorem co5:type_of% @List.mem_singleton.{u}:=@List.mem_singleton
theorem co6:type_of% @Prod.mk.injEq.{u,v}:=@Prod.mk.injEq
theorem co7:type_of% @Bool.cond_eq_ite.{u}:=@Bool.cond_eq_ite
theorem co8:type_of% @List.getD_eq_getElem?_getD.{u}:=@List.getD_eq_getElem?_getD
theorem co9:type_of% @List.getElem?_map.{u,v}:=@List.getElem?_map
theorem cp0:type_of% @List.length_cons.{u}:=@List.length_cons
theorem cp1:type_of% @Array.getElem?_eq_getElem.{u}:=@Array.getElem?_eq_getElem
theorem cp2:type_of% @Array.getElem?_eq_some_iff.{u}:=@Array.getElem?_eq_some_iff
theorem cp3:type_of% @List.getElem?_append_right.{u}:=@List.getElem?_append_right
theorem cp4:type_of% @List.getElem?_append_left.{u}:=@List.getElem?_append_left
theorem cp5:type_of% @List.length_append.{u}:=@List.length_append
theorem cp6:type_of% @decide_eq_true_eq:=@decide_eq_true_eq
theorem cp7:type_of% @Nat.le_of_ble_eq_true:=@Nat.le_of_ble_eq_true
theorem cp8:type_of% @List.length_singleton.{u}:=@List.length_singleton
theorem cp9:type_of% @List.getElem?_set.{u}:=@List.getElem?_set
theorem cq0:type_of% @List.append_assoc.{u}:=@List.append_assoc
theorem cq1:type_of% @List.mem_append.{u}:=@List.mem_append
theorem cq2:type_of% @List.take_length.{u}:=@List.take_length
theorem cq3:type_of% @List.length_take.{u}:=@List.length_take
theorem cq4:type_of% @List.all_eq_true.{u}:=@List.all_eq_true
theorem cq5:type_of% @List.length_map.{u,v}:=@List.length_map
end Go
section
namespace Go.VT
noncomputable section
inductive Ty where
 |int (k:IntKind)
 |bool
 |str
 |slice (e:TypeId) (t:Ty)
 |user (i:Nat)
 |map (k v:Ty)
 |ifc (i:Nat)
 deriving DecidableEq
abbrev den (T:Nat->Type):Ty->Type
 | .int _=>Int
 | .bool=>Bool
 | .str=>ByteArray
 | .slice _ t=>List (den T t)
 | .user i=>T i
 | .map k v=>List (den T k×den T v)
 | .ifc i=>T i
abbrev Dens (T:Nat->Type):List Ty->Type
 |[]=>Unit
 |t::ts=>den T t×Dens T ts
structure Univ where
 T:Nat->Type
 dflt:(i:Nat)->T i
 fields:Nat->List Ty
 get:(i:Nat)->T i->Dens T (fields i)
 put:(i:Nat)->Dens T (fields i)->T i
 get_put:∀ i c,get i (put i c)=c
 ifc:(i:Nat)->T i->Option (TypeId×Bool×List ((t:Ty)×den T t)):=λ_ _=>none
 mkIfc:(i:Nat)->TypeId->Bool->List ((t:Ty)×den T t)->Option (T i):=λ_ _ _ _=>none
 ifc_mk:∀ i t b ds x,mkIfc i t b ds=some x->ifc i x=some (t,b,ds):=by intros;contradiction
abbrev Datum (U:Univ):=(t:Ty)×den U.T t
def dfl (U:Univ):(t:Ty)->den U.T t
 | .int _=>(0:Int)
 | .bool=>false
 | .str=>ByteArray.empty
 | .slice _ _=>[]
 | .user i=>U.dflt i
 | .map _ _=>[]
 | .ifc i=>U.dflt i
def A7 (U:Univ):(ts:List Ty)->Dens U.T ts->List (Datum U)
 |[],_=>[]
 |t::ts,c=>⟨t,c.1⟩::A7 U ts c.2
def B1 (U:Univ):(t:Ty)->den U.T t->List (Datum U)
 | .user i,x=>A7 U (U.fields i) (U.get i x)
 | .int k,x=>[⟨.int k,x⟩]
 | .bool,x=>[⟨.bool,x⟩]
 | .str,x=>[⟨.str,x⟩]
 | .slice e t,x=>[⟨.slice e t,x⟩]
 | .map k v,x=>[⟨.map k v,x⟩]
 | .ifc i,x=>[⟨.ifc i,x⟩]
def szOf (U:Univ):Ty->Nat
 | .user i=>(U.fields i).length
 |_=>1
def most:Nat:=140737488355328
theorem F8 (U:Univ):∀ (ts:List Ty) (c:Dens U.T ts),(A7 U ts c).length=ts.length
 |[],_=>rfl
 |_::ts,c=>by simp [A7,F8 U ts c.2]
theorem B0 (U:Univ) (t:Ty) (x:den U.T t):(B1 U t x).length=szOf U t:=by cases t<;>simp [B1,szOf,F8]
def Datum.as {U:Univ} (t:Ty) (d:Datum U):Option (den U.T t):=
 if h:d.1=t then some (h▸d.2) else none
theorem Datum.as_eq {U:Univ} {t:Ty} {d:Datum U} {x:den U.T t} (h:d.as t=some x):d=⟨t,x⟩:=by
 obtain ⟨u,y⟩:=d;unfold Datum.as at h;split at h
 .rename_i e;simp only at e;subst e;simp only [cn4] at h;rw [h]
 .cases h
def at5 (U:Univ):(ts:List Ty)->List (Datum U)->Option (Dens U.T ts)
 |[],[]=>some ()
 |t::ts,d::ds=>
  match d.as t with
  |some x=>match at5 U ts ds with
   |some c=>some (x,c)
   |none=>none
  |none=>none
 |_,_=>none
theorem al9 {U:Univ}:∀ {ts:List Ty} {ds:List (Datum U)} {c:Dens U.T ts},at5 U ts ds=some c->ds=A7 U ts c
 |[],[],_,_=>rfl
 |[],_::_,_,h=>by simp [at5] at h
 |_::_,[],_,h=>by simp [at5] at h
 |t::ts,d::ds,c,h=>by
  simp only [at5] at h;split at h
  .rename_i x a;split at h
   .rename_i c' hc;simp only [cn4] at h;subst h;simp only [A7];rw [Datum.as_eq a,al9 hc]
   .cases h
  .cases h
def mkE (U:Univ):(t:Ty)->List (Datum U)->Option (den U.T t)
 | .user i,ds=>(at5 U (U.fields i) ds).map (U.put i)
 | .int k,[d]=>d.as (.int k)
 | .bool,[d]=>d.as .bool
 | .str,[d]=>d.as .str
 | .slice e t,[d]=>d.as (.slice e t)
 | .map k v,[d]=>d.as (.map k v)
 | .ifc i,[d]=>d.as (.ifc i)
 |_,_=>none
theorem am0 {U:Univ} {t:Ty} {ds:List (Datum U)} {x:den U.T t} (h:mkE U t ds=some x):ds=B1 U t x:=by
 cases t with
 |user i=>simp only [mkE,co1] at h;obtain ⟨c,hc,rfl⟩:=h;simp only [B1,U.get_put];exact al9 hc
 |int k=>
  match ds,h with
  |[d],h=>rw [Datum.as_eq (show d.as (.int k)=some x from h)];rfl
  |[],h=>simp [mkE] at h
  |_::_::_,h=>simp [mkE] at h
 |bool=>
  match ds,h with
  |[d],h=>rw [Datum.as_eq (show d.as .bool=some x from h)];rfl
  |[],h=>simp [mkE] at h
  |_::_::_,h=>simp [mkE] at h
 |str=>
  match ds,h with
  |[d],h=>rw [Datum.as_eq (show d.as .str=some x from h)];rfl
  |[],h=>simp [mkE] at h
  |_::_::_,h=>simp [mkE] at h
 |slice e t=>
  match ds,h with
  |[d],h=>rw [Datum.as_eq (show d.as (.slice e t)=some x from h)];rfl
  |[],h=>simp [mkE] at h
  |_::_::_,h=>simp [mkE] at h
 |map k v=>
  match ds,h with
  |[d],h=>rw [Datum.as_eq (show d.as (.map k v)=some x from h)];rfl
  |[],h=>simp [mkE] at h
  |_::_::_,h=>simp [mkE] at h
 |ifc i=>
  match ds,h with
  |[d],h=>rw [Datum.as_eq (show d.as (.ifc i)=some x from h)];rfl
  |[],h=>simp [mkE] at h
  |_::_::_,h=>simp [mkE] at h
def aV4:Bool->List Value->Value
 |true,vs=>.agg vs.toArray
 |false,v::_=>v
 |false,[]=>undef
inductive Rep (U:Univ) (w:World) (M:Nat->Prop):Datum U->Value->Prop where
 |int (k:IntKind) (n:Int):Rep U w M ⟨.int k,n⟩ (.int k n)
 |bool (b:Bool):Rep U w M ⟨.bool,b⟩ (.bool b)
 |str (s:ByteArray):Rep U w M ⟨.str,s⟩ (.string s)
 |nil (e:TypeId) (t:Ty) (A:Option Addr) (c:Nat):Rep U w M ⟨.slice e t,[]⟩ (.slice A 0 c)
 |slice (e:TypeId) (t:Ty) (l:List (den U.T t)) (g o c:Nat) (f:Nat->Nat->Value) (h0:0<l.length) (hc:l.length<=c) (hm:l.length<=most) (hM:¬ M g) (hg:g<w.heap.size)
   (hcell:∀ i,i<l.length->∀ j,j<szOf U t->w.cell? ⟨g,o+i*szOf U t+j,none⟩=some (f i j))
   (hr:∀ i (x:den U.T t),l[i]? =some x->∀ j d,(B1 U t x)[j]? =some d->Rep U w M d (f i j)):
   Rep U w M ⟨.slice e t,l⟩ (.slice (some ⟨g,o,none⟩) l.length c)
 |ifcNil (i:Nat) (x:U.T i) (h:U.ifc i x=none):Rep U w M ⟨.ifc i,x⟩ .nilIface
 |ifc (i:Nat) (x:U.T i) (t:TypeId) (b:Bool) (ds:List (Datum U)) (vs:List Value) (h:U.ifc i x=some (t,b,ds)) (hl:vs.length=ds.length) (hs:b=false->vs.length=1) (h1:∀ v∈vs,v.oneCell'=true)
   (hr:∀ (j:Nat) (d:Datum U) (v:Value),ds[j]? =some d->vs[j]? =some v->Rep U w M d v):Rep U w M ⟨.ifc i,x⟩ (.iface t (aV4 b vs))
theorem Rep.mono {U:Univ} {w w':World} {M M':Nat->Prop} (hs:w.heap.size<=w'.heap.size) (m:∀ b,b<w.heap.size->¬ M b->w'.heap[b]? =w.heap[b]?) (hM:∀ b,b<w.heap.size->M' b->M b)
  {d:Datum U} {v:Value} (h:Rep U w M d v):Rep U w' M' d v:=by
 induction h with
 |int k n=>exact .int k n
 |bool b=>exact .bool b
 |str s=>exact .str s
 |nil e t A c=>exact .nil e t A c
 |ifcNil i x h=>exact .ifcNil i x h
 |ifc i x t b ds vs h hl hs h1 hr ih=>exact .ifc i x t b ds vs h hl hs h1 ih
 |slice e t l g o c f h0 hc hm a hg hcell hr ih=>refine .slice e t l g o c f h0 hc hm (λh=>a (hM g hg h)) (by omega) (λi p j q=>?_) (λi x r j d u=>ih i x r j d u);rw [<-hcell i p j q];exact World.cell?_of_block (m g hg a)
def Small (U:Univ) (d:Datum U):Prop:=∃ (w:World) (M:Nat->Prop) (v:Value),Rep U w M d v
theorem Small.len {U:Univ} {e:TypeId} {t:Ty} {l:List (den U.T t)} (h:Small U ⟨.slice e t,l⟩):l.length<=most:=by
 obtain ⟨w,M,v,h⟩:=h;cases h with
 |nil=>simp [most]
 |slice _ _ _ _ _ _ _ _ _ hm=>exact hm
theorem Small.elem {U:Univ} {e:TypeId} {t:Ty} {l:List (den U.T t)} (h:Small U ⟨.slice e t,l⟩) {i:Nat} {x:den U.T t} (a:l[i]? =some x) {j:Nat} {d:Datum U} (b:(B1 U t x)[j]? =some d):Small U d:=by
 obtain ⟨w,M,v,h⟩:=h;cases h with
 |nil=>simp at a
 |slice _ _ _ _ _ _ _ _ _ _ _ _ _ hr=>exact ⟨w,M,_,hr i x a j d b⟩
end
end Go.VT
end
section
namespace Go.VT
noncomputable section
inductive DC (U:Univ) where
 |self (ver:Nat)
 |elt (ver:Nat) (i:Int) (off:Nat)
 |inn (iv:Nat) (i:Int) (j:Nat)
 |iat (iv:Nat) (i:Int) (j:Nat) (k:Int) (off:Nat)
 |key (iv:Nat) (d:Datum U)
 |it (mid:Nat)
inductive Deep (U:Univ) where
 |rows (e:TypeId) (t:Ty) (m:List Nat) (l:List (den U.T t)) (ver iv:Nat) (live:Bool) (hole:Option (Int×Nat))
 |maps (kt:Ty) (e:TypeId) (t:Ty) (l:List (den U.T kt×List (den U.T t))) (ver iv:Nat) (live:Bool) (hole:Option (den U.T kt))
 |iter (mid:Option Nat) (kt vt:Ty) (n:Nat) (seen:List Nat) (cur:Nat)
def Deep.live {U:Univ}:Deep U->Bool
 | .rows _ _ _ _ _ _ l _=>l
 | .maps _ _ _ _ _ _ l _=>l
 | .iter .. =>true
inductive Cell (U:Univ) where
 |un
 |d (x:Datum U)
 |row (id ver:Nat)
 |ptr (id off:Nat)
 |elt (id ver:Nat) (i:Int) (off:Nat)
 |rd (cs:List (Datum U)) (off:Nat)
 |gl (g:Nat)
 |lit (v:Value)
 |map (id:Nat)
 |clo (f:FuncId) (ids:List Nat)
 |yld (id:Nat)
 |ifc (t:TypeId) (b:Bool) (ds:List (Datum U))
 |tab (g:Nat) (i:Int)
 |tabf (fs:List FuncId) (i:Int)
 |dc (id:Nat) (c:DC U)
 |bnd (f:FuncId) (id:Nat)
inductive PV (U:Univ) where
 |un
 |one (c:Cell U)
 |agg (cs:List (Cell U))
 |tup (vs:List (Bool×List (Cell U)))
 |opt (gs:List (Nat×Bool)) (p:PV U)
inductive Ob (U:Univ) where
 |box (e:TypeId) (cs:List (Cell U))
 |row (e:TypeId) (t:Ty) (l:List (den U.T t)) (ver:Nat) (live:Bool)
 |map (k v:Ty) (l:List (den U.T k×den U.T v))
 |loop (st:Int)
 |dp (D:Deep U)
def Ob.live {U:Univ}:Ob U->Bool
 | .row _ _ _ _ l=>l
 | .dp D=>D.live
 |_=>true
def Ob.isRow {U:Univ}:Ob U->Bool
 | .row .. =>true
 | .dp _=>true
 |_=>false
abbrev Obs (U:Univ):=List (Nat×Ob U)
def look {α:Type} (k:Nat):List (Nat×α)->Option α
 |[]=>none
 |(j,a)::r=>if Nat.beq j k then some a else look k r
def write {α:Type} (k:Nat) (a:α):List (Nat×α)->List (Nat×α)
 |[]=>[(k,a)]
 |(j,b)::r=>if Nat.beq j k then (k,a)::r else (j,b)::write k a r
structure PanV (U:Univ) where
 t:TypeId
 agg:Bool
 ds:List (Datum U)
inductive CPat where
 |un
 |d (k:Nat)
 |row (j:Nat)
 |ptr (j off:Nat)
 |map (j:Nat)
 |clo (f:FuncId) (js:List Nat)
 |yld (j:Nat)
 |fn (f:FuncId)
 |nil
 |dp (j:Nat)
 |ms (j:Nat)
inductive OPat where
 |box (e:TypeId) (cs:List CPat)
 |row (k:Nat)
 |map (k:Nat)
 |loop (k:Nat)
 |dp (k:Nat) (m:List Nat)
 |ms (k:Nat)
 deriving Inhabited
structure Con (U:Univ) where
 args:List (Bool×Nat)
 params:List Ty
 ain:List CPat
 oin:List OPat
 pre:Option (Dens U.T params->Prop)
 bad:Option (Dens U.T params->Bool×PanV U)
 res:List (Bool×Nat)
 tys:List Ty
 rout:List CPat
 oout:List OPat
 fn:Dens U.T params->Dens U.T tys
 kept:List Nat
 yl:List (Nat×Nat)
 gh:List (Nat×Nat)
structure Glob where
 fs:List FuncId
 vs:List Value
def Glob.cell (g:Glob) (i:Nat):Option Value:=match g.fs[i]? with
 |some f=>some (.func (.func f) #[] #[])
 |none=>g.vs[i]?
structure Env (U:Univ) where
 P:Program
 code:TypeId->Option Ty
 con:FuncId->List (Con U)
 G:List (Nat×Glob)
 tab:List FuncId->Int->List (Con U)
 inv:Nat->String->List (Con U)
 yl:List (Nat×Nat)
 Y:Option (Con U)
 it:FuncId->List (Con U×Con U×List (Nat×Nat))
 mg:Bool
 dp:List (TypeId×List Nat)
variable {U:Univ}
structure Eff (U:Univ) where
 obl:Option Prop
 val:PV U
 upd:Obs U
def holds:Option Prop->Prop
 |none=>True
 |some p=>p
def Eff.Obl (e:Eff U):Prop:=holds e.obl
def T5:Value->Cell U
 | .int k n=>.d ⟨.int k,n⟩
 | .bool b=>.d ⟨.bool,b⟩
 | .string s=>.d ⟨.str,s⟩
 |v=>.lit v
def ev (σ:List (Nat×PV U)):Operand->PV U
 | .tmp t=>(look t σ).getD .un
 | .const v=>match v with
  | .agg cs=>if cs.toList.all (·.oneCell') then .agg (cs.toList.map T5) else .un
  | .tuple _=>.un
  |v=>.one (T5 v)
 | .global g=>.one (.gl g)
 | .func f=>.one (.lit (.func (.func f) #[] #[]))
def PV.plain:PV U->Bool
 | .opt .. =>false
 |_=>true
def hasG (path:List (Nat×Bool)) (g:Nat×Bool):Bool:=path.any λx=>Nat.beq x.1 g.1&&(x.2==g.2)
def H5 (path:List (Nat×Bool)):PV U->PV U
 | .opt gs p=>if gs.all (hasG path) then p else .un
 |p=>p
def ids1:Cell U->List Nat
 | .row id _=>[id]
 | .ptr id _=>[id]
 | .elt id _ _ _=>[id]
 | .map id=>[id]
 | .clo _ ids=>ids
 | .yld id=>[id]
 | .dc id c=>match c with
  | .it mid=>[id,mid]
  |_=>[id]
 | .bnd _ id=>[id]
 |_=>[]
def idsP:PV U->List Nat
 | .one c=>ids1 c
 | .agg cs=>cs.flatMap ids1
 | .tup vs=>vs.flatMap λv=>v.2.flatMap ids1
 |_=>[]
def ac4 (P:Program) (t:TypeId):Option (Bool×Nat):=
 match P.info? t,P.underlying t with
 |some i,some d=>some ((match d with
   | .struct _=>true
   | .array _ _=>true
   |_=>false),i.size)
 |_,_=>none
def S2:PV U->Option (List (Cell U))
 | .one c=>some [c]
 | .agg cs=>some cs
 |_=>none
def az5 (agg:Bool) (cs:List (Cell U)):Option (PV U):=
 if agg then some (.agg cs) else match cs with
  |[c]=>some (.one c)
  |_=>none
def az6 (P:Program) (t:TypeId) (cs:List (Cell U)):Option (PV U):=
 match ac4 P t with
 |some (b,n)=>if Nat.beq (cs.take n).length n then az5 b (cs.take n) else none
 |none=>none
def I9 (t:Ty) (l:List (den U.T t)) (i:Int) (j:Nat):Option (Datum U):=(B1 U t (l.getD i.toNat (dfl U t)))[j]?
def Deep.frozen:Deep U->Deep U
 | .rows e t m l ver iv _ hole=>.rows e t m l ver iv false hole
 | .maps kt e t l ver iv _ hole=>.maps kt e t l ver iv false hole
 |D=>D
def Deep.datum (D:Deep U) (c:DC U):Option (Datum U):=
 match D with
 | .rows e t m l ver iv _ none=>match c with
  | .self v=>if Nat.beq v ver then some ⟨.slice e t,l⟩ else none
  | .inn v i j=>if Nat.beq v iv then I9 t l i j else none
  |_=>none
 |_=>none
def Q2 (id iv:Nat) (i:Int) (m:List Nat):Nat->List (Datum U)->List (Cell U)
 |_,[]=>[]
 |j,d::r=>(bif m.any (Nat.beq j) then .dc id (.inn iv i j) else .d d)::Q2 id iv i m (j+1) r
def Deep.cells (D:Deep U) (id:Nat) (c:DC U):Option (List (Cell U)):=
 match D with
 | .rows e t m l ver iv _ none=>match c with
  | .elt v i off=>if Nat.beq v ver then some ((Q2 id iv i m 0 (B1 U t (l.getD i.toNat (dfl U t)))).drop off) else none
  | .iat v i j k off=>if Nat.beq v iv then (match I9 t l i j with
   |some ⟨.slice _ t',l'⟩=>some (((B1 U t' (l'.getD k.toNat (dfl U t'))).drop off).map .d)
   |_=>none) else none
  |_=>none
 |_=>none
def asD (h:Obs U) (t:Ty):Cell U->Option (Datum U×Obs U)
 | .d x=>if x.1=t then some (x,[]) else none
 | .lit (.slice none 0 0)=>match t with
  | .slice e t'=>some (⟨.slice e t',[]⟩,[])
  |_=>none
 | .row id ver=>match look id h with
  |some (.row e t' l ver' _)=>if Nat.beq ver ver' then (if Ty.slice e t'=t then some (⟨.slice e t',l⟩,[(id,.row e t' l ver' false)]) else none) else none
  |_=>none
 | .ifc t' b ds=>match t with
  | .ifc i=>(U.mkIfc i t' b ds).map λx=>(⟨.ifc i,x⟩,[])
  |_=>none
 | .dc id c=>match look id h with
  |some (.dp D)=>match D.datum c with
   |some x=>if x.1=t then some (x,[(id,.dp D.frozen)]) else none
   |none=>none
  |_=>none
 |_=>none
def allD:List (Cell U)->Option (List (Datum U))
 |[]=>some []
 | .d x::r=>(allD r).map (x::·)
 |_::_=>none
def asDs (h:Obs U):List Ty->List (Cell U)->Option (List (Datum U)×Obs U)
 |[],[]=>some ([],[])
 |t::ts,c::cs=>match asD h t c with
  |some (x,u)=>match asDs h ts cs with
   |some (xs,u')=>some (x::xs,u++u')
   |none=>none
  |none=>none
 |_,_=>none
def tysE (U:Univ):Ty->List Ty
 | .user i=>U.fields i
 |t=>[t]
def asE (h:Obs U) (t:Ty) (v:PV U):Option (den U.T t×Obs U):=
 match S2 v with
 |some cs=>match asDs h (tysE U t) cs with
  |some (ds,u)=>match mkE U t ds with
   |some x=>some (x,u)
   |none=>none
  |none=>none
 |none=>none
def bZ8 (op:BinOp) (k:IntKind) (x y:Int):Option (Option Prop×Datum U):=
 match op with
 | .add=>some (none,⟨.int k,k.wrap (x+y)⟩)
 | .sub=>some (none,⟨.int k,k.wrap (x-y)⟩)
 | .mul=>some (none,⟨.int k,k.wrap (x*y)⟩)
 | .quo=>some (some (y≠0),⟨.int k,k.wrap (x.tdiv y)⟩)
 | .rem=>some (some (y≠0),⟨.int k,x.tmod y⟩)
 | .eql=>some (none,⟨.bool,x==y⟩)
 | .neq=>some (none,⟨.bool,x !=y⟩)
 | .lss=>some (none,⟨.bool,decide (x<y)⟩)
 | .leq=>some (none,⟨.bool,decide (x<=y)⟩)
 | .gtr=>some (none,⟨.bool,decide (x >y)⟩)
 | .geq=>some (none,⟨.bool,decide (x>=y)⟩)
 | .shl=>some (some (0<=y),⟨.int k,k.wrap (x*2 ^ min y.toNat k.bits)⟩)
 | .shr=>some (some (0<=y),⟨.int k,x.fdiv (2 ^ min y.toNat k.bits)⟩)
 | .and=>some (none,⟨.int k,k.wrap (BitVec.ofInt k.bits x&&&BitVec.ofInt k.bits y).toNat⟩)
 | .or=>some (none,⟨.int k,k.wrap (BitVec.ofInt k.bits x|||BitVec.ofInt k.bits y).toNat⟩)
 | .xor=>some (none,⟨.int k,k.wrap (BitVec.ofInt k.bits x ^^^ BitVec.ofInt k.bits y).toNat⟩)
 | .andNot=>some (none,⟨.int k,k.wrap (BitVec.ofInt k.bits x&&&~~~ BitVec.ofInt k.bits y).toNat⟩)
def D4 {α:Type} (cs:List α) (off:Nat) (vs:List α):List α:=cs.take off++vs++cs.drop (off+vs.length)
def B3 (dst:Option Tmp) (j:Nat):Nat:=match dst with|some d=>64*d+j|none=>j
def am1 (P:Program) (s:TypeId) (f:Nat):Option (Nat×TypeId):=
 match P.underlying s with
 |some (.struct fs)=>match fs.toList[f]? with
  |some x=>match P.info? x.type with
   |some i=>if Nat.beq i.size 0 then none else some (x.offset,x.type)
   |none=>none
  |none=>none
 |_=>none
def N5 (P:Program) (t:TypeId):Nat:=P.bytesOf t
def D0 {α:Type}:List (Bool×Nat)->List α->List (Bool×List α)
 |[],_=>[]
 |(b,n)::gs,cs=>(b,cs.take n)::D0 gs (cs.drop n)
def F3:List (Bool×Nat)->List (PV U)->Option (List (Cell U))
 |[],[]=>some []
 |(true,n)::gs,.agg cs::vs=>if Nat.beq cs.length n then (F3 gs vs).map (cs++·) else none
 |(false,1)::gs,.one c::vs=>(F3 gs vs).map (c::·)
 |_,_=>none
def bC1 (P:Program) (t:TypeId):Option (Nat->Option (Nat×Nat)):=
 match P.underlying t with
 |some (.array _ e)=>match P.info? e with
  |some ie=>some (λi=>some (i*ie.size,ie.size))
  |none=>none
 |some (.struct fs)=>match fs.toList.mapM (λf=>(P.info? f.type).map λi=>(f.offset,i.size)) with
  |some W5=>some (λi=>W5[i]?)
  |none=>none
 |_=>none
def aO7 (place:Nat->Option (Nat×Nat)):List (Cell U)->List (Nat×PV U)->Option (List (Cell U))
 |cs,[]=>some cs
 |cs,(i,v)::r=>match place i with
  |some (off,size)=>match S2 v with
   |some vs=>if Nat.beq vs.length size&&Nat.ble (off+vs.length) cs.length then aO7 place (D4 cs off vs) r else none
   |none=>none
  |none=>none
def Q3 (P:Program) (t:TypeId):Option (List (Cell U)):=
 match P.info? t with
 |some i=>match i.zero with
  |some v=>if v.cells.toList.all (·.oneCell') then some (v.cells.toList.map T5) else none
  |none=>none
 |none=>none
def R9 (h:Obs U) (t:Ty):Nat->List (Cell U)->Option (List (den U.T t)×Obs U)
 |0,[]=>some ([],[])
 |0,_::_=>none
 |k+1,cs=>match asDs h (tysE U t) (cs.take (szOf U t)) with
  |some (ds,u)=>match mkE U t ds with
   |some x=>match R9 h t k (cs.drop (szOf U t)) with
    |some (xs,u')=>some (x::xs,u++u')
    |none=>none
   |none=>none
  |none=>none
def F5 (v:PV U):Eff U:=⟨none,v,[]⟩
def ax5 (E:Env U) (t:TypeId) (ps:List (Nat×PV U)):Option (Eff U):=
 match (Q3 E.P t:Option (List (Cell U))) with
 |some cs=>match bC1 E.P t with
  |some pl=>match aO7 pl cs ps with
   |some cs=>some (F5 (.agg cs))
   |none=>none
  |none=>none
 |none=>none
def S5 (E:Env U) (h:Obs U) (dst:Option Tmp) (t:TypeId) (len:Nat) (ps:List (Nat×PV U)):Option (Eff U):=
 match E.P.underlying t with
 |some (.slice e)=>match E.code e with
  |some c=>if Nat.ble (len*szOf U c) 1000000 then (match aO7 (λi=>some (i*szOf U c,szOf U c)) (List.replicate (len*szOf U c) .un) ps with
   |some cs=>match R9 h c len cs with
    |some (l,u)=>some ⟨none,.one (.row (B3 dst 0) 0),u++[(B3 dst 0,.row e c l 0 true)]⟩
    |none=>none
   |none=>none) else none
  |none=>none
 |_=>none
def V2 (E:Env U) (h:Obs U) (t:TypeId) (len:Nat) (ps:List (Nat×PV U)):Option (Eff U):=
 match E.P.underlying t with
 |some (.slice e)=>match E.code e with
  |some c=>if Nat.ble (len*szOf U c) 1000000 then (match aO7 (λi=>some (i*szOf U c,szOf U c)) (List.replicate (len*szOf U c) .un) ps with
   |some cs=>match R9 h c len cs with
    |some (l,u)=>some ⟨none,.one (.d ⟨.slice e c,l⟩),u⟩
    |none=>none
   |none=>none) else none
  |none=>none
 |_=>none
def aO8 (E:Env U) (h:Obs U) (t:TypeId):PV U->Option (Eff U)
 | .one (.ptr id off)=>match look id h with
  |some (.box _ cs)=>(az6 E.P t (cs.drop off)).map F5
  |_=>none
 | .one (.rd cs off)=>(az6 E.P t ((cs.drop off).map .d)).map F5
 | .one (.tab g i)=>match look g E.G with
  |some gl=>match ac4 E.P t with
   |some (b,n)=>if !b&&Nat.beq n 1 then some ⟨some (0<=i/\i<gl.fs.length),.one (.tabf gl.fs i),[]⟩ else none
   |none=>none
  |none=>none
 | .one (.gl g)=>match look g E.G with
  |some gl=>if gl.fs.isEmpty&&gl.vs.all (·.oneCell') then (az6 E.P t (gl.vs.map T5)).map F5 else none
  |none=>none
 | .one (.dc id c)=>match look id h with
  |some (.dp D)=>match D.cells id c with
   |some cs=>(az6 E.P t cs).map F5
   |none=>none
  |_=>none
 | .one (.elt id ver i off)=>match look id h with
  |some (.row _ c l ver' _)=>if Nat.beq ver ver' then (az6 E.P t (((B1 U c (l.getD i.toNat (dfl U c))).drop off).map .d)).map F5 else none
  |_=>none
 |_=>none
def aV5 (h:Obs U) (id:Nat) (e:TypeId) (t:Ty) (m:List Nat) (l:List (den U.T t)) (ver iv:Nat) (i:Int) (off:Nat) (vs:List (Cell U)):Option (Option Prop×Obs U):=
 if Nat.ble (off+vs.length) (szOf U t)&&m.all (λj=>Nat.blt j off||Nat.ble (off+vs.length) j) then (match asDs h (((tysE U t).drop off).take vs.length) vs with
  |some (ds,u)=>match mkE U t (D4 (B1 U t (l.getD i.toNat (dfl U t))) off ds) with
   |some x=>if u.all (λy=>!(Nat.beq y.1 id)) then some (none,u++[(id,.dp (.rows e t m (l.set i.toNat x) ver iv true none))]) else none
   |none=>none
  |none=>none) else none
def bZ9 (h:Obs U) (id:Nat) (ty:Option Ty) (c:Cell U):Option (Datum U×Obs U):=
 match c with
 | .row r vr=>match look r h with
  |some (.row e' t' l' vr' true)=>if Nat.beq vr vr'&&!(Nat.beq r id) then some (⟨.slice e' t',l'⟩,[(r,.row e' t' [] (vr'+1) true)]) else none
  |_=>none
 | .lit (.slice none 0 0)=>match ty with
  |some (.slice e' t')=>some (⟨.slice e' t',[]⟩,[])
  |_=>none
 |_=>none
def aV6 (h:Obs U) (id:Nat) (e:TypeId) (t:Ty) (m:List Nat) (l:List (den U.T t)) (ver iv:Nat) (hole:Option (Int×Nat)) (i:Int) (off:Nat) (c:Cell U):Option (Option Prop×Obs U):=
 match bZ9 h id ((tysE U t)[off]?) c with
 |some (d,u)=>if m.any (Nat.beq off)&&(tysE U t)[off]? ==some d.1 then (match mkE U t (D4 (B1 U t (l.getD i.toNat (dfl U t))) off [d]) with
  |some x=>match (match hole with
    |none=>some none
    |some (i',j)=>if Nat.beq j off then some (some (i'=i)) else none) with
   |some p=>some (p,u++[(id,.dp (.rows e t m (l.set i.toNat x) ver (iv+1) true none))])
   |none=>none
  |none=>none) else none
 |none=>none
def aV7 (h:Obs U) (id:Nat) (e:TypeId) (t:Ty) (m:List Nat) (l:List (den U.T t)) (ver iv:Nat) (i:Int) (j:Nat) (k:Int) (off:Nat) (vs:List (Cell U)):Option (Option Prop×Obs U):=
 match I9 t l i j with
 |some ⟨.slice e' t',l'⟩=>if Nat.ble (off+vs.length) (szOf U t') then (match asDs h (((tysE U t').drop off).take vs.length) vs with
  |some (ds,u)=>match mkE U t' (D4 (B1 U t' (l'.getD k.toNat (dfl U t'))) off ds) with
   |some x'=>match mkE U t (D4 (B1 U t (l.getD i.toNat (dfl U t))) j [⟨.slice e' t',l'.set k.toNat x'⟩]) with
    |some x=>if u.all (λy=>!(Nat.beq y.1 id)) then some (none,u++[(id,.dp (.rows e t m (l.set i.toNat x) ver iv true none))]) else none
    |none=>none
   |none=>none
  |none=>none) else none
 |_=>none
def Deep.put (h:Obs U) (id:Nat) (D:Deep U) (c:DC U) (vs:List (Cell U)):Option (Option Prop×Obs U):=
 match D with
 | .rows e t m l ver iv true hole=>match c with
  | .elt v i off=>if Nat.beq v ver then (match vs,m.any (Nat.beq off) with
   |[c],true=>aV6 h id e t m l ver iv hole i off c
   |vs,_=>match hole with
    |none=>aV5 h id e t m l ver iv i off vs
    |some _=>none) else none
  | .iat v i j k off=>if Nat.beq v iv then (match hole with
   |none=>aV7 h id e t m l ver iv i j k off vs
   |some _=>none) else none
  |_=>none
 |_=>none
def ax6 (E:Env U) (h:Obs U) (t:TypeId) (a v:PV U):Option (Eff U):=
 match S2 v with
 |some vs=>match ac4 E.P t with
  |some (_,n)=>if Nat.beq vs.length n then (match a with
   | .one (.ptr id off)=>match look id h with
    |some (.box e cs)=>if Nat.ble (off+n) cs.length then some ⟨none,.un,[(id,.box e (D4 cs off vs))]⟩ else none
    |_=>none
   | .one (.elt id ver i off)=>match look id h with
    |some (.row e c l ver' lv)=>if Nat.beq ver ver'&&lv&&Nat.ble (off+n) (szOf U c) then (match asDs h (((tysE U c).drop off).take n) vs with
      |some (ds,u)=>match mkE U c (D4 (B1 U c (l.getD i.toNat (dfl U c))) off ds) with
       |some x=>if u.all (λy=>!(Nat.beq y.1 id)) then some ⟨none,.un,u++[(id,.row e c (l.set i.toNat x) ver lv)]⟩ else none
       |none=>none
      |none=>none) else none
    |_=>none
   | .one (.dc id c)=>match look id h with
    |some (.dp D)=>match D.put h id c vs with
     |some (p,u)=>some ⟨p,.un,u⟩
     |none=>none
    |_=>none
   |_=>none) else none
  |none=>none
 |none=>none
def Z1:Ty->Bool
 | .int _=>true
 | .bool=>true
 |_=>false
def O9 (P:Program):List Field->Nat->Option (List Ty)
 |[],_=>some []
 |f::r,k=>match P.underlying f.type,P.info? f.type with
  |some d,some i=>match d with
   | .int q=>if f.name !="_"&&Nat.beq f.offset k&&Nat.beq i.size 1 then (O9 P r (k+1)).map (.int q::·) else none
   | .bool=>if f.name !="_"&&Nat.beq f.offset k&&Nat.beq i.size 1 then (O9 P r (k+1)).map (.bool::·) else none
   |_=>none
  |_,_=>none
def ac5 (P:Program) (t:TypeId):Option (List Ty):=
 match P.underlying t with
 |some (.struct fs)=>O9 P fs.toList 0
 |_=>none
def I7:List Ty->List (Datum U)->List (Datum U)->Option Bool
 |[],[],[]=>some true
 | .int _::ts,⟨.int q,x⟩::ds,⟨.int q',y⟩::es=>if q=q' then (I7 ts ds es).map ((x==y)&&·) else none
 | .bool::ts,⟨.bool,x⟩::ds,⟨.bool,y⟩::es=>(I7 ts ds es).map ((x==y)&&·)
 |_,_,_=>none
def bn4 (E:Env U) (op:BinOp) (t:TypeId):PV U->PV U->Option (Eff U)
 | .one (.d ⟨.int k,a⟩),.one (.d ⟨.int k',b⟩)=>if k=k' then (match bZ8 op k a b with
  |some (p,d)=>some ⟨p,.one (.d d),[]⟩
  |none=>none) else none
 | .one (.d ⟨.bool,a⟩),.one (.d ⟨.bool,b⟩)=>match E.P.underlying t with
  |some .bool=>match op with
   | .eql=>some (F5 (.one (.d ⟨.bool,a==b⟩)))
   | .neq=>some (F5 (.one (.d ⟨.bool,a !=b⟩)))
   |_=>none
  |_=>none
 | .agg xs,.agg ys=>match E.P.stoodInHeld t,E.P.eqGuardType E.P.depth t,ac5 E.P t,allD xs,allD ys with
  |false,false,some ts,some ds,some es=>match I7 ts ds es with
   |some b=>match op with
    | .eql=>some (F5 (.one (.d ⟨.bool,b⟩)))
    | .neq=>some (F5 (.one (.d ⟨.bool,!b⟩)))
    |_=>none
   |none=>none
  |_,_,_,_,_=>none
 |_,_=>none
def bQ0 (op:UnOp):PV U->Option (Eff U)
 | .one (.d ⟨.bool,b⟩)=>match op with
  | .not=>some (F5 (.one (.d ⟨.bool,!b⟩)))
  |_=>none
 | .one (.d ⟨.int k,n⟩)=>match op with
  | .neg=>some (F5 (.one (.d ⟨.int k,k.wrap (0-n)⟩)))
  |_=>none
 |_=>none
def aO9 (E:Env U) (t:TypeId):PV U->Option (Eff U)
 | .one (.d ⟨.int _,n⟩)=>match E.P.underlying t with
  |some (.int k)=>some (F5 (.one (.d ⟨.int k,k.wrap n⟩)))
  |_=>none
 |_=>none
def Deep.at_ (D:Deep U) (c:DC U) (k:Nat):Option (DC U):=
 match D with
 | .rows _ _ _ _ ver iv _ _=>match c with
  | .elt v i off=>if Nat.beq v ver then some (.elt v i (off+k)) else none
  | .iat v i j q off=>if Nat.beq v iv then some (.iat v i j q (off+k)) else none
  |_=>none
 |_=>none
def V3 (E:Env U) (h:Obs U) (s:TypeId) (f:Nat) (v:PV U):Option (Eff U):=
 match am1 E.P s f with
 |some (off',_)=>match v with
  | .one (.ptr id off)=>some (F5 (.one (.ptr id (off+off'))))
  | .one (.rd cs off)=>some (F5 (.one (.rd cs (off+off'))))
  | .one (.elt id ver i off)=>match look id h with
   |some (.row _ _ _ ver' _)=>if Nat.beq ver ver' then some (F5 (.one (.elt id ver i (off+off')))) else none
   |_=>none
  | .one (.dc id c)=>match look id h with
   |some (.dp D)=>(D.at_ c off').map λc=>F5 (.one (.dc id c))
   |_=>none
  |_=>none
 |none=>none
def ax7 (E:Env U) (s:TypeId) (f:Nat):PV U->Option (Eff U)
 | .agg cs=>match am1 E.P s f with
  |some (off,t)=>(az6 E.P t (cs.drop off)).map F5
  |none=>none
 |_=>none
def aV8 (P:Program) (t:TypeId):Option Nat:=
 match P.underlying t with
 |some (.slice e)=>match P.info? e with
  |some i=>some i.size
  |none=>none
 |_=>none
def Deep.index (D:Deep U) (c:DC U) (z:Nat) (i:Int):Option (Prop×DC U):=
 match D with
 | .rows e t m l ver iv _ hole=>match c with
  | .self v=>if Nat.beq v ver&&Nat.beq z (szOf U t) then some ((0<=i/\i<l.length),.elt ver i 0) else none
  | .inn v i0 j=>match hole,I9 t l i0 j with
   |none,some ⟨.slice _ t',l'⟩=>if Nat.beq v iv&&Nat.beq z (szOf U t') then some ((0<=i/\i<l'.length),.iat iv i0 j i 0) else none
   |_,_=>none
  |_=>none
 |_=>none
def Deep.len (D:Deep U) (c:DC U):Option Nat:=
 match D with
 | .rows e t m l ver iv _ hole=>match c with
  | .self v=>if Nat.beq v ver then some l.length else none
  | .inn v i0 j=>match hole,I9 t l i0 j with
   |none,some ⟨.slice _ t',l'⟩=>if Nat.beq v iv then some l'.length else none
   |_,_=>none
  |_=>none
 |_=>none
def V4 (E:Env U) (h:Obs U) (ty:TypeId):PV U->PV U->Option (Eff U)
 | .one (.d ⟨.slice _ t,l⟩),.one (.d ⟨.int _,i⟩)=>match aV8 E.P ty with
  |some z=>if Nat.beq z (szOf U t) then some ⟨some (0<=i/\i<l.length),.one (.rd (B1 U t (l.getD i.toNat (dfl U t))) 0),[]⟩ else none
  |none=>none
 | .one (.row id ver),.one (.d ⟨.int _,i⟩)=>match look id h with
  |some (.row _ t l ver' _)=>match aV8 E.P ty with
   |some z=>if Nat.beq ver ver'&&Nat.beq z (szOf U t) then some ⟨some (0<=i/\i<l.length),.one (.elt id ver i 0),[]⟩ else none
   |none=>none
  |_=>none
 | .one (.gl g),.one (.d ⟨.int _,i⟩)=>match look g E.G with
  |some gl=>match E.P.underlying ty with
   |some (.array len el)=>match E.P.info? el with
    |some ie=>if Nat.beq len gl.fs.length&&Nat.beq ie.size 1 then some ⟨some (0<=i/\i<gl.fs.length),.one (.tab g i),[]⟩ else none
    |none=>none
   |_=>none
  |none=>none
 | .one (.dc id c),.one (.d ⟨.int _,i⟩)=>match look id h with
  |some (.dp D)=>match aV8 E.P ty with
   |some z=>match D.index c z i with
    |some (p,c)=>some ⟨some p,.one (.dc id c),[]⟩
    |none=>none
   |none=>none
  |_=>none
 | .one (.ptr id off),.one (.d ⟨.int _,i⟩)=>match E.P.underlying ty with
  |some (.array len el)=>match E.P.info? el with
   |some ie=>some ⟨some (0<=i/\i<(len:Int)),.one (.ptr id (off+i.toNat*ie.size)),[]⟩
   |none=>none
  |_=>none
 |_,_=>none
def af7 (i:Nat):PV U->Option (Eff U)
 | .tup vs=>match vs[i]? with
  |some (b,cs)=>(az5 b cs).map F5
  |none=>none
 |_=>none
def bn5 (h:Obs U):PV U->Option (Eff U)
 | .one (.d ⟨.slice _ _,l⟩)=>some (F5 (.one (.d ⟨.int .i64,(l.length:Int)⟩)))
 | .one (.lit (.slice none 0 0))=>some (F5 (.one (.d ⟨.int .i64,0⟩)))
 | .one (.row id ver)=>match look id h with
  |some (.row _ _ l ver' _)=>if Nat.beq ver ver' then some (F5 (.one (.d ⟨.int .i64,(l.length:Int)⟩))) else none
  |_=>none
 | .one (.dc id c)=>match look id h with
  |some (.dp D)=>match D.len c with
   |some k=>some (F5 (.one (.d ⟨.int .i64,(k:Int)⟩)))
   |none=>none
  |_=>none
 |_=>none
def aP0 (h:Obs U):PV U->Option (Eff U)
 | .one (.map id)=>match look id h with
  |some (.map _ _ l)=>some (F5 (.one (.d ⟨.int .i64,(List.length l:Int)⟩)))
  |_=>none
 |_=>none
def bn6:PV U->PV U->Option (Eff U)
 | .one (.d ⟨.int k,a⟩),.one (.d ⟨.int k',b⟩)=>if k=k' then some (F5 (.one (.d ⟨.int k,if b<a then b else a⟩))) else none
 |_,_=>none
def bn7:PV U->PV U->Option (Eff U)
 | .one (.d ⟨.int k,a⟩),.one (.d ⟨.int k',b⟩)=>if k=k' then some (F5 (.one (.d ⟨.int k,if b >a then b else a⟩))) else none
 |_,_=>none
def aP1:PV U->PV U->PV U->Option (Eff U)
 | .one (.d ⟨.int .i64,a⟩),.one (.d ⟨.int .i64,b⟩),.one (.d ⟨.int .i64,c⟩)=>some (F5 (.one (.d ⟨.int .i64,max (max a b) c⟩)))
 |_,_,_=>none
def am2 (E:Env U) (h:Obs U) (dst:Option Tmp) (e:TypeId) (t:Ty) (s:PV U) (x:PV U):Option (Eff U):=
 match x with
 | .one x=>match asD h (.slice e t) x with
  |some (d,u)=>match d.as (.slice e t) with
   |some m=>match s with
    | .one (.row id ver)=>match look id h with
     |some (.row e' t' l ver' lv)=>if Nat.beq ver ver'&&lv&&(e==e') then (match Datum.as (U:=U) (.slice e t) ⟨.slice e' t',l⟩ with
      |some l=>if u.all (λy=>!(Nat.beq y.1 id)) then some ⟨some ((List.length l+List.length m)*N5 E.P e<=most),.one (.row id (ver+1)),u++[(id,.row e t (l++m) (ver+1) true)]⟩ else none
      |none=>none) else none
     |_=>none
    | .one (.lit (.slice none 0 0))=>some ⟨some (List.length m*N5 E.P e<=most),.one (.row (B3 dst 0) 0),u++[(B3 dst 0,.row e t m 0 true)]⟩
    | .one (.dc id (.inn v i j))=>match look id h with
     |some (.dp (.rows e2 t2 m2 l2 ver iv true none))=>match I9 t2 l2 i j with
      |some ⟨.slice e' t',l'⟩=>if Nat.beq v iv&&(e==e') then (match Datum.as (U:=U) (.slice e t) ⟨.slice e' t',l'⟩ with
       |some l=>if u.all (λy=>!(Nat.beq y.1 id))&&!(Nat.beq id (B3 dst 0)) then some ⟨some ((List.length l+List.length m)*N5 E.P e<=most),.one (.row (B3 dst 0) 0),u++[(id,.dp (.rows e2 t2 m2 l2 ver (iv+1) true (some (i,j)))),(B3 dst 0,.row e t (l++m) 0 true)]⟩ else none
       |none=>none) else none
      |_=>none
     |_=>none
    |_=>none
   |none=>none
  |none=>none
 |_=>none
def Z2 (E:Env U) (h:Obs U) (e:TypeId) (t:Ty) (s:PV U) (x:PV U):Option (Eff U):=
 match s,x with
 | .one (.dc id (.self v)),.one (.dc id2 (.self v2))=>match look id h,look id2 h with
  |some (.dp (.rows e1 t1 m1 l1 ver1 iv1 true none)),some (.dp (.rows e2 t2 m2 l2 ver2 iv2 true none))=>
   if Nat.beq v ver1&&Nat.beq v2 ver2&&!(Nat.beq id id2)&&(e==e1)&&(e==e2)&&(m1==m2) then (match Datum.as (U:=U) (.slice e t) ⟨.slice e1 t1,l1⟩,Datum.as (U:=U) (.slice e t) ⟨.slice e2 t2,l2⟩ with
    |some a,some b=>some ⟨some ((List.length a+List.length b)*N5 E.P e<=most),.one (.dc id (.self (ver1+1))),[(id2,.dp (.rows e t m1 [] (ver2+1) (iv2+1) true none)),(id,.dp (.rows e t m1 (a++b) (ver1+1) (iv1+1) true none))]⟩
    |_,_=>none) else none
  |_,_=>none
 |_,_=>none
def aP2 (E:Env U) (h:Obs U) (e:TypeId) (t:Ty) (s:PV U) (x:PV U):Option (Eff U):=
 match x with
 | .one x=>match asD h (.slice e t) x with
  |some (d,u)=>match d.as (.slice e t) with
   |some m=>match s with
    | .one (.row id ver)=>match look id h with
     |some (.row e' t' l ver' lv)=>if Nat.beq ver ver'&&lv&&(e==e') then (match Datum.as (U:=U) (.slice e t) ⟨.slice e' t',l⟩ with
      |some l=>if u.all (λy=>!(Nat.beq y.1 id)) then some ⟨none,.one (.d ⟨.int .i64,(Nat.min (List.length m) (List.length l):Nat)⟩),u++[(id,.row e t (List.take (List.length l) m++List.drop (List.length m) l) ver true)]⟩ else none
      |none=>none) else none
     |_=>none
    |_=>none
   |none=>none
  |none=>none
 |_=>none
def ax8 (E:Env U) (h:Obs U) (t:TypeId) (lo hi:Bool) (vs:List (PV U)):Option (Eff U):=
 match E.P.underlying t with
 |some (.slice e)=>match E.code e with
  |some c=>match vs with
   | .one x::bs=>match asD h (.slice e c) x with
    |some (d,u)=>match d.as (.slice e c) with
     |some l=>match lo,hi,bs with
      |false,false,[]=>some ⟨none,.one (.d ⟨.slice e c,l⟩),u⟩
      |true,false,[.one (.d ⟨.int _,a⟩)]=>some ⟨some (0<=a/\a<=List.length l),.one (.d ⟨.slice e c,List.drop a.toNat l⟩),u⟩
      |false,true,[.one (.d ⟨.int _,b⟩)]=>some ⟨some (0<=b/\b<=List.length l),.one (.d ⟨.slice e c,List.take b.toNat l⟩),u⟩
      |true,true,[.one (.d ⟨.int _,a⟩),.one (.d ⟨.int _,b⟩)]=>some ⟨some (0<=a/\a<=b/\b<=List.length l),.one (.d ⟨.slice e c,List.drop a.toNat (List.take b.toNat l)⟩),u⟩
      |_,_,_=>none
     |none=>none
    |none=>none
   |_=>none
  |none=>none
 |_=>none
def X8 (a b:List Nat):Bool:=a.any λk=>b.any (Nat.beq k)
def keys (u:Obs U):List Nat:=u.map (·.1)
def am3 (E:Env U) (h:Obs U) (t:TypeId) (vs:List (PV U)):Option (Eff U):=
 match E.P.underlying t with
 |some (.slice e)=>match E.code e with
  |some c=>match vs with
   |[.one x,.one (.d ⟨.int _,a⟩),.one (.d ⟨.int _,b⟩)]=>match x with
    | .row id ver=>match look id h with
     |some (.row e' t' l ver' true)=>if Nat.beq ver ver'&&(e==e') then some ⟨some (a=l.length/\b=l.length),.one (.row id (ver+1)),[(id,.row e' t' l (ver+1) true)]⟩ else none
     |_=>none
    |x=>match asD h (.slice e c) x with
     |some (d,u)=>match d.as (.slice e c) with
      |some l=>some ⟨some (0<=a/\a<=b/\b<=List.length l),.one (.d ⟨.slice e c,List.take a.toNat l⟩),u⟩
      |none=>none
     |none=>none
   |_=>none
  |none=>none
 |_=>none
def az7:Operand->Operand->Bool
 | .tmp a,.tmp b=>Nat.beq a b
 | .const (.int _ a),.const (.int _ b)=>a==b
 |_,_=>false
def aP3 (E:Env U) (dst:Option Tmp) (t:TypeId):PV U->Option (Eff U)
 | .one (.d ⟨.int _,a⟩)=>match E.P.underlying t with
  |some (.slice e)=>match E.code e with
   |some c=>some ⟨some (0<=a/\a*(N5 E.P e:Int)<=most),.one (.row (B3 dst 0) 0),[(B3 dst 0,.row e c (List.replicate a.toNat (dfl U c)) 0 true)]⟩
   |none=>none
  |_=>none
 |_=>none
def G7:Ty->Bool
 | .user _=>true
 |_=>false
def dpOf (E:Env U) (t:TypeId):Option (TypeId×List Nat):=
 match E.P.underlying t with
 |some (.slice e)=>(look e E.dp).map λm=>(e,m)
 |_=>none
def bt0:Cell U->Bool
 | .lit (.slice none 0 0)=>true
 |_=>false
def am4 (E:Env U) (dst:Option Tmp) (e:TypeId) (m:List Nat):PV U->Option (Eff U)
 | .one (.d ⟨.int _,a⟩)=>match E.code e with
  |some c=>match (Q3 E.P e:Option (List (Cell U))) with
   |some zs=>if m.all (λj=>match zs[j]? with
     |some z=>bt0 z
     |none=>false) then some ⟨some (0<=a/\a*(N5 E.P e:Int)<=most),.one (.dc (B3 dst 0) (.self 0)),[(B3 dst 0,.dp (.rows e c m (List.replicate a.toNat (dfl U c)) 0 0 true none))]⟩ else none
   |none=>none
  |none=>none
 |_=>none
def N6 (h:Obs U) (m:List Nat):Nat->List Ty->List (Cell U)->Option (List (Datum U)×Obs U×Obs U)
 |_,[],[]=>some ([],[],[])
 |j,t::ts,c::cs=>match N6 h m (j+1) ts cs with
  |some (ds,u,v)=>if m.any (Nat.beq j) then (match c with
    | .row r vr=>match look r h with
     |some (.row e' t' l' vr' true)=>if Nat.beq vr vr'&&t==.slice e' t' then some (⟨.slice e' t',l'⟩::ds,u,(r,Ob.row e' t' [] (vr'+1) true)::v) else none
     |_=>none
    | .lit (.slice none 0 0)=>match t with
     | .slice e' t'=>some (⟨.slice e' t',[]⟩::ds,u,v)
     |_=>none
    |_=>none) else (match asD h t c with
    |some (d,u')=>some (d::ds,u'++u,v)
    |none=>none)
  |none=>none
 |_,_,_=>none
def ac6:List (Cell U)->List Nat
 |[]=>[]
 | .row r _::cs=>r::ac6 cs
 |_::cs=>ac6 cs
def aP4:List Nat->Bool
 |[]=>true
 |x::r=>!(r.any (Nat.beq x))&&aP4 r
def af8 (E:Env U) (h:Obs U) (dst:Option Tmp) (e:TypeId) (m:List Nat) (len:Nat) (ps:List (Nat×PV U)):Option (Eff U):=
 match E.code e,len,ps with
 |some c,1,[(0,.agg cs)]=>match N6 h m 0 (tysE U c) cs with
  |some (ds,u,v)=>match mkE U c ds with
   |some x=>if (G7 c&&Nat.ble (szOf U c) 1000000)&&aP4 (ac6 cs)&&aP4 (keys v)&&!(X8 (keys u) (keys v))&&!(X8 [B3 dst 0] (keys u++keys v)) then some ⟨none,.one (.dc (B3 dst 0) (.self 0)),u++(v++[(B3 dst 0,.dp (.rows e c m [x] 0 0 true none))])⟩ else none
   |none=>none
  |none=>none
 |_,_,_=>none
def M6:List (Datum U)->List (Datum U)->Bool
 |[],[]=>true
 |⟨.int _,x⟩::ds,⟨.int _,y⟩::es=>(x==y)&&M6 ds es
 |⟨.bool,x⟩::ds,⟨.bool,y⟩::es=>(x==y)&&M6 ds es
 |_,_=>false
def E6 (U:Univ):(t:Ty)->den U.T t->den U.T t->Bool
 | .int _,x,y=>x==y
 | .bool,x,y=>x==y
 | .user i,x,y=>M6 (A7 U (U.fields i) (U.get i x)) (A7 U (U.fields i) (U.get i y))
 |_,_,_=>false
def L3 (U:Univ) (P:Program) (K:TypeId) (kt:Ty):Bool:=
 match P.underlying K with
 |some (.int q)=>match kt with
  | .int q'=>decide (q=q')
  |_=>false
 |some (.struct _)=>match kt with
  | .user i=>match ac5 P K with
   |some ts=>(ts==U.fields i)&&!(P.stoodInHeld K)
   |none=>false
  |_=>false
 |_=>false
def X9:Ty->List (Cell U)->Option (PV U)
 | .user _,cs=>some (.agg cs)
 |_,[c]=>some (.one c)
 |_,_=>none
def Q4 (P:Program) (V:TypeId) (vt:Ty):Bool:=
 match P.info? V with
 |some i=>match i.zero with
  |some (.agg _)=>G7 vt
  |some _=>!(G7 vt)
  |none=>false
 |none=>false
def mget {α β:Type} (eq:α->α->Bool):List (α×β)->α->Option β
 |[],_=>none
 |(k,v)::r,x=>bif eq k x then some v else mget eq r x
def mput {α β:Type} (eq:α->α->Bool):List (α×β)->α->β->List (α×β)
 |[],x,y=>[(x,y)]
 |(k,v)::r,x,y=>bif eq k x then (x,y)::r else (k,v)::mput eq r x y
def af9 (E:Env U) (dst:Option Tmp) (t:TypeId):Option (Eff U):=
 match E.P.underlying t with
 |some (.map K V)=>match E.code K with
  |some kt=>match E.code V with
   |some vt=>bif L3 U E.P K kt then some ⟨none,.one (.map (B3 dst 0)),[(B3 dst 0,.map kt vt [])]⟩ else none
   |none=>none
  |none=>none
 |_=>none
def bt1 (kt:Ty):PV U->Option (den U.T kt)
 | .one (.d x)=>if G7 kt then none else x.as kt
 | .agg cs=>if G7 kt then (match allD cs with
  |some ds=>mkE U kt ds
  |none=>none) else none
 |_=>none
def am5 (E:Env U) (h:Obs U) (t:TypeId) (ok:Bool):PV U->PV U->Option (Eff U)
 | .one (.map id),x=>match look id h with
  |some (.map kt vt l)=>match E.P.underlying t with
   |some (.map K V)=>bif L3 U E.P K kt&&(E.code V==some vt&&Q4 E.P V vt) then (match bt1 kt x with
    |some k=>match X9 vt ((B1 U vt ((mget (E6 U kt) l k).getD (dfl U vt))).map .d) with
     |some v=>match ok with
      |false=>some (F5 v)
      |true=>match v with
       | .one c=>some (F5 (.tup [(false,[c]),(false,[.d ⟨.bool,(mget (E6 U kt) l k).isSome⟩])]))
       | .agg cs=>some (F5 (.tup [(true,cs),(false,[.d ⟨.bool,(mget (E6 U kt) l k).isSome⟩])]))
       |_=>none
     |none=>none
    |none=>none) else none
   |_=>none
  |_=>none
 |_,_=>none
def Z3 (E:Env U) (h:Obs U) (t:TypeId) (id v:Nat) (x:PV U):Option (Eff U):=
 match look id h with
 |some (.dp (.maps kt e t' _ ver iv true none))=>match E.P.underlying t with
  |some (.map K V)=>bif Nat.beq v ver&&L3 U E.P K kt&&((E.code V==some (.slice e t')&&Q4 E.P V (.slice e t'))&&(match (Q3 E.P V:Option (List (Cell U))) with
    |some [z]=>bt0 z
    |_=>false)) then (match bt1 kt x with
   |some k=>some (F5 (.one (.dc id (.key iv ⟨kt,k⟩))))
   |none=>none) else none
  |_=>none
 |_=>none
def Z4 (E:Env U) (h:Obs U) (dst:Option Tmp) (e:TypeId) (t:Ty) (id v:Nat) (d:Datum U) (x:PV U):Option (Eff U):=
 match x with
 | .one x=>match asD h (.slice e t) x with
  |some (dm,u)=>match dm.as (.slice e t) with
   |some m=>match look id h with
    |some (.dp (.maps kt e' t' l ver iv true none))=>match d.as kt with
     |some k=>bif Nat.beq v iv&&(e==e') then (match Datum.as (U:=U) (.slice e t) ⟨.slice e' t',(mget (E6 U kt) l k).getD []⟩ with
      |some l0=>if u.all (λy=>!(Nat.beq y.1 id))&&!(Nat.beq id (B3 dst 0)) then some ⟨some ((List.length l0+List.length m)*N5 E.P e<=most),.one (.row (B3 dst 0) 0),u++[(id,.dp (.maps kt e' t' l ver (iv+1) true (some k))),(B3 dst 0,.row e t (l0++m) 0 true)]⟩ else none
      |none=>none) else none
     |none=>none
    |_=>none
   |none=>none
  |none=>none
 |_=>none
def ax9 (E:Env U) (h:Obs U) (t:TypeId) (id v:Nat) (x y:PV U):Option (Eff U):=
 match look id h,y with
 |some (.dp (.maps kt e t' l ver iv true (some k'))),.one (.row r vr)=>match look r h with
  |some (.row e2 t2 l2 vr' true)=>match E.P.underlying t with
   |some (.map K V)=>bif Nat.beq v ver&&L3 U E.P K kt&&(Nat.beq vr vr'&&!(Nat.beq r id)) then (match bt1 kt x,Datum.as (U:=U) (.slice e t') ⟨.slice e2 t2,l2⟩ with
    |some k,some l2'=>some ⟨some (k'=k),.un,[(r,.row e2 t2 [] (vr'+1) true),(id,.dp (.maps kt e t' (mput (E6 U kt) l k l2') ver (iv+1) true none))]⟩
    |_,_=>none) else none
   |_=>none
  |_=>none
 |_,_=>none
def bn8 (vt:Ty):PV U->Bool
 | .one _=>!(G7 vt)
 | .agg _=>G7 vt
 |_=>false
def am6 (E:Env U) (h:Obs U) (t:TypeId):PV U->PV U->PV U->Option (Eff U)
 | .one (.map id),x,y=>match look id h with
  |some (.map kt vt l)=>match E.P.underlying t with
   |some (.map K V)=>bif L3 U E.P K kt&&(E.code V==some vt&&Q4 E.P V vt) then (match bt1 kt x with
    |some k=>match asE h vt y with
     |some (z,u)=>if u.all (λy=>!(Nat.beq y.1 id))&&bn8 vt y then some ⟨none,.un,u++[(id,.map kt vt (mput (E6 U kt) l k z))]⟩ else none
     |none=>none
    |none=>none) else none
   |_=>none
  |_=>none
 |_,_,_=>none
def ay0 (E:Env U) (h:Obs U) (dst:Option Tmp) (t:TypeId):PV U->Option (Eff U)
 | .one (.map id)=>match look id h with
  |some (.map kt vt l)=>match E.P.underlying t with
   |some (.map _ _)=>if Nat.beq id (B3 dst 0) then none else some ⟨none,.one (.dc (B3 dst 0) (.it id)),[(B3 dst 0,.dp (.iter (some id) kt vt l.length [] 0))]⟩
   |_=>none
  |_=>none
 |_=>none
def ay1 (h:Obs U):PV U->Option (Eff U)
 | .one (.dc id (.it mid))=>match look id h,look mid h with
  |some (.dp (.iter (some mid') kt vt n seen cur)),some (.map kt' vt' l)=>if Nat.beq mid mid'&&kt==kt'&&vt==vt' then (match X9 kt' ((B1 U kt' ((l.map (·.1)).getD cur (dfl U kt'))).map .d),X9 vt' ((B1 U vt' ((l.map (·.2)).getD cur (dfl U vt'))).map .d) with
   |some k,some v=>match S2 k,S2 v with
    |some kc,some vc=>some ⟨some (l.length=n/\seen.getLast? =some cur/\cur<n),.tup [(G7 kt',kc),(G7 vt',vc)],[]⟩
    |_,_=>none
   |_,_=>none) else none
  |_,_=>none
 |_=>none
def aV9:List (PV U)->Option (List Nat)
 |[]=>some []
 | .one (.ptr id off)::r=>bif Nat.beq off 0 then (aV9 r).map (id::·) else none
 |_::_=>none
def aP5 (f:Fn) (vs:List (PV U)):Option (Eff U):=
 match f with
 | .func f=>match aV9 vs with
  |some ids=>match ids with
   |[]=>some (F5 (.one (.lit (.func (.func f) #[] #[]))))
   |ids=>some (F5 (.one (.clo f ids)))
  |none=>none
 |_=>none
def ay2 (E:Env U) (t:TypeId) (v:PV U):Option (Eff U):=
 match E.P.underlying t with
 |some (.interface _)=>none
 |some _=>match v with
  | .one c=>(allD [c]).map λds=>F5 (.one (.ifc t false ds))
  | .agg cs=>(allD cs).map λds=>F5 (.one (.ifc t true ds))
  |_=>none
 |none=>none
structure Mt (U:Univ) where
 ι:List (Nat×Nat)
 ds:List (Nat×Datum U)
 u:Obs U
def aP6 (j id:Nat) (m:Mt U):Option (Mt U):=
 match look j m.ι with
 |some id'=>bif Nat.beq id' id then some m else none
 |none=>bif m.ι.any (λx=>Nat.beq x.2 id) then none else some ⟨m.ι++[(j,id)],m.ds,m.u⟩
def az8:List Nat->List Nat->Mt U->Option (Mt U)
 |[],[],m=>some m
 |j::js,id::ids,m=>match aP6 j id m with
  |some m=>az8 js ids m
  |none=>none
 |_,_,_=>none
def aW0 (k:Nat) (x:Datum U) (m:Mt U):Option (Mt U):=
 match look k m.ds with
 |some _=>none
 |none=>some ⟨m.ι,m.ds++[(k,x)],m.u⟩
def mC (h:Obs U) (tys:List Ty) (p:CPat) (c:Cell U) (m:Mt U):Option (Mt U):=
 match p with
 | .un=>some m
 | .d k=>match tys[k]? with
  |some t=>match asD h t c with
   |some (x,u)=>aW0 k x ⟨m.ι,m.ds,m.u++u⟩
   |none=>none
  |none=>none
 | .row j=>match c with
  | .row id ver=>match look id h with
   |some (.row _ _ _ ver' lv)=>bif Nat.beq ver ver'&&lv then aP6 j id m else none
   |_=>none
  |_=>none
 | .ptr j off=>match c with
  | .ptr id off'=>bif Nat.beq off off' then aP6 j id m else none
  |_=>none
 | .map j=>match c with
  | .map id=>aP6 j id m
  |_=>none
 | .clo f js=>match c with
  | .clo f' ids=>bif Nat.beq f f' then az8 js ids m else none
  |_=>none
 | .yld j=>match c with
  | .yld id=>aP6 j id m
  |_=>none
 | .fn f=>match c with
  | .lit (.func (.func f') a b)=>bif Nat.beq f f'&&(Nat.beq a.size 0&&Nat.beq b.size 0) then some m else none
  |_=>none
 | .nil=>match c with
  | .lit (.slice none n c')=>bif Nat.beq n 0&&Nat.beq c' 0 then some m else none
  |_=>none
 | .dp j=>match c with
  | .dc id (.self v)=>match look id h with
   |some (.dp (.rows _ _ _ _ ver _ true none))=>bif Nat.beq v ver then aP6 j id m else none
   |_=>none
  |_=>none
 | .ms j=>match c with
  | .dc id (.self v)=>match look id h with
   |some (.dp (.maps _ _ _ _ ver _ true none))=>bif Nat.beq v ver then aP6 j id m else none
   |_=>none
  |_=>none
def mCs (h:Obs U) (tys:List Ty):List CPat->List (Cell U)->Mt U->Option (Mt U)
 |[],[],m=>some m
 |p::ps,c::cs,m=>match mC h tys p c m with
  |some m=>mCs h tys ps cs m
  |none=>none
 |_,_,_=>none
def mO (h:Obs U) (tys:List Ty) (p:OPat) (o:Ob U) (m:Mt U):Option (Mt U):=
 match p with
 | .box e cs=>match o with
  | .box e' cells=>bif Nat.beq e e' then mCs h tys cs cells m else none
  |_=>none
 | .row k=>match o with
  | .row e t l _ lv=>bif lv&&tys[k]? ==some (.slice e t) then aW0 k ⟨.slice e t,l⟩ m else none
  |_=>none
 | .map k=>match o with
  | .map kt vt l=>bif tys[k]? ==some (.map kt vt) then aW0 k ⟨.map kt vt,l⟩ m else none
  |_=>none
 | .loop k=>match o with
  | .loop st=>bif tys[k]? ==some (.int .i64) then aW0 k ⟨.int .i64,st⟩ m else none
  |_=>none
 | .dp k ms=>match o with
  | .dp (.rows e t ms' l _ _ true none)=>bif tys[k]? ==some (.slice e t)&&(ms==ms') then aW0 k ⟨.slice e t,l⟩ m else none
  |_=>none
 | .ms k=>match o with
  | .dp (.maps kt e t l _ _ true none)=>bif tys[k]? ==some (.map kt (.slice e t)) then aW0 k ⟨.map kt (.slice e t),l⟩ m else none
  |_=>none
def mOs (h:Obs U) (tys:List Ty):Nat->List OPat->Mt U->Option (Mt U)
 |_,[],m=>some m
 |j,p::r,m=>match look j m.ι with
  |some id=>match look id h with
   |some o=>match mO h tys p o m with
    |some m=>mOs h tys (j+1) r m
    |none=>none
   |none=>none
  |none=>none
def aJ8 {α:Type} (l:List (Nat×α)):Nat->Nat->Option (List α)
 |_,0=>some []
 |k,c+1=>match look k l with
  |some x=>(aJ8 l (k+1) c).map (x::·)
  |none=>none
def iC (ds:List (Datum U)) (ι vr:Nat->Nat):CPat->Cell U
 | .un=>.un
 | .d k=>match ds[k]? with
  |some x=>.d x
  |none=>.un
 | .row j=>.row (ι j) (vr j)
 | .ptr j off=>.ptr (ι j) off
 | .map j=>.map (ι j)
 | .clo f js=>.clo f (js.map ι)
 | .yld j=>.yld (ι j)
 | .fn f=>.lit (.func (.func f) #[] #[])
 | .nil=>.lit (.slice none 0 0)
 | .dp j=>.dc (ι j) (.self (vr j))
 | .ms j=>.dc (ι j) (.self (vr j))
def iO (ds:List (Datum U)) (ι vr:Nat->Nat) (j:Nat):OPat->Ob U
 | .box e cs=>.box e (cs.map (iC ds ι vr))
 | .row k=>match ds[k]? with
  |some ⟨.slice e t,l⟩=>.row e t l (vr j) true
  |_=>.box 0 []
 | .map k=>match ds[k]? with
  |some ⟨.map kt vt,l⟩=>.map kt vt l
  |_=>.box 0 []
 | .loop k=>match ds[k]? with
  |some ⟨.int _,st⟩=>.loop st
  |_=>.box 0 []
 | .dp k ms=>match ds[k]? with
  |some ⟨.slice e t,l⟩=>.dp (.rows e t ms l (vr j) (vr j) true none)
  |_=>.box 0 []
 | .ms k=>match ds[k]? with
  |some ⟨.map kt (.slice e t),l⟩=>.dp (.maps kt e t l (vr j) (vr j) true none)
  |_=>.box 0 []
def iOs (ds:List (Datum U)) (ι vr:Nat->Nat):Nat->List OPat->Obs U
 |_,[]=>[]
 |j,p::r=>(ι j,iO ds ι vr j p)::iOs ds ι vr (j+1) r
def oid (j:Nat):Nat:=1000000+j
def bQ1 (h:Obs U) (id:Nat):Nat:=match look id h with
 |some (.row _ _ _ v _)=>v+1
 |some (.dp (.rows _ _ _ _ v iv _ _))=>Nat.max v iv+1
 |some (.dp (.maps _ _ _ _ v iv _ _))=>Nat.max v iv+1
 |_=>0
def G3 (a b:List Ty):OPat->OPat->Bool
 | .box e _,.box e' _=>Nat.beq e e'
 | .row k,.row k'=>a[k]? ==b[k']?
 | .map k,.map k'=>a[k]? ==b[k']?
 | .loop _,.loop _=>true
 | .dp k ms,.dp k' ms'=>a[k]? ==b[k']? &&(ms==ms')
 | .ms k,.ms k'=>a[k]? ==b[k']?
 |_,_=>false
def at6 (a b:List Ty):List OPat->List OPat->Bool
 |[],_=>true
 |p::ps,q::qs=>G3 a b p q&&at6 a b ps qs
 |_::_,[]=>false
def bt2:List (Nat×Nat)->Bool
 |[]=>true
 |x::r=>r.all (λy=>!(Nat.beq x.1 y.1)&&!(Nat.beq x.2 y.2))&&bt2 r
def bC2 (h:Obs U) (params tys:List Ty) (ain:List CPat) (oin oout:List OPat) (gh:List (Nat×Nat)) (cs:List (Cell U)):Option (Dens U.T params×Mt U):=
 match bif bt2 gh then mCs h params ain cs ⟨gh,[],[]⟩ else none with
 |some m=>match mOs h params 0 oin m with
  |some m=>bif (m.ι.all λx=>Nat.blt x.1 oin.length)&&at6 params tys oin oout&&!(X8 (m.ι.map (·.2)) (keys m.u)) then (match aJ8 m.ds 0 params.length with
   |some ds=>match at5 U params ds with
    |some xs=>some (xs,m)
    |none=>none
   |none=>none) else none
  |none=>none
 |none=>none
def am7 (h:Obs U) (k:Con U) (cs:List (Cell U)):Option (Dens U.T k.params×Mt U):=bC2 h k.params k.tys k.ain k.oin k.oout k.gh cs
def ac7 (m:Mt U) (dst:Option Tmp) (n j:Nat):Nat:=match look j m.ι with
 |some id=>id
 |none=>B3 dst (j-n)
def aI9 (h:Obs U) (m:Mt U) (j:Nat):Nat:=match look j m.ι with
 |some id=>bQ1 h id
 |none=>0
def ca0 (gs:List (Bool×Nat)) (rs:List (Cell U)):Option (PV U):=match D0 gs rs with
 |[(b,g)]=>az5 b g
 |gs=>some (.tup gs)
structure CallE (U:Univ) where
 e:Eff U
 news:List Nat
 pan:Option (Bool×PanV U)
 lost:List Nat
def eqD (x y:Datum U) (q:Prop):Prop:=
 match x.as y.1 with
 |some v=>v=y.2/\q
 |none=>False
def eqDC:DC U->DC U->Prop->Prop
 | .self v,.self v',q=>bif Nat.beq v v' then q else False
 | .elt v i o,.elt v' i' o',q=>bif Nat.beq v v'&&Nat.beq o o' then i=i'/\q else False
 | .inn v i j,.inn v' i' j',q=>bif Nat.beq v v'&&Nat.beq j j' then i=i'/\q else False
 | .iat v i j k o,.iat v' i' j' k' o',q=>bif Nat.beq v v'&&Nat.beq j j'&&Nat.beq o o' then i=i'/\k=k'/\q else False
 | .it a,.it a',q=>bif Nat.beq a a' then q else False
 |_,_,_=>False
def bC3:Deep U->Deep U->Prop->Prop
 | .rows e t m l ver iv lv none,.rows e' t' m' l' ver' iv' lv' none,q=>bif (m==m')&&Nat.beq ver ver'&&Nat.beq iv iv'&&(lv==lv') then eqD ⟨.slice e t,l⟩ ⟨.slice e' t',l'⟩ q else False
 | .maps kt e t l ver iv lv none,.maps kt' e' t' l' ver' iv' lv' none,q=>bif Nat.beq ver ver'&&Nat.beq iv iv'&&(lv==lv') then eqD ⟨.map kt (.slice e t),l⟩ ⟨.map kt' (.slice e' t'),l'⟩ q else False
 | .iter (some a) k v n s c,.iter (some a') k' v' n' s' c',q=>bif Nat.beq a a'&&(k==k')&&(v==v') then n=n'/\s=s'/\c=c'/\q else False
 |_,_,_=>False
def eqC:Cell U->Cell U->Prop->Prop
 | .un,.un,q=>q
 | .d x,.d y,q=>eqD x y q
 | .row a b,.row a' b',q=>bif Nat.beq a a'&&Nat.beq b b' then q else False
 | .ptr a b,.ptr a' b',q=>bif Nat.beq a a'&&Nat.beq b b' then q else False
 | .rd cs o,.rd cs' o',q=>cs=cs'/\o=o'/\q
 | .gl a,.gl a',q=>bif Nat.beq a a' then q else False
 | .lit (.slice none 0 0),.lit (.slice none 0 0),q=>q
 | .lit a,.lit a',q=>a=a'/\q
 | .map a,.map a',q=>bif Nat.beq a a' then q else False
 | .yld a,.yld a',q=>bif Nat.beq a a' then q else False
 | .clo f a,.clo f' a',q=>bif Nat.beq f f'&&(a==a') then q else False
 | .bnd f a,.bnd f' a',q=>bif Nat.beq f f'&&Nat.beq a a' then q else False
 | .dc id c,.dc id' c',q=>bif Nat.beq id id' then eqDC c c' q else False
 |_,_,_=>False
def eqCs:List (Cell U)->List (Cell U)->Prop->Prop
 |[],[],q=>q
 |x::r,y::r',q=>eqC x y (eqCs r r' q)
 |_,_,_=>False
def eqO:Ob U->Ob U->Prop->Prop
 | .box e x,.box e' y,q=>bif Nat.beq e e' then eqCs x y q else False
 | .row e t l ver lv,.row e' t' l' ver' lv',q=>bif Nat.beq ver ver'&&(lv==lv') then eqD ⟨.slice e t,l⟩ ⟨.slice e' t',l'⟩ q else False
 | .map k v l,.map k' v' l',q=>eqD ⟨.map k v,l⟩ ⟨.map k' v',l'⟩ q
 | .loop st,.loop st',q=>st=st'/\q
 | .dp D,.dp D',q=>bC3 D D' q
 |_,_,_=>False
def andO:Option Prop->Prop->Option Prop
 |none,q=>some q
 |some p,q=>some (p/\q)
def trim (h:Obs U) (ids:List Nat):Obs U->List Nat->Option Prop×Obs U->Option Prop×Obs U
 |[],_,r=>r
 |(id,o)::u,seen,r=>match bif ids.any (Nat.beq id)&&!(seen.any (Nat.beq id)) then look id h else none with
  |some o'=>trim h ids u seen (andO r.1 (eqO o' o True),r.2)
  |none=>trim h ids u (id::seen) (r.1,r.2++[(id,o)])
def ylOk (h:Obs U) (yl:List (Nat×Nat)) (m:Mt U) (kl:List (Nat×Nat)):Bool:=
 kl.all λx=>match look x.1 yl with
  |some i=>(match look x.2 m.ι with
   |some id=>Nat.beq id (oid i)
   |none=>false)&&(match look (oid i) h with
   |some o=>!o.isRow
   |none=>false)
  |none=>false
def Z5 (h:Obs U) (yl:List (Nat×Nat)) (dst:Option Tmp) (k:Con U) (vs:List (PV U)):Option (CallE U):=
 match F3 k.args vs with
 |some cs=>match am7 h k cs with
  |some (xs,m)=>match bif ylOk h yl m k.yl then ca0 k.res (k.rout.map (iC (A7 U k.tys (k.fn xs)) (ac7 m dst k.oin.length) (aI9 h m))) else none with
   |some v=>some ⟨⟨k.pre.map (λp=>p xs),v,m.u++iOs (A7 U k.tys (k.fn xs)) (ac7 m dst k.oin.length) (aI9 h m) 0 k.oout⟩,(List.range (k.oout.length-k.oin.length)).map (B3 dst),k.bad.map (λb=>b xs),k.kept.map (ac7 m dst k.oin.length)⟩
   |none=>none
  |none=>none
 |none=>none
def scal:Ty->Bool
 | .int _=>true
 | .bool=>true
 |_=>false
def ca1 (k:Con U):Bool:=k.oin.isEmpty&&k.oout.isEmpty&&k.bad.isNone&&k.tys.all scal&&k.rout.all λc=>match c with
 | .d _=>true
 |_=>false
def ac8 (h:Obs U) (yl:List (Nat×Nat)) (dst:Option Tmp) (k:Con U) (vs:List (PV U)):Option (CallE U):=
 match Z5 h yl dst k vs with
 |some c=>match c.lost with
  |[]=>bif ca1 k then some ⟨⟨c.e.obl,c.e.val,[]⟩,c.news,none,[]⟩ else some c
  |ids=>match trim h ids c.e.upd [] (c.e.obl,[]) with
   |r=>some ⟨⟨r.1,c.e.val,r.2⟩,c.news,c.pan,ids⟩
 |none=>none
def ac9 (h:Obs U) (yl:List (Nat×Nat)) (dst:Option Tmp) (vs:List (PV U)):List (Con U)->Option (CallE U)
 |[]=>none
 |k::r=>match ac8 h yl dst k vs with
  |some e=>some e
  |none=>ac9 h yl dst vs r
def am8:PV U->Option (FuncId×List Nat)
 | .one (.lit (.func (.func f) a b))=>bif Nat.beq a.size 0&&Nat.beq b.size 0 then some (f,[]) else none
 | .one (.clo f ids)=>some (f,ids)
 |_=>none
def act (E:Env U) (h:Obs U) (o:Oper) (vs:List (PV U)):Option (Eff U):=
 match o.op with
 | .move _=>match vs with
  |[v]=>some (F5 v)
  |_=>none
 | .assign _=>match vs with
  |[v]=>some (F5 v)
  |_=>none
 | .alloc t=>match (Q3 E.P t:Option (List (Cell U))) with
  |some cs=>some ⟨none,.one (.ptr (B3 o.dst 0) 0),[(B3 o.dst 0,.box t cs)]⟩
  |none=>none
 | .box t _=>match vs with
  |[v]=>match S2 v with
   |some cs=>some ⟨none,.one (.ptr (B3 o.dst 0) 0),[(B3 o.dst 0,.box t cs)]⟩
   |none=>none
  |_=>none
 | .build t parts=>ax5 E t ((parts.toList.map (·.1)).zip vs)
 | .buildSlice t len parts=>match o.guard with
  |none=>match dpOf E t with
   |some (e,m)=>af8 E h o.dst e m len ((parts.toList.map (·.1)).zip vs)
   |none=>S5 E h o.dst t len ((parts.toList.map (·.1)).zip vs)
  |some _=>V2 E h t len ((parts.toList.map (·.1)).zip vs)
 | .load t _=>match vs with
  |[v]=>aO8 E h t v
  |_=>none
 | .store t _ _=>match vs with
  |[a,v]=>ax6 E h t a v
  |_=>none
 | .nilCheck _=>match vs with
  |[.one (.ptr id off)]=>some (F5 (.one (.ptr id off)))
  |[.one (.rd cs off)]=>some (F5 (.one (.rd cs off)))
  |[.one (.elt id ver i off)]=>match look id h with
   |some (.row _ _ _ ver' _)=>if Nat.beq ver ver' then some (F5 (.one (.elt id ver i off))) else none
   |_=>none
  |[.one (.dc id c)]=>match look id h with
   |some (.dp D)=>(D.at_ c 0).map λc=>F5 (.one (.dc id c))
   |_=>none
  |_=>none
 | .binOp op t _ _ _=>match vs with
  |[x,y]=>bn4 E op t x y
  |_=>none
 | .unOp op _ _=>match vs with
  |[x]=>bQ0 op x
  |_=>none
 | .convert t0 t _=>match vs with
  |[x]=>match E.P.underlying t0 with
   |some _=>aO9 E t x
   |none=>none
  |_=>none
 | .slice t _ lo hi mx=>match mx with
  |none=>ax8 E h t lo.isSome hi.isSome vs
  |some _=>bif lo.isNone&&hi.isSome then am3 E h t vs else none
 | .makeSlice t x y=>match vs with
  |[v,_]=>bif az7 x y then (match dpOf E t with
   |some (e,m)=>am4 E o.dst e m v
   |none=>aP3 E o.dst t v) else none
  |_=>none
 | .fieldAddr s _ f=>match vs with
  |[x]=>V3 E h s f x
  |_=>none
 | .field s _ f=>match vs with
  |[x]=>ax7 E s f x
  |_=>none
 | .indexAddr ty _ _=>match vs with
  |[x,i]=>V4 E h ty x i
  |_=>none
 | .extract _ i=>match vs with
  |[x]=>af7 i x
  |_=>none
 | .makeMap t none=>af9 E o.dst t
 | .lookup t _ _ ok=>match vs with
  |[m,k]=>match m with
   | .one (.dc id (.self v))=>if ok then none else Z3 E h t id v k
   |m=>am5 E h t ok m k
  |_=>none
 | .mapUpdate t _ _ _=>match vs with
  |[m,k,v]=>match m with
   | .one (.dc id (.self v0))=>ax9 E h t id v0 k v
   |m=>am6 E h t m k v
  |_=>none
 | .range t _=>match vs with
  |[v]=>ay0 E h o.dst t v
  |_=>none
 | .entry _=>match vs with
  |[v]=>ay1 h v
  |_=>none
 | .makeFunc f first caps=>bif Nat.beq first.size 0 then aP5 f vs else (match f,caps.size,vs with
  | .func f,0,[.one (.ptr id 0)]=>some (F5 (.one (.bnd f id)))
  |_,_,_=>none)
 | .makeInterface t _=>match vs with
  |[v]=>ay2 E t v
  |_=>none
 | .call c=>match c.callee with
  | .builtin .len=>match vs with
   |[x]=>match c.argTypes.toList with
    |t::_=>match E.P.underlying t with
     |some (.slice _)=>bn5 h x
     |some (.map _ _)=>aP0 h x
     |_=>none
    |[]=>none
   |_=>none
  | .builtin .min=>match vs with
   |[x,y]=>bn6 x y
   |_=>none
  | .builtin .max=>match vs with
   |[x,y]=>bn7 x y
   |[x,y,z]=>aP1 x y z
   |_=>none
  | .builtin .copy=>match vs with
   |[s,x]=>match c.argTypes.toList with
    |[st,_]=>match E.P.underlying st with
     |some (.slice e)=>match E.code e with
      |some t=>aP2 E h e t s x
      |none=>none
     |_=>none
    |_=>none
   |_=>none
  | .builtin .append=>match vs with
   |[s,x]=>match c.argTypes.toList with
    |[st,st2]=>bif Nat.beq st st2 then (match E.P.underlying st with
     |some (.slice e)=>match E.code e with
      |some t=>match s with
       | .one (.dc id (.self v))=>Z2 E h e t (.one (.dc id (.self v))) x
       | .one (.dc id (.key v d))=>Z4 E h o.dst e t id v d x
       |s=>am2 E h o.dst e t s x
      |none=>none
     |_=>none) else none
    |_=>none
   |_=>none
  |_=>none
 |_=>none
end
end Go.VT
end
section
namespace Go.VT
noncomputable section
def V5 (o:Oper):Bool:=match o.op with
 | .call c=>match c.callee with
  | .builtin .append=>true
  |_=>false
 |_=>false
def bn9 (o:Oper):Option (Nat×Option TypeId):=match o.op with
 | .move (.tmp s)=>some (s,none)
 | .call c=>match c.callee with
  | .builtin .len=>match c.args.toList,c.argTypes.toList with
   |[.tmp s],[t]=>some (s,some t)
   |_,_=>none
  |_=>none
 |_=>none
def am9 (o:Oper):List Nat:=match o.op with
 | .call c=>c.args.toList.flatMap λx=>match x with
  | .tmp t=>[t]
  |_=>[]
 |_=>[]
def aP7 (P:Program) (t:TypeId):Bool:=match P.underlying t with
 |some (.slice _)=>true
 |_=>false
def bt3 (P:Program) (x y:Oper):Bool:=V5 x&&(match x.guard,y.guard with
 |none,none=>true
 |_,_=>false)&&(match x.dst,y.dst,bn9 y with
 |some dx,some dy,some (s,t)=>!(Nat.beq dx dy)&&!(Nat.beq s dx)&&(am9 x).all (λr=>!(Nat.beq r dy))&&(match t with
  |some t=>aP7 P t
  |none=>true)
 |_,_,_=>false)
def sink (P:Program) (x:Oper):List Oper->List Oper
 |[]=>[x]
 |y::r=>bif bt3 P x y then y::sink P x r else x::y::r
def ai1 (P:Program):List Oper->List Oper
 |[]=>[]
 |x::r=>bif V5 x then sink P x (ai1 P r) else x::ai1 P r
def I0 (ops:List Oper):Bool:=ops.all λo=>o.guard.isNone
def bC4:List Oper->Bool
 |y::r=>match bn9 y with
  |some (_,some _)=>true
  |some (_,none)=>bC4 r
  |none=>false
 |[]=>false
def aW1:List Oper->Bool
 |x::r=>(V5 x&&bC4 r)||aW1 r
 |[]=>false
def wpL (G:Fence) (P:Program) (K:Act->World->Prop):List Oper->Act->World->Prop
 |[],a,w=>K a w
 |o::r,a,w=>o.wpIn G 0 P a w (wpL G P K r) (λ_ _ _=>False)
variable {G:Fence} {P:Program} {K:Act->World->Prop}
theorem aP8 {o:Oper} {l l':List Oper} (h:∀ a w,wpL G P K l a w->wpL G P K l' a w) {a:Act} {w:World} (b:wpL G P K (o::l) a w):wpL G P K (o::l') a w:=
 Oper.wpIn_mono h b
theorem bo0 {a:Act} {d t:Nat} {v:Value} (h:t≠d):(a.put (some d) v).eval (.tmp t)=a.eval (.tmp t):=by simp only [Act.put,Act.eval,Array.getD_eq_getD_getElem?,Array.getElem?_setIfInBounds];rw [if_neg (λb=>h b.symm)]
theorem bQ2 {a:Act} {d d':Nat} {v v':Value} (h:d≠d'):(a.put (some d) v).put (some d') v'=(a.put (some d') v').put (some d) v:=by simp only [Act.put];rw [Array.setIfInBounds_comm v v' h]
theorem bC5 {x:Oper} (l:V5 x=true) {a:Act} {w:World} {K:Act->World->Prop} (h:x.wpIn G 0 P a w K (λ_ _ _=>False)):
  ∃ v w',K (a.put x.dst v) w'/\∀ (m:Act) (K2:Act->World->Prop),(∀ t∈am9 x,m.eval (.tmp t)=a.eval (.tmp t))->K2 (m.put x.dst v) w'->x.wpIn G 0 P m w K2 (λ_ _ _=>False):=by
 unfold V5 at l;split at l
 case h_2=>cases l
 rename_i c b;split at l
 case h_2=>cases l
 rename_i i;have j:∀ a:Act,x.semAt G.round a.eval=(do pure (.value (←Builtin.append_ c.argTypes x.type (c.args.map a.eval)))):=by intro a;rw [Oper.semAt_eq _ _ _ (λd=>by rw [b];intro n;cases n)];simp only [execOp,b,resolve,i,invoke,builtin];rfl
 have g:∀ (a:Act) (w:World),x.about P w a.eval=none:=by intro a w;simp [Oper.about,b,resolve,i,Target.leads]
 obtain ⟨_,h⟩:=h;rw [j] at h;simp only [Sem.run_bind] at h;cases hr:(Builtin.append_ c.argTypes x.type (c.args.map a.eval)).run P w with
 |halt e w'=>rw [hr] at h;cases e<;>simp [Result.andThen,Oper.uponIn] at h
 |ok v w'=>
  rw [hr] at h;refine ⟨v,w',by simpa [Result.andThen,Oper.uponIn] using h,λm K2 hs o=>⟨λf hf=>(by rw [g] at hf;cases hf),?_⟩⟩;have k:c.args.map m.eval=c.args.map a.eval:=by
   apply Array.map_congr_left;intro y p;cases y with
   |tmp t=>exact hs t (by simp only [am9,b,List.mem_flatMap];exact ⟨.tmp t,by simpa using p,by simp⟩)
   |const _=>rfl
   |global _=>rfl
   |func _=>rfl
  rw [j,k];simp only [Sem.run_bind,hr];simpa [Result.andThen,Oper.uponIn] using o
theorem ca2 {y:Oper} {s:Nat} {t:Option TypeId} (j:bn9 y=some (s,t)) (C:∀ t',t=some t'->aP7 P t'=true) {a:Act} {w:World} {K:Act->World->Prop} (h:y.wpIn G 0 P a w K (λ_ _ _=>False)):
  ∃ v,K (a.put y.dst v) w/\∀ (q:Act) (r:World) (K2:Act->World->Prop),q.eval (.tmp s)=a.eval (.tmp s)->K2 (q.put y.dst v) r->y.wpIn G 0 P q r K2 (λ_ _ _=>False):=by
 unfold bn9 at j;split at j
 .rename_i s' g;simp only [cn4,co6] at j;obtain ⟨rfl,rfl⟩:=j;have e:∀ a:Act,y.semAt G.round a.eval=pure (.value (a.eval (.tmp s'))):=by
   intro a;rw [Oper.semAt_eq _ _ _ (λd=>by rw [g];intro u;cases u)];simp only [execOp,g]
  have b:∀ (a:Act) (w:World),y.about P w a.eval=none:=by intro a w;simp [Oper.about,g]
  obtain ⟨_,h⟩:=h;rw [e] at h;refine ⟨a.eval (.tmp s'),by simpa [Oper.uponIn] using h,λq r K2 hs x=>⟨λf hf=>(by rw [b] at hf;cases hf),?_⟩⟩;rw [e,hs];simpa [Oper.uponIn] using x
 .rename_i c g;split at j
  case h_2=>cases j
  rename_i k;split at j
  case h_2=>cases j
  rename_i s' t' m z;simp only [cn4,co6] at j;obtain ⟨rfl,rfl⟩:=j;have o:=C t' rfl;unfold aP7 at o;split at o
  case h_2=>cases o
  rename_i el B;have D:c.args=#[.tmp s']:=by rw [<-Array.toList_inj];exact m
  have E:c.argTypes=#[t']:=by rw [<-Array.toList_inj];exact z
  have p:∀ a:Act,y.semAt G.round a.eval=(do pure (.value (←Builtin.len_ c.argTypes y.type (c.args.map a.eval)))):=by intro a;rw [Oper.semAt_eq _ _ _ (λd=>by rw [g];intro u;cases u)];simp only [execOp,g,resolve,k,invoke,builtin];rfl
  have e:∀ a:Act,y.semAt G.round a.eval=(do pure (.value (←Builtin.len_ #[t'] y.type #[a.eval (.tmp s')]))):=by intro a;rw [p,D,E];simp
  have b:∀ (a:Act) (w:World),y.about P w a.eval=none:=by intro a w;simp [Oper.about,g,resolve,k,Target.leads]
  obtain ⟨_,h⟩:=h;rw [e] at h;simp only [Sem.run_bind] at h;have F:∃ A n c',a.eval (.tmp s')=.slice A n c':=by
   cases i:a.eval (.tmp s')<;>first|exact ⟨_,_,_,rfl⟩|(rw [i] at h;simp [Builtin.len_,run_underlying B,Result.andThen,Oper.uponIn] at h)
  obtain ⟨A,n,c',i⟩:=F;have l:∀ w,(Builtin.len_ #[t'] y.type #[.slice A n c']).run P w=.ok (goInt n) w:=by intro w;simp [Builtin.len_,run_underlying B]
  rw [i,l] at h;refine ⟨goInt n,by simpa [Result.andThen,Oper.uponIn] using h,λq r K2 hs x=>⟨λf hf=>(by rw [b] at hf;cases hf),?_⟩⟩;rw [e,hs,i];simp only [Sem.run_bind,l];simpa [Result.andThen,Oper.uponIn] using x
 .cases j
theorem ca3 {x y:Oper} {r:List Oper} (hs:bt3 P x y=true) {a:Act} {w:World} (h:wpL G P K (y::x::r) a w):wpL G P K (x::y::r) a w:=by
 unfold bt3 at hs;simp only [cn7] at hs;obtain ⟨⟨n,_⟩,hs⟩:=hs;split at hs
 case h_2=>cases hs
 rename_i dx dy s t b c o;simp only [cn7,Bool.not_eq_true',cq4] at hs;obtain ⟨⟨⟨h1,h2⟩,h3⟩,h4⟩:=hs;have f:dx≠dy:=λd=>by rw [d,Nat.beq_refl] at h1;cases h1
 have g:s≠dx:=λd=>by rw [d,Nat.beq_refl] at h2;cases h2
 have i:∀ q∈am9 x,q≠dy:=λq j d=>by have:=h3 q j;rw [d,Nat.beq_refl] at this;cases this
 have p:∀ t',t=some t'->aP7 P t'=true:=λt' d=>by subst d;exact h4
 obtain ⟨vy,k,l⟩:=ca2 o p (show y.wpIn G 0 P a w (wpL G P K (x::r)) _ from h);obtain ⟨vx,w',e,m⟩:=bC5 n (show x.wpIn G 0 P (a.put y.dst vy) w (wpL G P K r) _ from k);rw [c,b] at e;refine m a _ (λq j=>by rw [c,bo0 (i q j)]) ?_;refine l _ _ _ (by rw [b,bo0 g]) ?_;rw [b,c,bQ2 f];exact e
theorem bC6 {x:Oper}:∀ {l:List Oper} {a:Act} {w:World},wpL G P K (sink P x l) a w->wpL G P K (x::l) a w
 |[],a,w,h=>h
 |y::r,a,w,h=>by
  simp only [sink] at h;cases hs:bt3 P x y with
  |false=>rw [hs] at h;exact h
  |true=>rw [hs] at h;exact ca3 hs (aP8 (λa w h=>bC6 h) h)
theorem aP9:∀ {l:List Oper} {a:Act} {w:World},wpL G P K (ai1 P l) a w->wpL G P K l a w
 |[],a,w,h=>h
 |x::r,a,w,h=>by
  simp only [ai1] at h;cases b:V5 x with
  |false=>rw [b] at h;exact aP8 (λa w h=>aP9 h) h
  |true=>rw [b] at h;exact aP8 (λa w h=>aP9 h) (bC6 h)
theorem bo1 {ops:Array Oper} (hg:I0 ops.toList=true):∀ (m k:Nat),k+m=ops.size->∀ {a:Act} {w:World},
  (wpOpsIn G 0 P ops (λe a w=>match e with| .normal=>K a w|_=>False) (List.range' k m) a w<->wpL G P K (ops.toList.drop k) a w)
 |0,k,i,a,w=>by rw [List.drop_eq_nil_of_le (by simp;omega)];rfl
 |m+1,k,i,a,w=>by
  have d:k<ops.toList.length:=by simp;omega
  rw [List.drop_eq_getElem_cons d,List.range'_succ];have g:ops.toList[k].guard=none:=by have:=cq4.1 hg ops.toList[k] (List.getElem_mem d);simpa using this
  have f:ops[k]? =some ops.toList[k]:=by simp
  have c:∀ y,Region.wanted ops.toList[k] y=true:=λy=>by unfold Region.wanted;rw [g]
  simp only [wpOpsIn,f,c,if_true,wpL];constructor
  .intro h;refine Oper.wpIn_mono (λa w h=>(bo1 hg m (k+1) (by omega)).1 h) ?_;refine ⟨h.1,?_⟩;have h:=h.2;generalize (ops.toList[k].semAt G.round a.eval).run P w=r at*
   cases r with
   |ok z w'=>cases z<;>simp only [Oper.uponIn] at h |-<;>first|exact h|exact ⟨h.1,CallsIn.mono h.2 (λe w'' b=>by cases e<;>first|exact b|exact b.elim)⟩|exact ⟨h.1,RoundIn.mono h.2 (λe w'' b=>by cases e<;>first|exact b|exact b.elim)⟩
   |halt z w'=>cases z<;>simp only [Oper.uponIn] at h |-<;>exact h
  .intro h;refine Oper.wpIn_mono (λa w h=>(bo1 hg m (k+1) (by omega)).2 h) ?_;refine ⟨h.1,?_⟩;have h:=h.2;generalize (ops.toList[k].semAt G.round a.eval).run P w=r at*
   cases r with
   |ok z w'=>cases z<;>simp only [Oper.uponIn] at h |-<;>first|exact h|exact ⟨h.1,CallsIn.mono h.2 (λe w'' b=>by cases e<;>first|exact b|exact b.elim)⟩|exact ⟨h.1,RoundIn.mono h.2 (λe w'' b=>by cases e<;>first|exact b|exact b.elim)⟩
   |halt z w'=>cases z<;>simp only [Oper.uponIn] at h |-<;>exact h
theorem an0 {x:Oper} (a:x.guard=none):∀ {l:List Oper},I0 l=true->I0 (sink P x l)=true
 |[],_=>by simp [sink,I0,a]
 |y::r,h=>by
  simp only [I0,List.all_cons,cn7] at h;simp only [sink];cases bt3 P x y with
  |false=>simp only [cond_false,I0,List.all_cons,cn7];exact ⟨by simp [a],h.1,h.2⟩
  |true=>simp only [cond_true,I0,List.all_cons,cn7];exact ⟨h.1,an0 a h.2⟩
theorem ai5:∀ {l:List Oper},I0 l=true->I0 (ai1 P l)=true
 |[],_=>rfl
 |x::r,h=>by
  simp only [I0,List.all_cons,cn7] at h;have hr:=ai5 (l:=r) h.2;simp only [ai1];cases V5 x with
  |false=>simp only [cond_false,I0,List.all_cons,cn7];exact ⟨h.1,hr⟩
  |true=>exact an0 (by simpa using h.1) hr
end
end Go.VT
end
section
namespace Go.VT
noncomputable section
variable {U:Univ}
structure St (U:Univ) where
 σ:List (Nat×PV U)
 h:Obs U
def upds:Obs U->Obs U->Obs U
 |h,[]=>h
 |h,(id,o)::r=>upds (write id o h) r
def sub (h:Obs U):List Nat->Obs U
 |[]=>[]
 |id::r=>match look id h with
  |some o=>(id,o)::sub h r
  |none=>sub h r
def I3:Op->List Operand
 | .alloc _=>[]
 | .move x=>[x]
 | .assign x=>[x]
 | .box _ x=>[x]
 | .load _ x=>[x]
 | .nilCheck x=>[x]
 | .unOp _ _ x=>[x]
 | .convert _ _ x=>[x]
 | .fieldAddr _ x _=>[x]
 | .field _ x _=>[x]
 | .extract x _=>[x]
 | .build _ ps=>ps.toList.map (·.2)
 | .buildSlice _ _ ps=>ps.toList.map (·.2)
 | .store _ a v=>[a,v]
 | .binOp _ _ a v _=>[a,v]
 | .indexAddr _ a v=>[a,v]
 | .makeSlice _ a v=>[a,v]
 | .slice _ x lo hi mx=>x::(lo.toList++(hi.toList++mx.toList))
 | .lookup _ m k _=>[m,k]
 | .mapUpdate _ m k v=>[m,k,v]
 | .makeFunc _ first cs=>first.toList++cs.toList
 | .range _ x=>[x]
 | .entry x=>[x]
 | .makeInterface _ x=>[x]
 | .panic x=>[x]
 | .call c=>match c.callee with
  | .value x=>x::c.args.toList
  | .invoke x _=>x::c.args.toList
  |_=>c.args.toList
 |_=>[]
def putS (σ:List (Nat×PV U)) (d:Option Tmp) (v:PV U):List (Nat×PV U):=
 match d with
 |some d=>write d v σ
 |none=>σ
def T6 (ops:List Oper) (i:Nat):Option Nat:=(ops[i]?).bind (·.dst)
def M9 (σ:List (Nat×PV U)) (j:Nat):Option Bool:=
 match look j σ with
 |some (.one (.d ⟨.bool,b⟩))=>some b
 |some (.opt _ (.one (.d ⟨.bool,b⟩)))=>some b
 |_=>none
def H6 (σ:List (Nat×PV U)) (j:Nat):List (Nat×Bool):=
 match look j σ with
 |some (.opt gs _)=>gs
 |_=>[]
def hyps (σ:List (Nat×PV U)):List (Nat×Bool)->Prop->Prop
 |[],p=>p
 |(j,w)::r,p=>match M9 σ j with
  |some b=>b=w->hyps σ r p
  |none=>True
structure Wr (U:Univ) where
 obl:Option Prop
 dst:Option Tmp
 val:PV U
 upd:Obs U
 rds:List Nat
 ids:List Nat
 pan:Option (Bool×PanV U)
 fact:Option Prop
 lost:List Nat
def St.app (s:St U) (x:Wr U):St U:=⟨putS s.σ x.dst x.val,upds s.h x.upd⟩
def Y1:List Operand->List Nat
 |[]=>[]
 | .tmp t::r=>t::Y1 r
 |_::r=>Y1 r
def Q5 (E:Env U) (o:Oper) (vs:List (PV U)):List Nat:=
 match o.op with
 | .alloc _=>[B3 o.dst 0]
 | .box .. =>[B3 o.dst 0]
 | .buildSlice .. =>[B3 o.dst 0]
 | .makeSlice .. =>[B3 o.dst 0]
 | .makeMap .. =>[B3 o.dst 0]
 | .range .. =>[B3 o.dst 0]
 | .call c=>match c.callee with
  | .builtin .append=>match vs with
   | .one (.lit _)::_=>[B3 o.dst 0]
   | .one (.dc _ (.inn ..))::_=>[B3 o.dst 0]
   | .one (.dc _ (.key ..))::_=>[B3 o.dst 0]
   |_=>[]
  |_=>[]
 |_=>[]
def bQ3 (c:Bool) (a b:Operand):PV U->PV U->Option (PV U)
 | .one (.d ⟨.bool,x⟩),.one (.d ⟨.bool,y⟩)=>match a,b with
  | .const (.bool true),_=>some (.one (.d ⟨.bool,c||y⟩))
  |_,.const (.bool false)=>some (.one (.d ⟨.bool,c&&x⟩))
  |_,_=>some (.one (.d ⟨.bool,bif c then x else y⟩))
 |_,_=>none
def bo2 (h:Obs U) (id:Nat):List Nat:=match look id h with
 |some (.box _ cs)=>cs.flatMap ids1
 |some (.dp (.iter mid ..))=>mid.toList
 |_=>[]
def aq5 (h:Obs U):Nat->List Nat->List Nat->List Nat
 |0,_,seen=>seen
 |_+1,[],seen=>seen
 |f+1,id::r,seen=>bif seen.any (Nat.beq id) then aq5 h f r seen else aq5 h f (bo2 h id++r) (id::seen)
def az9 (h:Obs U) (l:List Nat):Bool:=l.all λid=>(look id h).isNone&&Nat.blt id 1000000
structure Val (U:Univ) where
 e:Eff U
 ids:List Nat
 pan:Option (Bool×PanV U)
 lost:List Nat
def ad0 (E:Env U) (s:St U) (o:Oper) (path:List (Nat×Bool)):Option (Val U):=
 match (I3 o.op).map (λx=>H5 path (ev s.σ x)) with
 |vs=>match act E (sub s.h (vs.flatMap idsP)) o vs with
  |some e=>bif e.val.plain&&az9 s.h (Q5 E o vs) then some ⟨e,vs.flatMap idsP++(Q5 E o vs++keys e.upd),none,[]⟩ else none
  |none=>none
def H2 (E:Env U) (s:St U) (o:Oper) (vs:List (PV U)) (ks:List (Con U)):Option (Val U):=
 match aq5 s.h 64 (vs.flatMap idsP++ks.flatMap λk=>k.gh.map (·.2)) [] with
 |R=>match ac9 (sub s.h R) E.yl o.dst vs ks with
  |some c=>bif c.e.val.plain&&az9 s.h c.news then some ⟨c.e,R++(c.news++keys c.e.upd),c.pan,c.lost⟩ else none
  |none=>none
def aQ0 (path:List (Nat×Bool)) (ks:List (Con U)):List (Con U):=
 match path with
 |[]=>ks
 |_=>match ks.filter (λk=>Nat.beq k.oout.length k.oin.length) with
  |[]=>ks
  |l=>l
theorem Z6 {path:List (Nat×Bool)} {ks:List (Con U)} {k:Con U} (h:k∈aQ0 path ks):k∈ks:=by
 unfold aQ0 at h;split at h
 .exact h
 .split at h
  .exact h
  .rename_i l hl _;exact (List.mem_filter.1 h).1
def aj5 (E:Env U) (s:St U) (o:Oper) (path:List (Nat×Bool)):Option (Val U):=
 match o.op with
 | .pick (.tmp t) a b=>match H5 path (ev s.σ (.tmp t)) with
  | .one (.d ⟨.bool,c⟩)=>match bQ3 c a b (H5 (path++[(t,true)]) (ev s.σ a)) (H5 (path++[(t,false)]) (ev s.σ b)) with
   |some v=>some ⟨F5 v,[],none,[]⟩
   |none=>none
  |_=>none
 | .panic x=>match H5 path (ev s.σ x) with
  | .one (.ifc t b ds)=>bif ds.all (λd=>Z1 d.1) then some ⟨F5 .un,[],some (true,⟨t,b,ds⟩),[]⟩ else none
  |_=>none
 | .call c=>match c.callee with
  | .value x=>match H5 path (ev s.σ x) with
   | .one (.tabf fs i)=>H2 E s o (c.args.toList.map (λx=>H5 path (ev s.σ x))) (E.tab fs i)
   | .one (.yld id)=>H2 E s o (c.args.toList.map (λx=>H5 path (ev s.σ x))++[.one (.yld id)]) E.Y.toList
   | .one (.bnd f id)=>H2 E s o (.one (.ptr id 0)::c.args.toList.map (λx=>H5 path (ev s.σ x))) (aQ0 path (E.con f))
   |p=>match am8 p with
    |some (f,ids)=>H2 E s o (c.args.toList.map (λx=>H5 path (ev s.σ x))++ids.map (λid=>.one (.ptr id 0))) (aQ0 path (E.con f))
    |none=>none
  | .invoke x name=>match (match path with
    |[]=>H5 [] (ev s.σ x)
    |_=>.un) with
   | .one (.d ⟨.ifc i,v⟩)=>H2 E s o (.one (.d ⟨.ifc i,v⟩)::c.args.toList.map (λx=>H5 path (ev s.σ x))) (E.inv i name)
   |_=>none
  |_=>ad0 E s o path
 |_=>ad0 E s o path
def aQ1:Op->List Nat
 | .pick c a b=>Y1 [c,a,b]
 |o=>Y1 (I3 o)
inductive Alt (U:Univ) where
 |one (x:Wr U)
 |two (x y:Wr U)
def allG (σ:List (Nat×PV U)) (path:List (Nat×Bool)):Bool:=path.all λg=>match M9 σ g.1 with
 |some b=>b==g.2
 |none=>false
def aq6 (E:Env U) (ops:List Oper) (o:Oper) (s:St U):Option (Alt U):=
 match o.guard with
 |none=>match aj5 E s o [] with
  |some v=>some (.one ⟨v.e.obl,o.dst,v.e.val,v.e.upd,aQ1 o.op,v.ids,v.pan,none,v.lost⟩)
  |none=>none
 |some (i,want)=>match T6 ops i with
  |some j=>match M9 s.σ j with
   |some b=>match aj5 E s o (H6 s.σ j++[(j,want)]) with
    |some v=>bif v.e.upd.all (λx=>!(x.2.live)) then some (.one ⟨v.e.obl.map (hyps s.σ (H6 s.σ j++[(j,want)])),o.dst,.opt (H6 s.σ j++[(j,want)]) v.e.val,v.e.upd,j::(H6 s.σ j).map (·.1)++aQ1 o.op,v.ids,
       v.pan.map (λx=>(allG s.σ (H6 s.σ j++[(j,want)])&&x.1,x.2)),none,v.lost⟩)
      else (match H6 s.σ j with
       |[]=>some (.two ⟨v.e.obl,o.dst,.opt [(j,want)] v.e.val,v.e.upd,j::aQ1 o.op,v.ids,v.pan,some (b=want),v.lost⟩ ⟨none,o.dst,.opt [(j,want)] v.e.val,[],j::aQ1 o.op,v.ids,none,some (b=!want),[]⟩)
       |_=>none)
    |none=>none
   |none=>none
  |none=>none
def bf1 (x:Wr U):List (List (Wr U)×St U)->List (List (Wr U)×St U)
 |[]=>[]
 |(xs,s)::r=>(x::xs,s)::bf1 x r
def at7 (E:Env U) (ops:List Oper):List Oper->St U->Option (List (List (Wr U)×St U))
 |[],s=>some [([],s)]
 |o::r,s=>match aq6 E ops o s with
  |some (.one x)=>match at7 E ops r (s.app x) with
   |some l=>some (bf1 x l)
   |none=>none
  |some (.two x y)=>match at7 E ops r (s.app x) with
   |some l=>match at7 E ops r (s.app y) with
    |some l'=>some (bf1 x l++bf1 y l')
    |none=>none
   |none=>none
  |none=>none
def aA0:List (Nat×Bool)->Option Nat->Prop->Prop
 |[],_,q=>q
 |(i,b)::r,m,q=>match m with
  |none=>b=false->aA0 r m q
  |some m'=>bif Nat.testBit m' i then (b=false->aA0 r m q) else aA0 r m q
def obls (Qp:PanV U->Prop) (ms:Option (List Nat)):List (Wr U)->Nat->List (Nat×Bool)->Prop->Prop
 |[],_,ps,q=>aA0 ps none q
 |x::r,i,ps,q=>match x.pan with
  |none=>match x.obl with
   |none=>obls Qp ms r (i+1) ps q
   |some p=>aA0 ps (ms.map (·.getD i 0)) p/\obls Qp ms r (i+1) ps q
  |some (b,v)=>match x.obl with
   |none=>aA0 ps (ms.map (·.getD i 0)) (b=true->Qp v)/\obls Qp ms r (i+1) (ps++[(i,b)]) q
   |some p=>aA0 ps (ms.map (·.getD i 0)) p/\(aA0 ps (ms.map (·.getD i 0)) (b=true->Qp v)/\obls Qp ms r (i+1) (ps++[(i,b)]) q)
def aQ2:List (Wr U)->Prop->Prop
 |[],q=>q
 |x::r,q=>match x.fact with
  |none=>aQ2 r q
  |some p=>p->aQ2 r q
def bQ4 (f:List (Wr U)->St U->Prop):List (List (Wr U)×St U)->Prop
 |[]=>True
 |[(xs,s)]=>f xs s
 |(xs,s)::r=>f xs s/\bQ4 f r
def ahead (pos:Nat->Nat) (dr:Bool):List Oper->Nat->Bool
 |[],_=>true
 |o::r,k=>(match o.guard with
  |none=>true
  |some (g,_)=>Nat.blt (pos g) (pos k))&&(!dr||o.after.toList.all λe=>!(Region.binds .any e)||Nat.blt (pos e.on) (pos k))&&ahead pos dr r (k+1)
def bit (m k:Nat):Bool:=Nat.beq (Nat.land (Nat.shiftRight m k) 1) 1
def bo3 (m:Nat):List Oper->Nat->Option Nat
 |[],_=>none
 |o::r,k=>bif !(bit m k)&&(match o.guard with
  |none=>true
  |some (g,_)=>bit m g)&&o.after.toList.all (λe=>!(Region.binds .any e)||bit m e.on) then some k else bo3 m r (k+1)
def ai6 (ops:List Oper):Nat->Nat->List Nat
 |0,_=>[]
 |f+1,m=>match bo3 m ops 0 with
  |some k=>k::ai6 ops f (Nat.lor m (2 ^ k))
  |none=>[]
def ax0 (k:Nat):List Nat->Nat
 |[]=>0
 |x::r=>bif Nat.beq x k then 0 else ax0 k r+1
def ad1 (d:Bool) (ops:List Oper):Bool:=ahead (λk=>k) d ops 0
def aW2 (d:Bool) (ops:List Oper):List Nat:=bif ad1 d ops then List.range ops.length else ai6 ops ops.length 0
def T7 (d:Bool) (ops:List Oper) (k:Nat):Nat:=bif ad1 d ops then k else ax0 k (ai6 ops ops.length 0)
def aj6 (ops:List Oper):List Nat->List Oper
 |[]=>[]
 |k::r=>match ops[k]? with
  |some o=>o::aj6 ops r
  |none=>aj6 ops r
def osOf (d:Bool) (ops:List Oper):List Oper:=bif ad1 d ops then ops else aj6 ops (ai6 ops ops.length 0)
def okAt (n:Nat) (idx:List Nat):List Nat->Nat->Bool
 |[],_=>true
 |x::r,p=>Nat.blt x n&&Nat.beq (ax0 x idx) p&&okAt n idx r (p+1)
def cj5 (n:Nat) (idx:List Nat):Bool:=Nat.beq idx.length n&&okAt n idx idx 0&&(List.range n).all λk=>Nat.blt (ax0 k idx) n
def aA1 (d:Bool) (ops:List Oper):Bool:=ad1 d ops||(d&&cj5 ops.length (ai6 ops ops.length 0)&&ahead (λk=>ax0 k (ai6 ops ops.length 0)) d ops 0)
def mask (pos:Nat->Nat) (acc:List Nat) (o:Oper):Nat:=
 o.after.toList.foldl (λm e=>bif Region.binds .any e then Nat.lor m (Nat.lor (2 ^ (pos e.on)) (acc.getD (pos e.on) 0)) else m) 0
def N4 (pos:Nat->Nat):List Oper->List Nat->List Nat
 |[],acc=>acc
 |o::r,acc=>N4 pos r (acc++[mask pos acc o])
def aQ3 (d:Option Tmp) (l:List Nat):Bool:=match d with
 |some d=>l.any (Nat.beq d)
 |none=>false
def aJ0 (x y:Wr U):Bool:=aQ3 x.dst y.rds||aQ3 y.dst x.rds||X8 (keys x.upd) y.ids||X8 (keys y.upd) x.ids
def aA2 (y:Wr U) (m:Nat):List (Wr U)->Nat->Bool
 |[],_=>true
 |x::r,i=>(!(aJ0 x y)||Nat.testBit m i)&&aA2 y m r (i+1)
def aJ1 (done:List (Wr U)):List (Wr U)->List Nat->Bool
 |y::ys,m::ms=>aA2 y m done 0&&aJ1 (done++[y]) ys ms
 |[],[]=>true
 |_,_=>false
def ca4:PV U->PV U
 | .opt .. =>.un
 |p=>p
def St.cut (s:St U) (X:Nat):St U:=⟨(s.σ.filter λx=>bit X x.1).map (λx=>(x.1,ca4 x.2)),s.h⟩
inductive Bad (why where_:Nat):Prop
theorem Bad.elim {a b:Nat} {C:Prop} (h:Bad a b):C:=nomatch h
def aQ4 (E:Env U) (ops:List Oper):List Oper->Nat->St U->Nat
 |[],i,_=>i
 |o::r,i,s=>match aq6 E ops o s with
  |some (.one x)=>aQ4 E ops r (i+1) (s.app x)
  |some (.two x _)=>aQ4 E ops r (i+1) (s.app x)
  |none=>i
def T8 {α:Type} (l:List (Nat×α)):List Nat->List (Nat×α)
 |[]=>[]
 |k::r=>match look k l with
  |some v=>(k,v)::T8 l r
  |none=>T8 l r
def Deep.renew (h:Obs U) (D:Deep U) (c:DC U):Option (DC U):=
 match D with
 | .rows _ _ _ _ ver iv _ _=>match c with
  | .self v=>if Nat.beq v ver then some (.self 0) else none
  | .inn v i j=>if Nat.beq v iv then some (.inn 0 i j) else none
  |_=>none
 | .maps _ _ _ _ ver _ _ _=>match c with
  | .self v=>if Nat.beq v ver then some (.self 0) else none
  |_=>none
 | .iter .. =>match c with
  | .it mid=>match look mid h with
   |some (.map ..)=>some (.it mid)
   |_=>none
  |_=>none
def Deep.fresh (h:Obs U):Deep U->Deep U
 | .rows e t m l _ _ lv hole=>.rows e t m l 0 0 lv hole
 | .maps kt e t l _ _ lv hole=>.maps kt e t l 0 0 lv hole
 | .iter mid kt vt n seen cur=>.iter (match mid with
  |some m=>match look m h with
   |some (.map ..)=>some m
   |_=>none
  |none=>none) kt vt n seen cur
def L0 (h:Obs U):Cell U->Cell U
 | .row id ver=>match look id h with
  |some (.row _ _ _ ver' _)=>if Nat.beq ver ver' then .row id 0 else .un
  |_=>.un
 | .ptr id off=>match look id h with
  |some (.box _ _)=>.ptr id off
  |_=>.un
 | .elt .. =>.un
 | .map id=>match look id h with
  |some (.map ..)=>.map id
  |_=>.un
 | .yld id=>match look id h with
  |some (.loop ..)=>.yld id
  |_=>.un
 | .clo f ids=>bif ids.all (λid=>match look id h with
  |some (.box _ _)=>true
  |_=>false) then .clo f ids else .un
 | .bnd f id=>match look id h with
  |some (.box _ _)=>.bnd f id
  |_=>.un
 | .dc id c=>match look id h with
  |some (.dp D)=>match D.renew h c with
   |some c=>.dc id c
   |none=>.un
  |_=>.un
 |c=>c
def aA3 (h:Obs U):PV U->PV U
 | .one c=>.one (L0 h c)
 | .agg cs=>.agg (cs.map (L0 h))
 | .tup vs=>.tup (vs.map λv=>(v.1,v.2.map (L0 h)))
 |_=>.un
def S3 (h:Obs U):Ob U->Ob U
 | .box e cs=>.box e (cs.map (L0 h))
 | .row e t l _ live=>.row e t l 0 live
 | .dp D=>.dp (D.fresh h)
 |o=>o
def St.keep (s:St U) (ks hs:List Nat):St U:=
 match T8 s.h hs with
 |h=>⟨(T8 s.σ ks).map λx=>(x.1,aA3 h x.2),h.map λx=>(x.1,S3 h x.2)⟩
def aq7 (ms:Option (List Nat)) (p q:Nat):Bool:=match ms with
 |none=>Nat.blt q p
 |some l=>Nat.testBit (l.getD p 0) q
def ad2:List (Wr U)->Nat->List Nat
 |[],_=>[]
 |x::r,i=>match x.pan with
  |none=>ad2 r (i+1)
  |some _=>i::ad2 r (i+1)
def aW3 (ms:Option (List Nat)) (ps:List Nat):List (Wr U)->Nat->Nat->Bool
 |[],_,_=>false
 |x::r,i,j=>(aQ3 x.dst [j]&&!(ps.all λq=>Nat.beq i q||aq7 ms i q))||aW3 ms ps r (i+1) j
def aQ5 (ms:Option (List Nat)) (ps:List Nat):List (Wr U)->Nat->Nat->Bool
 |[],_,_=>false
 |x::r,i,j=>(X8 (keys x.upd++x.lost) [j]&&!(ps.all λq=>!(Nat.beq i q)&&aq7 ms i q))||aQ5 ms ps r (i+1) j
def St.gone (s:St U) (ms:Option (List Nat)) (xs:List (Wr U)):St U:=
 s.keep ((s.σ.map (·.1)).filter λj=>!(aW3 ms (ad2 xs 0) xs 0 j)) ((keys s.h).filter λid=>!(aQ5 ms (ad2 xs 0) xs 0 id))
def region (E:Env U) (X:Nat) (id:Nat) (d:Bool) (ops:List Oper) (s:St U) (Qp:PanV U->St U->Prop) (Q:St U->Prop):Prop:=
 match at7 E ops (osOf d ops) s with
 |some ls=>bQ4 (λxs s'=>bif !d||aJ1 [] xs (N4 (T7 d ops) (osOf d ops) []) then aQ2 xs (obls (λv=>Qp v (s.gone (bif d then some (N4 (T7 d ops) (osOf d ops) []) else none) xs)) (bif d then some (N4 (T7 d ops) (osOf d ops) []) else none) xs 0 [] (Q (s'.cut X))) else Bad id 1000) ls
 |none=>Bad id (aQ4 E ops (osOf d ops) 0 s)
def bits:List Nat->Nat
 |[]=>0
 |t::r=>Nat.lor (2 ^ t) (bits r)
def bf2:List Nat->Nat->Nat
 |[],_=>0
 |t::r,wr=>bif bit wr t then bf2 r wr else Nat.lor (2 ^ t) (bf2 r wr)
def cj6:List Oper->Nat->Nat
 |[],_=>0
 |o::r,wr=>Nat.lor (bf2 (aQ1 o.op) wr) (cj6 r (match o.dst with
  |some d=>Nat.lor (2 ^ d) wr
  |none=>wr))
def expo:Code->Nat
 | .region _ ops _=>cj6 ops.toList 0
 | .seq a b=>Nat.lor (expo a) (expo b)
 | .cond c a b=>Nat.lor (bits (Y1 [c])) (Nat.lor (expo a) (expo b))
 | .block _ a=>expo a
 | .scope a=>expo a
 | .loop a=>expo a
 | .rangeFunc g _ a c=>Nat.lor (bits (Y1 [g])) (Nat.lor (expo a) (expo c))
 |_=>0
def cm5 (f:Func) (b:Code):Nat:=Nat.lor (bits (f.results.toList.map λx=>match x with
 | .tmp t=>t
 | .cell _ t=>t)) (expo b)
def aj7 (N:Nat) (ds:List (Option Tmp)):Option Tmp->Bool
 |some d=>Nat.blt d N&&ds.all λx=>match x with
  |some d'=>!(Nat.beq d d')
  |none=>true
 |none=>true
def N7 (N:Nat):List Oper->List (Option Tmp)->Bool
 |[],_=>true
 |o::r,ds=>aj7 N ds o.dst&&N7 N r (ds++[o.dst])
def J7 (N:Nat):Code->Bool
 | .region _ ops d=>N7 N ops.toList []&&aA1 d ops.toList
 | .seq a b=>J7 N a&&J7 N b
 | .cond _ a b=>J7 N a&&J7 N b
 | .block _ a=>J7 N a
 | .scope a=>J7 N a
 | .loop a=>J7 N a
 | .rangeFunc _ ps a c=>ps.toList.all (λt=>Nat.blt t N)&&J7 N a&&J7 N c
 |_=>true
def noRF:Code->Bool
 | .seq a b=>noRF a&&noRF b
 | .cond _ a b=>noRF a&&noRF b
 | .block _ a=>noRF a
 | .scope a=>noRF a
 | .loop a=>noRF a
 | .rangeFunc .. =>false
 |_=>true
def Z7:List Nat->Code->List Code
 |bs,.seq a b=>Z7 bs a++Z7 bs b
 |bs,.cond _ a b=>Z7 bs a++Z7 bs b
 |bs,.block id a=>Z7 (id::bs) a
 |bs,.scope a=>Z7 bs a
 |bs,.loop a=>Z7 bs a
 |bs,.exit id=>bif bs.any (Nat.beq id) then [] else [.exit id]
 |_,.ret=>[.ret]
 |_,_=>[]
inductive Way (U:Univ) where
 |normal
 |exit (id:Nat)
 |ret
 |panic (v:PanV U)
inductive Place where
 |slot (j:Nat)
 |cell (j c:Nat)
 |box (id c:Nat)
 |row (id:Nat)
 |deep (j:Nat) (m:List Nat)
 |seen (id:Nat)
structure Ann (U:Univ) where
 slots:List Nat
 at_:List Place
 tys:List Ty
 inv:Dens U.T tys->Prop
 μ:Dens U.T tys->Nat
 nils:List (Place×Nat×TypeId×Ty)
def bf3 (cs:List (Cell U)) (c:Nat) (d:Datum U):List (Cell U):=
 match cs,c with
 |[],_=>[]
 |_::r,0=>.d d::r
 |x::r,c+1=>x::bf3 r c d
def bQ5 (s:St U) (p:Place) (d:Datum U):St U:=
 match p with
 | .slot j=>⟨write j (.one (.d d)) s.σ,s.h⟩
 | .cell j c=>match look j s.σ with
  |some (.agg cs)=>⟨write j (.agg (bf3 cs c d)) s.σ,s.h⟩
  |_=>s
 | .box id c=>match look id s.h with
  |some (.box e cs)=>⟨s.σ,write id (.box e (bf3 cs c d)) s.h⟩
  |_=>s
 | .row id=>match look id s.h,d with
  |some (.row _ _ _ ver lv),⟨.slice e t,l⟩=>⟨s.σ,write id (.row e t l ver lv) s.h⟩
  |some (.map ..),⟨.map kt vt,l⟩=>⟨s.σ,write id (.map kt vt l) s.h⟩
  |some (.loop ..),⟨.int _,st⟩=>⟨s.σ,write id (.loop st) s.h⟩
  |some (.dp (.rows _ _ m _ ver iv lv hole)),⟨.slice e t,l⟩=>⟨s.σ,write id (.dp (.rows e t m l ver iv lv hole)) s.h⟩
  |some (.dp (.maps _ _ _ _ ver iv lv none)),⟨.map kt (.slice e t),l⟩=>⟨s.σ,write id (.dp (.maps kt e t l ver iv lv none)) s.h⟩
  |_,_=>s
 | .seen id=>match look id s.h,d with
  |some (.dp (.iter mid kt vt n _ _)),⟨.slice _ (.int _),l⟩=>⟨s.σ,write id (.dp (.iter mid kt vt n (List.map Int.toNat l) ((List.map Int.toNat l).getLastD 0))) s.h⟩
  |_,_=>s
 | .deep .. =>s
def at8:St U->List Place->List (Datum U)->St U
 |s,p::ps,d::ds=>at8 (bQ5 s p d) ps ds
 |s,_,_=>s
def ca5:List Oper->List Nat
 |[]=>[]
 |o::r=>match o.dst with
  |some d=>d::ca5 r
  |none=>ca5 r
def aW4:Code->List Nat
 | .region _ ops _=>ca5 ops.toList
 | .seq a b=>aW4 a++aW4 b
 | .cond _ a b=>aW4 a++aW4 b
 | .block _ a=>aW4 a
 | .scope a=>aW4 a
 | .loop a=>aW4 a
 |_=>[]
def cvK (id:Nat) (b:Option Nat):Cell U->Cell U
 | .map j=>match b with
  |none=>bif Nat.beq j id then .dc id (.self 0) else .map j
  |some _=>.map j
 | .dc j c=>match c with
  | .it m=>bif Nat.beq j id||Nat.beq m id then .un else .dc j (.it m)
  | .self v=>bif Nat.beq j id then (match b with
   |none=>.un
   |some ver=>bif Nat.beq v ver then .map id else .un) else .dc j (.self v)
  |c=>bif Nat.beq j id then .un else .dc j c
 |c=>c
def cvP (id:Nat) (b:Option Nat):PV U->PV U
 | .one c=>.one (cvK id b c)
 | .agg cs=>.agg (cs.map (cvK id b))
 | .tup vs=>.tup (vs.map λv=>(v.1,v.2.map (cvK id b)))
 |_=>.un
def cvO (id:Nat) (b:Option Nat):Ob U->Ob U
 | .box e cs=>.box e (cs.map (cvK id b))
 | .dp (.iter (some m) kt vt n seen cur)=>.dp (.iter (bif Nat.beq m id then none else some m) kt vt n seen cur)
 |o=>o
def St.cvt (s:St U) (id:Nat) (b:Option Nat) (o:Ob U):St U:=⟨s.σ.map λx=>(x.1,cvP id b x.2),s.h.map λx=>(x.1,bif Nat.beq x.1 id then o else cvO id b x.2)⟩
def S6 (s:St U):Place×Nat×TypeId×Ty->St U
 |(.slot j,id,e,t)=>match look id s.h with
  |some _=>s
  |none=>match look j s.σ with
   |some (.one (.lit (.slice none 0 0)))=>⟨write j (.one (.row id 0)) s.σ,write id (.row e t [] 0 true) s.h⟩
   |_=>s
 |(.box b c,id,e,t)=>match look id s.h with
  |some _=>s
  |none=>match look b s.h with
   |some (.box be cs)=>match cs[c]? with
    |some (.lit (.slice none 0 0))=>⟨s.σ,write b (.box be (cs.set c (.row id 0))) (write id (.row e t [] 0 true) s.h)⟩
    |_=>s
   |_=>s
 |(.cell b c,_,e,t)=>match look b s.h with
  |some (.box be cs)=>match cs[c]? with
   |some cc=>match asD s.h (.slice e t) cc with
    |some (x,u)=>⟨s.σ,write b (.box be (cs.set c (.d x))) (upds s.h u)⟩
    |none=>s
   |none=>s
  |_=>s
 |(.row j,_,e,t)=>match look j s.σ with
  |some (.one c)=>match asD s.h (.slice e t) c with
   |some (x,u)=>⟨write j (.one (.d x)) s.σ,upds s.h u⟩
   |none=>s
  |some (.agg _)=>⟨write j .un s.σ,s.h⟩
  |_=>s
 |(.deep j m,id,e,t)=>match look id s.h with
  |some _=>s
  |none=>match look j s.σ with
   |some (.one (.lit (.slice none 0 0)))=>⟨write j (.one (.dc id (.self 0))) s.σ,write id (.dp (.rows e t m [] 0 0 true none)) s.h⟩
   |_=>s
 |(.seen id,_,_,_)=>match look id s.h with
  |some (.map kt (.slice e t) [])=>bif Nat.blt id 1000000 then s.cvt id none (.dp (.maps kt e t [] 0 0 true none)) else s
  |some (.dp (.maps kt e t l ver _ true none))=>bif Nat.blt id 1000000 then s.cvt id (some ver) (.map kt (.slice e t) l) else s
  |_=>s
def S7 (s:St U):List (Place×Nat×TypeId×Ty)->St U
 |[]=>s
 |x::r=>S7 (S6 s x) r
def ca6 (l:List (Place×Nat×TypeId×Ty)):List (Place×Nat×TypeId×Ty):=l.filter λx=>match x.1 with
 | .cell .. =>true
 | .row _=>true
 |_=>false
def aQ6:List Place->List Nat
 |[]=>[]
 | .slot j::r=>j::aQ6 r
 | .cell j _::r=>j::aQ6 r
 |_::r=>aQ6 r
def Q6 (s:St U) (a:Code) (L:Ann U):List Nat:=
 match aW4 a with
 |ds=>((s.σ.map (·.1)).filter λj=>!(ds.any (Nat.beq j)))++(aQ6 L.at_++L.slots)
def eqTs:List (Bool×List (Cell U))->List (Bool×List (Cell U))->Prop->Prop
 |[],[],q=>q
 |(b,x)::r,(b',y)::r',q=>bif b==b' then eqCs x y (eqTs r r' q) else False
 |_,_,_=>False
def eqP:PV U->PV U->Prop->Prop
 | .un,.un,q=>q
 | .one x,.one y,q=>eqC x y q
 | .agg x,.agg y,q=>eqCs x y q
 | .tup x,.tup y,q=>eqTs x y q
 |_,_,_=>False
def eqL {α:Type} (f:α->α->Prop->Prop):List (Nat×α)->List (Nat×α)->Prop->Prop
 |[],[],q=>q
 |(k,x)::r,(k',y)::r',q=>bif Nat.beq k k' then f x y (eqL f r r' q) else False
 |_,_,_=>False
def eqSt (x y:St U) (q:Prop):Prop:=eqL eqP x.σ y.σ (eqL eqO x.h y.h q)
def Z8:Code->Nat
 | .seq a b=>Z8 a+Z8 b
 | .cond _ a b=>Z8 a+Z8 b
 | .block _ a=>Z8 a
 | .scope a=>Z8 a
 | .loop a=>Z8 a+1
 | .rangeFunc _ _ a c=>Z8 a+Z8 c+1
 |_=>0
def bf4 {α:Type} (l:List (Nat×α)):List Nat:=l.map (·.1)
def renC (rn:List (Nat×Nat)):Cell U->Cell U
 | .d x=>.d x
 | .ptr id off=>match look id rn with
  |some i=>.ptr (oid i) off
  |none=>.un
 | .map id=>match look id rn with
  |some i=>.map (oid i)
  |none=>.un
 | .lit v=>.lit v
 | .gl g=>.gl g
 | .bnd f id=>match look id rn with
  |some i=>.bnd f (oid i)
  |none=>.un
 | .tab g i=>.tab g i
 | .tabf fs i=>.tabf fs i
 |_=>.un
def renP (rn:List (Nat×Nat)):PV U->PV U
 | .one c=>.one (renC rn c)
 | .agg cs=>.agg (cs.map (renC rn))
 |_=>.un
def rnOf (kY:Con U) (m:Mt U):List (Nat×Nat)->List (Nat×Nat)
 |[]=>[]
 |(i,j)::r=>match kY.oin[i]?,look j m.ι with
  |some (.row _),_=>rnOf kY m r
  |some (.dp _ _),_=>rnOf kY m r
  |some (.ms _),_=>rnOf kY m r
  |some _,some id=>(id,i)::rnOf kY m r
  |_,_=>rnOf kY m r
def ca7:List OPat->Bool
 |[]=>true
 | .box _ cs::r=>cs.all (λc=>match c with
  | .yld _=>false
  |_=>true)&&ca7 r
 |_::r=>ca7 r
def bC7:List Nat->List (Bool×List (Cell U))->List (Nat×PV U)->List (Nat×PV U)
 |t::ts,(b,cs)::r,σ=>bC7 ts r (write t (match b with
  |true=>.agg cs
  |false=>match cs with
   |[c]=>.one c
   |_=>.un) σ)
 |_,_,σ=>σ
def bY5:List CPat->Option Nat
 |[.yld j]=>some j
 |_::r=>bY5 r
 |[]=>none
def bC8 (ds:List (Datum U)) (os:List OPat) (j:Nat):Option Int:=match os[j]? with
 |some (.loop q)=>match ds[q]? with
  |some ⟨.int _,st⟩=>some st
  |_=>none
 |_=>none
def bC9 (kY:Con U) (rn:List (Nat×Nat)) (ps:List Nat) (jl:Nat) (σ:List (Nat×PV U)) (ds:List (Datum U)):St U:=
 match (⟨bC7 ps (D0 kY.args (kY.ain.map (iC ds oid (λ_=>0)))) (σ.map λx=>(x.1,renP rn x.2)),iOs ds oid (λ_=>0) 0 kY.oin⟩:St U) with
 |s=>s.keep (bf4 s.σ) ((keys s.h).filter λid=>!(Nat.beq id (oid jl)))
def eqDs:List (Datum U)->List (Datum U)->Prop->Prop
 |[],[],q=>q
 |x::r,y::r',q=>eqD x y (eqDs r r' q)
 |_,_,_=>False
def ca8 (a b:PanV U):Prop:=bif Nat.beq a.t b.t&&(a.agg==b.agg) then eqDs a.ds b.ds True else False
def bf5:Nat->Nat->List (Nat×Nat)
 |_,0=>[]
 |j,n+1=>(j,oid j)::bf5 (j+1) n
def aQ7 (h:Obs U) (k:Con U) (cs:List (Cell U)):Option (Dens U.T k.tys×Mt U):=
 match mCs h k.tys k.rout cs ⟨bf5 0 k.oin.length,[],[]⟩ with
 |some m=>match mOs h k.tys 0 k.oout m with
  |some m=>bif (m.ι.all λx=>Nat.blt x.1 k.oout.length)&&!(X8 (m.ι.map (·.2)) (keys m.u)) then (match aJ8 m.ds 0 k.tys.length with
   |some ds=>match at5 U k.tys ds with
    |some xs=>some (xs,m)
    |none=>none
   |none=>none) else none
  |none=>none
 |none=>none
def nil1 (k:Con U) (p:CPat) (c:Cell U) (id:Nat) (h:Obs U):Option (Cell U×Obs U):=
 match p,c with
 | .row j,.lit (.slice none 0 0)=>match k.oout[j]? with
  |some (.row q)=>match k.tys[q]? with
   |some (.slice e t)=>match look id h with
    |none=>some (.row id 0,write id (.row e t [] 0 true) h)
    |some _=>none
   |_=>none
  |_=>none
 | .dp j,.lit (.slice none 0 0)=>match k.oout[j]? with
  |some (.dp q m)=>match k.tys[q]? with
   |some (.slice e t)=>match look id h with
    |none=>some (.dc id (.self 0),write id (.dp (.rows e t m [] 0 0 true none)) h)
    |some _=>none
   |_=>none
  |_=>none
 |_,_=>none
def an1 (k:Con U):List CPat->List (Cell U)->Nat->Obs U->List (Cell U)×Obs U
 |p::ps,c::cs,i,h=>match nil1 k p c i h with
  |some (c1,h1)=>match an1 k ps cs (i+1) h1 with
   |(cs',h')=>(c1::cs',h')
  |none=>match an1 k ps cs (i+1) h with
   |(cs',h')=>(c::cs',h')
 |[],cs,_,h=>(cs,h)
 |_::_,[],_,h=>([],h)
def bf6 (k:Con U) (xs:Dens U.T k.params) (h:Obs U) (cs:List (Cell U)):Prop:=
 match an1 k k.rout cs 999000 h with
 |(cs,h)=>match aQ7 h k cs with
  |some (r,_)=>match k.bad with
   |none=>r=k.fn xs
   |some b=>(b xs).1=false/\r=k.fn xs
  |none=>Bad 2002 0
def bD0 (k:Con U) (xs:Dens U.T k.params) (v:PanV U):Prop:=
 match k.bad with
 |none=>Bad 2005 0
 |some b=>(b xs).1=true/\ca8 (b xs).2 v
def aA4:List (Datum U)->Prop->Prop
 |[],q=>q
 |⟨.slice e t,l⟩::r,q=>Small U ⟨.slice e t,l⟩->aA4 r q
 |_::r,q=>aA4 r q
def datC:List CPat->List Nat
 |[]=>[]
 | .d k::r=>k::datC r
 |_::r=>datC r
def datO:List OPat->List Nat
 |[]=>[]
 | .box _ cs::r=>datC cs++datO r
 | .row k::r=>k::datO r
 | .dp k _::r=>k::datO r
 |_::r=>datO r
def aQ8 (ds:List (Datum U)):List Nat->List (Datum U)
 |[]=>[]
 |k::r=>match ds[k]? with
  |some d=>d::aQ8 ds r
  |none=>aQ8 ds r
def aQ9 (kY:Con U) (xs:Dens U.T kY.params) (jl:Nat) (jump:Option Code) (w:Way U) (s:St U):Prop:=
 bif (look (oid jl) s.h).isNone then (match w with
  | .normal=>bf6 kY xs (s.h++[(oid jl,.loop 0)]) [.d ⟨.bool,true⟩]
  | .ret=>match jump with
   |some .ret=>bf6 kY xs (s.h++[(oid jl,.loop 1)]) [.d ⟨.bool,false⟩]
   |_=>Bad 4010 0
  | .exit id=>match jump with
   |some (.exit id')=>bif Nat.beq id id' then bf6 kY xs (s.h++[(oid jl,.loop 1)]) [.d ⟨.bool,false⟩] else Bad 4011 0
   |_=>Bad 4011 1
  | .panic v=>bD0 kY xs v) else Bad 4012 0
def bo4 (jump:Option Code) (st:Int) (s:St U) (Q:Way U->St U->Prop):Prop:=
 match jump with
 |none=>st=0/\Q .normal s
 |some .ret=>(st=0->Q .normal s)/\(st≠0->st=1/\Q .ret s)
 |some (.exit id)=>(st=0->Q .normal s)/\(st≠0->st=1/\Q (.exit id) s)
 |some _=>Bad 4013 0
def St.less (s:St U) (ids:List Nat):St U:=s.keep (bf4 s.σ) ((keys s.h).filter λid=>!(ids.any (Nat.beq id)))
structure RF (U:Univ) where
 k:Con U
 kY:Con U
 c:CallE U
 rn:List (Nat×Nat)
 jl:Nat
 jump:Option Code
def rfOf (E:Env U) (s:St U) (g:Operand) (ps:List Nat) (a c:Code) (lid:Nat):Option (RF U):=
 match am8 (ev s.σ g) with
 |some (f,ids)=>match (E.it f).filter (λx=>x.1.gh.all λy=>(look y.2 s.h).isSome) with
  |(k,kY,mp)::_=>match aq5 (write lid (.loop 0) s.h) 64 (lid::(ids++k.gh.map (·.2))) [] with
   |R=>match ac8 (sub (write lid (.loop 0) s.h) R) [] none { k with yl:=[] } (.one (.yld lid)::ids.map λid=>.one (.ptr id 0)) with
    |some ce=>match F3 k.args (.one (.yld lid)::ids.map λid=>.one (.ptr id 0)) with
     |some cs=>match am7 (sub (write lid (.loop 0) s.h) R) k cs with
      |some (_,m)=>match bY5 kY.ain,Z7 [] c with
       |some jl,js=>bif (look lid s.h).isNone&&Nat.blt lid 1000000&&E.yl.isEmpty&&noRF a&&noRF c&&(Z7 [] a).isEmpty&&ce.news.isEmpty&&k.yl.all (λx=>Nat.beq x.1 x.2)&&ca7 kY.oin&&Nat.beq kY.args.length (ps.length+1)&&Nat.blt jl kY.oin.length
         &&(mp.all λx=>match kY.oin[x.1]? with
          |some (.row _)=>true
          |some (.ms _)=>true
          |some _=>(kY.yl.any λy=>Nat.beq y.1 x.2&&Nat.beq y.2 x.1)&&(look x.2 m.ι).isSome
          |none=>false)&&(mp.any λx=>Nat.beq x.1 jl&&(look x.2 m.ι==some lid))&&(match (D0 kY.args kY.ain)[ps.length]? with
          |some (false,[.yld j'])=>Nat.beq j' jl
          |_=>false)&&(kY.res==[(false,1)]) then (match js with
        |[]=>some ⟨k,kY,ce,rnOf kY m mp,jl,none⟩
        |[j]=>some ⟨k,kY,ce,rnOf kY m mp,jl,some j⟩
        |_=>none) else none
       |_,_=>none
      |none=>none
     |none=>none
    |none=>none
  |_=>none
 |none=>none
def bo5 (E:Env U) (s:St U):List Oper->Option (Nat×Nat×PV U×Bool×Prop)
 |[o1,o2]=>match o1.op,o1.dst,o1.guard,o2.op,o2.dst,o2.guard with
  | .move x,some j,none,.binOp op t (.tmp j') (.const (.slice none 0 0)) _,some p,none=>match (match op with
    | .eql=>some true
    | .neq=>some false
    |_=>none) with
   |some q=>bif Nat.beq j' j&&!(Nat.beq p j) then (match E.P.underlying t with
    |some (.slice _)=>match ev s.σ x with
     | .one (.d ⟨.slice e t',l⟩)=>some (j,p,.one (.d ⟨.slice e t',l⟩),q,l=[])
     |_=>none
    |_=>none) else none
   |none=>none
  |_,_,_,_,_,_=>none
 |_=>none
structure NextE (U:Univ) where
 j:Nat
 p:Nat
 id:Nat
 mid:Nat
 kt:Ty
 vt:Ty
 l:List (den U.T kt×den U.T vt)
 n:Nat
 seen:List Nat
def bo6 (s:St U):List Oper->Option (NextE U)
 |[o1,o2]=>match o1.op,o1.dst,o1.guard,o2.op,o2.dst,o2.guard with
  | .next x false,some j,none,.extract (.tmp j') 0,some p,none=>bif Nat.beq j' j&&!(Nat.beq p j) then (match ev s.σ x with
   | .one (.dc id (.it mid))=>match look id s.h,look mid s.h with
    |some (.dp (.iter (some mid') kt vt n seen _)),some (.map kt' vt' l)=>bif Nat.beq mid mid'&&(kt==kt'&&vt==vt') then some ⟨j,p,id,mid,kt',vt',l,n,seen⟩ else none
    |_,_=>none
   |_=>none) else none
  |_,_,_,_,_,_=>none
 |_=>none
def NextE.st (x:NextE U) (s:St U) (b:Bool) (h:Obs U):St U:=⟨write x.p (.one (.d ⟨.bool,b⟩)) (write x.j .un s.σ),h⟩
def NextE.wp (x:NextE U) (s:St U) (Q:St U->Prop):Prop:=
 List.length x.l=x.n/\(∀ i,i<x.n->i∉x.seen->Q (x.st s true (write x.id (.dp (.iter (some x.mid) x.kt x.vt x.n (x.seen++[i]) i)) s.h)))/\((∀ i,i<x.n->i∈x.seen)->Q (x.st s false s.h))
def at9 (t:Bool) (x y:Datum U):Option (Datum U):=
 match x.as y.1 with
 |some v=>some ⟨y.1,bif t then v else y.2⟩
 |none=>none
def aJ9 (t:Bool):Cell U->Cell U->Cell U
 | .d x,.d y=>match at9 t x y with
  |some z=>.d z
  |none=>.un
 | .lit (.slice none 0 0),.lit (.slice none 0 0)=>.lit (.slice none 0 0)
 | .d ⟨.slice e y,l⟩,.lit (.slice none 0 0)=>.d ⟨.slice e y,bif t then l else []⟩
 | .lit (.slice none 0 0),.d ⟨.slice e y,l⟩=>.d ⟨.slice e y,bif t then [] else l⟩
 | .row a b,.row a' b'=>bif Nat.beq a a'&&Nat.beq b b' then .row a b else .un
 | .ptr a b,.ptr a' b'=>bif Nat.beq a a'&&Nat.beq b b' then .ptr a b else .un
 | .map a,.map a'=>bif Nat.beq a a' then .map a else .un
 | .gl a,.gl a'=>bif Nat.beq a a' then .gl a else .un
 | .yld a,.yld a'=>bif Nat.beq a a' then .yld a else .un
 | .clo f a,.clo f' a'=>bif Nat.beq f f'&&(a==a') then .clo f a else .un
 | .bnd f a,.bnd f' a'=>bif Nat.beq f f'&&Nat.beq a a' then .bnd f a else .un
 | .dc id (.self v),.dc id' (.self v')=>bif Nat.beq id id'&&Nat.beq v v' then .dc id (.self v) else .un
 | .lit (.func (.func f) a b),.lit (.func (.func f') a' b')=>bif Nat.beq f f'&&(Nat.beq a.size 0&&Nat.beq b.size 0&&(Nat.beq a'.size 0&&Nat.beq b'.size 0)) then .lit (.func (.func f) a b) else .un
 |_,_=>.un
def zipC (t:Bool):List (Cell U)->List (Cell U)->List (Cell U)
 |x::r,y::r'=>aJ9 t x y::zipC t r r'
 |_,_=>[]
def an2 (t:Bool):PV U->PV U->PV U
 | .one x,.one y=>.one (aJ9 t x y)
 | .agg xs,.agg ys=>bif Nat.beq xs.length ys.length then .agg (zipC t xs ys) else .un
 |_,_=>.un
def aW5 (t:Bool):Ob U->Ob U->Option (Ob U)
 | .box e xs,.box e' ys=>bif Nat.beq e e'&&Nat.beq xs.length ys.length then some (.box e (zipC t xs ys)) else none
 | .row e y l v lv,.row e' y' l' v' lv'=>bif Nat.beq v v'&&(lv==lv') then (match at9 t ⟨.slice e y,l⟩ ⟨.slice e' y',l'⟩ with
  |some ⟨.slice e2 y2,l2⟩=>some (.row e2 y2 l2 v lv)
  |_=>none) else none
 | .map k v l,.map k' v' l'=>match at9 t ⟨.map k v,l⟩ ⟨.map k' v',l'⟩ with
  |some ⟨.map k2 v2,l2⟩=>some (.map k2 v2 l2)
  |_=>none
 | .loop st,.loop st'=>some (.loop (bif t then st else st'))
 | .dp (.rows e y m l v iv lv none),.dp (.rows e' y' m' l' v' iv' lv' none)=>bif (m==m'&&Nat.beq v v')&&(Nat.beq iv iv'&&(lv==lv')) then (match at9 t ⟨.slice e y,l⟩ ⟨.slice e' y',l'⟩ with
  |some ⟨.slice e2 y2,l2⟩=>some (.dp (.rows e2 y2 m l2 v iv lv none))
  |_=>none) else none
 |_,_=>none
def aK0 (t:Bool):Obs U->Obs U->Option (Obs U)
 |[],[]=>some []
 |(k,x)::r,(k',y)::r'=>bif Nat.beq k k' then (match aW5 t x y with
  |some z=>match aK0 t r r' with
   |some q=>some ((k,z)::q)
   |none=>none
  |none=>none) else none
 |_,_=>none
def aW6 (t:Bool):List (Nat×PV U)->List (Nat×PV U)->List (Nat×PV U)
 |[],_=>[]
 |(k,x)::r,σ=>match look k σ with
  |some y=>(k,an2 t x y)::aW6 t r σ
  |none=>aW6 t r σ
def St.merge (t:Bool) (ids:List Nat) (a b:St U):Option (St U):=
 match a.keep (bf4 a.σ) ids,b.keep (bf4 b.σ) ids with
 |a,b=>match aK0 t a.h b.h with
  |some h=>some ⟨aW6 t a.σ b.σ,h⟩
  |none=>none
def P0:Code->Bool
 | .skip=>true
 | .region .. =>true
 | .seq a b=>P0 a&&P0 b
 | .cond _ a b=>P0 a&&P0 b
 | .scope a=>P0 a
 | .block _ a=>P0 a
 |_=>false
def bD1:Option Prop->Option Prop->Option Prop
 |none,q=>q
 |some p,none=>some p
 |some p,some q=>some (p/\q)
def impO (b:Prop):Option Prop->Option Prop
 |none=>none
 |some p=>some (b->p)
def aq8:List (Wr U)->Option (Option Prop)
 |[]=>some none
 |x::r=>match x.pan,x.fact,aq8 r with
  |none,none,some q=>some (bD1 x.obl q)
  |_,_,_=>none
def regS (E:Env U) (X:Nat) (d:Bool) (ops:List Oper) (s:St U):Option (Option Prop×St U):=
 match at7 E ops (osOf d ops) s with
 |some [(xs,s')]=>bif !d||aJ1 [] xs (N4 (T7 d ops) (osOf d ops) []) then (match aq8 xs with
  |some p=>some (p,s'.cut X)
  |none=>none) else none
 |_=>none
def runS (E:Env U) (X:Nat):Code->St U->Option (Option Prop×St U)
 | .skip,s=>some (none,s)
 | .region _ ops d,s=>match bif d then none else bo5 E s ops.toList with
  |some _=>none
  |none=>match bif d then none else bo6 s ops.toList with
  |some _=>none
  |none=>bif !d&&(I0 ops.toList&&aW1 ops.toList) then regS E X false (ai1 E.P ops.toList) s else regS E X d ops.toList s
 | .seq a b,s=>match runS E X a s with
  |some (p,s1)=>match runS E X b s1 with
   |some (q,s2)=>some (bD1 p q,s2)
   |none=>none
  |none=>none
 | .cond c a b,s=>match ev s.σ c with
  | .one (.d ⟨.bool,t⟩)=>match runS E X a s with
   |some (p,s1)=>match runS E X b s with
    |some (q,s2)=>match St.merge t (keys s.h) s1 s2 with
     |some m=>some (bD1 (impO (t=true) p) (impO (t=false) q),m)
     |none=>none
    |none=>none
   |none=>none
  |_=>none
 | .scope a,s=>runS E X a s
 | .block _ a,s=>runS E X a s
 |_,_=>none
def ca9:Option Prop->Prop->Prop
 |none,q=>q
 |some p,q=>p/\q
def wpc (E:Env U) (X:Nat) (L:Nat->St U->Ann U):Code->Nat->St U->(Way U->St U->Prop)->Prop
 | .skip,_,s,Q=>Q .normal s
 | .region id ops d,_,s,Q=>match bif d then none else bo5 E s ops.toList with
  |some (j,p,v,q,e)=>∀ b:Bool,(b=true->e)->Q .normal ⟨write p (.one (.d ⟨.bool,bif q then b else !b⟩)) (write j v s.σ),s.h⟩
  |none=>match bif d then none else bo6 s ops.toList with
  |some x=>x.wp s (Q .normal)
  |none=>bif !d&&(I0 ops.toList&&aW1 ops.toList) then region E X id false (ai1 E.P ops.toList) s (λ_ _=>False) (Q .normal) else region E X id d ops.toList s (λv=>Q (.panic v)) (Q .normal)
 | .seq a b,n,s,Q=>wpc E X L a n s (λe s'=>match e with
   | .normal=>wpc E X L b (n+Z8 a) s' Q
   |e=>Q e s')
 | .cond c a b,n,s,Q=>match bif E.mg&&P0 (.cond c a b) then runS E X (.cond c a b) s else none with
  |some (p,s')=>ca9 p (Q .normal s')
  |none=>match ev s.σ c with
   | .one (.d ⟨.bool,t⟩)=>(t=true->wpc E X L a n s Q)/\(t=false->wpc E X L b (n+Z8 a) s Q)
   |_=>Bad 4000 n
 | .block id a,n,s,Q=>wpc E X L a n s (λe s'=>match e with
   | .exit id'=>if Nat.beq id' id then Q .normal s' else Q (.exit id') s'
   |e=>Q e s')
 | .loop a,n,s,Q=>match L n s with
  |A=>match S7 s A.nils with
  |s=>match s.keep (Q6 s a A) (keys s.h) with
  |s0=>(∃ p,eqSt s0 (at8 s0 A.at_ (A7 U A.tys p)) (A.inv p))/\
   ∀ p,A.inv p->wpc E X L a (n+1) (at8 s0 A.at_ (A7 U A.tys p)) (λe s'=>match e with
    | .normal=>match S7 s' (ca6 A.nils) with
     |s'=>∃ p',eqSt (s'.keep (Q6 s a A) (keys s.h)) (at8 s0 A.at_ (A7 U A.tys p')) (A.inv p'/\A.μ p'<A.μ p)
    |e=>Q e s')
 | .exit id,_,s,Q=>Q (.exit id) s
 | .label _,_,s,Q=>Q .normal s
 | .scope a,n,s,Q=>wpc E X L a n s Q
 | .ret,_,s,Q=>Q .ret s
 | .rangeFunc g ps a c,n,s,Q=>match S7 s (L (n+(Z8 a+Z8 c)) s).nils with
  |s=>match rfOf E s g ps.toList a c (990000+n) with
  |some r=>(∀ xs:Dens U.T r.kY.params,holds (r.kY.pre.map λp=>p xs)->aA4 (aQ8 (A7 U r.kY.params xs) (datC r.kY.ain++datO r.kY.oin)) (match bC8 (A7 U r.kY.params xs) r.kY.oin r.jl with
    |some st=>st=0/\wpc E X L a n (bC9 r.kY r.rn ps.toList r.jl s.σ (A7 U r.kY.params xs)) (λe s'=>match e with
     | .normal=>wpc E X L c (n+Z8 a) s' (aQ9 r.kY xs r.jl r.jump)
     |_=>Bad 4014 n)
    |none=>Bad 4015 n))/\
   holds r.c.e.obl/\(match r.c.pan with
    |some (b,v)=>(b=true->Q (.panic v) ((⟨s.σ,write (990000+n) (.loop 0) s.h⟩:St U).less (keys r.c.e.upd++r.c.lost)))/\(b=false->(match look (990000+n) (upds (write (990000+n) (.loop 0) s.h) r.c.e.upd) with
     |some (.loop st)=>bo4 r.jump st ((⟨s.σ,upds (write (990000+n) (.loop 0) s.h) r.c.e.upd⟩:St U).less [990000+n]) Q
     |_=>Bad 4016 n))
    |none=>match look (990000+n) (upds (write (990000+n) (.loop 0) s.h) r.c.e.upd) with
     |some (.loop st)=>bo4 r.jump st ((⟨s.σ,upds (write (990000+n) (.loop 0) s.h) r.c.e.upd⟩:St U).less [990000+n]) Q
     |_=>Bad 4016 n)
  |none=>Bad 4017 n
 |_,n,_,_=>Bad 4001 n
def ad3 (P:Program) (s:St U):List ResultVar->Option (List (PV U))
 |[]=>some []
 | .tmp t::r=>(ad3 P s r).map (ev s.σ (.tmp t)::·)
 | .cell a t::r=>match ev s.σ (.tmp a) with
  | .one (.ptr id off)=>match look id s.h with
   |some (.box _ cs)=>match az6 P t (cs.drop off) with
    |some v=>(ad3 P s r).map (v::·)
    |none=>none
   |_=>none
  |_=>none
def aW7:List (Bool×List (Cell U))->Nat->List (Nat×PV U)
 |[],_=>[]
 |(b,cs)::r,i=>(i,match b with
  |true=>.agg cs
  |false=>match cs with
   |[c]=>.one c
   |_=>.un)::aW7 r (i+1)
def St.init (k:Con U) (ds:List (Datum U)):St U:=⟨aW7 (D0 k.args (k.ain.map (iC ds oid (λ_=>0)))) 0,iOs ds oid (λ_=>0) 0 k.oin⟩
def post (P:Program) (f:Func) (k:Con U) (xs:Dens U.T k.params) (s:St U):Prop:=
 match ad3 P s f.results.toList with
 |some vs=>match F3 k.res vs with
  |some cs=>bf6 k xs s.h cs
  |none=>Bad 2001 0
 |none=>Bad 2000 0
def vc (E:Env U) (L:Nat->St U->Ann U) (f:Func) (k:Con U) (xs:Dens U.T k.params):Prop:=
 match f.body with
 |some b=>bif J7 f.ntmps b&&Nat.ble k.args.length f.ntmps&&(noRF b||E.yl.isEmpty) then aA4 (aQ8 (A7 U k.params xs) (datC k.ain++datO k.oin)) (wpc E (cm5 f b) L b 0 (St.init k (A7 U k.params xs)) (λe s=>match e with
   | .exit _=>Bad 3002 0
   | .panic v=>bD0 k xs v
   |_=>post E.P f k xs s)) else Bad 3001 0
 |none=>Bad 3000 0
end
end Go.VT
end
section
namespace Go.VT
noncomputable section
open Go.RowKit
variable {U:Univ}
def D5:Value->Option Nat
 | .pointer (some a)=>some a.block
 | .slice (some a) _ _=>some a.block
 | .map (some b)=>some b
 | .func (.yield l) _ _=>some l
 |_=>none
def Has:Value->Nat->Prop
 | .tuple vs,b=>∃ u∈vs.toList,D5 u=some b
 |v,b=>D5 v=some b
structure Nm where
 v:Nat->Value
 M:Nat->Prop
 lp:Nat->Loop×(Int->Option Code)
instance:CoeFun Nm (λ_=>Nat->Value):=⟨Nm.v⟩
structure Fr where
 B:Nat
 w0:World
 K:Nat->Prop
 M:Nat->Prop
 nm:Nat->Option (Value×Loop×(Int->Option Code))
 G:List (Nat×Glob)
def VIs (w:World) (M:Nat->Prop) (t:Ty) (x:den U.T t) (v:Value):Prop:=
 ∃ vs:List Value,v=aV4 (G7 t) vs/\vs.length=szOf U t/\(∀ u∈vs,u.oneCell'=true)/\∀ (j:Nat) (d:Datum U) (u:Value),(B1 U t x)[j]? =some d->vs[j]? =some u->Rep U w M d u
theorem VIs.mono {w w':World} {M M':Nat->Prop} (hs:w.heap.size<=w'.heap.size) (a:∀ b,b<w.heap.size->¬ M b->w'.heap[b]? =w.heap[b]?) (hM:∀ b,b<w.heap.size->M' b->M b) {t:Ty} {x:den U.T t} {v:Value} (h:VIs w M t x v):VIs w' M' t x v:=by obtain ⟨vs,h1,h2,h3,h4⟩:=h;exact ⟨vs,h1,h2,h3,λj d u c e=>(h4 j d u c e).mono hs a hM⟩
def Own (β:Nm) (h:Obs U) (b:Nat):Prop:=∃ id o,look id h=some o/\o.live=true/\Has (β id) b
def Owns (w:World) (B:Nat) (e:TypeId) (size:Nat) (v:Value) (n:Nat) (xs:List Value):Prop:=
 xs.length=n*size/\((v=.slice none 0 0/\n=0)\/
  ∃ g cap cur,v=.slice (some ⟨g,0,none⟩) n cap/\B<=g/\w.heap[g]? =some (.cells cur e (0,0))/\n<=cap/\cap<=maxLen/\cap*size<=cur.size/\cur.toList.take (n*size)=xs)
theorem Owns.of {w:World} {B:Nat} {e:TypeId} {size:Nat} {v:Value} {n:Nat} {xs:List Value} (h:w.ownsRow B e size v n xs):Owns w B e size v n xs:=by
 obtain ⟨h1,h2⟩:=h;refine ⟨h1,?_⟩;rcases h2 with h2|⟨g,cap,cur,a,b,c,d,f,i,j⟩
 .exact .inl h2
 .exact .inr ⟨g,cap,cur,a,b,c,d,f,Nat.le_of_eq i.symm,j⟩
theorem Owns.lt {w:World} {B:Nat} {e:TypeId} {size:Nat} {v:Value} {n:Nat} {xs:List Value} (h:Owns w B e size v n xs) {b:Nat} (a:D5 v=some b):B<=b/\b<w.heap.size:=by
 rcases h.2 with ⟨h3,_⟩|⟨g,cap,cur,h3,hB,hg,_⟩
 .rw [h3] at a;simp [D5] at a
 .rw [h3] at a;simp only [D5,cn4] at a;subst a;exact ⟨hB,(cp2.1 hg).1⟩
theorem Owns.kept {w w':World} {B:Nat} {e:TypeId} {size:Nat} {v:Value} {n:Nat} {xs:List Value} (h:Owns w B e size v n xs) (d:∀ b,D5 v=some b->w'.heap[b]? =w.heap[b]?):Owns w' B e size v n xs:=by
 obtain ⟨h4,a⟩:=h;refine ⟨h4,?_⟩;rcases a with a|⟨g,cap,cur,c,hg,f,r⟩
 .exact .inl a
 .exact .inr ⟨g,cap,cur,c,hg,by rw [d g (by rw [c];rfl)];exact f,r⟩
theorem Owns.cells {w:World} {B:Nat} {e:TypeId} {size:Nat} {v:Value} {n:Nat} {xs:List Value} (h:Owns w B e size v n xs) {g:Nat} (hg:D5 v=some g):∀ j u,xs[j]? =some u->w.cell? ⟨g,j,none⟩=some u:=by
 intro j u a;rcases h.2 with ⟨h3,_⟩|⟨g',cap,cur,h3,hB,b,_,_,_,c⟩
 .rw [h3] at hg;simp [D5] at hg
 .rw [h3] at hg;simp only [D5,cn4] at hg;subst hg;rw [<-c,List.getElem?_take] at a;split at a
  .have hc:cur[j]? =some u:=by simpa using a
   simp [World.cell?,b,hc]
  .cases a
theorem Owns.has {w:World} {B:Nat} {e:TypeId} {size:Nat} {v:Value} {n:Nat} {xs:List Value} (h:Owns w B e size v n xs) {b:Nat} (a:D5 v=some b):Has v b:=by rcases h.2 with ⟨h3,_⟩|⟨_,_,_,h3,_⟩<;>rw [h3] at a |-<;>exact a
theorem Owns.has' {w:World} {B:Nat} {e:TypeId} {size:Nat} {v:Value} {n:Nat} {xs:List Value} (h:Owns w B e size v n xs) {b:Nat} (a:Has v b):D5 v=some b:=by rcases h.2 with ⟨h3,_⟩|⟨_,_,_,h3,_⟩<;>rw [h3] at a |-<;>exact a
def RowC (B:Nat) (w:World) (L:Nat->Prop) (e:TypeId) (t:Ty) (l:List (den U.T t)) (v:Value):Prop:=
 ∃ xs:List Value,Owns w B e (szOf U t) v l.length xs/\l.length<=most/\(∀ v∈xs,v.oneCell'=true)/\
  ∀ (i:Nat) (x:den U.T t),l[i]? =some x->∀ (j:Nat) (d:Datum U),(B1 U t x)[j]? =some d->∃ u,xs[i*szOf U t+j]? =some u/\Rep U w L d u
theorem RowC.map {B:Nat} {w w':World} {L L':Nat->Prop} {e:TypeId} {t:Ty} {l:List (den U.T t)} {v:Value} (a:∀ d v,Rep U w L d v->Rep U w' L' d v) (c:∀ b,D5 v=some b->w'.heap[b]? =w.heap[b]?) (r:RowC B w L e t l v):RowC B w' L' e t l v:=by obtain ⟨xs,h1,h2,h3,h4⟩:=r;refine ⟨xs,h1.kept c,h2,h3,λi x f j d g=>?_⟩;obtain ⟨u,h,hr⟩:=h4 i x f j d g;exact ⟨u,h,a _ _ hr⟩
def midx (kt:Ty) {β:Type} (l:List (den U.T kt×β)) (k:den U.T kt):Option Nat:=mget (E6 U kt) (l.mapIdx λi x=>(x.1,i)) k
def DCRel (D:Deep U) (N:Value) (c:DC U) (v:Value):Prop:=
 match D,c with
 | .rows e t m l ver iv lv hole,.self v0=>v0<=ver/\(v0=ver->∃ vs:Array Value,N=.tuple vs/\vs[0]? =some v)
 | .rows e t m l ver iv lv hole,.elt v0 i off=>v0<=ver/\(v0=ver->0<=i/\i<(l.length:Int)/\∃ (vs:Array Value) (g c:Nat),N=.tuple vs/\vs[0]? =some (.slice (some ⟨g,0,none⟩) l.length c)/\v=.pointer (some ⟨g,i.toNat*szOf U t+off,none⟩))
 | .rows e t m l ver iv lv hole,.inn v0 i j=>v0<=iv/\(v0=iv->0<=i/\i<(l.length:Int)/\m.any (Nat.beq j)=true/\∃ vs:Array Value,N=.tuple vs/\vs[1+(i.toNat*szOf U t+j)]? =some v)
 | .rows e t m l ver iv lv hole,.iat v0 i j k off=>v0<=iv/\(v0=iv->0<=i/\i<(l.length:Int)/\m.any (Nat.beq j)=true/\0<=k/\∃ (vs:Array Value) (g c:Nat) (e':TypeId) (t':Ty) (l':List (den U.T t')),N=.tuple vs/\vs[1+(i.toNat*szOf U t+j)]? =some (.slice (some ⟨g,0,none⟩) l'.length c)/\
   I9 t l i j=some ⟨.slice e' t',l'⟩/\k<(l'.length:Int)/\v=.pointer (some ⟨g,k.toNat*szOf U t'+off,none⟩))
 | .maps kt e t l ver iv lv hole,.self v0=>v0<=ver/\(v0=ver->∃ vs:Array Value,N=.tuple vs/\vs[0]? =some v)
 | .maps kt e t l ver iv lv hole,.key v0 d=>v0<=iv/\(v0=iv->∃ (k:den U.T kt) (vs:Array Value),d=⟨kt,k⟩/\N=.tuple vs/\((∃ i,midx kt l k=some i/\vs[1+i]? =some v)\/midx kt l k=none/\v=.slice none 0 0))
 | .iter mid kt vt n seen cur,.it mid'=>mid=some mid'/\v=N
 |_,_=>False
def Live (β:Nm) (h:Obs U) (b:Nat):Prop:=β.M b\/Own β h b
def CRel (w:World) (β:Nm) (h:Obs U):Cell U->Value->Prop
 | .un,_=>True
 | .d x,v=>Rep U w (Live β h) x v
 | .row id ver,v=>∃ e t l ver' lv,look id h=some (.row e t l ver' lv)/\ver<=ver'/\(ver=ver'->v=β id)
 | .ptr id off,v=>∃ e cs b,look id h=some (.box e cs)/\β id=.pointer (some ⟨b,0,none⟩)/\v=.pointer (some ⟨b,off,none⟩)
 | .elt id ver i off,v=>∃ e t l ver' lv,look id h=some (.row e t l ver' lv)/\ver<=ver'/\(ver=ver'->0<=i/\i<(l.length:Int)/\
   ∃ g c,β id=.slice (some ⟨g,0,none⟩) l.length c/\v=.pointer (some ⟨g,i.toNat*szOf U t+off,none⟩))
 | .rd cs off,v=>∃ g o,v=.pointer (some ⟨g,o+off,none⟩)/\¬ Live β h g/\g<w.heap.size/\
   ∀ (j:Nat) (d:Datum U),cs[j]? =some d->∃ u,w.cell? ⟨g,o+j,none⟩=some u/\Rep U w (Live β h) d u
 | .gl g,v=>v=.pointer (some ⟨g,0,none⟩)
 | .lit u,v=>v=u
 | .map id,v=>∃ kt vt l,look id h=some (.map kt vt l)/\v=β id
 | .clo f ids,v=>∃ bs:List Nat,v=.func (.func f) #[] (bs.map λb=>Value.pointer (some ⟨b,0,none⟩)).toArray/\bs.length=ids.length/\
   ∀ (j id b:Nat),ids[j]? =some id->bs[j]? =some b->∃ e cs,look id h=some (.box e cs)/\β id=.pointer (some ⟨b,0,none⟩)
 | .yld id,v=>∃ st,look id h=some (.loop st)/\v=β id
 | .ifc t b ds,v=>∃ vs:List Value,v=.iface t (aV4 b vs)/\vs.length=ds.length/\(b=false->vs.length=1)/\(∀ u∈vs,u.oneCell'=true)/\∀ (j:Nat) (d:Datum U) (u:Value),ds[j]? =some d->vs[j]? =some u->Rep U w (Live β h) d u
 | .tab g i,v=>0<=i/\v=.pointer (some ⟨g,i.toNat,none⟩)
 | .tabf fs i,v=>∃ f,fs[i.toNat]? =some f/\v=.func (.func f) #[] #[]
 | .dc id c,v=>∃ D,look id h=some (.dp D)/\DCRel D (β id) c v
 | .bnd f id,v=>∃ e cs b,look id h=some (.box e cs)/\β id=.pointer (some ⟨b,0,none⟩)/\v=.func (.func f) #[.pointer (some ⟨b,0,none⟩)] #[]
def InnR (B:Nat) (w:World) (L:Nat->Prop) (m:List Nat) (hole:Option (Int×Nat)) (i j:Nat) (d:Datum U) (u n:Value):Prop:=
 (m.any (Nat.beq j)=true->((∃ hi:Int,hole=some (hi,j)/\hi.toNat=i)->n=undef)/\((¬ ∃ hi:Int,hole=some (hi,j)/\hi.toNat=i)->n=u/\∃ (e:TypeId) (t:Ty) (l:List (den U.T t)),d=⟨.slice e t,l⟩/\RowC B w L e t l u))/\
 (m.any (Nat.beq j)=false->n=undef/\Rep U w L d u)
def DRel (B:Nat) (w:World) (β:Nm) (h:Obs U) (D:Deep U) (N:Value):Prop:=
 match D with
 | .rows e t m l ver iv lv hole=>∃ (root:Value) (xs ns:List Value),N=.tuple (root::ns).toArray/\Owns w B e (szOf U t) root l.length xs/\l.length<=most/\(∀ v∈xs,v.oneCell'=true)/\ns.length=xs.length/\
   (∀ (i:Nat) (x:den U.T t),l[i]? =some x->∀ (j:Nat) (d:Datum U),(B1 U t x)[j]? =some d->∃ u n,xs[i*szOf U t+j]? =some u/\ns[i*szOf U t+j]? =some n/\InnR B w (Live β h) m hole i j d u n)/\
   (∀ (p q:Nat) (a c:Value) (b:Nat),ns[p]? =some a->ns[q]? =some c->D5 a=some b->D5 c=some b->p=q)/\(∀ (p:Nat) (a:Value) (b:Nat),ns[p]? =some a->D5 a=some b->D5 root≠some b)
 | .maps kt e t l ver iv lv hole=>∃ (b:Nat) (es:Array MapEntry) (clock:Nat) (ns:List Value),N=.tuple ((.map (some b):Value)::ns).toArray/\B<=b/\w.heap[b]? =some (.map es clock)/\(es.size=l.length/\clock=es.size/\∀ (i:Nat) (e:MapEntry),es[i]? =some e->e.born=i)/\ns.length=l.length/\
   (∀ (i:Nat) (x:den U.T kt×List (den U.T t)) (en:MapEntry) (n:Value),l[i]? =some x->es[i]? =some en->ns[i]? =some n->VIs w (Live β h) kt x.1 en.key/\((∃ k,hole=some k/\midx kt l k=some i)->n=undef)/\((¬ ∃ k,hole=some k/\midx kt l k=some i)->n=en.val/\RowC B w (Live β h) e t x.2 n))/\
   (∀ (p q:Nat) (a c:Value) (b:Nat),ns[p]? =some a->ns[q]? =some c->D5 a=some b->D5 c=some b->p=q)/\(∀ (p:Nat) (a:Value),ns[p]? =some a->D5 a≠some b)
 | .iter mid kt vt n seen cur=>∃ r b last,N=.pointer (some ⟨r,0,none⟩)/\B<=r/\w.heap[r]? =some (.mapIter (some b) n seen.toArray last)/\(seen≠[]->0<last/\last=n)/\∀ m,mid=some m->CRel w β h (.map m) (.map (some b))
theorem VIs.by {w w':World} {M M':Nat->Prop} (a:∀ d v,Rep U w M d v->Rep U w' M' d v) {t:Ty} {x:den U.T t} {v:Value} (h:VIs w M t x v):VIs w' M' t x v:=by obtain ⟨vs,h1,h2,h3,h4⟩:=h;exact ⟨vs,h1,h2,h3,λj d u b c=>a _ _ (h4 j d u b c)⟩
theorem DRel.mapM {B:Nat} {w w':World} {β β':Nm} {h h':Obs U} {kt:Ty} {e:TypeId} {t:Ty} {l:List (den U.T kt×List (den U.T t))} {ver iv ver' iv':Nat} {lv lv':Bool} {hole:Option (den U.T kt)} {N:Value}
  (a:∀ d v,Rep U w (Live β h) d v->Rep U w' (Live β' h') d v)
  (g:∀ b,Has N b->w'.heap[b]? =w.heap[b]?) (r:DRel B w β h (.maps kt e t l ver iv lv hole) N):DRel B w' β' h' (.maps kt e t l ver' iv' lv' hole) N:=by
 obtain ⟨b,es,clock,ns,k,h1,h2,h3,h4,m,o,p⟩:=r;subst k;refine ⟨b,es,clock,ns,rfl,h1,by rw [g b ⟨.map (some b),by simp,rfl⟩];exact h2,h3,h4,λi x en n q c j=>?_,o,p⟩;obtain ⟨s,u,y⟩:=m i x en n q c j;refine ⟨s.by a,u,λz=>?_⟩;obtain ⟨A,C⟩:=y z;refine ⟨A,C.map a (λb f=>g b ⟨n,?_,f⟩)⟩;simp only [List.mem_cons];exact .inr (List.mem_of_getElem? j)
theorem DRel.map {B:Nat} {w w':World} {β β':Nm} {h h':Obs U} {D:Deep U} {N:Value} (a:∀ d v,Rep U w (Live β h) d v->Rep U w' (Live β' h') d v) (f:∀ mid v,CRel w β h (.map mid) v->CRel w' β' h' (.map mid) v)
  (g:∀ b,Has N b->w'.heap[b]? =w.heap[b]?) (r:DRel B w β h D N):DRel B w' β' h' D N:=by
 cases D with
 |rows e t m l ver iv lv hole=>obtain ⟨root,xs,ns,k,h1,h2,h3,h4,z,A,C⟩:=r;subst k;refine ⟨root,xs,ns,rfl,h1.kept (λb c=>g b ⟨root,by simp,c⟩),h2,h3,h4,λi x E j d F=>?_,A,C⟩;obtain ⟨u,n,G,o,p,s⟩:=z i x E j d F;refine ⟨u,n,G,o,λhm=>⟨(p hm).1,λH=>?_⟩,λhm=>⟨(s hm).1,a _ _ (s hm).2⟩⟩;obtain ⟨y,e',t',l',I,J⟩:=(p hm).2 H;refine ⟨y,e',t',l',I,J.map a (λb c=>g b ⟨n,?_,by rw [y];exact c⟩)⟩;simp only [List.mem_cons];exact .inr (List.mem_of_getElem? o)
 |maps kt e t l ver iv lv hole=>exact DRel.mapM a g r
 |iter mid kt vt n seen cur=>obtain ⟨q,b,last,k,h1,h2,h3,h4⟩:=r;subst k;exact ⟨q,b,last,rfl,h1,by rw [g q rfl];exact h2,h3,λm hm=>f _ _ (h4 m hm)⟩
theorem DRel.mapR {B:Nat} {w w':World} {β β':Nm} {h h':Obs U} {e:TypeId} {t:Ty} {m:List Nat} {l:List (den U.T t)} {ver iv ver' iv':Nat} {lv lv':Bool} {hole:Option (Int×Nat)} {N:Value} (a:∀ d v,Rep U w (Live β h) d v->Rep U w' (Live β' h') d v)
  (f:∀ b,Has N b->w'.heap[b]? =w.heap[b]?) (r:DRel B w β h (.rows e t m l ver iv lv hole) N):DRel B w' β' h' (.rows e t m l ver' iv' lv' hole) N:=by
 obtain ⟨root,xs,ns,q,h1,h2,h3,h4,s,y,z⟩:=r;subst q;refine ⟨root,xs,ns,rfl,h1.kept (λb c=>f b ⟨root,by simp,c⟩),h2,h3,h4,λi x A j d C=>?_,y,z⟩;obtain ⟨u,n,D,g,k,o⟩:=s i x A j d C;refine ⟨u,n,D,g,λhm=>⟨(k hm).1,λE=>?_⟩,λhm=>⟨(o hm).1,a _ _ (o hm).2⟩⟩;obtain ⟨p,e',t',l',F,G⟩:=(k hm).2 E;refine ⟨p,e',t',l',F,G.map a (λb c=>f b ⟨n,?_,by rw [p];exact c⟩)⟩;simp only [List.mem_cons];exact .inr (List.mem_of_getElem? g)
theorem DRel.blk {B:Nat} {w:World} {β:Nm} {h:Obs U} {D:Deep U} {N:Value} (r:DRel B w β h D N) {b:Nat} (f:Has N b):B<=b/\b<w.heap.size:=by
 cases D with
 |rows e t m l ver iv lv hole=>
  obtain ⟨root,xs,ns,i,h1,h2,h3,h4,z,F,G⟩:=r;subst i;obtain ⟨u,d,a⟩:=f;simp only [List.mem_cons] at d;rcases d with rfl|d
  .exact h1.lt a
  .obtain ⟨p,j⟩:=List.mem_iff_getElem?.1 d;have c:p<ns.length:=(cn9.1 j).1;rw [h4,h1.1] at c;have o:0<szOf U t:=by
    rcases Nat.eq_zero_or_pos (szOf U t) with h0|h0
    .rw [h0,Nat.mul_zero] at c;omega
    .exact h0
   have x:p / szOf U t<l.length:=by rw [Nat.div_lt_iff_lt_mul o];exact c
   have H:p % szOf U t<(B1 U t l[p / szOf U t]).length:=by rw [B0];exact Nat.mod_lt _ o
   obtain ⟨u',n,I,g,y,J⟩:=z _ _ (cn6 x) _ _ (cn6 H);have A:p / szOf U t*szOf U t+p % szOf U t=p:=by rw [Nat.mul_comm];exact Nat.div_add_mod _ _
   rw [A] at g;rw [j] at g;simp only [cn4] at g;subst g;have s:D5 undef=Option.none:=rfl;cases hm:m.any (Nat.beq (p % szOf U t)) with
   |false=>rw [(J hm).1,s] at a;cases a
   |true=>
    by_cases v:∃ x:Int,hole=some (x,p % szOf U t)/\x.toNat=p / szOf U t
    .rw [(y hm).1 v,s] at a;cases a
    .obtain ⟨K,e',t',l',L,ys,C,_⟩:=(y hm).2 v;rw [K] at a;exact C.lt a
 |maps kt e t l ver iv lv hole=>
  obtain ⟨b',es,clock,ns,i,h1,h2,h3,h4,z,F,G⟩:=r;subst i;obtain ⟨u,d,a⟩:=f;simp only [List.mem_cons] at d;rcases d with rfl|d
  .simp only [D5,cn4] at a;subst a;exact ⟨h1,(cp2.1 h2).1⟩
  .obtain ⟨p,j⟩:=List.mem_iff_getElem?.1 d;have c:p<l.length:=by rw [<-h4];exact (cn9.1 j).1
   have E:p<es.size:=by omega
   obtain ⟨I,g,y⟩:=z p _ _ _ (cn6 c) (cp1 E) j;by_cases v:∃ k,hole=some k/\midx kt l k=some p
   .rw [g v] at a;cases a
   .obtain ⟨_,ys,C,_⟩:=y v;exact C.lt a
 |iter mid kt vt n seen cur=>obtain ⟨q,b',last,i,h1,h2,h3,h4⟩:=r;subst i;have f:some q=some b:=f;simp only [cn4] at f;subst f;exact ⟨h1,(cp2.1 h2).1⟩
def CsRel (w:World) (β:Nm) (h:Obs U) (cs:List (Cell U)) (vs:List Value):Prop:=
 vs.length=cs.length/\(∀ v∈vs,v.oneCell'=true)/\∀ (j:Nat) (c:Cell U) (v:Value),cs[j]? =some c->vs[j]? =some v->CRel w β h c v
def VRel (w:World) (β:Nm) (h:Obs U) (x:Bool×List (Cell U)) (v:Value):Prop:=
 match x.1 with
 |true=>∃ vs:List Value,v=.agg vs.toArray/\CsRel w β h x.2 vs
 |false=>CsRel w β h x.2 [v]
def CondG (σ:List (Nat×PV U)) (gs:List (Nat×Bool)):Prop:=∀ g∈gs,M9 σ g.1=some g.2
def PRel (w:World) (β:Nm) (h:Obs U) (σ:List (Nat×PV U)):PV U->Value->Prop
 | .un,_=>True
 | .one c,v=>CsRel w β h [c] [v]
 | .agg cs,v=>VRel w β h (true,cs) v
 | .tup xs,v=>∃ vs:List Value,v=.tuple vs.toArray/\vs.length=xs.length/\∀ (j:Nat) (x:Bool×List (Cell U)) (u:Value),xs[j]? =some x->vs[j]? =some u->VRel w β h x u
 | .opt gs p,v=>(CondG σ gs->PRel w β h σ p v)/\(¬ CondG σ gs->v=undef)
def ORel (B:Nat) (w:World) (β:Nm) (h:Obs U) (id:Nat):Ob U->Prop
 | .box e cs=>∃ b vs,β id=.pointer (some ⟨b,0,none⟩)/\B<=b/\w.heap[b]? =some (.cells vs e (0,0))/\CsRel w β h cs vs.toList
 | .row e t l ver lv=>∃ xs:List Value,Owns w B e (szOf U t) (β id) l.length xs/\l.length<=most/\(∀ v∈xs,v.oneCell'=true)/\
   ∀ (i:Nat) (x:den U.T t),l[i]? =some x->∀ (j:Nat) (d:Datum U),(B1 U t x)[j]? =some d->∃ u,xs[i*szOf U t+j]? =some u/\Rep U w (Live β h) d u
 | .map kt vt l=>∃ b es clock,β id=.map (some b)/\B<=b/\w.heap[b]? =some (.map es clock)/\(es.size=l.length/\clock=es.size/\∀ (i:Nat) (e:MapEntry),es[i]? =some e->e.born=i)/\
   ∀ (i:Nat) (x:den U.T kt×den U.T vt) (e:MapEntry),l[i]? =some x->es[i]? =some e->VIs w (Live β h) kt x.1 e.key/\VIs w (Live β h) vt x.2 e.val
 | .loop st=>∃ b r,β id=.func (.yield b) #[] #[]/\B<=b/\w.heap[b]? =some (.loop r)/\r={ (β.lp id).1 with state:=if st=0 then .ready else .done,pending:=(β.lp id).2 st }
 | .dp D=>DRel B w β h D (β id)
structure Ok (F:Fr) (w:World) (β:Nm) (h:Obs U):Prop where
 bel:Below F.B F.w0 w
 hB:F.B<=w.heap.size
 obj:∀ id o,look id h=some o->ORel F.B w β h id o
 dis:∀ id o id' o' b,look id h=some o->look id' h=some o'->Has (β id) b->Has (β id') b->id=id'
 frm:∀ b,b<F.w0.heap.size->¬ F.K b->w.heap[b]? =F.w0.heap[b]?
 own:∀ id o b,look id h=some o->Has (β id) b->F.K b\/F.w0.heap.size<=b
 Mo:∀ id o b,look id h=some o->Has (β id) b->¬ β.M b
 Mlt:∀ b,β.M b->b<F.w0.heap.size
 Meq:β.M=F.M
 fix:∀ id o v,look id h=some o->F.nm id=some v->o.isRow=true\/(β id,β.lp id)=v
 nmg:∀ id v,F.nm id=some v->1000000<=id
 glo:∀ g fs,(g,fs)∈F.G->g<F.w0.heap.size/\¬ F.K g/\∀ i f,fs.cell i=some f->F.w0.cell? ⟨g,i,none⟩=some f
def Ob.like:Ob U->Ob U->Prop
 | .map k v _,.map k' v' _=>k=k'/\v=v'
 | .loop _,.loop _=>True
 |_,_=>False
def Ob.oth:Ob U->Bool
 | .map .. =>true
 | .loop _=>true
 |_=>false
structure Rel (F:Fr) (n:Nat) (β:Nm) (s:St U) (tmps:Array Value) (w:World):Prop extends Ok F w β s.h where
 sz:tmps.size=n
 tmp:∀ t p,look t s.σ=some p->PRel w β s.h s.σ p (tmps.getD t undef)
theorem N0 {k j:Nat} (e:¬ k=j):Nat.beq k j=false:=by
 cases h:Nat.beq k j
 .rfl
 .exact absurd (cn5 h) e
theorem A5 {α:Type} (k j:Nat) (a:α):∀ l:List (Nat×α),look j (write k a l)=if j=k then some a else look j l
 |[]=>by
  by_cases e:k=j
  .subst e;simp [write,look]
  .simp [write,look,N0 e,Ne.symm e]
 |(i,b)::r=>by
  by_cases e:i=k
  .subst e;by_cases e':i=j
   .subst e';simp [write,look]
   .simp [write,look,N0 e',Ne.symm e']
  .by_cases e':i=j
   .subst e';simp [write,look,N0 e,e]
   .simp only [write,N0 e,look,N0 e',Bool.false_eq_true,if_false];exact A5 k j a r
structure Ext (w:World) (β:Nm) (h:Obs U) (w':World) (β':Nm) (h':Obs U):Prop where
 size:w.heap.size<=w'.heap.size
 heap:∀ b,b<w.heap.size->¬ Own β h b->w'.heap[b]? =w.heap[b]?
 own:∀ b,b<w.heap.size->Own β' h' b->Own β h b
 M:β'.M=β.M
 box:∀ id e cs,look id h=some (.box e cs)->β' id=β id/\∃ cs',look id h'=some (.box e cs')
 row:∀ id e t l ver lv,look id h=some (.row e t l ver lv)->∃ l' ver' lv',look id h'=some (.row e t l' ver' lv')/\ver<=ver'/\(ver'=ver->β' id=β id/\l'.length=l.length)
 oth:∀ id o,look id h=some o->o.oth=true->β' id=β id/\β'.lp id=β.lp id/\∃ o',look id h'=some o'/\Ob.like o o'
 dp:∀ id D,look id h=some (.dp D)->∃ D',look id h'=some (.dp D')/\∀ c v,DCRel D (β id) c v->DCRel D' (β' id) c v
theorem Ext.live {w w':World} {β β':Nm} {h h':Obs U} (x:Ext w β h w' β' h') (b:Nat) (a:b<w.heap.size) (hl:Live β' h' b):Live β h b:=
 hl.imp (λhm=>by rw [<-x.M];exact hm) (x.own b a)
theorem Ext.heapL {w w':World} {β β':Nm} {h h':Obs U} (x:Ext w β h w' β' h') (b:Nat) (a:b<w.heap.size) (hl:¬ Live β h b):w'.heap[b]? =w.heap[b]? :=
 x.heap b a (λc=>hl (.inr c))
theorem Ext.rep {w w':World} {β β':Nm} {h h':Obs U} (x:Ext w β h w' β' h') {d:Datum U} {v:Value} (r:Rep U w (Live β h) d v):Rep U w' (Live β' h') d v:=
 r.mono x.size x.heapL x.live
theorem Ext.cell {w w':World} {β β':Nm} {h h':Obs U} (x:Ext w β h w' β' h') {c:Cell U} {v:Value} (r:CRel w β h c v):CRel w' β' h' c v:=by
 cases c with
 |un=>trivial
 |d y=>exact x.rep r
 |row id ver=>
  obtain ⟨e,t,l,ver',lv,hl,q,a⟩:=r;obtain ⟨s,ver2,lv2,m,n,z⟩:=x.row id e t l ver' lv hl;refine ⟨e,t,s,ver2,lv2,m,by omega,λA=>?_⟩;have h3:ver2=ver':=by omega
  rw [(z h3).1];exact a (by omega)
 |ptr id off=>obtain ⟨e,cs,b,hl,p,a⟩:=r;obtain ⟨h1,cs',h2⟩:=x.box id e cs hl;exact ⟨e,cs',b,h2,h1.trans p,a⟩
 |elt id ver i off=>
  obtain ⟨e,t,l,ver',lv,hl,q,a⟩:=r;obtain ⟨s,ver2,lv2,m,n,z⟩:=x.row id e t l ver' lv hl;refine ⟨e,t,s,ver2,lv2,m,by omega,λA=>?_⟩;have h3:ver2=ver':=by omega
  obtain ⟨h4,H⟩:=z h3;rw [h4,H];exact a (by omega)
 |rd cs off=>obtain ⟨g,o,a,hM,hg,hc⟩:=r;refine ⟨g,o,a,λA=>hM (x.live g hg A),by have:=x.size;omega,λj d B=>?_⟩;obtain ⟨u,C,hr⟩:=hc j d B;exact ⟨u,by rw [<-C];exact World.cell?_of_block (x.heapL g hg hM),x.rep hr⟩
 |gl g=>exact r
 |lit u=>exact r
 |map id=>
  obtain ⟨kt,vt,l,hl,a⟩:=r;obtain ⟨h1,_,o',h2,h3⟩:=x.oth id _ hl rfl;cases o' with
  |map k v l'=>exact ⟨k,v,l',h2,a.trans h1.symm⟩
  |_=>exact h3.elim
 |clo f ids=>obtain ⟨bs,a,hl,p⟩:=r;refine ⟨bs,a,hl,λj id b I E=>?_⟩;obtain ⟨e,cs,F,G⟩:=p j id b I E;obtain ⟨h1,cs',h2⟩:=x.box id e cs F;exact ⟨e,cs',h2,h1.trans G⟩
 |yld id=>
  obtain ⟨st,hl,a⟩:=r;obtain ⟨h1,_,o',h2,h3⟩:=x.oth id _ hl rfl;cases o' with
  |loop st'=>exact ⟨st',h2,a.trans h1.symm⟩
  |_=>exact h3.elim
 |ifc t b ds=>obtain ⟨vs,F,G,J,K,L⟩:=r;exact ⟨vs,F,G,J,K,λj d u B C=>x.rep (L j d u B C)⟩
 |tab g i=>exact r
 |tabf fs i=>exact r
 |dc id c=>obtain ⟨D,hl,a⟩:=r;obtain ⟨D',h1,h2⟩:=x.dp id D hl;exact ⟨D',h1,h2 c v a⟩
 |bnd f id=>obtain ⟨e,cs,b,hl,p,a⟩:=r;obtain ⟨h1,cs',h2⟩:=x.box id e cs hl;exact ⟨e,cs',b,h2,h1.trans p,a⟩
theorem Ext.cs {w w':World} {β β':Nm} {h h':Obs U} (x:Ext w β h w' β' h') {cs:List (Cell U)} {vs:List Value} (r:CsRel w β h cs vs):CsRel w' β' h' cs vs:=
 ⟨r.1,r.2.1,λj c v hc a=>x.cell (r.2.2 j c v hc a)⟩
theorem Ext.v {w w':World} {β β':Nm} {h h':Obs U} (x:Ext w β h w' β' h') {y:Bool×List (Cell U)} {v:Value} (r:VRel w β h y v):VRel w' β' h' y v:=by
 obtain ⟨b,cs⟩:=y;cases b with
 |true=>obtain ⟨vs,a,hc⟩:=r;exact ⟨vs,a,x.cs hc⟩
 |false=>exact x.cs r
theorem Ext.p {w w':World} {β β':Nm} {h h':Obs U} (x:Ext w β h w' β' h') {σ:List (Nat×PV U)} {p:PV U} {v:Value} (r:PRel w β h σ p v):PRel w' β' h' σ p v:=by
 induction p with
 |un=>trivial
 |one c=>exact x.cs r
 |agg cs=>exact x.v r
 |tup xs=>obtain ⟨vs,a,hl,b⟩:=r;exact ⟨vs,a,hl,λj y u d e=>x.v (b j y u d e)⟩
 |opt gs p ih=>exact ⟨λhc=>ih (r.1 hc),r.2⟩
theorem PRel.any {w:World} {β:Nm} {h:Obs U} {σ σ':List (Nat×PV U)} {p:PV U} {v:Value} (a:p.plain=true) (r:PRel w β h σ p v):PRel w β h σ' p v:=by
 cases p with
 |opt=>simp [PV.plain] at a
 |un=>trivial
 |one c=>exact r
 |agg cs=>exact r
 |tup xs=>exact r
theorem Ext.o {B:Nat} {w w':World} {β β':Nm} {h h':Obs U} (x:Ext w β h w' β' h') {id:Nat} {o:Ob U} (hβ:β' id=β id) (c:β'.lp id=β.lp id)
  (a:∀ b,Has (β id) b->w'.heap[b]? =w.heap[b]?) (r:ORel B w β h id o):ORel B w' β' h' id o:=by
 cases o with
 |box e cs=>obtain ⟨b,vs,h1,h2,h3,h4⟩:=r;exact ⟨b,vs,hβ.trans h1,h2,by rw [a b (by rw [h1];exact rfl)];exact h3,x.cs h4⟩
 |row e t l ver lv=>
  obtain ⟨xs,h1,h2,f,h3⟩:=r;refine ⟨xs,?_,h2,f,λi y g j d m=>?_⟩
  .rw [hβ];exact h1.kept (λb k=>a b (h1.has k))
  .obtain ⟨u,n,hr⟩:=h3 i y g j d m;exact ⟨u,n,x.rep hr⟩
 |map kt vt l=>obtain ⟨b,es,clock,h1,h2,h3,h4,p⟩:=r;refine ⟨b,es,clock,hβ.trans h1,h2,by rw [a b (by rw [h1];exact rfl)];exact h3,h4,λi y e g q=>?_⟩;obtain ⟨s,z⟩:=p i y e g q;exact ⟨s.mono x.size x.heapL x.live,z.mono x.size x.heapL x.live⟩
 |loop st=>obtain ⟨b,r,h1,h2,h3,h4⟩:=r;exact ⟨b,r,hβ.trans h1,h2,by rw [a b (by rw [h1];exact rfl)];exact h3,by rw [c];exact h4⟩
 |dp D=>show DRel B w' β' h' D (β' id);rw [hβ];exact DRel.map (λd v hr=>x.rep hr) (λmid v hr=>x.cell hr) a r
theorem Ob.like_refl {o:Ob U} (h:o.oth=true):Ob.like o o:=by cases o<;>simp_all [Ob.oth,Ob.like]
theorem Ext.refl (w:World) (β:Nm) (h:Obs U):Ext w β h w β h:=
 ⟨Nat.le_refl _,λ_ _ _=>rfl,λ_ _ h=>h,rfl,λid e cs hl=>⟨rfl,cs,hl⟩,λid e t l ver lv hl=>⟨l,ver,lv,hl,Nat.le_refl _,λ_=>⟨rfl,rfl⟩⟩,λid o hl a=>⟨rfl,rfl,o,hl,Ob.like_refl a⟩,λid D hl=>⟨D,hl,λ_ _ h=>h⟩⟩
structure After (F:Fr) (w:World) (β:Nm) (h:Obs U) (w':World) (β':Nm) (h':Obs U):Prop extends Ok F w' β' h' where
 ext:Ext w β h w' β' h'
theorem Rel.after {F:Fr} {n:Nat} {β:Nm} {s:St U} {tmps:Array Value} {w:World} (R:Rel F n β s tmps w):After F w β s.h w β s.h:=
 ⟨R.toOk,Ext.refl _ _ _⟩
def Does (P:Program) (F:Fr) (β:Nm) (s:St U) (ρ:Operand->Value) (w:World) (o:Oper) (e:Eff U):Prop:=
 ∃ v w' β',((execOp ρ o).run P w=.ok (.value v) w'\/((execOp ρ o).run P w=.ok .skip w'/\v=undef))/\
  After F w β s.h w' β' (upds s.h e.upd)/\PRel w' β' (upds s.h e.upd) s.σ e.val v
theorem CsRel.one {w:World} {β:Nm} {h:Obs U} {c:Cell U} {v:Value} (h1:v.oneCell'=true) (hc:CRel w β h c v):CsRel w β h [c] [v]:=
 ⟨rfl,by simpa using h1,λj c' v' a b=>by
  match j with
  |0=>simp at a b;subst a;subst b;exact hc
  |j+1=>simp at a⟩
theorem CsRel.inv {w:World} {β:Nm} {h:Obs U} {c:Cell U} {v:Value} (r:CsRel w β h [c] [v]):v.oneCell'=true/\CRel w β h c v:=
 ⟨r.2.1 v (by simp),r.2.2 0 c v rfl rfl⟩
theorem Z9 {w:World} {β:Nm} {h:Obs U} (v:Value):CRel w β h (T5 v) v:=by
 cases v<;>first|exact rfl|exact Rep.int _ _|exact Rep.bool _|exact Rep.str _
theorem S4 {F:Fr} {n:Nat} {β:Nm} {s:St U} {a:Act} {w:World} (R:Rel F n β s a.tmps w) (x:Operand):PRel w β s.h s.σ (ev s.σ x) (a.eval x):=by
 cases x with
 |tmp t=>
  simp only [ev,Act.eval];cases hl:look t s.σ with
  |none=>trivial
  |some p=>exact R.tmp t p hl
 |const v=>
  simp only [ev,Act.eval];cases v with
  |agg cs=>
   dsimp only;split
   .rename_i b;refine ⟨cs.toList,rfl,by simp,λu d=>by simpa using cq4.1 b u d,λj c u hc d=>?_⟩;simp only [co9,d,Option.map_some,cn4] at hc;subst hc;exact Z9 u
   .trivial
  |tuple vs=>trivial
  |_=>exact CsRel.one rfl (Z9 _)
 |global g=>exact CsRel.one rfl rfl
 |func f=>exact CsRel.one rfl rfl
theorem bQ6 {path:List (Nat×Bool)} {g:Nat×Bool} (h:hasG path g=true):g∈path:=by unfold hasG at h;obtain ⟨x,b,a⟩:=List.any_eq_true.1 h;simp only [cn7,beq_iff_eq] at a;have h1:=cn5 a.1;obtain ⟨c,d⟩:=x;obtain ⟨e,f⟩:=g;simp only at h1 a;rw [<-h1,<-a.2];exact b
theorem T9 {w:World} {β:Nm} {h:Obs U} {σ:List (Nat×PV U)} {path:List (Nat×Bool)} (hg:CondG σ path) {p:PV U} {v:Value} (r:PRel w β h σ p v):
  PRel w β h σ (H5 path p) v:=by
 cases p with
 |opt gs p=>
  show PRel w β h σ (if gs.all (hasG path) then p else .un) v;split
  .rename_i hc;exact r.1 (λg a=>hg g (bQ6 (cq4.1 hc g a)))
  .trivial
 |un=>exact r
 |one c=>exact r
 |agg cs=>exact r
 |tup xs=>exact r
theorem C1 {h:Obs U}:∀ {ids:List Nat} {id:Nat} {o:Ob U},look id (sub h ids)=some o->look id h=some o
 |[],id,o,a=>by simp [sub,look] at a
 |i::r,id,o,a=>by
  unfold sub at a;split at a
  .rename_i o' b;simp only [look] at a;split at a
   .rename_i c;have:=cn5 c;subst this;simp only [cn4] at a;subst a;exact b
   .exact C1 a
  .exact C1 a
theorem Does.pure {P:Program} {F:Fr} {n:Nat} {β:Nm} {s:St U} {ρ:Operand->Value} {tmps:Array Value} {w:World} {o:Oper} {e:Eff U} (R:Rel F n β s tmps w) (a:e.upd=[]) {v:Value}
  (hr:(execOp ρ o).run P w=.ok (.value v) w) (b:PRel w β s.h s.σ e.val v):Does P F β s ρ w o e:=by
 refine ⟨v,w,β,.inl hr,?_,?_⟩
 .rw [a];exact R.after
 .rw [a];exact b
theorem aW8 {w:World} {β:Nm} {h:Obs U} {σ:List (Nat×PV U)} {b:Bool} {cs:List (Cell U)} {vs:List Value} {p:PV U} (a:az5 b cs=some p) (r:CsRel w β h cs vs):
  (b=true->PRel w β h σ p (.agg vs.toArray))/\(b=false->∃ v,vs=[v]/\PRel w β h σ p v):=by
 cases b with
 |true=>simp only [az5,if_true,cn4] at a;subst a;exact ⟨λ_=>⟨vs,rfl,r⟩,(λh=>by cases h)⟩
 |false=>
  simp only [az5,Bool.false_eq_true,if_false] at a;split at a
  .simp only [cn4] at a;subst a;refine ⟨(λh=>by cases h),λ_=>?_⟩;have hl:=r.1
   match vs,hl with
   |[v],_=>exact ⟨v,rfl,r⟩
  .cases a
theorem Y2 {P:Program} {t:TypeId} {b:Bool} {n:Nat} (hs:ac4 P t=some (b,n)) (w:World) (g o:Nat) (vs:List Value) (hl:vs.length=n)
  (hc:∀ j v,vs[j]? =some v->w.cell? ⟨g,o+j,none⟩=some v):
  (b=true->(loadVar t ⟨g,o,none⟩).run P w=.ok (.agg vs.toArray) w)/\(b=false->∀ v,vs=[v]->(loadVar t ⟨g,o,none⟩).run P w=.ok v w):=by
 unfold ac4 at hs;split at hs
 .rename_i i d l m;simp only [cn4,co6] at hs;obtain ⟨p,q⟩:=hs;have c:(isAgg t).run P w=.ok b w:=by
   unfold isAgg;simp only [Sem.run_bind,run_underlying m,Result.andThen_ok];rw [<-p];cases d<;>rfl
  have e:(sizeOf t).run P w=.ok n w:=by simp [sizeOf,typeInfo,l,q]
  have a:(loadCells ⟨g,o,none⟩ n).run P w=.ok vs.toArray w:=by rw [<-hl];refine run_loadCells_list w ⟨g,o,none⟩ vs (λj v f=>?_);rw [Addr.add_lit];exact hc j v f
  constructor
  .intro h;subst h;unfold loadVar;simp only [Sem.run_bind,c,Result.andThen_ok,if_true,e,a];rfl
  .intro k v f;subst k;subst f;unfold loadVar;simp only [Sem.run_bind,c,Result.andThen_ok,Bool.false_eq_true,if_false];have:=hc 0 v rfl;simp only [Nat.add_zero] at this;simp [load,Sem.run,this]
 .cases hs
end
end Go.VT
end
section
namespace Go.VT
noncomputable section
open Go.RowKit
variable {U:Univ} {E:Env U} {F:Fr} {n:Nat} {β:Nm} {s:St U} {ρ:Operand->Value} {tmps:Array Value} {w:World} {o:Oper} {e:Eff U} {h:Obs U}
theorem Does.move (R:Rel F n β s tmps w) {x:Operand} (a:o.op=.move x\/o.op=.assign x) {v:PV U} (r:PRel w β s.h s.σ v (ρ x)):Does E.P F β s ρ w o (F5 v):=by
 refine Does.pure (n:=n) R rfl (v:=ρ x) ?_ r;rcases a with a|a<;>simp [execOp,a]
theorem CsRel.drop {w:World} {β:Nm} {h:Obs U} {cs:List (Cell U)} {vs:List Value} (r:CsRel w β h cs vs) (k:Nat):CsRel w β h (cs.drop k) (vs.drop k):=
 ⟨by simp [r.1],λv a=>r.2.1 v (List.mem_of_mem_drop a),λj c v hc a=>by
  rw [List.getElem?_drop] at hc a;exact r.2.2 _ c v hc a⟩
theorem CsRel.take {w:World} {β:Nm} {h:Obs U} {cs:List (Cell U)} {vs:List Value} (r:CsRel w β h cs vs) (k:Nat):CsRel w β h (cs.take k) (vs.take k):=
 ⟨by simp [r.1],λv a=>r.2.1 v (List.mem_of_mem_take a),λj c v hc a=>by
  rw [List.getElem?_take] at hc a;split at hc
  .rw [if_pos (by assumption)] at a;exact r.2.2 _ c v hc a
  .cases hc⟩
theorem aA5 {α:Type} {k:Nat} {a:α}:∀ {l:List (Nat×α)},look k l=some a->(k,a)∈l
 |[],h=>by simp [look] at h
 |(i,b)::l,h=>by
  simp only [look] at h;split at h
  .rename_i c;have:=cn5 c;subst this;simp only [cn4] at h;subst h;simp
  .simp [aA5 h]
theorem bD2 {t:TypeId} {cs:List (Cell U)} {p:PV U} (a:az6 E.P t cs=some p) {vs:List Value} (r:CsRel w β s.h cs vs) {g q:Nat}
  (hc:∀ (j:Nat) (v:Value),vs[j]? =some v->w.cell? ⟨g,q+j,none⟩=some v):
  ∃ v,(loadVar t ⟨g,q,none⟩).run E.P w=.ok v w/\PRel w β s.h s.σ p v:=by
 unfold az6 at a;split at a
 .rename_i b k hs;split at a
  .rename_i d;have d:=cn5 d;have i:=aW8 (σ:=s.σ) a (r.take k);have hl:=Y2 (P:=E.P) hs w g q (vs.take k) (by rw [(r.take k).1];exact d) (λj v c=>by
    rw [List.getElem?_take] at c;split at c
    .exact hc j v c
    .cases c)
   cases b with
   |true=>exact ⟨_,hl.1 rfl,i.1 rfl⟩
   |false=>obtain ⟨v,e,f⟩:=i.2 rfl;exact ⟨v,hl.2 rfl v e,f⟩
  .cases a
 .cases a
theorem CsRel.data {w:World} {β:Nm} {h:Obs U} {ds:List (Datum U)} {vs:List Value} (hl:vs.length=ds.length)
  (hr:∀ (j:Nat) (d:Datum U) (v:Value),ds[j]? =some d->vs[j]? =some v->Rep U w (Live β h) d v):CsRel w β h (ds.map .d) vs:=by
 refine ⟨by simp [hl],λv a=>?_,λj c v hc a=>?_⟩
 .obtain ⟨j,e,rfl⟩:=List.mem_iff_getElem.1 a;have b:j<ds.length:=by omega
  have:=hr j ds[j] vs[j] (cn6 b) (cn6 e);generalize ds[j]=d at this;generalize vs[j]=u at this;cases this<;>rfl
 .simp only [co9,co1] at hc;obtain ⟨d,b,rfl⟩:=hc;exact hr j d v b a
theorem an3 {id iv:Nat} {i:Int} {m:List Nat}:∀ {ds:List (Datum U)} {j0 j:Nat} {c:Cell U},(Q2 id iv i m j0 ds)[j]? =some c->∃ d,ds[j]? =some d/\c=(bif m.any (Nat.beq (j0+j)) then .dc id (.inn iv i (j0+j)) else .d d)
 |[],j0,j,c,h=>by simp [Q2] at h
 |d::ds,j0,0,c,h=>by simp only [Q2,co2,cn4] at h;exact ⟨d,rfl,h.symm⟩
 |d::ds,j0,j+1,c,h=>by simp only [Q2,List.getElem?_cons_succ] at h;obtain ⟨d',h1,h2⟩:=an3 h;exact ⟨d',by simpa using h1,by rw [h2,show j0+1+j=j0+(j+1) by omega]⟩
theorem ab6 {id iv:Nat} {i:Int} {m:List Nat}:∀ {ds:List (Datum U)} {j0:Nat},(Q2 id iv i m j0 ds).length=ds.length
 |[],_=>rfl
 |d::ds,j0=>by simp [Q2,ab6 (ds:=ds)]
theorem G1 {root:Value} {ns:List Value} {vs:Array Value} (h:Value.tuple (root::ns).toArray=.tuple vs):vs=(root::ns).toArray:=by simp only [Value.tuple.injEq] at h;exact h.symm
theorem aA6 {B:Nat} {e:TypeId} {t:Ty} {m:List Nat} {l:List (den U.T t)} {ver iv:Nat} {lv:Bool} {hole:Option (Int×Nat)} {N:Value} (r:DRel B w β h (.rows e t m l ver iv lv hole) N) {i:Nat} (a:i<l.length):
  ∃ root xs ns,N=.tuple (root::ns).toArray/\Owns w B e (szOf U t) root l.length xs/\(i+1)*szOf U t<=xs.length/\ns.length=xs.length/\(∀ v∈xs,v.oneCell'=true)/\
   ∀ (j:Nat) (d:Datum U),(B1 U t l[i])[j]? =some d->∃ u n,xs[i*szOf U t+j]? =some u/\ns[i*szOf U t+j]? =some n/\InnR B w (Live β h) m hole i j d u n:=by
 obtain ⟨root,xs,ns,b,h1,h2,h3,h4,c,g,k⟩:=r;refine ⟨root,xs,ns,b,h1,?_,h4,h3,λj d f=>c i _ (cn6 a) j d f⟩;rw [h1.1];exact Nat.mul_le_mul_right _ a
theorem P1 {α:Type} {l:List α} {i:Int} {d:α} (a:i.toNat<l.length):l.getD i.toNat d=l[i.toNat]:=by simp [List.getD,cn6 a]
theorem ag0 {B:Nat} {e:TypeId} {t:Ty} {m:List Nat} {l:List (den U.T t)} {ver iv:Nat} {lv:Bool} {N:Value} (r:DRel B w β h (.rows e t m l ver iv lv none) N) {i:Int} (h0:0<=i) (z:i<(l.length:Int)) {j:Nat} (hm:m.any (Nat.beq j)=true) {e':TypeId} {t':Ty} {l':List (den U.T t')}
  (c:I9 t l i j=some ⟨.slice e' t',l'⟩) {vs:Array Value} (f:N=.tuple vs) {v:Value} (b:vs[1+(i.toNat*szOf U t+j)]? =some v):RowC B w (Live β h) e' t' l' v/\v.oneCell'=true:=by
 have a:i.toNat<l.length:=by omega
 obtain ⟨root,xs,ns,d,h1,h2,h4,h3,g⟩:=aA6 r a;rw [d] at f;have:=G1 f;subst this;unfold I9 at c;rw [P1 a] at c;obtain ⟨u,n,k,o,p,_⟩:=g j _ c;obtain ⟨q,A,C,D,s,x⟩:=(p hm).2 (by rintro ⟨_,y,_⟩;cases y);cases s;have:v=n:=by rw [Nat.add_comm 1] at b;simp only [List.getElem?_toArray,List.getElem?_cons_succ] at b;rw [o] at b;simpa using b.symm
 rw [this,q];exact ⟨x,h3 u (List.mem_of_getElem? k)⟩
theorem bo7 {vs:List Value} {g q:Nat} {xs:List Value} (hc:∀ (j:Nat) (u:Value),xs[j]? =some u->w.cell? ⟨g,j,none⟩=some u) {k sz off:Nat}:∀ (j:Nat) (v:Value),(((xs.drop (k*sz)).take sz).drop off)[j]? =some v->w.cell? ⟨g,k*sz+off+j,none⟩=some v:=by
 intro j v a;rw [List.getElem?_drop,List.getElem?_take] at a;split at a
 .rw [List.getElem?_drop] at a;rw [Nat.add_assoc];exact hc _ v a
 .cases a
theorem bt4 {B:Nat} {id:Nat} {D:Deep U} (hl:look id h=some (.dp D)) (r:DRel B w β h D (β id)) {c:DC U} {cs:List (Cell U)} (hc:D.cells id c=some cs) {v:Value} (p:DCRel D (β id) c v):
  ∃ g q vs,v=.pointer (some ⟨g,q,none⟩)/\CsRel w β h cs vs/\∀ (j:Nat) (u:Value),vs[j]? =some u->w.cell? ⟨g,q+j,none⟩=some u:=by
 cases D with
 |maps=>simp [Deep.cells] at hc
 |iter=>simp [Deep.cells] at hc
 |rows e t m l ver iv lv hole=>
  cases hole with
  |some _=>simp [Deep.cells] at hc
  |none=>
   cases c with
   |elt v0 i off=>
    simp only [Deep.cells] at hc;split at hc
    case isFalse=>cases hc
    rename_i a;have a:=cn5 a;simp only [cn4] at hc;obtain ⟨_,p⟩:=p;obtain ⟨h0,h1,vs,g,c,A,hg,C⟩:=p a;have H:i.toNat<l.length:=by omega
    obtain ⟨root,xs,ns,s,J,K,W,L,M⟩:=aA6 r H;rw [s] at A;have:=G1 A;subst this;simp only [List.getElem?_toArray,co2,cn4] at hg;subst hg;rw [P1 H] at hc;subst hc;rw [Nat.add_mul,Nat.one_mul] at K;refine ⟨g,_,((xs.drop (i.toNat*szOf U t)).take (szOf U t)).drop off,C,⟨by simp [ab6,B0];omega,λu b=>L u ?_,λj c u x b=>?_⟩,bo7 (vs:=[]) (q:=0) (J.cells rfl)⟩
    .exact List.mem_of_mem_drop (List.mem_of_mem_take (List.mem_of_mem_drop b))
    .rw [List.getElem?_drop] at x b;rw [List.getElem?_take] at b;split at b
     case isFalse=>cases b
     rw [List.getElem?_drop] at b;obtain ⟨d,N,rfl⟩:=an3 x;rw [Nat.zero_add];obtain ⟨u',n,f,E,O,P⟩:=M _ d N;rw [b] at f;simp only [cn4] at f;subst f;cases hm:m.any (Nat.beq (off+j)) with
     |false=>simp only [cond_false];exact (P hm).2
     |true=>simp only [cond_true];obtain ⟨Q,_⟩:=(O hm).2 (by rintro ⟨_,R,_⟩;cases R);refine ⟨_,hl,Nat.le_refl _,λ_=>⟨h0,h1,hm,_,s,?_⟩⟩;rw [Nat.add_comm 1];simp only [List.getElem?_toArray,List.getElem?_cons_succ];rw [E,Q]
   |iat v0 i j k off=>
    simp only [Deep.cells] at hc;split at hc
    case isFalse=>cases hc
    rename_i a;have a:=cn5 a;split at hc
    case h_2=>cases hc
    rename_i X F S y;simp only [cn4] at hc;subst hc;obtain ⟨_,p⟩:=p;obtain ⟨h0,h1,hm,T,vs,g,c,Y,Z,l2,A,hg,z,hk,C⟩:=p a;rw [y] at z;cases z;obtain ⟨⟨ys,I,y2,y3,V⟩,_⟩:=ag0 r h0 h1 hm y A hg;have o:k.toNat<S.length:=by omega
    have G:(k.toNat+1)*szOf U F<=ys.length:=by rw [I.1];exact Nat.mul_le_mul_right _ o
    rw [Nat.add_mul,Nat.one_mul] at G;rw [P1 o];refine ⟨g,_,((ys.drop (k.toNat*szOf U F)).take (szOf U F)).drop off,C,CsRel.data (by simp [B0];omega) (λj d u x b=>?_),bo7 (vs:=[]) (q:=0) (I.cells rfl)⟩;rw [List.getElem?_drop] at x b;rw [List.getElem?_take] at b;split at b
    case isFalse=>cases b
    rw [List.getElem?_drop] at b;obtain ⟨u',f,E⟩:=V k.toNat _ (cn6 o) _ d x;rw [b] at f;simp only [cn4] at f;subst f;exact E
   |self=>simp [Deep.cells] at hc
   |inn=>simp [Deep.cells] at hc
   |key=>simp [Deep.cells] at hc
   |it=>simp [Deep.cells] at hc
theorem Does.load (L:F.G=E.G) (R:Rel F n β s tmps w) {t:TypeId} {x:Operand} (M:o.op=.load t x) {v:PV U} (r:PRel w β s.h s.σ v (ρ x)) {ids:List Nat} (f:aO8 E (sub s.h ids) t v=some e) (W:e.Obl):
  Does E.P F β s ρ w o e:=by
 have fin:∀ (g q:Nat) (p:PV U) (vs:List Value) (cs:List (Cell U)),ρ x=.pointer (some ⟨g,q,none⟩)->az6 E.P t cs=some p->CsRel w β s.h cs vs->
   (∀ (j:Nat) (v:Value),vs[j]? =some v->w.cell? ⟨g,q+j,none⟩=some v)->Does E.P F β s ρ w o (F5 p):=by
  intro g q p vs cs N A hr hc;obtain ⟨u,I,hq⟩:=bD2 (E:=E) A hr hc;refine Does.pure (n:=n) R rfl (v:=u) ?_ hq;simp [execOp,M,Instr.loadAt,Instr.sureAddr,N,I]
 unfold aO8 at f;split at f
 ·--a box
  rename_i id off;split at f
  .rename_i e' cs hl;simp only [co1] at f;obtain ⟨p,A,rfl⟩:=f;obtain ⟨_,_,b,z,X,m⟩:=r.inv.2;have hl:=C1 hl;rw [hl] at z;have V:=R.obj id _ hl;obtain ⟨b',vs,h1,h2,h3,h4⟩:=V;rw [X] at h1;simp only [Value.pointer.injEq,cn4,Addr.mk.injEq,and_true] at h1;subst h1;refine fin b off p (vs.toList.drop off) (cs.drop off) m A (h4.drop off) (λj v y=>?_);rw [List.getElem?_drop] at y;simp only [World.cell?,h3];simpa using y
  .cases f
 ·--stable memory
  rename_i cs off;simp only [co1] at f;obtain ⟨p,A,rfl⟩:=f;obtain ⟨g,q,m,hM,hg,hc⟩:=r.inv.2;have:∃ us:List Value,us.length=cs.length/\∀ (j:Nat) (d:Datum U) (u:Value),cs[j]? =some d->us[j]? =some u->w.cell? ⟨g,q+j,none⟩=some u/\Rep U w (Live β s.h) d u:=by
   refine ⟨(List.range cs.length).map (λj=>(w.cell? ⟨g,q+j,none⟩).getD undef),by simp,λj d u C I=>?_⟩;obtain ⟨u',O,hr⟩:=hc j d C;have y:j<cs.length:=by
    by_cases y:j<cs.length
    .exact y
    .rw [List.getElem?_eq_none (by omega)] at C;cases C
   simp only [co9,List.getElem?_range y,Option.map_some,cn4,O,Option.getD_some] at I;subst I;exact ⟨O,hr⟩
  obtain ⟨us,Y,J⟩:=this;refine fin g (q+off) p (us.drop off) ((cs.drop off).map .d) m A ?_ (λj v y=>?_)
  .refine CsRel.data (by simp [Y]) (λj d v C m=>?_);rw [List.getElem?_drop] at C m;exact (J _ d v C m).2
  .rw [List.getElem?_drop] at y;have hlt:off+j<us.length:=by
    by_cases Z:off+j<us.length
    .exact Z
    .rw [List.getElem?_eq_none (by omega)] at y;cases y
   have:=(J (off+j) _ v (cn6 (by omega)) y).1;rw [Nat.add_assoc];exact this
 ·--a cell of a table
  rename_i g i;split at f
  case h_2=>cases f
  rename_i fs hfs;split at f
  case h_2=>cases f
  rename_i b k hsh;split at f
  case isFalse=>cases f
  rename_i hc;simp only [cn7,Bool.not_eq_true'] at hc;have hk:=cn5 hc.2;have X:=hc.1;subst hk;subst X;simp only [cn4] at f;subst f;obtain ⟨h0,h1⟩:=W;obtain ⟨_,m⟩:=r.inv.2;obtain ⟨q1,q2,q3⟩:=R.glo g fs (by rw [L];exact aA5 hfs);have Q:i.toNat<fs.fs.length:=by omega
  have hcell:w.cell? ⟨g,i.toNat,none⟩=some (.func (.func fs.fs[i.toNat]) #[] #[]):=by rw [<-q3 i.toNat _ (by unfold Glob.cell;rw [cn6 Q])];exact World.cell?_of_block (R.frm g q1 q2)
  have hl:=Y2 (P:=E.P) hsh w g i.toNat [.func (.func fs.fs[i.toNat]) #[] #[]] rfl (λj v y=>by
   match j,y with
   |0,y=>
    simp only [co2,cn4] at y;subst y;exact hcell)
  refine Does.pure (n:=n) R rfl (v:=.func (.func fs.fs[i.toNat]) #[] #[]) ?_ (CsRel.one rfl ⟨_,cn6 Q,rfl⟩);have hlv:=hl.2 rfl _ rfl;simp [execOp,M,Instr.loadAt,Instr.sureAddr,m,hlv]
 ·--a global cell
  rename_i g;split at f
  case h_2=>cases f
  rename_i gl hgl;split at f
  case isFalse=>cases f
  rename_i hc;simp only [cn7,List.isEmpty_iff] at hc;simp only [co1] at f;obtain ⟨p,A,rfl⟩:=f;have m:ρ x=.pointer (some ⟨g,0,none⟩):=r.inv.2;obtain ⟨q1,q2,q3⟩:=R.glo g gl (by rw [L];exact aA5 hgl);refine fin g 0 p gl.vs (gl.vs.map T5) m A ⟨by simp,λv m=>cq4.1 hc.2 v m,λj c v y m=>?_⟩ (λj v y=>?_)
  .simp only [co9,m,Option.map_some,cn4] at y;subst y;exact Z9 v
  .rw [Nat.zero_add,<-q3 j v (by unfold Glob.cell;rw [hc.1];simpa using y)];exact World.cell?_of_block (R.frm g q1 q2)
 ·--a deep object
  rename_i id c;split at f
  case h_2=>cases f
  rename_i D hl;split at f
  case h_2=>cases f
  rename_i cs hcs;simp only [co1] at f;obtain ⟨p,A,rfl⟩:=f;have hl:=C1 hl;obtain ⟨D',z,m⟩:=r.inv.2;rw [hl] at z;simp only [cn4,Ob.dp.injEq] at z;subst z;obtain ⟨g,q,vs,N,hr,hcell⟩:=bt4 hl (R.obj id _ hl) hcs m;exact fin g q p vs cs N A hr hcell
 ·--an element of a row
  rename_i id ver i off;split at f
  .rename_i e' c l ver' lv hl;split at f
   .rename_i B;have B:=cn5 B;simp only [co1] at f;obtain ⟨p,A,rfl⟩:=f;obtain ⟨_,_,_,_,_,z,_,m⟩:=r.inv.2;have hl:=C1 hl;rw [hl] at z;simp only [cn4,Ob.row.injEq] at z;obtain ⟨rfl,rfl,K,rfl,rfl⟩:=z;have K:=eq_of_heq K;subst K;obtain ⟨h0,h1,g,cap,hβ,N⟩:=m B;obtain ⟨xs,V,hm,h1c,hel⟩:=R.obj id _ hl;have hi:i.toNat<l.length:=by omega
    have hgd:l.getD i.toNat (dfl U c)=l[i.toNat]:=by simp [List.getD,cn6 hi]
    have S:=hel i.toNat l[i.toNat] (cn6 hi);have T:=B0 U c l[i.toNat];have H:∀ (j:Nat) (u:Value),xs[j]? =some u->w.cell? ⟨g,j,none⟩=some u:=by intro j u I;exact V.cells (g:=g) (by rw [hβ];rfl) j u I
    rw [hgd] at A;refine fin g (i.toNat*szOf U c+off) p (((xs.drop (i.toNat*szOf U c)).take (szOf U c)).drop off) (((B1 U c l[i.toNat]).drop off).map .d) N A ?_ (λj v y=>?_)
    .have hxl:(i.toNat+1)*szOf U c<=xs.length:=by rw [V.1];exact Nat.mul_le_mul_right _ hi
     rw [Nat.add_mul,Nat.one_mul] at hxl;refine CsRel.data (by simp [T];omega) (λj d v C m=>?_);rw [List.getElem?_drop] at C m;obtain ⟨u,I,hr⟩:=S _ d C;rw [List.getElem?_take] at m;split at m
     .rw [List.getElem?_drop] at m;rw [I] at m;simp only [cn4] at m;subst m;exact hr
     .cases m
    .rw [List.getElem?_drop,List.getElem?_take] at y;split at y
     .rw [List.getElem?_drop] at y;rw [Nat.add_assoc];exact H _ v y
     .cases y
   .cases f
  .cases f
 .cases f
theorem PRel.d {σ:List (Nat×PV U)} {x:Datum U} {v:Value} (r:PRel w β h σ (.one (.d x)) v):Rep U w (Live β h) x v:=r.inv.2
theorem PRel.int {σ:List (Nat×PV U)} {k:IntKind} {a:Int} {v:Value} (r:PRel w β h σ (.one (.d ⟨.int k,a⟩)) v):v=.int k a:=by have:=r.d;cases this;rfl
theorem PRel.bool {σ:List (Nat×PV U)} {b:Bool} {v:Value} (r:PRel w β h σ (.one (.d ⟨.bool,b⟩)) v):v=.bool b:=by have:=r.d;cases this;rfl
theorem PRel.mkInt {σ:List (Nat×PV U)} (k:IntKind) (a:Int):PRel w β h σ (.one (.d ⟨.int k,a⟩)) (.int k a):=CsRel.one rfl (Rep.int _ _)
theorem PRel.mkBool {σ:List (Nat×PV U)} (b:Bool):PRel w β h σ (.one (.d ⟨.bool,b⟩)) (.bool b):=CsRel.one rfl (Rep.bool _)
theorem bD3 {op:BinOp} {k:IntKind} {a b:Int} {p:Option Prop} {d:Datum U} (e:bZ8 op k a b=some (p,d)) (c:holds p) (t:TypeId) (x y:Operand) (w:World) (P:Program):
  ∃ v,(do eqGuard op t x y (.int k a) (.int k b);binOp op t (.int k a) (.int k b)).run P w=.ok v w/\∀ (β:Nm) (h:Obs U) (σ:List (Nat×PV U)),PRel w β h σ (.one (.d d)) v:=by
 cases op<;>simp only [bZ8,cn4,co6,reduceCtorEq] at e<;>obtain ⟨rfl,rfl⟩:=e
 all_goals first
  |exact ⟨.int k (k.wrap (a+b)),by simp [eqGuard,binOp,Op.intArith],λ_ _ _=>PRel.mkInt _ _⟩
  |exact ⟨.int k (k.wrap (a-b)),by simp [eqGuard,binOp,Op.intArith],λ_ _ _=>PRel.mkInt _ _⟩
  |exact ⟨.int k (k.wrap (a*b)),by simp [eqGuard,binOp,Op.intArith],λ_ _ _=>PRel.mkInt _ _⟩
  |exact ⟨.int k (k.wrap (a.tdiv b)),by simp [eqGuard,binOp,Op.intDiv,show b≠0 from c],λ_ _ _=>PRel.mkInt _ _⟩
  |exact ⟨.int k (a.tmod b),by simp [eqGuard,binOp,Op.intDiv,show b≠0 from c],λ_ _ _=>PRel.mkInt _ _⟩
  |exact ⟨.bool (a==b),by simp [eqGuard,binOp,Op.intCmp],λ_ _ _=>PRel.mkBool _⟩
  |exact ⟨.bool (a !=b),by simp [eqGuard,binOp,Op.intCmp],λ_ _ _=>PRel.mkBool _⟩
  |exact ⟨.bool (decide (a<b)),by simp [eqGuard,binOp,Op.intCmp],λ_ _ _=>PRel.mkBool _⟩
  |exact ⟨.bool (decide (a<=b)),by simp [eqGuard,binOp,Op.intCmp],λ_ _ _=>PRel.mkBool _⟩
  |exact ⟨.bool (decide (a >b)),by simp [eqGuard,binOp,Op.intCmp],λ_ _ _=>PRel.mkBool _⟩
  |exact ⟨.bool (decide (a>=b)),by simp [eqGuard,binOp,Op.intCmp],λ_ _ _=>PRel.mkBool _⟩
  |exact ⟨.int k (k.wrap (a*2 ^ min b.toNat k.bits)),by simp [eqGuard,binOp,Op.shift,show ¬ b<0 from Int.not_lt.2 c],λ_ _ _=>PRel.mkInt _ _⟩
  |exact ⟨.int k (a.fdiv (2 ^ min b.toNat k.bits)),by simp [eqGuard,binOp,Op.shift,show ¬ b<0 from Int.not_lt.2 c],λ_ _ _=>PRel.mkInt _ _⟩
  |exact ⟨.int k (k.wrap (BitVec.ofInt k.bits a&&&BitVec.ofInt k.bits b).toNat),by simp only [eqGuard,binOp,Op.intBits];simp,λ_ _ _=>PRel.mkInt _ _⟩
  |exact ⟨.int k (k.wrap (BitVec.ofInt k.bits a|||BitVec.ofInt k.bits b).toNat),by simp only [eqGuard,binOp,Op.intBits];simp,λ_ _ _=>PRel.mkInt _ _⟩
  |exact ⟨.int k (k.wrap (BitVec.ofInt k.bits a ^^^ BitVec.ofInt k.bits b).toNat),by simp only [eqGuard,binOp,Op.intBits];simp,λ_ _ _=>PRel.mkInt _ _⟩
  |exact ⟨.int k (k.wrap (BitVec.ofInt k.bits a&&&~~~ BitVec.ofInt k.bits b).toNat),by simp only [eqGuard,binOp,Op.intBits];simp,λ_ _ _=>PRel.mkInt _ _⟩
theorem ab7 {P:Program} {t:TypeId} (c:P.underlying t=some .bool) (d:Nat) (a b:Bool) (w:World):(Op.equalIn (d+1) t (.bool a) (.bool b)).run P w=.ok (a==b) w:=by simp only [Op.equalIn,Sem.run_bind,run_underlying c,Result.andThen_ok];rfl
theorem bo8 {P:Program} {t:TypeId} {b:Bool} {k:Nat} (hs:ac4 P t=some (b,k)) (w:World) (cs:List Value) (off:Nat) (hl:((cs.drop off).take k).length=k):
  (b=true->(part t cs.toArray off).run P w=.ok (.agg ((cs.drop off).take k).toArray) w)/\(b=false->∀ v,(cs.drop off).take k=[v]->(part t cs.toArray off).run P w=.ok v w):=by
 unfold ac4 at hs;split at hs
 .rename_i i d g h;simp only [cn4,co6] at hs;obtain ⟨j,l⟩:=hs;have a:(isAgg t).run P w=.ok b w:=by
   unfold isAgg;simp only [Sem.run_bind,run_underlying h,Result.andThen_ok];rw [<-j];cases d<;>rfl
  have c:(sizeOf t).run P w=.ok k w:=by simp [sizeOf,typeInfo,g,l]
  constructor
  .intro e;subst e;unfold part;simp only [Sem.run_bind,a,Result.andThen_ok,if_true,c];have:cs.toArray.extract off (off+k)=((cs.drop off).take k).toArray:=by
    simp [List.extract_toArray,List.extract_eq_take_drop]
   rw [this];rfl
  .intro f v m;subst f;unfold part;simp only [Sem.run_bind,a,Result.andThen_ok,Bool.false_eq_true,if_false];have:cs.toArray[off]? =some v:=by
    have h0:((cs.drop off).take k)[0]? =some v:=by rw [m];rfl
    rw [List.getElem?_take] at h0;split at h0
    .rw [List.getElem?_drop] at h0;simpa using h0
    .cases h0
   simp [this]
 .cases hs
theorem ad4:∀ {cs:List (Cell U)} {ds:List (Datum U)},allD cs=some ds->cs=ds.map .d
 |[],ds,h=>by simp only [allD,cn4] at h;subst h;rfl
 |c::cs,ds,h=>by
  cases c with
  |d x=>simp only [allD,co1] at h;obtain ⟨ys,a,rfl⟩:=h;simp [ad4 a]
  |_=>simp [allD] at h
theorem Y3 {P:Program} {t:TypeId} {off:Nat} {d:TypeDesc} {i:TypeInfo} (f:P.underlying t=some d) (g:(∃ q,d=.int q)\/d=.bool) (h:P.info? t=some i) (c:i.size=1) {xs:List Value} {u:Value} (j:xs[off]? =some u) (w:World):(part t xs.toArray off).run P w=.ok u w:=by
 have a:(xs.drop off).take 1=[u]:=by
  have:xs.drop off=u::xs.drop (off+1):=by obtain ⟨e,l⟩:=cn9.1 j;rw [<-l];exact (List.drop_eq_getElem_cons e)
  rw [this];rfl
 exact (bo8 (b:=false) (k:=1) (by rcases g with ⟨q,rfl⟩|rfl<;>simp only [ac4,h,f,c]) w xs off (by rw [a];rfl)).2 rfl u a
theorem ai7 {P:Program} {M:Nat->Prop} (d:Nat):∀ {fs:List Field} {k:Nat} {ts:List Ty} {ds es:List (Datum U)} {b:Bool} {xs ys:List Value},O9 P fs k=some ts->I7 ts ds es=some b->
  (∀ (j:Nat) (x:Datum U),ds[j]? =some x->∃ u,xs[k+j]? =some u/\Rep U w M x u)->(∀ (j:Nat) (x:Datum U),es[j]? =some x->∃ u,ys[k+j]? =some u/\Rep U w M x u)->
  (Op.eqFields (d+1) xs.toArray ys.toArray fs).run P w=.ok b w
 |[],k,ts,ds,es,b,xs,ys,h,c,_,_=>by
  simp only [O9,cn4] at h;subst h;cases ds with
  |nil=>
   cases es with
   |nil=>simp only [I7,cn4] at c;subst c;simp [Op.eqFields]
   |cons=>simp [I7] at c
  |cons=>simp [I7] at c
 |f::fs,k,ts,ds,es,b,xs,ys,h,c,B,C=>by
  simp only [O9] at h;split at h
  case h_2=>cases h
  rename_i td i m D;have tail:∀ {ts':List Ty} {ds' es':List (Datum U)} {b':Bool} {x y:Datum U},O9 P fs (k+1)=some ts'->I7 ts' ds' es'=some b'->(∀ (j:Nat) (z:Datum U),(x::ds')[j]? =some z->∃ u,xs[k+j]? =some u/\Rep U w M z u)->(∀ (j:Nat) (z:Datum U),(y::es')[j]? =some z->∃ u,ys[k+j]? =some u/\Rep U w M z u)->
    (Op.eqFields (d+1) xs.toArray ys.toArray fs).run P w=.ok b' w:=λh1 h2 h3 h4=>ai7 d h1 h2 (λj z E=>by rw [Nat.add_assoc,Nat.add_comm 1];exact h3 (j+1) z (by simpa using E)) (λj z E=>by rw [Nat.add_assoc,Nat.add_comm 1];exact h4 (j+1) z (by simpa using E))
  split at h
  ·--an integer
   rename_i q;split at h
   case isFalse=>cases h
   rename_i hc;simp only [cn7,bne_iff_ne,ne_eq] at hc;obtain ⟨⟨l,e⟩,g⟩:=hc;have e:=cn5 e;have g:=cn5 g;simp only [co1] at h;obtain ⟨ts',n,rfl⟩:=h
   match ds,es,c with
   |⟨.int J,x⟩::ds',⟨.int K,y⟩::es',c=>
    simp only [I7] at c;split at c
    case isFalse=>cases c
    rename_i s;subst s;simp only [co1] at c;obtain ⟨b',o,rfl⟩:=c;have F:=tail n o B C;obtain ⟨u,t,p⟩:=B 0 _ rfl;obtain ⟨v,A,r⟩:=C 0 _ rfl;cases p;cases r;rw [Nat.add_zero,<-e] at t A;have G:=Y3 (w:=w) m (.inl ⟨_,rfl⟩) D g t;have H:=Y3 (w:=w) m (.inl ⟨_,rfl⟩) D g A;have s:=run_equalIn_int (P:=P) w d f.type J q x y m;unfold Op.eqFields;rw [if_pos l];simp only [Sem.run_bind,G,H,s,Result.andThen_ok];cases I:(x==y) with
    |false=>simp
    |true=>simpa using F
   |[],_,c=>simp [I7] at c
   |⟨.bool,_⟩::_,_,c=>simp [I7] at c
   |⟨.str,_⟩::_,_,c=>simp [I7] at c
   |⟨.slice _ _,_⟩::_,_,c=>simp [I7] at c
   |⟨.user _,_⟩::_,_,c=>simp [I7] at c
   |⟨.map _ _,_⟩::_,_,c=>simp [I7] at c
   |⟨.ifc _,_⟩::_,_,c=>simp [I7] at c
   |⟨.int _,_⟩::_,[],c=>simp [I7] at c
   |⟨.int _,_⟩::_,⟨.bool,_⟩::_,c=>simp [I7] at c
   |⟨.int _,_⟩::_,⟨.str,_⟩::_,c=>simp [I7] at c
   |⟨.int _,_⟩::_,⟨.slice _ _,_⟩::_,c=>simp [I7] at c
   |⟨.int _,_⟩::_,⟨.user _,_⟩::_,c=>simp [I7] at c
   |⟨.int _,_⟩::_,⟨.map _ _,_⟩::_,c=>simp [I7] at c
   |⟨.int _,_⟩::_,⟨.ifc _,_⟩::_,c=>simp [I7] at c
  ·--a boolean
   split at h
   case isFalse=>cases h
   rename_i hc;simp only [cn7,bne_iff_ne,ne_eq] at hc;obtain ⟨⟨l,e⟩,g⟩:=hc;have e:=cn5 e;have g:=cn5 g;simp only [co1] at h;obtain ⟨ts',n,rfl⟩:=h
   match ds,es,c with
   |⟨.bool,x⟩::ds',⟨.bool,y⟩::es',c=>
    simp only [I7,co1] at c;obtain ⟨b',o,rfl⟩:=c;have F:=tail n o B C;obtain ⟨u,t,p⟩:=B 0 _ rfl;obtain ⟨v,A,r⟩:=C 0 _ rfl;cases p;cases r;rw [Nat.add_zero,<-e] at t A;have G:=Y3 (w:=w) m (.inr rfl) D g t;have H:=Y3 (w:=w) m (.inr rfl) D g A;have s:=ab7 (P:=P) m d x y w;unfold Op.eqFields;rw [if_pos l];simp only [Sem.run_bind,G,H,s,Result.andThen_ok];cases I:(x==y) with
    |false=>simp
    |true=>simpa using F
   |[],_,c=>simp [I7] at c
   |⟨.int _,_⟩::_,_,c=>simp [I7] at c
   |⟨.str,_⟩::_,_,c=>simp [I7] at c
   |⟨.slice _ _,_⟩::_,_,c=>simp [I7] at c
   |⟨.user _,_⟩::_,_,c=>simp [I7] at c
   |⟨.map _ _,_⟩::_,_,c=>simp [I7] at c
   |⟨.ifc _,_⟩::_,_,c=>simp [I7] at c
   |⟨.bool,_⟩::_,[],c=>simp [I7] at c
   |⟨.bool,_⟩::_,⟨.int _,_⟩::_,c=>simp [I7] at c
   |⟨.bool,_⟩::_,⟨.str,_⟩::_,c=>simp [I7] at c
   |⟨.bool,_⟩::_,⟨.slice _ _,_⟩::_,c=>simp [I7] at c
   |⟨.bool,_⟩::_,⟨.user _,_⟩::_,c=>simp [I7] at c
   |⟨.bool,_⟩::_,⟨.map _ _,_⟩::_,c=>simp [I7] at c
   |⟨.bool,_⟩::_,⟨.ifc _,_⟩::_,c=>simp [I7] at c
  .cases h
theorem ad5 {P:Program} {M:Nat->Prop} {t:TypeId} {ts:List Ty} {ds es:List (Datum U)} {b:Bool} {xs ys:List Value} (hs:P.stoodInHeld t=false) (a:ac5 P t=some ts) (e:I7 ts ds es=some b)
  (f:∀ (j:Nat) (x:Datum U),ds[j]? =some x->∃ u,xs[j]? =some u/\Rep U w M x u) (g:∀ (j:Nat) (x:Datum U),es[j]? =some x->∃ u,ys[j]? =some u/\Rep U w M x u):
  (Op.equalIn 10000 t (.agg xs.toArray) (.agg ys.toArray)).run P w=.ok b w:=by
 unfold ac5 at a;split at a
 case h_2=>cases a
 rename_i fs d;have hf:P.fieldsOf t=fs:=by simp [Program.fieldsOf,d]
 rw [show (10000:Nat)=9999+1 from rfl,run_equalIn_struct (P:=P) w 9999 t _ _ (by rw [hf];exact d) hs,hf];exact ai7 9998 a e (λj x c=>by rw [Nat.zero_add];exact f j x c) (λj x c=>by rw [Nat.zero_add];exact g j x c)
theorem bo9 {ds:List (Datum U)} {vs:List Value} (r:CsRel w β h (ds.map .d) vs):∀ (j:Nat) (x:Datum U),ds[j]? =some x->∃ u,vs[j]? =some u/\Rep U w (Live β h) x u:=by
 intro j x b;have a:j<vs.length:=by rw [r.1];simpa using (cn9.1 b).1
 exact ⟨vs[j],cn6 a,r.2.2 j (.d x) _ (by simp [b]) (cn6 a)⟩
theorem Does.bin (R:Rel F n β s tmps w) {op:BinOp} {t t':TypeId} {x y:Operand} (f:o.op=.binOp op t x y t') {u v:PV U} (r:PRel w β s.h s.σ u (ρ x)) (q:PRel w β s.h s.σ v (ρ y))
  (c:bn4 E op t u v=some e) (G:e.Obl):Does E.P F β s ρ w o e:=by
 unfold bn4 at c;split at c
 .split at c
  .rename_i k a k' b H;subst H;split at c
   .rename_i p d I;simp only [cn4] at c;subst c;obtain ⟨z,J,C⟩:=bD3 I G t x y w E.P;have i:=r.int;have j:=q.int;refine Does.pure (n:=n) R rfl (v:=z) ?_ (C _ _ _);simp only [execOp,f,i,j];have l:=J;simp only [Sem.run_bind] at l |-;rw [l];rfl
   .cases c
  .cases c
 .rename_i a b;split at c
  .rename_i K;have i:=r.bool;have j:=q.bool;have g:(Op.equal t (.bool a) (.bool b)).run E.P w=.ok (a==b) w:=ab7 K 9999 a b w;split at c
   .simp only [cn4] at c;subst c;refine Does.pure (n:=n) R rfl (v:=.bool (a==b)) ?_ (PRel.mkBool _);simp [execOp,f,i,j,eqGuard,binOp,g]
   .simp only [cn4] at c;subst c;refine Does.pure (n:=n) R rfl (v:=.bool (a !=b)) ?_ (PRel.mkBool _);simp [execOp,f,i,j,eqGuard,binOp,g,bne]
   .cases c
  .cases c
 ·--structs
  rename_i xs ys;split at c
  case h_2=>cases c
  rename_i ts ds es h1 h2 h3 h4 L;split at c
  case h_2=>cases c
  rename_i b M;obtain ⟨vs,i,m⟩:=r;obtain ⟨us,j,A⟩:=q;rw [ad4 h4] at m;rw [ad4 L] at A;have g:=ad5 (w:=w) h1 h3 M (bo9 m) (bo9 A);split at c
  .simp only [cn4] at c;subst c;refine Does.pure (n:=n) R rfl (v:=.bool b) ?_ (PRel.mkBool _);have D:=run_eqGuard_agg (P:=E.P) w .eql t x y vs.toArray us.toArray h2;have B:=run_eql_struct (P:=E.P) w t vs.toArray us.toArray;rw [g] at B;simp [execOp,f,i,j,D,B]
  .simp only [cn4] at c;subst c;refine Does.pure (n:=n) R rfl (v:=.bool (!b)) ?_ (PRel.mkBool _);have D:=run_eqGuard_agg (P:=E.P) w .neq t x y vs.toArray us.toArray h2;have B:=run_neq_struct (P:=E.P) w t vs.toArray us.toArray;rw [g] at B;simp [execOp,f,i,j,D,B]
  .cases c
 .cases c
theorem Does.un (R:Rel F n β s tmps w) {op:UnOp} {t:TypeId} {x:Operand} (d:o.op=.unOp op t x) {u:PV U} (r:PRel w β s.h s.σ u (ρ x)) (c:bQ0 op u=some e):Does E.P F β s ρ w o e:=by
 unfold bQ0 at c;split at c
 .rename_i b;have f:=r.bool;split at c
  .simp only [cn4] at c;subst c;refine Does.pure (n:=n) R rfl (v:=.bool !b) ?_ (PRel.mkBool _);simp [execOp,d,f,Op.unary]
  .cases c
 .rename_i k a;have f:=r.int;split at c
  .simp only [cn4] at c;subst c;refine Does.pure (n:=n) R rfl (v:=.int k (k.wrap (0-a))) ?_ (PRel.mkInt _ _);simp [execOp,d,f,Op.unary,Op.intArith]
  .cases c
 .cases c
theorem Does.conv (R:Rel F n β s tmps w) {t t':TypeId} {x:Operand} (c:o.op=.convert t' t x) {u:PV U} (r:PRel w β s.h s.σ u (ρ x)) (b:aO9 E t u=some e) (f:∃ d,E.P.underlying t'=some d):Does E.P F β s ρ w o e:=by
 unfold aO9 at b;split at b
 .rename_i k a;have g:=r.int;split at b
  .rename_i k' i;simp only [cn4] at b;subst b;obtain ⟨d,j⟩:=f;refine Does.pure (n:=n) R rfl (v:=.int k' (k'.wrap a)) ?_ (PRel.mkInt _ _);simp [execOp,c,g,convert,run_underlying i,run_underlying j,Conv.intToInt]
  .cases b
 .cases b
theorem Does.nilCheck (R:Rel F n β s tmps w) {x:Operand} (j:o.op=.nilCheck x) {c:Cell U} (hc:(∃ id off,c=.ptr id off)\/(∃ cs off,c=.rd cs off)\/(∃ id ver i off,c=.elt id ver i off/\∃ e t l lv,look id s.h=some (.row e t l ver lv)))
  (r:PRel w β s.h s.σ (.one c) (ρ x)):Does E.P F β s ρ w o (F5 (.one c)):=by
 have:∃ a,ρ x=.pointer (some a):=by
  rcases hc with ⟨id,off,rfl⟩|⟨cs,off,rfl⟩|⟨id,ver,i,off,rfl,e,t,l,lv,hl⟩
  .obtain ⟨_,_,b,_,_,d⟩:=r.inv.2;exact ⟨_,d⟩
  .obtain ⟨g,q,d,_⟩:=r.inv.2;exact ⟨_,d⟩
  .obtain ⟨_,_,_,_,_,f,_,d⟩:=r.inv.2;rw [hl] at f;simp only [cn4,Ob.row.injEq] at f;obtain ⟨_,_,g,c,_,d⟩:=d f.2.2.2.1;exact ⟨_,d⟩
 obtain ⟨a,k⟩:=this;refine Does.pure (n:=n) R rfl (v:=ρ x) ?_ r;simp [execOp,j,k]
theorem bY6 {D:Deep U} {N:Value} {c c':DC U} {k:Nat} (a:D.at_ c k=some c') {v:Value} (r:DCRel D N c v):∃ g q,v=.pointer (some ⟨g,q,none⟩)/\DCRel D N c' (.pointer (some ⟨g,q+k,none⟩)):=by
 cases D with
 |maps=>simp [Deep.at_] at a
 |iter=>simp [Deep.at_] at a
 |rows e t m l ver iv lv hole=>
  cases c with
  |elt v0 i off=>
   simp only [Deep.at_] at a;split at a
   case isFalse=>cases a
   rename_i b;have b:=cn5 b;simp only [cn4] at a;subst a;obtain ⟨d,f⟩:=r;obtain ⟨h0,h1,vs,g,c,h,hg,n⟩:=f b;exact ⟨g,_,n,d,λ_=>⟨h0,h1,vs,g,c,h,hg,by rw [Nat.add_assoc]⟩⟩
  |iat v0 i j q off=>
   simp only [Deep.at_] at a;split at a
   case isFalse=>cases a
   rename_i b;have b:=cn5 b;simp only [cn4] at a;subst a;obtain ⟨d,f⟩:=r;obtain ⟨h0,h1,hm,o,vs,g,c,e',t',l',h,hg,p,s,n⟩:=f b;exact ⟨g,_,n,d,λ_=>⟨h0,h1,hm,o,vs,g,c,e',t',l',h,hg,p,s,by rw [Nat.add_assoc]⟩⟩
  |self=>simp [Deep.at_] at a
  |inn=>simp [Deep.at_] at a
  |key=>simp [Deep.at_] at a
  |it=>simp [Deep.at_] at a
theorem Does.nilCheckDp (R:Rel F n β s tmps w) {x:Operand} (b:o.op=.nilCheck x) {id:Nat} {c c':DC U} {D:Deep U} (hl:look id s.h=some (.dp D)) (e:D.at_ c 0=some c')
  (r:PRel w β s.h s.σ (.one (.dc id c)) (ρ x)):Does E.P F β s ρ w o (F5 (.one (.dc id c'))):=by
 obtain ⟨D',a,f⟩:=r.inv.2;rw [hl] at a;simp only [cn4,Ob.dp.injEq] at a;subst a;obtain ⟨g,q,d,hr⟩:=bY6 e f;rw [Nat.add_zero] at hr;refine Does.pure (n:=n) R rfl (v:=ρ x) ?_ (by rw [d];exact CsRel.one rfl ⟨D,hl,hr⟩);simp [execOp,b,d]
theorem aa0 {P:Program} {t:TypeId} {f off:Nat} {t':TypeId} (h:am1 P t f=some (off,t')) (g q:Nat) (w:World):
  (Instr.fieldAt t (.pointer (some ⟨g,q,none⟩)) f).run P w=.ok (.pointer (some ⟨g,q+off,none⟩)) w:=by
 unfold am1 at h;split at h
 .rename_i fs c;split at h
  .rename_i x d;split at h
   .rename_i i e;split at h
    .cases h
    .rename_i j;simp only [cn4,co6] at h;obtain ⟨rfl,rfl⟩:=h;have a:fs[f]? =some x:=by simpa using d
     have b:¬ i.size=0:=λh0=>j (by rw [h0];rfl);simp [Instr.fieldAt,run_underlying c,a,Instr.sureAddr,fieldPlace,sizeOf,typeInfo,e,b,Addr.add_lit]
   .cases h
  .cases h
 .cases h
theorem Does.fieldAddr (R:Rel F n β s tmps w) {t:TypeId} {f:Nat} {x:Operand} (k:o.op=.fieldAddr t x f) {u:PV U} (r:PRel w β s.h s.σ u (ρ x)) {ids:List Nat} (d:V3 E (sub s.h ids) t f u=some e):Does E.P F β s ρ w o e:=by
 unfold V3 at d;split at d
 .rename_i off' t' z;split at d
  .rename_i id off;simp only [cn4] at d;subst d;obtain ⟨e',cs,b,hl,y,m⟩:=r.inv.2;refine Does.pure (n:=n) R rfl (v:=.pointer (some ⟨b,off+off',none⟩)) ?_ (CsRel.one rfl ⟨e',cs,b,hl,y,rfl⟩);simp [execOp,k,m,aa0 z]
  .rename_i cs off;simp only [cn4] at d;subst d;obtain ⟨g,q,m,hM,hg,hc⟩:=r.inv.2;refine Does.pure (n:=n) R rfl (v:=.pointer (some ⟨g,q+off+off',none⟩)) ?_ (CsRel.one rfl ⟨g,q,by rw [Nat.add_assoc],hM,hg,hc⟩);simp [execOp,k,m,aa0 z]
  .rename_i id ver i off;split at d
   .rename_i H I J ver2 K j;split at d
    .rename_i y;have y:=cn5 y;simp only [cn4] at d;subst d;obtain ⟨e',c,l,ver',lv,hl,A,m⟩:=r.inv.2;have j:=C1 j;rw [hl] at j;simp only [cn4,Ob.row.injEq] at j;have C:ver=ver':=y.trans j.2.2.2.1.symm;obtain ⟨h0,h1,g,cap,hβ,B⟩:=m C;refine Does.pure (n:=n) R rfl (v:=.pointer (some ⟨g,i.toNat*szOf U c+off+off',none⟩)) ?_ (CsRel.one rfl ⟨e',c,l,ver',lv,hl,A,λ_=>⟨h0,h1,g,cap,hβ,by rw [Nat.add_assoc]⟩⟩);simp [execOp,k,B,aa0 z]
    .cases d
   .cases d
  ·--a deep object
   rename_i id c;split at d
   case h_2=>cases d
   rename_i D hl;simp only [co1] at d;obtain ⟨c',G,rfl⟩:=d;have hl:=C1 hl;obtain ⟨D',p,m⟩:=r.inv.2;rw [hl] at p;simp only [cn4,Ob.dp.injEq] at p;subst p;obtain ⟨g,q,B,hr⟩:=bY6 G m;refine Does.pure (n:=n) R rfl (v:=.pointer (some ⟨g,q+off',none⟩)) ?_ (CsRel.one rfl ⟨D,hl,hr⟩);simp [execOp,k,B,aa0 z]
  .cases d
 .cases d
theorem Does.field (R:Rel F n β s tmps w) {t:TypeId} {f:Nat} {x:Operand} (q:o.op=.field t x f) {u:PV U} (r:PRel w β s.h s.σ u (ρ x)) (g:ax7 E t f u=some e):Does E.P F β s ρ w o e:=by
 unfold ax7 at g;split at g
 .rename_i cs;split at g
  .rename_i off t' a;simp only [co1] at g;obtain ⟨p,j,rfl⟩:=g;obtain ⟨vs,C,hr⟩:=r;have d:∃ l:Field,∃ fs,E.P.underlying t=some (.struct fs)/\fs[f]? =some l/\l.offset=off/\l.type=t':=by
    unfold am1 at a;split at a
    .rename_i fs y;split at a
     .rename_i l z;split at a
      .split at a
       .cases a
       .simp only [cn4,co6] at a;exact ⟨l,fs,y,by simpa using z,a.1,a.2⟩
      .cases a
     .cases a
    .cases a
   obtain ⟨l,fs,y,z,h1,h2⟩:=d;unfold az6 at j;split at j
   .rename_i b k hs;split at j
    .rename_i A;have A:=cn5 A;have m:=aW8 (σ:=s.σ) j ((hr.drop off).take k);have c:=bo8 (P:=E.P) hs w vs off (by rw [((hr.drop off).take k).1];exact A);have run:∀ v,(part t' vs.toArray off).run E.P w=.ok v w->(execOp ρ o).run E.P w=.ok (.value v) w:=by
      intro v i;simp [execOp,q,Instr.field,run_underlying y,z,asAgg,C,h1,h2,i]
     cases b with
     |true=>exact Does.pure (n:=n) R rfl (run _ (c.1 rfl)) (m.1 rfl)
     |false=>obtain ⟨v,B,i⟩:=m.2 rfl;exact Does.pure (n:=n) R rfl (run _ (c.2 rfl v B)) i
    .cases j
   .cases j
  .cases g
 .cases g
theorem Does.extract (R:Rel F n β s tmps w) {i:Nat} {x:Operand} (j:o.op=.extract x i) {u:PV U} (r:PRel w β s.h s.σ u (ρ x)) (c:af7 i u=some e):Does E.P F β s ρ w o e:=by
 unfold af7 at c;split at c
 .rename_i xs;split at c
  .rename_i b cs k;simp only [co1] at c;obtain ⟨p,d,rfl⟩:=c;obtain ⟨vs,l,hl,hr⟩:=r;have f:i<vs.length:=by
    rw [hl];by_cases f:i<xs.length
    .exact f
    .rw [List.getElem?_eq_none (by omega)] at k;cases k
   have g:vs[i]? =some vs[i]:=cn6 f;have a:=hr i (b,cs) vs[i] k g;refine Does.pure (n:=n) R rfl (v:=vs[i]) ?_ ?_
   .simp [execOp,j,l,Instr.extract,g]
   .cases b with
    |true=>simp only [az5,if_true,cn4] at d;subst d;exact a
    |false=>
     simp only [az5,Bool.false_eq_true,if_false] at d;split at d
     .simp only [cn4] at d;subst d;exact a
     .cases d
  .cases c
 .cases c
theorem aj8 {P:Program} {t:TypeId} {z:Nat} (h:aV8 P t=some z) (g q len cap:Nat) (k:IntKind) (i:Int) (h0:0<=i) (h1:i<(len:Int)) (w:World):
  (Instr.indexAt t (.slice (some ⟨g,q,none⟩) len cap) (.int k i)).run P w=.ok (.pointer (some ⟨g,q+i.toNat*z,none⟩)) w:=by
 unfold aV8 at h;split at h
 .rename_i e a;split at h
  .rename_i i' b;simp only [cn4] at h;subst h;simp [Instr.indexAt,asIntOf,run_underlying a,sizeOf,typeInfo,b,h0,h1,Addr.add_lit]
  .cases h
 .cases h
theorem bp0 {i:Int} {k:Nat} (h0:0<=i) (h1:i<(k:Int)):i.toNat<k:=by omega
theorem aA7 {i:Int} {k:Nat} (h0:0<=i) (h1:i<(k:Int)):¬ k=0:=by omega
theorem Owns.form {w:World} {B:Nat} {e:TypeId} {size:Nat} {v:Value} {n:Nat} {xs:List Value} (h:Owns w B e size v n xs):(∃ A cap,v=.slice A n cap/\n<=cap)/\(¬ n=0->∃ g cap,v=.slice (some ⟨g,0,none⟩) n cap):=by
 rcases h.2 with ⟨h3,h4⟩|⟨g,cap,cur,h3,_,_,a,_⟩
 .exact ⟨⟨none,0,by rw [h4];exact h3,by omega⟩,λb=>absurd h4 b⟩
 .exact ⟨⟨_,cap,h3,a⟩,λ_=>⟨g,cap,h3⟩⟩
theorem ad6 {B:Nat} {e:TypeId} {t:Ty} {m:List Nat} {l:List (den U.T t)} {ver iv:Nat} {lv:Bool} {hole:Option (Int×Nat)} {N:Value} (r:DRel B w β h (.rows e t m l ver iv lv hole) N) {v0:Nat} (b:v0=ver) {v:Value} (d:DCRel (.rows e t m l ver iv lv hole) N (.self v0) v):
  ∃ xs ns,N=.tuple (v::ns).toArray/\Owns w B e (szOf U t) v l.length xs:=by
 obtain ⟨root,xs,ns,c,h1,_⟩:=r;obtain ⟨vs,a,hg⟩:=d.2 b;rw [c] at a;have:=G1 a;subst this;simp only [List.getElem?_toArray,co2,cn4] at hg;subst hg;exact ⟨xs,ns,c,h1⟩
theorem bQ7 {B:Nat} {D:Deep U} {N:Value} (r:DRel B w β h D N) {c:DC U} {k:Nat} (hc:D.len c=some k) {v:Value} (f:DCRel D N c v):∃ A cap,v=.slice A k cap:=by
 cases D with
 |maps=>simp [Deep.len] at hc
 |iter=>simp [Deep.len] at hc
 |rows e t m l ver iv lv hole=>
  cases c with
  |self v0=>
   simp only [Deep.len] at hc;split at hc
   case isFalse=>cases hc
   rename_i a;simp only [cn4] at hc;subst hc;obtain ⟨xs,ns,_,b⟩:=ad6 r (cn5 a) f;obtain ⟨⟨A,cap,h1,_⟩,_⟩:=b.form;exact ⟨A,cap,h1⟩
  |inn v0 i j=>
   simp only [Deep.len] at hc;split at hc
   case h_2=>cases hc
   rename_i n o p d;split at hc
   case isFalse=>cases hc
   rename_i a;simp only [cn4] at hc;subst hc;obtain ⟨h0,h1,hm,vs,g,hg⟩:=f.2 (cn5 a);obtain ⟨⟨ys,b,_⟩,_⟩:=ag0 r h0 h1 hm d g hg;obtain ⟨⟨A,cap,h1,_⟩,_⟩:=b.form;exact ⟨A,cap,h1⟩
  |elt=>simp [Deep.len] at hc
  |iat=>simp [Deep.len] at hc
  |key=>simp [Deep.len] at hc
  |it=>simp [Deep.len] at hc
theorem bt5 {B:Nat} {D:Deep U} {N:Value} (r:DRel B w β h D N) {c c':DC U} {z:Nat} {i:Int} {p:Prop} (hc:D.index c z i=some (p,c')) (q:p) {v:Value} (s:DCRel D N c v):
  ∃ g len cap,v=.slice (some ⟨g,0,none⟩) len cap/\0<=i/\i<(len:Int)/\DCRel D N c' (.pointer (some ⟨g,0+i.toNat*z,none⟩)):=by
 cases D with
 |maps=>simp [Deep.index] at hc
 |iter=>simp [Deep.index] at hc
 |rows e t m l ver iv lv hole=>
  cases c with
  |self v0=>
   simp only [Deep.index] at hc;split at hc
   case isFalse=>cases hc
   rename_i b;simp only [cn7] at b;have n:=cn5 b.2;have a:=cn5 b.1;simp only [cn4,co6] at hc;obtain ⟨rfl,rfl⟩:=hc;obtain ⟨h0,h1⟩:=q;obtain ⟨xs,ns,k,o⟩:=ad6 r a s;obtain ⟨g,cap,d⟩:=o.form.2 (aA7 h0 h1);exact ⟨g,l.length,cap,d,h0,h1,Nat.le_refl _,λ_=>⟨h0,h1,_,g,cap,k,by simp [d],by rw [n];simp⟩⟩
  |inn v0 E j=>
   simp only [Deep.index] at hc;split at hc
   case h_2=>cases hc
   rename_i A C u f;split at hc
   case isFalse=>cases hc
   rename_i b;simp only [cn7] at b;have n:=cn5 b.2;have a:=cn5 b.1;simp only [cn4,co6] at hc;obtain ⟨rfl,rfl⟩:=hc;obtain ⟨h0,h1⟩:=q;obtain ⟨x,y,hm,vs,k,hg⟩:=s.2 a;obtain ⟨⟨ys,o,_⟩,_⟩:=ag0 r x y hm f k hg;obtain ⟨g,cap,d⟩:=o.form.2 (aA7 h0 h1);exact ⟨g,u.length,cap,d,h0,h1,Nat.le_refl _,λ_=>⟨x,y,hm,h0,vs,g,cap,A,C,u,k,by rw [hg,d],f,h1,by rw [n];simp⟩⟩
  |elt=>simp [Deep.index] at hc
  |iat=>simp [Deep.index] at hc
  |key=>simp [Deep.index] at hc
  |it=>simp [Deep.index] at hc
theorem Does.indexAddr (R:Rel F n β s tmps w) {t:TypeId} {x y:Operand} (A:o.op=.indexAddr t x y) {u v:PV U} (r:PRel w β s.h s.σ u (ρ x)) (q:PRel w β s.h s.σ v (ρ y)) {ids:List Nat}
  (m:V4 E (sub s.h ids) t u v=some e) (L:e.Obl):Does E.P F β s ρ w o e:=by
 unfold V4 at m;split at m
 ·--data
  rename_i e' c l k i;split at m
  .rename_i z M;split at m
   .rename_i B;have B:=cn5 B;simp only [cn4] at m;subst m;obtain ⟨h0,h1⟩:=L;have G:=q.int;have S:Int.toNat i<l.length:=bp0 h0 h1;have V:l.getD i.toNat (dfl U c)=l[i.toNat]:=by simp [List.getD,cn6 S]
    have C:=r.d;generalize W:ρ x=vx at C;cases C with
    |nil=>simp at S
    |slice _ _ _ g q' cap f hpos hc hm hM hg hcell hr=>
     refine Does.pure (n:=n) R rfl (v:=.pointer (some ⟨g,q'+i.toNat*z,none⟩)) ?_ ?_
     .simp [execOp,A,W,G,aj8 M g q' l.length cap k i h0 h1 w]
     .refine CsRel.one rfl ⟨g,q'+i.toNat*z,rfl,hM,hg,λj d T=>?_⟩;rw [V] at T;have X:j<szOf U c:=by
       rw [<-B0 U c l[i.toNat]];by_cases X:j<(B1 U c l[i.toNat]).length
       .exact X
       .rw [List.getElem?_eq_none (by omega)] at T;cases T
      rw [B];exact ⟨f i.toNat j,hcell _ S _ X,hr i.toNat _ (cn6 S) j d T⟩
   .cases m
  .cases m
 ·--a row of one's own
  rename_i id ver k i;split at m
  .rename_i e' c l ver' lv hl;split at m
   .rename_i z M;split at m
    .rename_i B;simp only [cn7] at B;have N:=cn5 B.1;have Y:=cn5 B.2;simp only [cn4] at m;subst m;obtain ⟨h0,h1⟩:=L;have G:=q.int;have hl:=C1 hl;obtain ⟨_,_,_,_,_,H,hle,Z⟩:=r.inv.2;rw [hl] at H;simp only [cn4,Ob.row.injEq] at H;have C:=Z (N.trans H.2.2.2.1);obtain ⟨xs,O,hm,h1c,hel⟩:=R.obj id _ hl;have I:∃ g cap,β id=.slice (some ⟨g,0,none⟩) l.length cap:=by
      rcases O.2 with ⟨_,h3⟩|⟨g,cap,cur,h3,_⟩
      .exact absurd h3 (aA7 h0 h1)
      .exact ⟨g,cap,h3⟩
     obtain ⟨g,cap,hβ⟩:=I;refine Does.pure (n:=n) R rfl (v:=.pointer (some ⟨g,0+i.toNat*z,none⟩)) ?_ ?_
     .simp [execOp,A,C,hβ,G,aj8 M g 0 l.length cap k i h0 h1 w]
     .refine CsRel.one rfl ⟨e',c,l,ver',lv,hl,by omega,λ_=>⟨h0,h1,g,cap,hβ,by rw [Y];simp⟩⟩
    .cases m
   .cases m
  .cases m
 ·--a table of the program
  rename_i g k i;split at m
  .rename_i fs hfs;split at m
   .rename_i len el hu;split at m
    .rename_i ie J;split at m
     .rename_i B;simp only [cn7] at B;have Q:=cn5 B.1;have hsz:=cn5 B.2;simp only [cn4] at m;subst m;obtain ⟨h0,h1⟩:=L;have G:=q.int;have C:ρ x=.pointer (some ⟨g,0,none⟩):=r.inv.2;refine Does.pure (n:=n) R rfl (v:=.pointer (some ⟨g,i.toNat,none⟩)) ?_ ?_
      .have h1':i<(len:Int):=by rw [Q];exact h1
       simp [execOp,A,C,G,Instr.indexAt,asIntOf,run_underlying hu,sizeOf,typeInfo,J,h0,h1',Addr.add_lit,hsz,Instr.sureAddr]
      .exact CsRel.one rfl ⟨h0,rfl⟩
     .cases m
    .cases m
   .cases m
  .cases m
 ·--a deep object
  rename_i id c k i;split at m
  case h_2=>cases m
  rename_i D hl;split at m
  case h_2=>cases m
  rename_i z M;split at m
  case h_2=>cases m
  rename_i p c' hc;simp only [cn4] at m;subst m;have G:=q.int;have hl:=C1 hl;obtain ⟨D',K,Z⟩:=r.inv.2;rw [hl] at K;simp only [cn4,Ob.dp.injEq] at K;subst K;obtain ⟨g,len,cap,C,h0,h1,hr⟩:=bt5 (R.obj id _ hl) hc L Z;refine Does.pure (n:=n) R rfl (v:=.pointer (some ⟨g,0+i.toNat*z,none⟩)) ?_ (CsRel.one rfl ⟨D,hl,hr⟩);simp [execOp,A,C,G,aj8 M g 0 len cap k i h0 h1 w]
 ·--an array in a box
  rename_i id off k i;split at m
  .rename_i len el hu;split at m
   .rename_i ie J;simp only [cn4] at m;subst m;obtain ⟨h0,h1⟩:=L;have G:=q.int;obtain ⟨e',cs,b,hl,hβ,C⟩:=r.inv.2;refine Does.pure (n:=n) R rfl (v:=.pointer (some ⟨b,off+i.toNat*ie.size,none⟩)) ?_ ?_
    .simp [execOp,A,C,G,Instr.indexAt,asIntOf,run_underlying hu,sizeOf,typeInfo,J,h0,h1,Addr.add_lit,Instr.sureAddr]
    .exact CsRel.one rfl ⟨e',cs,b,hl,hβ,rfl⟩
   .cases m
  .cases m
 .cases m
theorem H3 {P:Program} {b:Builtin} {c:Call} (a:o.op=.call c) (hc:c.callee=.builtin b) {r:Result Next} (h:(builtin b c.argTypes o.type (c.args.map λ| .const _=>true|_=>false) (c.args.map ρ)).run P w=r):
  (execOp ρ o).run P w=r:=by
 simp only [execOp,a,resolve,hc];exact h
theorem cb0 {P:Program} {t:TypeId} {e:TypeId} (a:P.underlying t=some (.slice e)) {ts:Array TypeId} (b:ts[0]? =some t) (A:Option Addr) (k c:Nat) (ty:TypeId) (w:World):
  (Builtin.len_ ts ty #[.slice A k c]).run P w=.ok (.int .i64 (k:Int)) w:=by
 simp [Builtin.len_,b,run_underlying a,goInt]
theorem Does.len (R:Rel F n β s tmps w) {c:Call} {x:Operand} (v:o.op=.call c) (hc:c.callee=.builtin .len) (j:c.args.toList=[x]) {t e':TypeId} {ts:List TypeId} (B:c.argTypes.toList=t::ts) (C:E.P.underlying t=some (.slice e'))
  {u:PV U} (r:PRel w β s.h s.σ u (ρ x)) {ids:List Nat} (a:bn5 (sub s.h ids) u=some e):Does E.P F β s ρ w o e:=by
 have b:c.args.map ρ=#[ρ x]:=by apply Array.toList_inj.1;simp [j]
 have h0:c.argTypes[0]? =some t:=by rw [<-Array.getElem?_toList,B];rfl
 have fin:∀ (A:Option Addr) (k cap:Nat),ρ x=.slice A k cap->(execOp ρ o).run E.P w=.ok (.value (.int .i64 (k:Int))) w:=by intro A k cap m;refine H3 v hc ?_;rw [b,m];simp [builtin,cb0 C h0]
 unfold bn5 at a;split at a
 .rename_i K L l;simp only [cn4] at a;subst a;have z:=r.d;generalize p:ρ x=vx at z;cases z with
  |nil=>exact Does.pure (n:=n) R rfl (fin _ _ _ p) (PRel.mkInt _ _)
  |slice=>exact Does.pure (n:=n) R rfl (fin _ _ _ p) (PRel.mkInt _ _)
 .simp only [cn4] at a;subst a;exact Does.pure (n:=n) R rfl (fin none 0 0 r.inv.2) (PRel.mkInt _ _)
 .rename_i id ver;split at a
  .rename_i M N l ver2 O hl;split at a
   .rename_i y;have y:=cn5 y;simp only [cn4] at a;subst a;have hl:=C1 hl;obtain ⟨_,_,_,_,_,f,G,m⟩:=r.inv.2;rw [hl] at f;simp only [cn4,Ob.row.injEq] at f;have j:=m (y.trans f.2.2.2.1);obtain ⟨xs,q,hm,H,I⟩:=R.obj id _ hl;have:∃ A cap,β id=.slice A l.length cap:=by
     rcases q.2 with ⟨h3,h4⟩|⟨g,cap,cur,h3,_⟩
     .exact ⟨none,0,by rw [h4];exact h3⟩
     .exact ⟨_,cap,h3⟩
    obtain ⟨A,cap,hβ⟩:=this;exact Does.pure (n:=n) R rfl (fin A l.length cap (j.trans hβ)) (PRel.mkInt _ _)
   .cases a
  .cases a
 .rename_i id c;split at a
  case h_2=>cases a
  rename_i D hl;split at a
  case h_2=>cases a
  rename_i k J;simp only [cn4] at a;subst a;have hl:=C1 hl;obtain ⟨D',i,m⟩:=r.inv.2;rw [hl] at i;simp only [cn4,Ob.dp.injEq] at i;subst i;obtain ⟨A,cap,j⟩:=bQ7 (R.obj id _ hl) J m;exact Does.pure (n:=n) R rfl (fin A k cap j) (PRel.mkInt _ _)
 .cases a
theorem Does.min (R:Rel F n β s tmps w) {c:Call} {x y:Operand} (g:o.op=.call c) (hc:c.callee=.builtin .min) (i:c.args.toList=[x,y])
  {u v:PV U} (r:PRel w β s.h s.σ u (ρ x)) (q:PRel w β s.h s.σ v (ρ y)) (d:bn6 u v=some e):Does E.P F β s ρ w o e:=by
 have f:c.args.map ρ=#[ρ x,ρ y]:=by apply Array.toList_inj.1;simp [i]
 unfold bn6 at d;split at d
 .split at d
  .rename_i k a k' b j;subst j;simp only [cn4] at d;subst d;have h1:=r.int;have h2:=q.int;refine Does.pure (n:=n) R rfl (H3 g hc ?_) (PRel.mkInt k (if (b:Int)<a then b else a));rw [f,h1,h2];simp [builtin,Builtin.min_,Builtin.min2]
  .cases d
 .cases d
theorem Does.max (R:Rel F n β s tmps w) {c:Call} {x y:Operand} (g:o.op=.call c) (hc:c.callee=.builtin .max) (i:c.args.toList=[x,y])
  {u v:PV U} (r:PRel w β s.h s.σ u (ρ x)) (q:PRel w β s.h s.σ v (ρ y)) (d:bn7 u v=some e):Does E.P F β s ρ w o e:=by
 have f:c.args.map ρ=#[ρ x,ρ y]:=by apply Array.toList_inj.1;simp [i]
 unfold bn7 at d;split at d
 .split at d
  .rename_i k a k' b j;subst j;simp only [cn4] at d;subst d;have h1:=r.int;have h2:=q.int;refine Does.pure (n:=n) R rfl (H3 g hc ?_) (PRel.mkInt k (if (b:Int) >a then b else a));rw [f,h1,h2];simp [builtin,Builtin.max_,Builtin.max2]
  .cases d
 .cases d
theorem bY7 (a b:Int):(if b >a then b else a)=max a b:=by split<;>omega
theorem Does.max3 (R:Rel F n β s tmps w) {c:Call} {x y z:Operand} (i:o.op=.call c) (hc:c.callee=.builtin .max) (j:c.args.toList=[x,y,z])
  {u v t:PV U} (r:PRel w β s.h s.σ u (ρ x)) (q:PRel w β s.h s.σ v (ρ y)) (k:PRel w β s.h s.σ t (ρ z)) (g:aP1 u v t=some e):Does E.P F β s ρ w o e:=by
 have f:c.args.map ρ=#[ρ x,ρ y,ρ z]:=by apply Array.toList_inj.1;simp [j]
 unfold aP1 at g;split at g
 .rename_i a b d;simp only [cn4] at g;subst g;have h1:=r.int;have h2:=q.int;have h3:=k.int;refine Does.pure (n:=n) R rfl (H3 i hc ?_) (PRel.mkInt .i64 (Max.max (Max.max (a:Int) b) d));rw [f,h1,h2,h3];have l:(if (b:Int) >a then (b:Int) else a)=Max.max (a:Int) b:=bY7 a b;have p:∀ m:Int,(if (d:Int) >m then (d:Int) else m)=Max.max m d:=λm=>bY7 m d;simp [builtin,Builtin.max_,Builtin.max2,l,p]
 .cases g
theorem Rel.ok (R:Rel F n β s tmps w):Ok F w β s.h:=R.toOk
theorem After.ok {w':World} {β':Nm} {h':Obs U} (A:After F w β h w' β' h'):Ok F w' β' h':=A.toOk
theorem Ok.after (k:Ok F w β h):After F w β h w β h:=⟨k,Ext.refl _ _ _⟩
theorem Ext.after {w':World} {β':Nm} {h':Obs U} (x:Ext w β h w' β' h') (k:Ok F w' β' h'):After F w β h w' β' h':=⟨k,x⟩
theorem Ext.trans {w1 m:World} {β1 β2:Nm} {h1 h2:Obs U} (x:Ext w β h w1 β1 h1) (y:Ext w1 β1 h1 m β2 h2):Ext w β h m β2 h2 where
 size:=Nat.le_trans x.size y.size
 heap:=λb a hl=>by have h1:=x.heap b a hl;have f:b<w1.heap.size:=Nat.lt_of_lt_of_le a x.size;rw [y.heap b f (λn=>hl (x.own b a n))];exact h1
 own:=λb a hl=>x.own b a (y.own b (Nat.lt_of_lt_of_le a x.size) hl)
 M:=y.M.trans x.M
 box:=λid e cs hl=>by obtain ⟨h1,cs1,h2⟩:=x.box id e cs hl;obtain ⟨h3,cs2,h4⟩:=y.box id e cs1 h2;exact ⟨h3.trans h1,cs2,h4⟩
 row:=λid e t l ver lv hl=>by
  obtain ⟨s,ver1,lv1,h1,h2,h3⟩:=x.row id e t l ver lv hl;obtain ⟨u,ver2,lv2,h4,p,g⟩:=y.row id e t s ver1 lv1 h1;refine ⟨u,ver2,lv2,h4,by omega,λn=>?_⟩;have z:ver1=ver:=by omega
  obtain ⟨i,q⟩:=h3 z;obtain ⟨A,j⟩:=g (by omega);exact ⟨A.trans i,j.trans q⟩
 oth:=λid o hl B=>by
  obtain ⟨h1,h2,d,h3,h4⟩:=x.oth id o hl B;have k:d.oth=true:=by cases o<;>cases d<;>simp_all [Ob.like,Ob.oth]
  obtain ⟨p,g,r,i,q⟩:=y.oth id d h3 k;refine ⟨p.trans h1,g.trans h2,r,i,?_⟩;cases o<;>cases d<;>cases r<;>simp_all [Ob.like,Ob.oth]
 dp:=λid D hl=>by obtain ⟨D1,h1,h2⟩:=x.dp id D hl;obtain ⟨D2,h3,h4⟩:=y.dp id D1 h1;exact ⟨D2,h3,λc v C=>h4 c v (h2 c v C)⟩
theorem After.trans {w1 a:World} {β1 β2:Nm} {h1 h2:Obs U} (x:After F w β h w1 β1 h1) (y:After F w1 β1 h1 a β2 h2):After F w β h a β2 h2:=
 (x.ext.trans y.ext).after y.ok
theorem C6 (h u v:Obs U):upds h (u++v)=upds (upds h u) v:=by
 induction u generalizing h with
 |nil=>rfl
 |cons x u ih=>obtain ⟨id,o⟩:=x;exact ih _
def Freezes (h u:Obs U):Prop:=∀ id o,(id,o)∈u->(∃ e t l ver lv,look id h=some (.row e t l ver lv)/\o=.row e t l ver false)\/(∃ D,look id h=some (.dp D)/\o=.dp D.frozen)
def Ob.frozen:Ob U->Ob U
 | .row e t l ver _=>.row e t l ver false
 | .dp D=>.dp D.frozen
 |o=>o
theorem Freezes.at_ {u:Obs U} (hf:Freezes h u) {id:Nat} {o:Ob U} (hm:(id,o)∈u):∃ o0,look id h=some o0/\o=o0.frozen/\o0.isRow=true:=by
 rcases hf id o hm with ⟨e,t,l,ver,lv,h1,h2⟩|⟨D,h1,h2⟩
 .exact ⟨_,h1,h2,rfl⟩
 .exact ⟨_,h1,h2,rfl⟩
theorem Freezes.of {u:Obs U} (hf:∀ id o,(id,o)∈u->∃ o0,look id h=some o0/\o=o0.frozen/\o0.isRow=true):Freezes h u:=by
 intro id o hm;obtain ⟨o0,h1,h2,h3⟩:=hf id o hm;cases o0 with
 |row e t l ver lv=>exact .inl ⟨e,t,l,ver,lv,h1,h2⟩
 |dp D=>exact .inr ⟨D,h1,h2⟩
 |box=>cases h3
 |map=>cases h3
 |loop=>cases h3
theorem Deep.frozen2 (D:Deep U):D.frozen.frozen=D.frozen:=by cases D<;>rfl
theorem Ob.frozen2 (o:Ob U):o.frozen.frozen=o.frozen:=by
 cases o with
 |dp D=>simp only [Ob.frozen,Deep.frozen2]
 |_=>rfl
theorem Ob.frozen_isRow (o:Ob U):o.frozen.isRow=o.isRow:=by cases o<;>rfl
theorem DCRel.frozen {D:Deep U} {N:Value} {c:DC U} {v:Value} (r:DCRel D N c v):DCRel D.frozen N c v:=by
 cases D with
 |rows e t m l ver iv lv hole=>cases c<;>exact r
 |maps=>cases c<;>exact r
 |iter=>exact r
theorem DRel.frozen {B:Nat} {D:Deep U} {N:Value} (r:DRel B w β h D N):DRel B w β h D.frozen N:=by
 cases D with
 |rows e t m l ver iv lv hole=>exact r
 |maps=>exact r
 |iter=>exact r
theorem ORel.frozen {B:Nat} {id:Nat} {o:Ob U} (r:ORel B w β h id o):ORel B w β h id o.frozen:=by
 cases o with
 |dp D=>exact DRel.frozen r
 |row=>exact r
 |box=>exact r
 |map=>exact r
 |loop=>exact r
theorem bt6 (k:Ok F w β h) {id:Nat} {o:Ob U} (hl:look id h=some o) (a:o.isRow=true):
  After F w β h w β (write id o.frozen h):=by
 have live:∀ b,Own β (write id o.frozen h) b->Own β h b:=by
  rintro b ⟨id',o',h1,h2,h3⟩;rw [A5] at h1;split at h1
  .rename_i d;subst d;simp only [cn4] at h1;subst h1;refine ⟨id',o,hl,?_,h3⟩;cases o with
   |dp D=>cases D<;>first|exact rfl|(simp [Ob.frozen,Ob.live,Deep.frozen,Deep.live] at h2)
   |row=>simp [Ob.frozen,Ob.live] at h2
   |box=>cases a
   |map=>cases a
   |loop=>cases a
  .exact ⟨id',o',h1,h2,h3⟩
 have ext:Ext w β h w β (write id o.frozen h):=by
  refine ⟨Nat.le_refl _,λ_ _ _=>rfl,λb _=>live b,rfl,λid' e' cs h1=>⟨rfl,cs,?_⟩,λid' e' t' l' ver' lv' h1=>?_,λid' o' h1 n=>⟨rfl,rfl,o',?_,Ob.like_refl n⟩,λid' D h1=>?_⟩
  .rw [A5];split
   .rename_i d;subst d;rw [hl] at h1;simp only [cn4] at h1;subst h1;cases a
   .exact h1
  .by_cases d:id'=id
   .subst d;rw [hl] at h1;simp only [cn4] at h1;subst h1;exact ⟨l',ver',false,by rw [A5,if_pos rfl];rfl,Nat.le_refl _,λ_=>⟨rfl,rfl⟩⟩
   .exact ⟨l',ver',lv',by rw [A5,if_neg d];exact h1,Nat.le_refl _,λ_=>⟨rfl,rfl⟩⟩
  .rw [A5];split
   .rename_i d;subst d;rw [hl] at h1;simp only [cn4] at h1;subst h1;cases o<;>simp_all [Ob.oth,Ob.isRow]
   .exact h1
  .by_cases d:id'=id
   .subst d;rw [hl] at h1;simp only [cn4] at h1;subst h1;exact ⟨D.frozen,by rw [A5,if_pos rfl];rfl,λc v g=>g.frozen⟩
   .exact ⟨D,by rw [A5,if_neg d];exact h1,λ_ _ g=>g⟩
 have get:∀ j oj,look j (write id o.frozen h)=some oj->∃ oj',look j h=some oj':=by
  intro j oj i;rw [A5] at i;split at i
  .rename_i d;subst d;exact ⟨_,hl⟩
  .exact ⟨_,i⟩
 refine ⟨⟨k.bel,k.hB,λid' o' h1=>?_,λid1 p id2 q b h1 h2 h3 h4=>?_,k.frm,λid' o' b h1 h2=>?_,λid' o' b h1 h2=>?_,k.Mlt,k.Meq,λid' o' v h1 h2=>?_,k.nmg,k.glo⟩,ext⟩
 .rw [A5] at h1;split at h1
  .rename_i d;subst d;simp only [cn4] at h1;subst h1;exact (ext.o (id:=id') rfl rfl (λ_ _=>rfl) (k.obj id' _ hl)).frozen
  .exact ext.o rfl rfl (λ_ _=>rfl) (k.obj id' o' h1)
 .obtain ⟨e,f⟩:=get _ _ h1;obtain ⟨l,m⟩:=get _ _ h2;exact k.dis id1 e id2 l b f m h3 h4
 .obtain ⟨e,f⟩:=get _ _ h1;exact k.own id' e b f h2
 .obtain ⟨e,f⟩:=get _ _ h1;exact k.Mo id' e b f h2
 .rw [A5] at h1;split at h1
  .simp only [cn4] at h1;subst h1;exact .inl (by rw [Ob.frozen_isRow];exact a)
  .exact k.fix id' o' v h1 h2
theorem au0 {u:Obs U} {id:Nat} {o0 o:Ob U} (hl:look id h=some o0) (hf:Freezes h ((id,o)::u)):Freezes (write id o0.frozen h) u:=by
 refine Freezes.of λid' o' hm=>?_;obtain ⟨b,h1,h2,h3⟩:=hf.at_ (id:=id') (o:=o') (by simp [hm]);by_cases a:id'=id
 .subst a;rw [hl] at h1;simp only [cn4] at h1;subst h1;exact ⟨o0.frozen,by rw [A5,if_pos rfl],by rw [Ob.frozen2];exact h2,by rw [Ob.frozen_isRow];exact h3⟩
 .exact ⟨b,by rw [A5,if_neg a];exact h1,h2,h3⟩
theorem H8 (k:Ok F w β h) {u:Obs U} (hf:Freezes h u):After F w β h w β (upds h u):=by
 induction u generalizing h with
 |nil=>exact k.after
 |cons x u ih=>obtain ⟨id,o⟩:=x;obtain ⟨o0,hl,rfl,hr⟩:=hf.at_ (id:=id) (o:=o) (by simp);have a:=bt6 k hl hr;exact a.trans (ih a.ok (au0 hl hf))
theorem au1 {u:Obs U} (hf:Freezes h u) {id:Nat} {o0:Ob U} (hl:look id h=some o0) (hm:∃ o,(id,o)∈u):
  look id (upds h u)=some o0.frozen:=by
 induction u generalizing h o0 with
 |nil=>obtain ⟨o,hm⟩:=hm;simp at hm
 |cons x u ih=>
  obtain ⟨id',o'⟩:=x;obtain ⟨k,a,rfl,hr⟩:=hf.at_ (id:=id') (o:=o') (by simp);have b:=au0 a hf;by_cases d:id=id'
  .subst d;rw [hl] at a;simp only [cn4] at a;subst a;by_cases c:∃ o,(id,o)∈u
   .have:=ih b (o0:=o0.frozen) (by rw [A5,if_pos rfl]) c;rw [Ob.frozen2] at this;exact this
   .have:∀ (v:Obs U) (g:Obs U),(¬ ∃ o,(id,o)∈v)->look id (upds g v)=look id g:=by
     intro v
     induction v with
     |nil=>intro g _;rfl
     |cons y v ihv=>intro g f;obtain ⟨idy,oy⟩:=y;show look id (upds (write idy oy g) v)=_;rw [ihv _ (λ⟨o,i⟩=>f ⟨o,by simp [i]⟩),A5,if_neg (λj=>f ⟨oy,by subst j;simp⟩)]
    show look id (upds _ u)=_;rw [this u _ c,A5,if_pos rfl]
  .obtain ⟨o,hm⟩:=hm;have e:(id,o)∈u:=by
    rcases List.mem_cons.1 hm with h1|h1
    .simp only [co6] at h1;exact absurd h1.1 d
    .exact h1
   exact ih b (o0:=o0) (by rw [A5,if_neg d];exact hl) ⟨o,e⟩
theorem bf7 {u:Obs U} (hf:Freezes h u) {id:Nat} {e:TypeId} {t:Ty} {l:List (den U.T t)} {ver:Nat} {lv:Bool} (hl:look id h=some (.row e t l ver lv)) (hm:∃ o,(id,o)∈u):
  look id (upds h u)=some (.row e t l ver false):=au1 hf hl hm
theorem V6 {g:Obs U} (hg:∀ id o,look id g=some o->look id h=some o) {t:Ty} {c:Cell U} {d:Datum U} {u:Obs U} (a:asD g t c=some (d,u)):Freezes h u/\d.1=t:=by
 unfold asD at a;split at a
 .split at a
  .rename_i b;simp only [cn4,co6] at a;obtain ⟨rfl,rfl⟩:=a;exact ⟨λ_ _ hm=>by simp at hm,b⟩
  .cases a
 .split at a
  .simp only [cn4,co6] at a;obtain ⟨rfl,rfl⟩:=a;exact ⟨λ_ _ hm=>by simp at hm,rfl⟩
  .cases a
 .split at a
  .rename_i id ver _ e t' l ver' lv hl;split at a
   .rename_i i;split at a
    .rename_i f;simp only [cn4,co6] at a;obtain ⟨rfl,rfl⟩:=a;exact ⟨λid' o' hm=>by
      simp only [co5,co6] at hm;obtain ⟨rfl,rfl⟩:=hm;exact .inl ⟨e,t',l,ver',lv,hg _ _ hl,rfl⟩,f⟩
    .cases a
   .cases a
  .cases a
 .split at a
  .simp only [co1,co6] at a;obtain ⟨x,b,rfl,rfl⟩:=a;exact ⟨λ_ _ hm=>by simp at hm,rfl⟩
  .cases a
 .split at a
  case h_2=>cases a
  rename_i D hl;split at a
  case h_2=>cases a
  rename_i x b;split at a
  case isFalse=>cases a
  rename_i f;simp only [cn4,co6] at a;obtain ⟨rfl,rfl⟩:=a;exact ⟨λid' o' hm=>by
   simp only [co5,co6] at hm;obtain ⟨rfl,rfl⟩:=hm;exact .inr ⟨D,hg _ _ hl,rfl⟩,f⟩
 .cases a
theorem J9 {ids:List Nat} {t:Ty} {c:Cell U} {d:Datum U} {u:Obs U} (a:asD (sub h ids) t c=some (d,u)):Freezes h u/\d.1=t:=V6 (λ_ _=>C1) a
theorem ay3 {B:Nat} {L:Nat->Prop} {e:TypeId} {t:Ty} {l:List (den U.T t)} {v:Value} (n:∀ g,D5 v=some g->¬ L g) (r:RowC B w L e t l v):Rep U w L ⟨.slice e t,l⟩ v:=by
 obtain ⟨xs,a,hm,p,o⟩:=r;rcases Nat.eq_zero_or_pos l.length with h0|h0
 .have:l=[]:=List.length_eq_zero_iff.1 h0;subst this;rcases a.2 with ⟨h3,_⟩|⟨g,cap,cur,h3,_⟩
  .rw [h3];exact .nil _ _ _ _
  .rw [h3];exact .nil _ _ _ _
 .have b:=a;rcases a.2 with ⟨h3,h4⟩|⟨g,cap,cur,h3,hg,q,k,_,_,_⟩
  .omega
  .have c:∀ (j:Nat) (y:Value),xs[j]? =some y->w.cell? ⟨g,j,none⟩=some y:=b.cells (g:=g) (by rw [h3];rfl);have h:¬ L g:=n g (by rw [h3];rfl);rw [h3];have m:g<w.heap.size:=(cp2.1 q).1;refine .slice e t l g 0 cap (λi j=>xs.getD (i*szOf U t+j) undef) h0 k hm h m (λi s j C=>?_) (λi x u j d z=>?_)
   .have f:i*szOf U t+j<xs.length:=by
     rw [b.1];have:(i+1)*szOf U t<=l.length*szOf U t:=Nat.mul_le_mul_right _ s;rw [Nat.add_mul,Nat.one_mul] at this;omega
    rw [Nat.zero_add];refine c _ _ ?_;rw [cn6 f];simp [List.getD,cn6 f]
   .obtain ⟨y,A,hr⟩:=o i x u j d z;simp only [List.getD,A,Option.getD_some];exact hr
theorem bQ8 {B:Nat} {D:Deep U} {N:Value} (s:∀ b,Has N b->¬ Live β h b) (r:DRel B w β h D.frozen N) {c:DC U} {x:Datum U} (a:D.datum c=some x) {v:Value} (I:DCRel D N c v):Rep U w (Live β h) x v:=by
 cases D with
 |maps=>simp [Deep.datum] at a
 |iter=>simp [Deep.datum] at a
 |rows e t m l ver iv lv hole=>
  cases hole with
  |some _=>simp [Deep.datum] at a
  |none=>
   have S1:∀ (i:Nat) (y:den U.T t),l[i]? =some y->∀ (j:Nat) (d:Datum U),(B1 U t y)[j]? =some d->∀ (root:Value) (xs ns:List Value),N=.tuple (root::ns).toArray->∀ u n,ns[i*szOf U t+j]? =some n->InnR B w (Live β h) m none i j d u n->Rep U w (Live β h) d u:=by
    intro i y z j d A root xs ns k u n p q;cases hm:m.any (Nat.beq j) with
    |false=>exact (q.2 hm).2
    |true=>obtain ⟨C,e',t',l',rfl,K⟩:=(q.1 hm).2 (by rintro ⟨_,E,_⟩;cases E);refine ay3 (λg hg=>s g ?_) K;rw [k];refine ⟨n,?_,by rw [C];exact hg⟩;simp only [List.mem_cons];exact .inr (List.mem_of_getElem? p)
   cases c with
   |self v0=>
    simp only [Deep.datum] at a;split at a
    case isFalse=>cases a
    rename_i F;simp only [cn4] at a;subst a;have o:=ad6 (h:=h) (w:=w) (β:=β) (B:=B) r (cn5 F) (DCRel.frozen I);obtain ⟨root,xs,ns,k,h1,h2,h3,h4,L,O,P⟩:=r;obtain ⟨xs',ns',f,_⟩:=o;rw [k] at f;have:=G1 f;have:=congrArg Array.toList this;simp only [List.cons.injEq] at this;obtain ⟨rfl,rfl⟩:=this;refine ay3 (λg hg=>s g ?_) ⟨xs,h1,h2,h3,λi y z j d A=>?_⟩
    .rw [k];exact ⟨v,by simp,hg⟩
    .obtain ⟨u,n,J,p,q⟩:=L i y z j d A;exact ⟨u,J,S1 i y z j d A v xs ns' k u n p q⟩
   |inn v0 i j=>
    simp only [Deep.datum] at a;split at a
    case isFalse=>cases a
    rename_i F;obtain ⟨h0,h1,hm,vs,k,hg⟩:=I.2 (cn5 F);have G:i.toNat<l.length:=by omega
    obtain ⟨root,xs,ns,f,Q,R,S,V,M⟩:=aA6 (B:=B) (lv:=false) (ver:=ver) (iv:=iv) r G;unfold I9 at a;rw [P1 G] at a;obtain ⟨u,n,J,p,q⟩:=M j x a;have H:v=n:=by rw [f] at k;have:=G1 k;subst this;rw [Nat.add_comm 1] at hg;simp only [List.getElem?_toArray,List.getElem?_cons_succ] at hg;rw [p] at hg;simpa using hg.symm
    obtain ⟨C,_⟩:=(q.1 hm).2 (by rintro ⟨_,E,_⟩;cases E);rw [H,C];exact S1 _ _ (cn6 G) j x a root xs ns f u n p q
   |elt=>simp [Deep.datum] at a
   |iat=>simp [Deep.datum] at a
   |key=>simp [Deep.datum] at a
   |it=>simp [Deep.datum] at a
theorem ag1 (k:Ok F w β h) {g:Obs U} (hg:∀ id o,look id g=some o->look id h=some o) {t:Ty} {c:Cell U} {d:Datum U} {u:Obs U} (f:asD g t c=some (d,u)) {v:Value} (r:CRel w β h c v) {u':Obs U}
  (hf:Freezes h u') (y:∀ x,x∈u->x∈u'):Rep U w (Live β (upds h u')) d v:=by
 have A:=H8 k hf;unfold asD at f;split at f
 .split at f
  .simp only [cn4,co6] at f;obtain ⟨rfl,rfl⟩:=f;exact A.ext.rep r
  .cases f
 .split at f
  .simp only [cn4,co6] at f;obtain ⟨rfl,rfl⟩:=f;rw [show v=.slice none 0 0 from r];exact .nil _ _ _ _
  .cases f
 .split at f
  .rename_i id ver _ e t' l ver' lv hl;split at f
   .rename_i q;have q:=cn5 q;split at f
    .rename_i L;simp only [cn4,co6] at f;obtain ⟨rfl,rfl⟩:=f;have hl:=hg _ _ hl;obtain ⟨_,_,_,_,_,n,M,z⟩:=r;rw [hl] at n;simp only [cn4,Ob.row.injEq] at n;have s:=z (q.trans n.2.2.2.1);subst s;have a:=bf7 hf hl ⟨.row e t' l ver' false,y _ (by simp)⟩;obtain ⟨xs,i,hm,C,E⟩:=A.obj id _ a;refine ay3 (B:=F.B) (λg hg=>?_) ⟨xs,i,hm,C,E⟩;rintro (hM|⟨id2,G,m,H,I⟩)
     .exact A.Mo id _ g a (i.has hg) hM
     have:id2=id:=A.dis id2 G id _ g m a I (i.has hg);subst this;rw [a] at m;simp only [cn4] at m;subst m;simp [Ob.live] at H
    .cases f
   .cases f
  .cases f
 .split at f
  .simp only [co1,co6] at f;obtain ⟨x,s,rfl,rfl⟩:=f;obtain ⟨vs,N,O,P,Q,R⟩:=r;rw [N];exact .ifc _ _ _ _ _ vs (U.ifc_mk _ _ _ _ _ s) O P Q (λj d u S y=>A.ext.rep (R j d u S y))
  .cases f
 .split at f
  case h_2=>cases f
  rename_i id c _ D hl;split at f
  case h_2=>cases f
  rename_i x s;split at f
  case isFalse=>cases f
  rename_i L;simp only [cn4,co6] at f;obtain ⟨rfl,rfl⟩:=f;have hl:=hg _ _ hl;obtain ⟨D',p,z⟩:=r;rw [hl] at p;simp only [cn4,Ob.dp.injEq] at p;subst p;have a:look id (upds h u')=some (.dp D.frozen):=au1 hf hl ⟨.dp D.frozen,y _ (by simp)⟩;have J:DRel F.B w β (upds h u') D.frozen (β id):=A.obj id _ a;have K:∀ b,Has (β id) b->¬ Live β (upds h u') b:=by
   intro b q;rintro (hM|⟨id2,G,m,H,I⟩)
   .exact A.Mo id _ b a q hM
   have:id2=id:=A.dis id2 G id _ b m a I q;subst this;rw [a] at m;simp only [cn4] at m;subst m;cases D<;>simp [Ob.live,Deep.frozen,Deep.live,Deep.datum] at H s
  exact bQ8 K J s z
 .cases f
theorem aj9 (k:Ok F w β h) {ids:List Nat} {t:Ty} {c:Cell U} {d:Datum U} {u:Obs U} (a:asD (sub h ids) t c=some (d,u)) {v:Value} (r:CRel w β h c v) {u':Obs U}
  (hf:Freezes h u') (b:∀ x,x∈u->x∈u'):Rep U w (Live β (upds h u')) d v:=ag1 k (λ_ _=>C1) a r hf b
theorem B6 {id:Nat}:∀ {u h:Obs U},(∀ o,(id,o)∉u)->look id (upds h u)=look id h
 |[],h,_=>rfl
 |(j,oj)::u,h,a=>by show look id (upds (write j oj h) u)=_;rw [B6 (λo b=>a o (by simp [b])),A5,if_neg (λc=>a oj (by subst c;simp))]
theorem Q7 {id:Nat} {o:Ob U}:∀ {u h:Obs U},look id (upds h u)=some o->(id,o)∈u\/look id h=some o
 |[],h,a=>.inr a
 |(j,oj)::u,h,a=>by
  rcases Q7 (u:=u) (h:=write j oj h) a with h1|h1
  .exact .inl (by simp [h1])
  .rw [A5] at h1;split at h1
   .rename_i b;simp only [cn4] at h1;subst h1;subst b;exact .inl (by simp)
   .exact .inr h1
theorem bf8 {a:Addr} {b:Nat} (h:Has (.pointer (some a)) b):a.block=b:=by simpa [Has,D5] using h
theorem bD4 {a b:Nat} (h:Has (.map (some a)) b):a=b:=by simpa [Has,D5] using h
theorem bD5 {a b:Nat} (h:Has (.func (.yield a) #[] #[]) b):a=b:=by simpa [Has,D5] using h
theorem U0 {b:Nat} (h:Has (.slice none 0 0) b):False:=by simp [Has,D5] at h
theorem ORel.blk {id:Nat} {ob:Ob U} (r:ORel F.B w β h id ob) {b:Nat} (a:Has (β id) b):F.B<=b/\b<w.heap.size:=by
 cases ob with
 |box e cs=>obtain ⟨b',vs,h1,h2,h3,_⟩:=r;rw [h1] at a;have a:=bf8 a;subst a;exact ⟨h2,(cp2.1 h3).1⟩
 |row e t l ver lv=>obtain ⟨xs,h1,_⟩:=r;exact h1.lt (h1.has' a)
 |map kt vt l=>obtain ⟨b',es,clock,h1,h2,h3,_⟩:=r;rw [h1] at a;have a:=bD4 a;subst a;exact ⟨h2,(cp2.1 h3).1⟩
 |loop st=>obtain ⟨b',r,h1,h2,h3,_⟩:=r;rw [h1] at a;have a:=bD5 a;subst a;exact ⟨h2,(cp2.1 h3).1⟩
 |dp D=>exact DRel.blk r a
theorem bp1 {w':World} {β':Nm} {u:Obs U} (i:Below w.heap.size w w') (hM:β'.M=β.M) (hβ:∀ id o,look id h=some o->β' id=β id) (d:∀ id o,look id h=some o->β'.lp id=β.lp id) (hf:∀ id o,(id,o)∈u->look id h=none)
  (hg:∀ id o g,(id,o)∈u->Has (β' id) g->w.heap.size<=g):Ext w β h w' β' (upds h u):=by
 have keep:∀ id o,look id h=some o->look id (upds h u)=some o:=by intro id o hl;rw [B6 (λo' f=>by rw [hf id o' f] at hl;cases hl)];exact hl
 refine ⟨i.size,λb a _=>i.block b a,?_,hM,λid e cs hl=>⟨hβ id _ hl,cs,keep id _ hl⟩,λid e t l ver lv hl=>⟨l,ver,lv,keep id _ hl,Nat.le_refl _,λ_=>⟨hβ id _ hl,rfl⟩⟩,λid o hl j=>⟨hβ id _ hl,d id _ hl,o,keep id _ hl,Ob.like_refl j⟩,λid D hl=>⟨D,keep id _ hl,λc v k=>by rw [hβ id _ hl];exact k⟩⟩;rintro b a ⟨id,o,h1,h2,h3⟩;rcases Q7 h1 with h4|h4
 .have:=hg id o b h4 h3;omega
 .exact ⟨id,o,h4,h2,by rw [<-hβ id o h4];exact h3⟩
theorem ag2 (k:Ok F w β h) {w':World} {β':Nm} {u:Obs U} (e:Below w.heap.size w w') (hM:β'.M=β.M) (hβ:∀ id o,look id h=some o->β' id=β id) (d:∀ id o,look id h=some o->β'.lp id=β.lp id) (hf:∀ id o,(id,o)∈u->look id h=none) (j:∀ id o,(id,o)∈u->o.isRow=true\/id<1000000)
  (hg:∀ id o g,(id,o)∈u->Has (β' id) g->w.heap.size<=g)
  (l:∀ id o,(id,o)∈u->look id (upds h u)=some o->ORel F.B w' β' (upds h u) id o)
  (m:∀ id o id' o' g,(id,o)∈u->(id',o')∈u->Has (β' id) g->Has (β' id') g->id=id'):After F w β h w' β' (upds h u):=by
 have ext:=bp1 e hM hβ d hf hg;have n:F.w0.heap.size<=w.heap.size:=k.bel.size;refine ⟨⟨k.bel.trans (e.mono k.hB),Nat.le_trans k.hB e.size,λid o hl=>?_,λid o id' o' g h1 h2 h3 h4=>?_,λb f p=>by rw [e.block b (by omega)];exact k.frm b f p,λid o g h1 h2=>?_,λid o g h1 h2=>?_,λb hm=>k.Mlt b (by rw [<-hM];exact hm),hM.trans k.Meq,λid o v h1 h2=>?_,k.nmg,k.glo⟩,ext⟩
 .rcases Q7 hl with h1|h1
  .exact l id o h1 hl
  .exact ext.o (hβ id o h1) (d id o h1) (λb i=>e.block b ((k.obj id o h1).blk i).2) (k.obj id o h1)
 .rcases Q7 h1 with a|a<;>rcases Q7 h2 with c|c
  .exact m id o id' o' g a c h3 h4
  .have:=hg id o g a h3;rw [hβ id' o' c] at h4;have:=((k.obj id' o' c).blk h4).2;omega
  .have:=hg id' o' g c h4;rw [hβ id o a] at h3;have:=((k.obj id o a).blk h3).2;omega
  .rw [hβ id o a] at h3;rw [hβ id' o' c] at h4;exact k.dis id o id' o' g a c h3 h4
 .rcases Q7 h1 with a|a
  .have:=hg id o g a h2;right;omega
  .rw [hβ id o a] at h2;exact k.own id o g a h2
 .rw [hM];rcases Q7 h1 with a|a
  .intro hm;have:=hg id o g a h2;have:=k.Mlt g hm;omega
  .rw [hβ id o a] at h2;exact k.Mo id o g a h2
 .rcases Q7 h1 with a|a
  .rcases j id o a with c|c
   .exact .inl c
   .have:=k.nmg id v h2;omega
  .rw [hβ id o a,d id o a];exact k.fix id o v a h2
theorem A9 {α:Type} (k:Nat) (a:α) (l:List (Nat×α)):look k (write k a l)=some a:=by rw [A5,if_pos rfl]
def upd1 (β:Nm) (id:Nat) (v:Value):Nm:=⟨λj=>if j=id then v else β j,β.M,β.lp⟩
theorem C2 (β:Nm) (id:Nat) (v:Value):upd1 β id v id=v:=by simp [upd1]
theorem ag3 (β:Nm) {id j:Nat} (v:Value) (h:j≠id):upd1 β id v j=β j:=by simp [upd1,h]
theorem Q8 (k:Ok F w β h) {w':World} {id:Nat} {ob:Ob U} {v:Value} (f:Below w.heap.size w w') (hf:look id h=none) (i:ob.isRow=true\/id<1000000) (hg:∀ g,Has v g->w.heap.size<=g)
  (l:Ext w β h w' (upd1 β id v) (write id ob h)->ORel F.B w' (upd1 β id v) (write id ob h) id ob):After F w β h w' (upd1 β id v) (write id ob h):=by
 have hβ:∀ j o,look j h=some o->upd1 β id v j=β j:=λj o hl=>ag3 β v (λe=>by subst e;rw [hf] at hl;cases hl);have a:∀ j o,(j,o)∈[(id,ob)]->look j h=none:=by intro j o hm;simp only [co5,co6] at hm;rw [hm.1];exact hf
 have b:∀ j o g,(j,o)∈[(id,ob)]->Has (upd1 β id v j) g->w.heap.size<=g:=by intro j o g hm e;simp only [co5,co6] at hm;rw [hm.1,C2] at e;exact hg g e
 have c:(upd1 β id v).M=β.M:=rfl;refine ag2 k f c hβ (λ_ _ _=>rfl) a (λj o hm=>by
  simp only [co5,co6] at hm;rw [hm.1,hm.2];exact i) b (λj o hm hl=>?_) (λj o j' o' g hm d _ _=>?_)
 .simp only [co5,co6] at hm;obtain ⟨rfl,rfl⟩:=hm;exact l (bp1 f c hβ (λ_ _ _=>rfl) a b)
 .simp only [co5,co6] at hm d;rw [hm.1,d.1]
theorem N8 (w:World) (o:Obj):Below w.heap.size w (w.alloc o):=(Below.refl _ _).alloc (Nat.le_refl _) o
theorem aW9 (k:Ok F w β h) {id:Nat} (hf:look id h=none) (a:id<1000000) {e:TypeId} {cs:List (Cell U)} {vs:List Value} (r:CsRel w β h cs vs):
  After F w β h (w.alloc (.cells vs.toArray e)) (upd1 β id (.pointer (some ⟨w.heap.size,0,none⟩))) (write id (.box e cs) h):=by
 refine Q8 k (N8 _ _) hf (.inr a) (λg hg=>?_) (λx=>?_)
 .have:=bf8 hg;simp only at this;omega
 .refine ⟨w.heap.size,vs.toArray,C2 _ _ _,k.hB,heap_alloc_new w _,x.cs (by simpa using r)⟩
theorem bD6 {w':World} {β':Nm} {h':Obs U} {id:Nat} {e:TypeId} {cs:List (Cell U)} {b:Nat} (hl:look id h'=some (.box e cs)) (hβ:β' id=.pointer (some ⟨b,0,none⟩)) (σ:List (Nat×PV U)):
  PRel w' β' h' σ (.one (.ptr id 0)) (.pointer (some ⟨b,0,none⟩)):=CsRel.one rfl ⟨e,cs,b,hl,hβ,rfl⟩
theorem ay4 {P:Program} {t:TypeId} {cs:List (Cell U)} (a:Q3 P t=some cs):∃ i v,P.info? t=some i/\i.zero=some v/\cs=v.cells.toList.map T5/\∀ u∈v.cells.toList,u.oneCell'=true:=by
 unfold Q3 at a;split at a
 .rename_i i c;split at a
  .rename_i v d;split at a
   .rename_i b;simp only [cn4] at a;exact ⟨i,v,c,d,a.symm,cq4.1 b⟩
   .cases a
  .cases a
 .cases a
theorem aK1 {vs:List Value} (h1:∀ v∈vs,v.oneCell'=true):CsRel w β h (vs.map T5) vs:=
 ⟨by simp,h1,λj c v hc a=>by
  simp only [co9,a,Option.map_some,cn4] at hc;subst hc;exact Z9 v⟩
theorem Does.alloc (R:Rel F n β s tmps w) {t:TypeId} (b:o.op=.alloc t) {cs:List (Cell U)} (c:Q3 E.P t=some cs) {id:Nat} (hf:look id s.h=none) (d:id<1000000):
  Does E.P F β s ρ w o ⟨none,.one (.ptr id 0),[(id,.box t cs)]⟩:=by
 obtain ⟨i,v,f,g,rfl,a⟩:=ay4 c;have A:=aW9 R.ok hf d (e:=t) (aK1 (w:=w) (β:=β) (h:=s.h) a);refine ⟨.pointer (some ⟨w.heap.size,0,none⟩),_,_,.inl ?_,A,bD6 (A9 _ _ _) (C2 _ _ _) _⟩;simp [execOp,b,Instr.alloc,zeroValue,typeInfo,f,g,newVar,newRow,newObj];rfl
theorem Does.box (R:Rel F n β s tmps w) {t:TypeId} {x:Operand} (a:o.op=.box t x) {v:PV U} (r:PRel w β s.h s.σ v (ρ x)) {cs:List (Cell U)} (hc:S2 v=some cs) {id:Nat} (hf:look id s.h=none) (b:id<1000000):
  Does E.P F β s ρ w o ⟨none,.one (.ptr id 0),[(id,.box t cs)]⟩:=by
 have hr:CsRel w β s.h cs (ρ x).cells.toList:=by
  unfold S2 at hc;split at hc
  .rename_i c;simp only [cn4] at hc;subst hc;have h1:=r.inv.1;have hcell:(ρ x).cells=#[ρ x]:=by
    generalize ρ x=y at h1;cases y<;>first|rfl|simp [Value.oneCell'] at h1
   rw [hcell];exact r
  .rename_i cs';simp only [cn4] at hc;subst hc;obtain ⟨vs,d,hr⟩:=r;rw [d];exact hr
  .cases hc
 have A:=aW9 R.ok hf b (e:=t) hr;refine ⟨.pointer (some ⟨w.heap.size,0,none⟩),_,_,.inl ?_,A,bD6 (A9 _ _ _) (C2 _ _ _) _⟩;simp [execOp,a,Instr.box,newVar,newRow,newObj];rfl
theorem aK2 {σ:List (Nat×PV U)} {v:PV U} {u:Value} (r:PRel w β h σ v u) {cs:List (Cell U)} (hc:S2 v=some cs):CsRel w β h cs u.cells.toList:=by
 unfold S2 at hc;split at hc
 .rename_i c;simp only [cn4] at hc;subst hc;have h1:=r.inv.1;have hcell:u.cells=#[u]:=by
   cases u<;>first|rfl|simp [Value.oneCell'] at h1
  rw [hcell];exact r
 .rename_i cs';simp only [cn4] at hc;subst hc;obtain ⟨vs,a,hr⟩:=r;rw [a];exact hr
 .cases hc
theorem CsRel.spl {cs cs':List (Cell U)} {vs vs':List Value} (r:CsRel w β h cs vs) (r':CsRel w β h cs' vs') (off:Nat):CsRel w β h (D4 cs off cs') (D4 vs off vs'):=by
 have app:∀ {a b:List (Cell U)} {x y:List Value},CsRel w β h a x->CsRel w β h b y->CsRel w β h (a++b) (x++y):=by
  intro a b x y h1 h2;refine ⟨by simp [h1.1,h2.1],λv d=>?_,λj c v hc d=>?_⟩
  .rcases cq1.1 d with h3|h3
   .exact h1.2.1 v h3
   .exact h2.2.1 v h3
  .have hl:=h1.1;by_cases e:j<a.length
   .rw [cp4 e] at hc;rw [cp4 (by omega)] at d;exact h1.2.2 j c v hc d
   .rw [cp3 (by omega)] at hc;rw [cp3 (by omega)] at d;rw [hl] at d;exact h2.2.2 _ c v hc d
 unfold D4;refine app (app (r.take off) r') ?_;rw [r'.1];exact r.drop _
theorem bD7 (us:List Value):∀ (off:Nat) (vs:Array Value) (k:Nat),off+k+us.length<=vs.size->
  ((us.toArray.zipIdx k).foldl (λcs (c,j)=>cs.setIfInBounds (off+j) c) vs).toList=vs.toList.take (off+k)++us++vs.toList.drop (off+k+us.length):=by
 induction us with
 |nil=>intro off vs k hl;rw [<-Array.foldl_toList];simp
 |cons u us ih=>
  intro off vs k hl;have e:((u::us).toArray.zipIdx k).foldl (λcs (c,j)=>cs.setIfInBounds (off+j) c) vs=(us.toArray.zipIdx (k+1)).foldl (λcs (c,j)=>cs.setIfInBounds (off+j) c) (vs.setIfInBounds (off+k) u):=by rw [<-Array.foldl_toList,<-Array.foldl_toList];simp [List.zipIdx_cons]
  rw [e,ih off _ (k+1) (by simp at hl |-;omega)];simp only [cp0] at hl |-;have h1:(vs.setIfInBounds (off+k) u).toList=vs.toList.set (off+k) u:=by simp
  rw [h1];have a:off+k<vs.toList.length:=by simp;omega
  rw [show off+(k+1)=off+k+1 from by omega,List.take_succ_eq_append_getElem (by simp;omega)];rw [List.take_set_of_le (by omega),List.drop_set_of_lt (by omega)];simp [show off+k+1+us.length=off+k+(us.length+1) from by omega]
theorem ay5 {place:Nat->Option (Nat×Nat)} {σ:List (Nat×PV U)}:∀ {ps:List (Nat×PV U)} {qs:List (Nat×Value)} {cs cs':List (Cell U)} {vs:List Value},
  aO7 place cs ps=some cs'->ps.length=qs.length->(∀ (j:Nat) (p:Nat×PV U) (q:Nat×Value),ps[j]? =some p->qs[j]? =some q->p.1=q.1/\PRel w β h σ p.2 q.2)->CsRel w β h cs vs->
  ∃ vs':List Value,Instr.fill place vs.toArray qs=some vs'.toArray/\CsRel w β h cs' vs'/\vs'.length=vs.length:=by
 intro ps
 induction ps with
 |nil=>intro qs cs cs' vs b hl hr hc;have:qs=[]:=List.length_eq_zero_iff.1 (by simpa using hl.symm);subst this;simp only [aO7,cn4] at b;subst b;exact ⟨vs,rfl,hc,rfl⟩
 |cons p ps ih=>
  intro qs cs cs' vs b hl hr hc;obtain ⟨f,v⟩:=p
  match qs,hl with
  |q::qs,hl=>
   obtain ⟨f',u⟩:=q;obtain ⟨d,e⟩:=hr 0 _ _ rfl rfl;simp only at d e;subst d;simp only [aO7] at b;split at b
   .rename_i off size l;split at b
    .rename_i cs0 g;split at b
     .rename_i a;simp only [cn7] at a;have r:=cn5 a.1;have h2:=cp7 a.2;rw [<-hc.1] at h2;have i:=aK2 e g;have m:u.cells.size=cs0.length:=by have:=i.1;simpa using this
      have c:Instr.fill place vs.toArray ((f,u)::qs)=Instr.fill place (D4 vs off u.cells.toList).toArray qs:=by simp only [Instr.fill,l];rw [if_neg (by simp;omega)];congr 1;apply Array.toList_inj.1;have:=bD7 u.cells.toList off vs.toArray 0 (by simp;omega);simpa [D4] using this
      have k:(D4 vs off u.cells.toList).length=vs.length:=by simp only [D4,cp5,cq3,List.length_drop,Array.length_toList];omega
      obtain ⟨vs',h3,h4,s⟩:=ih (qs:=qs) (cs:=D4 cs off cs0) (cs':=cs') (vs:=D4 vs off u.cells.toList) b (by simpa using hl) (λj p q n o=>hr (j+1) p q (by simpa using n) (by simpa using o)) (hc.spl i off);exact ⟨vs',c.trans h3,h4,s.trans k⟩
     .cases b
    .cases b
   .cases b
def an4 (w:World) (β:Nm) (h:Obs U) (σ:List (Nat×PV U)) (ps:List (Nat×PV U)) (qs:List (Nat×Value)):Prop:=
 ps.length=qs.length/\∀ (j:Nat) (p:Nat×PV U) (q:Nat×Value),ps[j]? =some p->qs[j]? =some q->p.1=q.1/\PRel w β h σ p.2 q.2
theorem Does.build (R:Rel F n β s tmps w) {t:TypeId} {parts:Array (Nat×Operand)} (f:o.op=.build t parts) {ps:List (Nat×PV U)} (r:an4 w β s.h s.σ ps (parts.toList.map λx=>(x.1,ρ x.2)))
  (b:ax5 E t ps=some e):Does E.P F β s ρ w o e:=by
 unfold ax5 at b;split at b
 .rename_i cs p;obtain ⟨i,v,l,m,rfl,d⟩:=ay4 p;split at b
  .rename_i pl a;split at b
   .rename_i cs' hf;simp only [cn4] at b;subst b;obtain ⟨vs',h1,h2,h3⟩:=ay5 hf r.1 r.2 (aK1 d);refine Does.pure (n:=n) R rfl (v:=.agg vs'.toArray) ?_ ⟨vs',rfl,h2⟩;have q:(parts.map λx=>(x.1,ρ x.2)).toList=parts.toList.map λx=>(x.1,ρ x.2):=by simp
    have c:E.P.built t (parts.map λx=>(x.1,ρ x.2)).toList=some vs'.toArray:=by
     rw [q];unfold bC1 at a;unfold Program.built;split at a
     .rename_i k e' g;split at a
      .rename_i ie j;simp only [cn4] at a;subst a;simp only [l,g,m,j];simpa using h1
      .cases a
     .rename_i fs g;split at a
      .rename_i W5 u;simp only [cn4] at a;subst a;simp only [l,g,m,u];simpa using h1
      .cases a
     .cases a
    have:=run_build (P:=E.P) w t (parts.map λx=>(x.1,ρ x.2)) _ c;simp only [execOp,f];simp only [Sem.run_bind,this];rfl
   .cases b
  .cases b
 .cases b
theorem L4 {ids:List Nat}:∀ {ts:List Ty} {cs:List (Cell U)} {ds:List (Datum U)} {u:Obs U},asDs (sub h ids) ts cs=some (ds,u)->Freezes h u/\ds.length=cs.length
 |[],[],ds,u,a=>by simp only [asDs,cn4,co6] at a;obtain ⟨rfl,rfl⟩:=a;exact ⟨λ_ _ hm=>by simp at hm,rfl⟩
 |[],_::_,_,_,a=>by simp [asDs] at a
 |_::_,[],_,_,a=>by simp [asDs] at a
 |t::ts,c::cs,ds,u,a=>by
  simp only [asDs] at a;split at a
  .rename_i x f h1;split at a
   .rename_i xs g h2;simp only [cn4,co6] at a;obtain ⟨rfl,rfl⟩:=a;obtain ⟨h3,_⟩:=J9 h1;obtain ⟨d,e⟩:=L4 h2;refine ⟨λid o hm=>?_,by simp [e]⟩;rcases cq1.1 hm with b|b
    .exact h3 id o b
    .exact d id o b
   .cases a
  .cases a
theorem ag4 (k:Ok F w β h) {ids:List Nat} {u':Obs U} (hf:Freezes h u'):∀ {ts:List Ty} {cs:List (Cell U)} {ds:List (Datum U)} {u:Obs U} {vs:List Value},asDs (sub h ids) ts cs=some (ds,u)->
  CsRel w β h cs vs->(∀ x,x∈u->x∈u')->∀ (j:Nat) (d:Datum U) (v:Value),ds[j]? =some d->vs[j]? =some v->Rep U w (Live β (upds h u')) d v
 |[],[],ds,u,vs,a,_,_,j,d,v,e,_=>by simp only [asDs,cn4,co6] at a;obtain ⟨rfl,rfl⟩:=a;simp at e
 |[],_::_,_,_,_,a,_,_,_,_,_,_,_=>by simp [asDs] at a
 |_::_,[],_,_,_,a,_,_,_,_,_,_,_=>by simp [asDs] at a
 |t::ts,c::cs,ds,u,vs,a,hc,g,j,d,v,e,b=>by
  simp only [asDs] at a;split at a
  .rename_i x i h1;split at a
   .rename_i xs l h2;simp only [cn4,co6] at a;obtain ⟨rfl,rfl⟩:=a
    match vs,hc,b with
    |v0::vs,hc,b=>
     match j,e,b with
     |0,e,b=>simp only [co2,cn4] at e b;subst e;subst b;exact aj9 k h1 (hc.2.2 0 _ _ rfl rfl) hf (λx f=>g x (by simp [f]))
     |j+1,e,b=>exact ag4 k hf h2 (vs:=vs) ⟨by simpa using hc.1,λv b=>hc.2.1 v (by simp [b]),λj c v h3 h4=>hc.2.2 (j+1) c v (by simpa using h3) (by simpa using h4)⟩ (λx f=>g x (by simp [f])) j d v (by simpa using e) (by simpa using b)
   .cases a
  .cases a
structure Env.Fits (E:Env U):Prop where
 code:∀ e t,E.code e=some t->∃ i z,E.P.info? e=some i/\i.size=szOf U t/\i.zero=some z/\z.cells.size=i.size/\0<szOf U t/\0<i.bytes/\(∀ u∈z.cells.toList,u.oneCell'=true)/\
  ∀ (j:Nat) (d:Datum U),(B1 U t (dfl U t))[j]? =some d->∃ u,z.cells[j]? =some u/\∀ (w:World) (M:Nat->Prop),Rep U w M d u
def Els (w:World) (β:Nm) (h:Obs U) (t:Ty) (l:List (den U.T t)) (xs:List Value):Prop:=
 ∀ (i:Nat) (x:den U.T t),l[i]? =some x->∀ (j:Nat) (d:Datum U),(B1 U t x)[j]? =some d->∃ u,xs[i*szOf U t+j]? =some u/\Rep U w (Live β h) d u
theorem Freezes.none {u:Obs U} (hf:Freezes h u) {id:Nat} (a:look id h=none):look id (upds h u)=none:=by rw [B6 (λo b=>by obtain ⟨_,hl,_⟩:=hf.at_ b;rw [a] at hl;cases hl)];exact a
theorem ai8 {ids:List Nat} {t:Ty}:∀ {m:Nat} {cs:List (Cell U)} {l:List (den U.T t)} {u:Obs U},R9 (sub h ids) t m cs=some (l,u)->Freezes h u
 |0,[],l,u,a=>by
  simp only [R9,cn4,co6] at a;obtain ⟨rfl,rfl⟩:=a;exact λ_ _ hm=>by simp at hm
 |0,_::_,_,_,a=>by simp [R9] at a
 |m+1,cs,l,u,a=>by
  unfold R9 at a;split at a
  .rename_i ds b h1;split at a
   .split at a
    .rename_i xs c h2;simp only [cn4,co6] at a;obtain ⟨_,rfl⟩:=a;intro id o hm;rcases cq1.1 hm with hm|hm
     .exact (L4 h1).1 id o hm
     .exact ai8 h2 id o hm
    .cases a
   .cases a
  .cases a
theorem aq9 (k:Ok F w β h) {ids:List Nat} {t:Ty}:∀ {m:Nat} {cs:List (Cell U)} {vs:List Value} {l:List (den U.T t)} {u:Obs U},R9 (sub h ids) t m cs=some (l,u)->CsRel w β h cs vs->
  Freezes h u/\l.length=m/\vs.length=m*szOf U t/\∀ u':Obs U,Freezes h u'->(∀ x,x∈u->x∈u')->Els w β (upds h u') t l vs
 |0,[],vs,l,u,a,hc=>by simp only [R9,cn4,co6] at a;obtain ⟨rfl,rfl⟩:=a;refine ⟨λ_ _ hm=>by simp at hm,rfl,by have:=hc.1;simpa using this,λu' _ _ i x b=>by simp at b⟩
 |0,_::_,_,_,_,a,_=>by simp [R9] at a
 |m+1,cs,vs,l,u,a,hc=>by
  simp only [R9] at a;split at a
  .rename_i ds G h1;split at a
   .rename_i x b;split at a
    .rename_i xs H h2;simp only [cn4,co6] at a;obtain ⟨rfl,rfl⟩:=a;obtain ⟨B,len1⟩:=L4 h1;obtain ⟨C,len2,len3,q⟩:=aq9 k h2 (hc.drop (szOf U t));have e:=am0 b;have D:ds.length=szOf U t:=by rw [e,B0]
     have r:(cs.take (szOf U t)).length=szOf U t:=by omega
     have E:szOf U t<=vs.length:=by rw [hc.1];rw [cq3] at r;omega
     refine ⟨λid o hm=>?_,by simp [len2],?_,λu' f g=>?_⟩
     .rcases cq1.1 hm with s|s
      .exact B id o s
      .exact C id o s
     .rw [List.length_drop] at len3;rw [Nat.add_mul,Nat.one_mul];omega
     .intro i y c j d n
      match i,c with
      |0,c=>
       simp only [co2,cn4] at c;subst c;rw [<-e] at n;have z:j<ds.length:=by
        by_cases z:j<ds.length
        .exact z
        .rw [List.getElem?_eq_none (by omega)] at n;cases n
       have p:j<vs.length:=by omega
       refine ⟨vs[j],by rw [Nat.zero_mul,Nat.zero_add];exact cn6 p,?_⟩;refine ag4 k f h1 (hc.take (szOf U t)) (λx b=>g x (by simp [b])) j d _ n ?_;rw [List.getElem?_take,if_pos (by omega)];exact cn6 p
      |i+1,c=>obtain ⟨v,A,hr⟩:=q u' f (λx b=>g x (by simp [b])) i y (by simpa using c) j d n;refine ⟨v,?_,hr⟩;rw [List.getElem?_drop] at A;rw [<-A,Nat.add_mul,Nat.one_mul];congr 1;omega
    .cases a
   .cases a
  .cases a
theorem Els.ext {w':World} {β':Nm} {h':Obs U} (x:Ext w β h w' β' h') {t:Ty} {l:List (den U.T t)} {xs:List Value} (r:Els w β h t l xs):Els w' β' h' t l xs:=by intro i y a j d b;obtain ⟨u,c,hr⟩:=r i y a j d b;exact ⟨u,c,x.rep hr⟩
theorem aX0 (k:Ok F w β h) {id:Nat} (hf:look id h=none) {e:TypeId} {t:Ty} {l:List (den U.T t)} {xs:List Value} (hl:xs.length=l.length*szOf U t) (hm:l.length<=most) (h1:∀ v∈xs,v.oneCell'=true) (r:Els w β h t l xs):
  After F w β h (w.alloc (.cells xs.toArray e)) (upd1 β id (.slice (some ⟨w.heap.size,0,none⟩) l.length l.length)) (write id (.row e t l 0 true) h):=by
 refine Q8 k (N8 _ _) hf (.inl rfl) (λg hg=>?_) (λx=>?_)
 .have:w.heap.size=g:=by simpa [Has,D5] using hg
  omega
 .refine ⟨xs,?_,hm,h1,Els.ext x r⟩;refine ⟨hl,.inr ⟨w.heap.size,l.length,xs.toArray,C2 _ _ _,k.hB,heap_alloc_new w _,Nat.le_refl _,?_,by simp only [List.size_toArray];omega,?_⟩⟩
  .simp only [most,maxLen] at*;omega
  .rw [<-hl];simp
theorem ad7 {w':World} {β':Nm} {h':Obs U} {id:Nat} {e:TypeId} {t:Ty} {l:List (den U.T t)} {ver:Nat} {lv:Bool} {v:Value} (hl:look id h'=some (.row e t l ver lv)) (hβ:β' id=v) (h1:v.oneCell'=true) (σ:List (Nat×PV U)):
  PRel w' β' h' σ (.one (.row id ver)) v:=CsRel.one h1 ⟨e,t,l,ver,lv,hl,Nat.le_refl _,λ_=>hβ.symm⟩
def aA8 (len:Nat) (i:TypeInfo) (z:Value):Array Value:=
 (Array.range (len*i.size)).map (λx=>(if len*i.size=0 then #[] else z.cells)[x % (if len*i.size=0 then #[] else z.cells).size]!)
theorem X5 {P:Program} {t el:TypeId} {i:TypeInfo} {z:Value} (e:P.underlying t=some (.slice el)) (b:P.info? el=some i) (f:i.zero=some z) (len:Nat) (g:len*i.size<=2 ^ 24)
  (parts:Array (Nat×Value)) (cells:Array Value) (w:World) (hf:Instr.fill (λj=>some (j*i.size,i.size)) (aA8 len i z) parts.toList=some cells):
  (Instr.buildSlice t len parts).run P w=.ok (.slice (some ⟨w.heap.size,0,none⟩) len len) (w.alloc (.cells cells el)):=by
 have a:¬ len*i.size >2 ^ 24:=by omega
 unfold aA8 at hf;by_cases h0:len*i.size=0
 .rw [if_pos h0] at hf;unfold Instr.buildSlice;simp only [Sem.run_bind,run_underlying e,Result.andThen_ok,sizeOf,typeInfo,b,if_neg a,if_pos h0];simp [b,h0,a,newRow,newObj];have c:Instr.fill (λj=>some (j*i.size,i.size)) (Array.map (λ_=>(default:Value)) (Array.range 0)) parts.toList=some cells:=by
   rw [<-hf,h0];simp
  simp only [c];rfl
 .rw [if_neg h0] at hf;unfold Instr.buildSlice;simp only [Sem.run_bind,run_underlying e,Result.andThen_ok,sizeOf,typeInfo,b,if_neg a,if_neg h0];simp [b,h0,a,newRow,newObj];have d:(zeroValue el).run P w=.ok z w:=by simp [zeroValue,typeInfo,b,f]
  simp only [d,Result.andThen_ok,hf];rfl
theorem Does.buildSlice (N:E.Fits) (R:Rel F n β s tmps w) {t:TypeId} {len:Nat} {parts:Array (Nat×Operand)} (B:o.op=.buildSlice t len parts) {ps:List (Nat×PV U)} (r:an4 w β s.h s.σ ps (parts.toList.map λx=>(x.1,ρ x.2)))
  {ids:List Nat} (a:S5 E (sub s.h ids) o.dst t len ps=some e) (hf:look (B3 o.dst 0) s.h=none):Does E.P F β s ρ w o e:=by
 unfold S5 at a;split at a
 .rename_i el O;split at a
  .rename_i c hc;obtain ⟨i,z,Q,d,S,T,m,V,p,_⟩:=N.code _ _ hc;split at a
   .rename_i b;have b:=cp7 b;split at a
    .rename_i cs f;split at a
     .rename_i l u C;simp only [cn4] at a;subst a
      --the cells
      have g:∃ zs:List Value,zs.length=len*szOf U c/\(∀ v∈zs,v.oneCell'=true)/\(∀ qs cells,Instr.fill (λi=>some (i*szOf U c,szOf U c)) zs.toArray qs=some cells->qs=(parts.toList.map λx=>(x.1,ρ x.2))->
        (Instr.buildSlice t len (parts.map λx=>(x.1,ρ x.2))).run E.P w=.ok (.slice (some ⟨w.heap.size,0,none⟩) len len) (w.alloc (.cells cells el))):=by
       refine ⟨(aA8 len i z).toList,by simp [aA8,d],λv L=>?_,λqs cells D W=>?_⟩
       .simp only [aA8,Array.toList_map,List.mem_map,Array.toList_range,List.mem_range] at L;obtain ⟨x,M,rfl⟩:=L;have G:¬ len*i.size=0:=by omega
        simp only [if_neg G];have k:0<z.cells.size:=by omega
        have q:x % z.cells.size<z.cells.size:=Nat.mod_lt x k;rw [getElem!_pos z.cells _ q];exact p _ (by simp)
       .subst W;refine X5 O Q S len (by rw [d];simp;omega) _ _ w ?_;rw [d];simpa using D
      obtain ⟨zs,H,I,y⟩:=g;obtain ⟨vs,h1,h2,h3⟩:=ay5 (w:=w) (β:=β) (h:=s.h) (σ:=s.σ) f r.1 r.2 (vs:=zs) ⟨by simp [H],I,λj c v hc _=>by
       rw [List.getElem?_replicate] at hc;split at hc
       .simp only [cn4] at hc;subst hc;trivial
       .cases hc⟩
      obtain ⟨J,len1,len2,K⟩:=aq9 R.ok C h2;have A1:=H8 R.ok J;have hm:l.length<=most:=by rw [len1];simp only [most];have:len*1<=len*szOf U c:=Nat.mul_le_mul_left _ m;omega
      have A2:=aX0 A1.ok (Freezes.none J hf) (e:=el) (l:=l) (xs:=vs) (by rw [len2,len1]) hm h2.2.1 (K u J (λ_ M=>M));have A:=A1.trans A2;refine ⟨.slice (some ⟨w.heap.size,0,none⟩) len len,w.alloc (.cells vs.toArray el),upd1 β (B3 o.dst 0) (.slice (some ⟨w.heap.size,0,none⟩) l.length l.length),.inl ?_,?_,?_⟩
      .have:=y _ _ h1 rfl;simp only [execOp,B];simp only [Sem.run_bind,this];rfl
      .dsimp only;rw [C6];exact A
      .dsimp only;rw [C6];exact ad7 (A9 _ _ _) (by rw [C2,len1]) rfl _
     .cases a
    .cases a
   .cases a
  .cases a
 .cases a
theorem Does.buildData (Y:E.Fits) (R:Rel F n β s tmps w) {t:TypeId} {len:Nat} {parts:Array (Nat×Operand)} (H:o.op=.buildSlice t len parts) {ps:List (Nat×PV U)} (r:an4 w β s.h s.σ ps (parts.toList.map λx=>(x.1,ρ x.2)))
  {ids:List Nat} (b:V2 E (sub s.h ids) t len ps=some e):Does E.P F β s ρ w o e:=by
 unfold V2 at b;split at b
 .rename_i el Z;split at b
  .rename_i c hc;obtain ⟨i,z,I,g,hz,hzs,B,hby,C,_⟩:=Y.code _ _ hc;split at b
   .rename_i f;have f:=cp7 f;split at b
    .rename_i cs k;split at b
     .rename_i l u J;simp only [cn4] at b;subst b;have m:∃ zs:List Value,zs.length=len*szOf U c/\(∀ v∈zs,v.oneCell'=true)/\(∀ qs cells,Instr.fill (λi=>some (i*szOf U c,szOf U c)) zs.toArray qs=some cells->qs=(parts.toList.map λx=>(x.1,ρ x.2))->
        (Instr.buildSlice t len (parts.map λx=>(x.1,ρ x.2))).run E.P w=.ok (.slice (some ⟨w.heap.size,0,none⟩) len len) (w.alloc (.cells cells el))):=by
       refine ⟨(aA8 len i z).toList,by simp [aA8,g],λv T=>?_,λqs cells K hq=>?_⟩
       .simp only [aA8,Array.toList_map,List.mem_map,Array.toList_range,List.mem_range] at T;obtain ⟨x,a,rfl⟩:=T;have L:¬ len*i.size=0:=by omega
        simp only [if_neg L];have p:0<z.cells.size:=by omega
        have D:x % z.cells.size<z.cells.size:=Nat.mod_lt x p;rw [getElem!_pos z.cells _ D];exact C _ (by simp)
       .subst hq;refine X5 Z I hz len (by rw [g];simp;omega) _ _ w ?_;rw [g];simpa using K
      obtain ⟨zs,M,N,G⟩:=m;obtain ⟨vs,h1,h2,h3⟩:=ay5 (w:=w) (β:=β) (h:=s.h) (σ:=s.σ) k r.1 r.2 (vs:=zs) ⟨by simp [M],N,λj c v hc _=>by
       rw [List.getElem?_replicate] at hc;split at hc
       .simp only [cn4] at hc;subst hc;trivial
       .cases hc⟩
      obtain ⟨V,len1,len2,q⟩:=aq9 R.ok J h2;have q:=q u V (λ_ a=>a);have A1:=H8 R.ok V;have hm:l.length<=most:=by rw [len1];simp only [most];have:len*1<=len*szOf U c:=Nat.mul_le_mul_left _ B;omega
      have A:=ag2 A1.ok (w':=w.alloc (.cells vs.toArray el)) (β':=β) (u:=[]) (N8 _ _) rfl (λ_ _ _=>rfl) (λ_ _ _=>rfl) (λ_ _ a=>by simp at a) (λ_ _ a=>by simp at a) (λ_ _ _ a=>by simp at a) (λ_ _ a=>by simp at a) (λ_ _ _ _ _ a=>by simp at a);have y:¬ Live β (upds s.h u) w.heap.size:=by
       rintro (hM|⟨id,o',h4,h5,h6⟩)
       .have:=A1.ok.Mlt _ hM;have:=A1.ok.bel.size;omega
       .have:=((A1.ok.obj id o' h4).blk h6).2;omega
      refine ⟨.slice (some ⟨w.heap.size,0,none⟩) len len,w.alloc (.cells vs.toArray el),β,.inl ?_,A1.trans A,?_⟩
      .have:=G _ _ h1 rfl;simp only [execOp,H];simp only [Sem.run_bind,this];rfl
      .refine CsRel.one rfl ?_;show Rep U _ (Live β (upds s.h u)) ⟨.slice el c,l⟩ _;cases l with
       |nil=>simp only [List.length_nil] at len1;subst len1;exact .nil _ _ _ _
       |cons W X=>
        rw [<-len1];refine .slice el c (W::X) w.heap.size 0 _ (λi j=>vs.getD (i*szOf U c+j) undef) (by simp) (Nat.le_refl _) hm y (by have:=(N8 w (.cells vs.toArray el)).size;have h9:=heap_alloc_new w (.cells vs.toArray el);exact (cp2.1 h9).1) (λi I j hj=>?_) (λi x a j d hd=>?_)
        .have O:i*szOf U c+j<vs.length:=by
          rw [len2,<-len1];have:(i+1)*szOf U c<=(W::X).length*szOf U c:=Nat.mul_le_mul_right _ I;rw [Nat.add_mul] at this;omega
         unfold World.cell?;simp only [heap_alloc_new w (.cells vs.toArray el)];simp [O]
        .obtain ⟨u,Q,S⟩:=q i x a j d hd;have:vs.getD (i*szOf U c+j) undef=u:=by rw [co8,Q];rfl
         rw [this];exact A.ext.rep S
     .cases b
    .cases b
   .cases b
  .cases b
 .cases b
theorem J0 (k:Ok F w β h) {id:Nat} {ob ob':Ob U} {β':Nm} {w':World} (hl:look id h=some ob) (r:ob.live=true)
  (G:w'.os=w.os) (z:w'.tape=w.tape) (A:w'.output=w.output) (i:w.heap.size<=w'.heap.size)
  (g:∀ b,b<w.heap.size->¬ Has (β id) b->w'.heap[b]? =w.heap[b]?) (hM:β'.M=β.M) (hβ:∀ j,j≠id->β' j=β j) (m:β'.lp=β.lp) (s:ob.oth=true->β' id=β id/\Ob.like ob ob')
  (n:∀ b,Has (β' id) b->Has (β id) b\/w.heap.size<=b)
  (u:∀ e cs,ob=.box e cs->β' id=β id/\∃ cs',ob'=.box e cs')
  (x:∀ e t l ver lv,ob=.row e t l ver lv->∃ l' ver' lv',ob'=.row e t l' ver' lv'/\ver<=ver'/\(ver'=ver->β' id=β id/\l'.length=l.length))
  (J:Ext w β h w' β' (write id ob' h)->ORel F.B w' β' (write id ob' h) id ob')
  (C:∀ D,ob=.dp D->∃ D',ob'=.dp D'/\∀ c v,DCRel D (β id) c v->DCRel D' (β' id) c v:=by intro _ q;cases q):After F w β h w' β' (write id ob' h):=by
 have ext:Ext w β h w' β' (write id ob' h):=by
  refine ⟨i,λb p K=>g b p (λq=>K ⟨id,ob,hl,r,q⟩),?_,hM,λj e cs d=>?_,λj e t l ver lv d=>?_,λj oj d E=>?_,λj D d=>?_⟩
  .rintro b p ⟨j,oj,h1,h2,h3⟩;by_cases a:j=id
   .subst a;rcases n b h3 with h4|h4
    .exact ⟨j,ob,hl,r,h4⟩
    .omega
   .rw [A5,if_neg a] at h1;rw [hβ j a] at h3;exact ⟨j,oj,h1,h2,h3⟩
  .by_cases a:j=id
   .subst a;rw [hl] at d;simp only [cn4] at d;obtain ⟨h1,cs',h2⟩:=u e cs d;exact ⟨h1,cs',by rw [A9,h2]⟩
   .exact ⟨hβ j a,cs,by rw [A5,if_neg a];exact d⟩
  .by_cases a:j=id
   .subst a;rw [hl] at d;simp only [cn4] at d;obtain ⟨l',ver',lv',h1,h2,h3⟩:=x e t l ver lv d;exact ⟨l',ver',lv',by rw [A9,h1],h2,h3⟩
   .exact ⟨l,ver,lv,by rw [A5,if_neg a];exact d,Nat.le_refl _,λ_=>⟨hβ j a,rfl⟩⟩
  .by_cases a:j=id
   .subst a;rw [hl] at d;simp only [cn4] at d;subst d;obtain ⟨h1,h2⟩:=s E;exact ⟨h1,by rw [m],ob',A9 _ _ _,h2⟩
   .exact ⟨hβ j a,by rw [m],oj,by rw [A5,if_neg a];exact d,Ob.like_refl E⟩
  .by_cases a:j=id
   .subst a;rw [hl] at d;simp only [cn4] at d;obtain ⟨D',h1,h2⟩:=C D d;exact ⟨D',by rw [A9,h1],h2⟩
   .exact ⟨D,by rw [A5,if_neg a];exact d,λc v L=>by rw [hβ j a];exact L⟩
 have N:F.w0.heap.size<=w.heap.size:=k.bel.size;have get:∀ j oj b,look j (write id ob' h)=some oj->Has (β' j) b->(∃ oj',look j h=some oj'/\Has (β j) b)\/w.heap.size<=b:=by
  intro j oj b d p;by_cases a:j=id
  .subst a;rcases n b p with h4|h4
   .exact .inl ⟨ob,hl,h4⟩
   .exact .inr h4
  .rw [A5,if_neg a] at d;rw [hβ j a] at p;exact .inl ⟨oj,d,p⟩
 refine ⟨⟨k.bel.trans ⟨G,z,A,i,λb p=>?_⟩,Nat.le_trans k.hB i,λj oj d=>?_,λj oj j' oj' b h1 h2 h3 h4=>?_,λb H I=>?_,λj oj b h1 h2=>?_,λj oj b h1 h2=>?_,λb hm=>k.Mlt b (by rw [<-hM];exact hm),hM.trans k.Meq,λj oj v h1 h2=>?_,k.nmg,k.glo⟩,ext⟩
 .refine g b (Nat.lt_of_lt_of_le p k.hB) (λq=>?_);have:=((k.obj id ob hl).blk q).1;omega
 .by_cases a:j=id
  .subst a;rw [A9] at d;simp only [cn4] at d;subst d;exact J ext
  .rw [A5,if_neg a] at d;refine ext.o (hβ j a) (by rw [m]) (λb p=>g b ((k.obj j oj d).blk p).2 (λq=>a (k.dis j oj id ob b d hl p q))) (k.obj j oj d)
 .by_cases a:j=id<;>by_cases f:j'=id
  .rw [a,f]
  .subst a;rw [A5,if_neg f] at h2;rw [hβ j' f] at h4;rcases n b h3 with y|y
   .exact k.dis j ob j' oj' b hl h2 y h4
   .have:=((k.obj j' oj' h2).blk h4).2;omega
  .subst f;rw [A5,if_neg a] at h1;rw [hβ j a] at h3;rcases n b h4 with y|y
   .exact k.dis j oj j' ob b h1 hl h3 y
   .have:=((k.obj j oj h1).blk h3).2;omega
  .rw [A5,if_neg a] at h1;rw [A5,if_neg f] at h2;rw [hβ j a] at h3;rw [hβ j' f] at h4;exact k.dis j oj j' oj' b h1 h2 h3 h4
 .by_cases p:Has (β id) b
  .rcases k.own id ob b hl p with y|y
   .exact absurd y I
   .omega
  .rw [g b (by omega) p];exact k.frm b H I
 .rcases get j oj b h1 h2 with ⟨oj',h3,h4⟩|h3
  .exact k.own j oj' b h3 h4
  .right;omega
 .rw [hM];rcases get j oj b h1 h2 with ⟨oj',h3,h4⟩|h3
  .exact k.Mo j oj' b h3 h4
  .intro hm;have:=k.Mlt b hm;omega
 .by_cases a:j=id
  .subst a;rw [A9] at h1;simp only [cn4] at h1;subst h1;cases ob with
   |box e cs=>rw [(u e cs rfl).1,m];exact (k.fix j _ v hl h2).imp (λq=>by simp [Ob.isRow] at q) id
   |row e t l ver lv=>obtain ⟨l',ver',lv',h3,_⟩:=x e t l ver lv rfl;rw [h3];exact .inl rfl
   |map kt vt l=>rw [(s rfl).1,m];exact (k.fix j _ v hl h2).imp (λq=>by simp [Ob.isRow] at q) id
   |loop st=>rw [(s rfl).1,m];exact (k.fix j _ v hl h2).imp (λq=>by simp [Ob.isRow] at q) id
   |dp D=>obtain ⟨D',h3,_⟩:=C D rfl;rw [h3];exact .inl rfl
  .rw [A5,if_neg a] at h1;rw [hβ j a,m];exact k.fix j oj v h1 h2
def cm6 (ob:Ob U) (N:Value) (ob':Ob U) (N':Value):Prop:=
 match ob,ob' with
 | .row e t l ver _,.row e' t' l' ver' _=>e=e'/\t=t'/\ver<=ver'/\(ver'=ver->N'=N/\l'.length=l.length)
 | .dp D,.dp D'=>∀ c v,DCRel D N c v->DCRel D' N' c v
 |_,_=>False
theorem P2 (k:Ok F w β h) {u:Obs U} {β':Nm} {w':World} (N:(u.map (·.1)).Nodup) (r:∀ id o ob,(id,o)∈u->look id h=some ob->ob.live=true)
  (Z:w'.os=w.os) (O:w'.tape=w.tape) (T:w'.output=w.output) (s:w.heap.size<=w'.heap.size)
  (f:∀ b,b<w.heap.size->(∀ id o ob,(id,o)∈u->look id h=some ob->¬ Has (β id) b)->w'.heap[b]? =w.heap[b]?) (hM:β'.M=β.M) (hβ:∀ j,(∀ o,(j,o)∉u)->β' j=β j) (P:β'.lp=β.lp)
  (q:∀ id o b,(id,o)∈u->Has (β' id) b->(∃ id2 J ob,(id2,J)∈u/\look id2 h=some ob/\Has (β id2) b)\/w.heap.size<=b)
  (K:∀ id o id' o' b,(id,o)∈u->(id',o')∈u->Has (β' id) b->Has (β' id') b->id=id')
  (m:∀ id o ob,(id,o)∈u->look id h=some ob->cm6 ob (β id) o (β' id)) (L:∀ id o,(id,o)∈u->o.isRow=true)
  (X:Ext w β h w' β' (upds h u)->∀ id o,(id,o)∈u->ORel F.B w' β' (upds h u) id o):After F w β h w' β' (upds h u):=by
 have G:∀ {id o},(id,o)∈u->look id (upds h u)=some o:=by
  intro id o hm;clear r f hβ q K m L X
  induction u generalizing h with
  |nil=>simp at hm
  |cons x u ih=>
   obtain ⟨i,oi⟩:=x;simp only [List.map_cons,List.nodup_cons] at N;rcases List.mem_cons.1 hm with h1|h1
   .simp only [co6] at h1;obtain ⟨rfl,rfl⟩:=h1;show look id (upds (write id o h) u)=_;rw [B6 (λo' Q=>N.1 (List.mem_map.2 ⟨_,Q,rfl⟩)),A9]
   .have hk:∀ (g:Obs U),look id (upds g u)=some o:=by
     intro g;have:∀ (v:Obs U) (g:Obs U),(v.map (·.1)).Nodup->(id,o)∈v->look id (upds g v)=some o:=by
      intro v
      induction v with
      |nil=>intro g _ hm;simp at hm
      |cons y v ihv=>
       intro g a hm;obtain ⟨iy,oy⟩:=y;simp only [List.map_cons,List.nodup_cons] at a;rcases List.mem_cons.1 hm with h2|h2
       .simp only [co6] at h2;obtain ⟨rfl,rfl⟩:=h2;show look id (upds (write id o g) v)=_;rw [B6 (λo' Q=>a.1 (List.mem_map.2 ⟨_,Q,rfl⟩)),A9]
       .exact ihv (write iy oy g) a.2 h2
     exact this u g N.2 h1
    exact hk (write i oi h)
 have d:∀ {id},(∀ o,(id,o)∉u)->look id (upds h u)=look id h:=λa=>B6 a;have p:∀ id,(∃ o,(id,o)∈u)\/∀ o,(id,o)∉u:=λid=>by
  by_cases C:∃ o,(id,o)∈u
  .exact .inl C
  .exact .inr λo X=>C ⟨o,X⟩
 have ext:Ext w β h w' β' (upds h u):=by
  refine ⟨s,λb z a=>f b z (λid o ob hm hl C=>a ⟨id,ob,hl,r id o ob hm hl,C⟩),?_,hM,λj e cs n=>?_,λj e t l ver lv n=>?_,λj oj n H=>?_,λj D n=>?_⟩
  .rintro b z ⟨j,oj,h1,h2,h3⟩;rcases p j with ⟨o,hm⟩|a
   .rcases q j o b hm h3 with ⟨id2,J,ob,R,E,I⟩|h4
    .exact ⟨id2,ob,E,r id2 J ob R E,I⟩
    .omega
   .rw [d a] at h1;rw [hβ j a] at h3;exact ⟨j,oj,h1,h2,h3⟩
  .rcases p j with ⟨o,hm⟩|a
   .exact (m j o _ hm n).elim
   .exact ⟨hβ j a,cs,by rw [d a];exact n⟩
  .rcases p j with ⟨o,hm⟩|a
   .have:=m j o _ hm n;cases o with
    |row e' t' l' ver' lv'=>obtain ⟨rfl,rfl,h1,h2⟩:=this;exact ⟨l',ver',lv',G hm,h1,h2⟩
    |_=>exact this.elim
   .exact ⟨l,ver,lv,by rw [d a];exact n,Nat.le_refl _,λ_=>⟨hβ j a,rfl⟩⟩
  .rcases p j with ⟨o,hm⟩|a
   .have:=m j o _ hm n;cases oj with
    |map=>exact this.elim
    |loop=>exact this.elim
    |box=>cases H
    |row=>cases H
    |dp=>cases H
   .exact ⟨hβ j a,by rw [P],oj,by rw [d a];exact n,Ob.like_refl H⟩
  .rcases p j with ⟨o,hm⟩|a
   .have:=m j o _ hm n;cases o with
    |dp D'=>exact ⟨D',G hm,this⟩
    |_=>exact this.elim
   .exact ⟨D,by rw [d a];exact n,λc v hv=>by rw [hβ j a];exact hv⟩
 have hw0:F.w0.heap.size<=w.heap.size:=k.bel.size;have get:∀ j oj b,look j (upds h u)=some oj->Has (β' j) b->(∃ S oj',look S h=some oj'/\Has (β S) b)\/w.heap.size<=b:=by
  intro j oj b n z;rcases p j with ⟨o,hm⟩|a
  .rcases q j o b hm z with ⟨id2,J,ob,R,E,I⟩|h4
   .exact .inl ⟨id2,ob,E,I⟩
   .exact .inr h4
  .rw [d a] at n;rw [hβ j a] at z;exact .inl ⟨j,oj,n,z⟩
 have V:Below F.B w w':=by refine ⟨Z,O,T,s,λb z=>?_⟩;refine f b (Nat.lt_of_lt_of_le z k.hB) (λid o ob hm hl C=>?_);have:=((k.obj id ob hl).blk C).1;omega
 refine ⟨⟨k.bel.trans V,Nat.le_trans k.hB s,λj oj n=>?_,λj oj j' oj' b h1 h2 h3 h4=>?_,λb hlt hK=>?_,λj oj b h1 h2=>?_,λj oj b h1 h2=>?_,λb hm=>k.Mlt b (by rw [<-hM];exact hm),hM.trans k.Meq,λj oj v h1 h2=>?_,k.nmg,k.glo⟩,ext⟩
 .rcases p j with ⟨o,hm⟩|a
  .rw [G hm] at n;simp only [cn4] at n;subst n;exact X ext j o hm
  .rw [d a] at n;refine ext.o (hβ j a) (by rw [P]) (λb z=>f b ((k.obj j oj n).blk z).2 (λid o ob hm hl C=>a o ?_)) (k.obj j oj n);rw [k.dis j oj id ob b n hl z C];exact hm
 .rcases p j with ⟨o,hm⟩|a<;>rcases p j' with ⟨o',W⟩|A
  .exact K j o j' o' b hm W h3 h4
  .rw [d A] at h2;rw [hβ j' A] at h4;rcases q j o b hm h3 with ⟨id2,J,ob,R,E,I⟩|Y
   .have:=k.dis id2 ob j' oj' b E h2 I h4;subst this;exact absurd R (A J)
   .have:=((k.obj j' oj' h2).blk h4).2;omega
  .rw [d a] at h1;rw [hβ j a] at h3;rcases q j' o' b W h4 with ⟨id2,J,ob,R,E,I⟩|Y
   .have:=k.dis id2 ob j oj b E h1 I h3;subst this;exact absurd R (a J)
   .have:=((k.obj j oj h1).blk h3).2;omega
  .rw [d a] at h1;rw [d A] at h2;rw [hβ j a] at h3;rw [hβ j' A] at h4;exact k.dis j oj j' oj' b h1 h2 h3 h4
 .by_cases z:∃ id o ob,(id,o)∈u/\look id h=some ob/\Has (β id) b
  .obtain ⟨id,o,ob,R,E,I⟩:=z;rcases k.own id ob b E I with Y|Y
   .exact absurd Y hK
   .omega
  .rw [f b (by omega) (λid o ob hm hl C=>z ⟨id,o,ob,hm,hl,C⟩)];exact k.frm b hlt hK
 .rcases get j oj b h1 h2 with ⟨S,oj',h3,h4⟩|h3
  .exact k.own S oj' b h3 h4
  .right;omega
 .rw [hM];rcases get j oj b h1 h2 with ⟨S,oj',h3,h4⟩|h3
  .exact k.Mo S oj' b h3 h4
  .intro hm;have:=k.Mlt b hm;omega
 .rcases p j with ⟨o,hm⟩|a
  .rw [G hm] at h1;simp only [cn4] at h1;subst h1;exact .inl (L j o hm)
  .rw [d a] at h1;rw [hβ j a,P];exact k.fix j oj v h1 h2
theorem bt7 {P:Program} {t:TypeId} {b:Bool} {k:Nat} (hs:ac4 P t=some (b,k)) (w:World):(sizeOf t).run P w=.ok k w:=by
 unfold ac4 at hs;split at hs
 .rename_i i d a c;simp only [cn4,co6] at hs;simp [sizeOf,typeInfo,a,hs.2]
 .cases hs
theorem ak0 {P:Program} {t:TypeId} {b:Bool} {k:Nat} (hs:ac4 P t=some (b,k)) (w:World) (g q:Nat) (el:TypeId) (cur:Array Value) (hg:w.heap[g]? =some (.cells cur el (0,0))) (v:Value) (c:v.cells.size=k)
  (hl:q+k<=cur.size) (h1:∀ u∈v.cells.toList,u.oneCell'=true):
  (Instr.storeAt t (.pointer (some ⟨g,q,none⟩)) v).run P w=.ok () (w.setRow g (D4 cur.toList q v.cells.toList).toArray):=by
 have a:=run_storeCells_at P g q el v.cells.toList 0 cur w hg (by simp [c];omega) h1;simp only [Nat.add_zero,Array.length_toList] at a;simp [Instr.storeAt,Instr.sureAddr,storeVar,bt7 hs,c,a,D4]
theorem an5 {el:TypeId} {sz k:Nat} {v:Value} {xs:List Value} (a:Owns w F.B el sz v k xs) (b:¬ k=0):∃ g cap cur,v=.slice (some ⟨g,0,none⟩) k cap/\F.B<=g/\w.heap[g]? =some (.cells cur el (0,0))/\k<=cap/\cap<=maxLen/\cap*sz<=cur.size/\cur.toList.take (k*sz)=xs:=by
 rcases a.2 with ⟨_,h2⟩|h2
 .exact absurd h2 b
 .exact h2
theorem H9 {α:Type} (xs vs:List α) (p j:Nat) (a:p+vs.length<=xs.length):(D4 xs p vs)[j]? =if p<=j/\j<p+vs.length then vs[j-p]? else xs[j]? :=by
 unfold D4;by_cases h1:j<p
 .rw [if_neg (by omega),cq0,cp4 (by simp;omega),List.getElem?_take,if_pos h1]
 .by_cases h2:j<p+vs.length
  .rw [if_pos (by omega),cq0,cp3 (by simp;omega),cp4 (by simp;omega)];congr 1;simp;omega
  .rw [if_neg (by omega),cp3 (by simp;omega),List.getElem?_drop];congr 1;simp;omega
theorem S8 {α:Type} (xs vs:List α) (p:Nat) (a:p+vs.length<=xs.length):(D4 xs p vs).length=xs.length:=by simp only [D4,cp5,cq3,List.length_drop];omega
theorem ag5 {xs vs:List Value} {p:Nat} (h1:∀ v∈xs,v.oneCell'=true) (h2:∀ v∈vs,v.oneCell'=true):∀ v∈D4 xs p vs,v.oneCell'=true:=by
 intro v a;simp only [D4,cq1] at a;rcases a with (a|a)|a
 .exact h1 v (List.mem_of_mem_take a)
 .exact h2 v a
 .exact h1 v (List.mem_of_mem_drop a)
theorem bD8 {t:Ty} {l:List (den U.T t)} {xs vs:List Value} (r:Els w β h t l xs) (q:xs.length=l.length*szOf U t) {i off:Nat} (k:i<l.length) {ds:List (Datum U)} {o:den U.T t}
  (m:D4 (B1 U t l[i]) off ds=B1 U t o) (e:off+ds.length<=szOf U t) (s:vs.length=ds.length) (u:∀ (j:Nat) (d:Datum U) (v:Value),ds[j]? =some d->vs[j]? =some v->Rep U w (Live β h) d v):
  Els w β h t (l.set i o) (D4 xs (i*szOf U t+off) vs):=by
 have f:(i+1)*szOf U t<=xs.length:=by rw [q];exact Nat.mul_le_mul_right _ k
 rw [Nat.add_mul,Nat.one_mul] at f;have x:i*szOf U t+off+vs.length<=xs.length:=by omega
 intro i' x' a j d b;have p:j<szOf U t:=by
  rw [<-B0 U t x'];by_cases n:j<(B1 U t x').length
  .exact n
  .rw [List.getElem?_eq_none (by omega)] at b;cases b
 rw [H9 _ _ _ _ x];by_cases c:i'=i
 .subst c;rw [cp9,if_pos rfl,if_pos k] at a;simp only [cn4] at a;subst a;rw [<-m,H9 _ _ _ _ (by rw [B0];exact e)] at b;by_cases hc:off<=j/\j<off+ds.length
  .rw [if_pos hc] at b;rw [if_pos (by omega)];have y:i'*szOf U t+j-(i'*szOf U t+off)=j-off:=by omega
   rw [y];have g:j-off<vs.length:=by omega
   exact ⟨vs[j-off],cn6 g,u _ d _ b (cn6 g)⟩
  .rw [if_neg hc] at b;rw [if_neg (by omega)];exact r i' l[i'] (cn6 k) j d b
 .rw [cp9,if_neg (λz=>c z.symm)] at a;have:¬ (i*szOf U t+off<=i'*szOf U t+j/\i'*szOf U t+j<i*szOf U t+off+vs.length):=by
   rintro ⟨h1,h2⟩;rcases Nat.lt_or_gt_of_ne c with h3|h3
   .have:(i'+1)*szOf U t<=i*szOf U t:=Nat.mul_le_mul_right _ h3;rw [Nat.add_mul,Nat.one_mul] at this;omega
   .have:(i+1)*szOf U t<=i'*szOf U t:=Nat.mul_le_mul_right _ h3;rw [Nat.add_mul,Nat.one_mul] at this;omega
  rw [if_neg this];exact r i' x' a j d b
theorem Y4 {el:TypeId} {sz k cap g:Nat} {xs vs:List Value} {cur:Array Value} (hg:w.heap[g]? =some (.cells cur el (0,0))) (hB:F.B<=g) (b:k<=cap) (hm:cap<=maxLen) (hs:cap*sz<=cur.size) (d:cur.toList.take (k*sz)=xs) (e:xs.length=k*sz) {p:Nat}
  (c:p+vs.length<=xs.length):Owns (w.setRow g (D4 cur.toList p vs).toArray) F.B el sz (.slice (some ⟨g,0,none⟩) k cap) k (D4 xs p vs):=by
 have f:k*sz<=cap*sz:=Nat.mul_le_mul_right _ b;have h:cap*sz<=cur.toList.length:=by simpa using hs
 refine ⟨by rw [S8 _ _ _ c];exact e,.inr ⟨g,cap,_,rfl,hB,setRow_heap w g cur _ el (0,0) hg,b,hm,?_,?_⟩⟩
 .simp only [List.size_toArray];rw [S8 _ _ _ (by omega)];simpa using hs
 .apply List.ext_getElem?;intro j;simp only [List.getElem?_take];rw [H9 _ _ _ _ (by omega),H9 _ _ _ _ c,<-d,List.getElem?_take];by_cases a:j<k*sz
  .simp [a]
  .rw [if_neg a,if_neg a,if_neg (by omega)]
theorem aX1 {t:Ty} {l:List (den U.T t)} {i:Int} (d:i.toNat<l.length) {off:Nat} {ds:List (Datum U)} {x:den U.T t} (e:D4 (B1 U t l[i.toNat]) off ds=B1 U t x) (a:off+ds.length<=szOf U t) {i':Int} {j:Nat} (f:j<off\/off+ds.length<=j):
  I9 t (l.set i.toNat x) i' j=I9 t l i' j:=by
 unfold I9;by_cases b:i'.toNat=i.toNat
 .rw [b,P1 (by simpa using d),P1 d];simp only [List.getElem_set_self];rw [<-e,H9 _ _ _ _ (by rw [B0];exact a),if_neg (by omega)]
 .have:(l.set i.toNat x).getD i'.toNat (dfl U t)=l.getD i'.toNat (dfl U t):=by
   have c:¬ i.toNat=i'.toNat:=λh=>b h.symm;simp only [List.getD,cp9,if_neg c]
  rw [this]
theorem aA9 {m:List Nat} {j:Nat}:m.any (Nat.beq j)=true<->j∈m:=by
 simp only [List.any_eq_true];constructor
 .rintro ⟨x,a,b⟩;rw [cn5 b];exact a
 .intro h;exact ⟨j,h,Nat.beq_refl j⟩
theorem an6 {sz i j i' j':Nat} (b:j<sz) (a:j'<sz) (h:i*sz+j=i'*sz+j'):i=i'/\j=j':=by
 have h1:(i*sz+j) / sz=i:=by rw [Nat.mul_comm,Nat.mul_add_div (by omega),Nat.div_eq_of_lt b,Nat.add_zero]
 have h2:(i'*sz+j') / sz=i':=by rw [Nat.mul_comm,Nat.mul_add_div (by omega),Nat.div_eq_of_lt a,Nat.add_zero]
 have:i=i':=by rw [<-h1,h,h2]
 subst this;exact ⟨rfl,by omega⟩
theorem aa1 {t:Ty} {x:den U.T t} {j:Nat} {d:Datum U} (h:(B1 U t x)[j]? =some d):j<szOf U t:=by rw [<-B0 U t x];exact (cn9.1 h).1
theorem aX2 (k:Ok F w β h) {ids:List Nat} {id:Nat} {e:TypeId} {t:Ty} {m:List Nat} {l:List (den U.T t)} {ver iv:Nat} (hl:look id h=some (.dp (.rows e t m l ver iv true none))) {i:Int} {off:Nat} {vs:List (Cell U)} {p:Option Prop} {u:Obs U}
  (o:aV5 (sub h ids) id e t m l ver iv i off vs=some (p,u)) (h0:0<=i) (h1:i<(l.length:Int)) {us:List Value} (hr:CsRel w β h vs us) {a:Array Value} {g c:Nat} (hN:β id=.tuple a) (hg:a[0]? =some (.slice (some ⟨g,0,none⟩) l.length c)):
  ∃ cur,w.heap[g]? =some (.cells cur e (0,0))/\i.toNat*szOf U t+off+us.length<=cur.size/\After F w β h (w.setRow g (D4 cur.toList (i.toNat*szOf U t+off) us).toArray) β (upds h u):=by
 unfold aV5 at o;split at o
 case isFalse=>cases o
 rename_i hc;simp only [cn7] at hc;have hoff:=cp7 hc.1;have s:∀ j∈m,j<off\/off+vs.length<=j:=λj z=>by have:=cq4.1 hc.2 j z;simp only [Bool.or_eq_true] at this;exact this.imp cp7 cp7
 split at o
 case h_2=>cases o
 rename_i ds K O;split at o
 case h_2=>cases o
 rename_i x hx;split at o
 case isFalse=>cases o
 rename_i P;simp only [cn4,co6] at o;obtain ⟨rfl,rfl⟩:=o;have L:i.toNat<l.length:=by omega
 rw [P1 L] at hx;have Q:=am0 hx;obtain ⟨R,S⟩:=L4 O;have A1:=H8 k R;have V:∀ ob,(id,ob)∉K:=λob hm=>by have:=cq4.1 P _ hm;simp at this
 have W:look id (upds h K)=some (.dp (.rows e t m l ver iv true none)):=by rw [B6 V];exact hl
 have hdr:DRel F.B w β (upds h K) (.rows e t m l ver iv true none) (β id):=A1.obj id _ W;obtain ⟨root,xs,ns,E,k1,k2,k3,k4,k5,k6,k7⟩:=hdr;have G:root=.slice (some ⟨g,0,none⟩) l.length c:=by rw [E] at hN;have:=G1 hN;subst this;simpa using hg
 subst G;obtain ⟨g',cap,cur,q1,q2,q3,q4,q5,q6,q7⟩:=an5 k1 (aA7 h0 h1);simp only [Value.slice.injEq,cn4,Addr.mk.injEq,and_true,true_and] at q1;obtain ⟨rfl,rfl⟩:=q1;have hul:us.length=ds.length:=by rw [hr.1,S]
 have hdv:ds.length=vs.length:=S;have X:(i.toNat+1)*szOf U t<=xs.length:=by rw [k1.1];exact Nat.mul_le_mul_right _ L
 rw [Nat.add_mul,Nat.one_mul] at X;have hle2:l.length*szOf U t<=c*szOf U t:=Nat.mul_le_mul_right _ q4;have hxs:=k1.1;have H:i.toNat*szOf U t+off+us.length<=xs.length:=by omega
 have Y:∀ (j:Nat) (d:Datum U) (v:Value),ds[j]? =some d->us[j]? =some v->Rep U w (Live β (upds h K)) d v:=λj d v M A=>ag4 k R O hr (λ_ hx=>hx) j d v M A;refine ⟨cur,q3,by omega,?_⟩;rw [C6];refine A1.trans ?_;refine J0 A1.ok W rfl rfl rfl rfl (by simp) (λb Z hn=>setRow_other w g b _ (λf=>hn (by rw [f,E];exact ⟨.slice (some ⟨g,0,none⟩) l.length c,by simp,rfl⟩))) rfl (λ_ _=>rfl) rfl (λh=>by simp [Ob.oth] at h) (λb Z=>.inl Z) (λ_ _ h5=>by cases h5) (λe2 t2 l2 v2 lv2 h5=>by cases h5) (λxx=>?_) (λD hD=>?_)
 .refine ⟨_,D4 xs (i.toNat*szOf U t+off) us,ns,E,?_,by simpa using k2,ag5 k3 hr.2.1,by rw [S8 _ _ _ H];exact k4,λi' x' y j d z=>?_,k6,k7⟩
  .rw [List.length_set];exact Y4 q3 q2 q4 q5 q6 q7 hxs H
  .have hjs:=aa1 z;have hbk:∀ (n:Value),n∈ns->∀ b,D5 n=some b->(w.setRow g (D4 cur.toList (i.toNat*szOf U t+off) us).toArray).heap[b]? =w.heap[b]? :=by
    intro n hn b hb;obtain ⟨q,hq⟩:=List.mem_iff_getElem?.1 hn;refine setRow_other w g b _ (λf=>k7 q n b hq hb (by rw [f];rfl))
   have keep:∀ (j:Nat) (d:Datum U) (u n:Value),ns[i'*szOf U t+j]? =some n->InnR F.B w (Live β (upds h K)) m none i' j d u n->InnR F.B (w.setRow g (D4 cur.toList (i.toNat*szOf U t+off) us).toArray) (Live β (write id (.dp (.rows e t m (l.set i.toNat x) ver iv true none)) (upds h K))) m none i' j d u n:=by intro j d u n hn hI;refine ⟨λhm=>⟨(hI.1 hm).1,λf=>?_⟩,λhm=>⟨(hI.2 hm).1,xx.rep (hI.2 hm).2⟩⟩;obtain ⟨r1,e',t',l',r2,r3⟩:=(hI.1 hm).2 f;exact ⟨r1,e',t',l',r2,r3.map (λd v r=>xx.rep r) (λb hb=>hbk n (List.mem_of_getElem? hn) b (by rw [r1];exact hb))⟩
   rw [H9 _ _ _ _ H];by_cases I:i'=i.toNat
   .subst I;rw [cp9,if_pos rfl,if_pos L] at y;simp only [cn4] at y;subst y;rw [<-Q,H9 _ _ _ _ (by rw [B0];omega)] at z;by_cases hcc:off<=j/\j<off+ds.length
    .rw [if_pos hcc] at z;rw [if_pos (by omega)];have hlt:i.toNat*szOf U t+j<ns.length:=by omega
     have hold:j<(B1 U t l[i.toNat]).length:=by rw [B0];exact hjs
     obtain ⟨N,J,M,A,a3,a4⟩:=k5 _ _ (cn6 L) j _ (cn6 hold);have hnm:m.any (Nat.beq j)=false:=by
      cases hm:m.any (Nat.beq j) with
      |false=>rfl
      |true=>have:=s j (aA9.1 hm);omega
     have hvj:j-off<us.length:=by omega
     have hk:i.toNat*szOf U t+j-(i.toNat*szOf U t+off)=j-off:=by omega
     rw [hk];refine ⟨us[j-off],J,cn6 hvj,A,(λhm=>by rw [hnm] at hm;cases hm),λ_=>⟨(a4 hnm).1,xx.rep (Y _ d _ z (cn6 hvj))⟩⟩
    .rw [if_neg hcc] at z;rw [if_neg (by omega)];obtain ⟨N,J,M,A,a3⟩:=k5 _ _ (cn6 L) j d z;exact ⟨N,J,M,A,keep j d N J A a3⟩
   .rw [cp9,if_neg (λf=>I f.symm)] at y;have:¬ (i.toNat*szOf U t+off<=i'*szOf U t+j/\i'*szOf U t+j<i.toNat*szOf U t+off+us.length):=by
     rintro ⟨b1,b2⟩;have:i'*szOf U t+j=i.toNat*szOf U t+(i'*szOf U t+j-i.toNat*szOf U t):=by omega
     exact I (an6 hjs (by omega) this).1
    rw [if_neg this];obtain ⟨N,J,M,A,a3⟩:=k5 _ _ y j d z;exact ⟨N,J,M,A,keep j d N J A a3⟩
 .cases hD;refine ⟨_,rfl,λc v C=>?_⟩;have hin:∀ (i':Int) (j:Nat),m.any (Nat.beq j)=true->I9 t (l.set i.toNat x) i' j=I9 t l i' j:=λi' j hm=>aX1 L Q (by omega) (by have:=s j (aA9.1 hm);omega);cases c with
  |self v0=>exact C
  |elt v0 i0 off0=>exact ⟨C.1,λf=>by simpa using C.2 f⟩
  |inn v0 i0 j0=>exact ⟨C.1,λf=>by simpa using C.2 f⟩
  |iat v0 i0 j0 k0 off0=>refine ⟨C.1,λf=>?_⟩;obtain ⟨b0,b1,b2,b3,b4⟩:=C.2 f;simp only [List.length_set];refine ⟨b0,b1,b2,b3,?_⟩;rw [hin i0 j0 b2];exact b4
  |key=>exact C
  |it=>exact C
theorem bt8 {t:Ty} {l:List (den U.T t)} {i:Int} (c:i.toNat<l.length) {off:Nat} {d':Datum U} {x:den U.T t} (d:D4 (B1 U t l[i.toNat]) off [d']=B1 U t x) (b:off<szOf U t) {i':Int} (a:i'.toNat=i.toNat):
  I9 t (l.set i.toNat x) i' off=some d':=by
 unfold I9;rw [a,P1 (by simpa using c)];simp only [List.getElem_set_self];rw [<-d,H9 _ _ _ _ (by rw [B0];simp only [cp8];omega),if_pos (by simp)];simp
theorem bf9 {t:Ty} {l:List (den U.T t)} {i i':Int} {j:Nat} {x:den U.T t} (h:¬ i'.toNat=i.toNat):I9 t (l.set i.toNat x) i' j=I9 t l i' j:=by unfold I9;have a:¬ i.toNat=i'.toNat:=λb=>h b.symm;simp only [List.getD,cp9,if_neg a]
theorem aX3 (k:Ok F w β h) {ids:List Nat} {id:Nat} {e:TypeId} {t:Ty} {m:List Nat} {l:List (den U.T t)} {ver iv:Nat} (hl:look id h=some (.dp (.rows e t m l ver iv true none))) {i kk:Int} {j off:Nat} {vs:List (Cell U)} {p:Option Prop} {u:Obs U}
  (o:aV7 (sub h ids) id e t m l ver iv i j kk off vs=some (p,u)) (h0:0<=i) (h1:i<(l.length:Int)) (hm:m.any (Nat.beq j)=true) {e':TypeId} {t':Ty} {l':List (den U.T t')} (hd:I9 t l i j=some ⟨.slice e' t',l'⟩) (hk0:0<=kk) (hk1:kk<(l'.length:Int))
  {us:List Value} (hr:CsRel w β h vs us) {a:Array Value} {g c:Nat} (hN:β id=.tuple a) (hg:a[1+(i.toNat*szOf U t+j)]? =some (.slice (some ⟨g,0,none⟩) l'.length c)):
  ∃ cur,w.heap[g]? =some (.cells cur e' (0,0))/\kk.toNat*szOf U t'+off+us.length<=cur.size/\After F w β h (w.setRow g (D4 cur.toList (kk.toNat*szOf U t'+off) us).toArray) β (upds h u):=by
 unfold aV7 at o;rw [hd] at o;simp only at o;split at o
 case isFalse=>cases o
 rename_i G;have G:=cp7 G;split at o
 case h_2=>cases o
 rename_i ds I R;split at o
 case h_2=>cases o
 rename_i x' S;split at o
 case h_2=>cases o
 rename_i x hx;split at o
 case isFalse=>cases o
 rename_i V;simp only [cn4,co6] at o;obtain ⟨rfl,rfl⟩:=o;have J:i.toNat<l.length:=by omega
 have K:kk.toNat<l'.length:=by omega
 rw [P1 J] at hx;rw [P1 K] at S;have L:=am0 hx;have W:=am0 S;obtain ⟨X,Y⟩:=L4 R;have A1:=H8 k X;have Z:∀ ob,(id,ob)∉I:=λob hm=>by have:=cq4.1 V _ hm;simp at this
 have hl1:look id (upds h I)=some (.dp (.rows e t m l ver iv true none)):=by rw [B6 Z];exact hl
 have hdr:DRel F.B w β (upds h I) (.rows e t m l ver iv true none) (β id):=A1.obj id _ hl1;obtain ⟨⟨ys,y1,y2,y3,y4⟩,_⟩:=ag0 hdr h0 h1 hm hd hN hg;obtain ⟨root,xs,ns,M,k1,k2,k3,k4,k5,k6,k7⟩:=hdr;have hcj:(B1 U t l[i.toNat])[j]? =some ⟨.slice e' t',l'⟩:=by
  have:=hd;unfold I9 at this
  rwa [P1 J] at this
 have hjs:=aa1 hcj;have s:ns[i.toNat*szOf U t+j]? =some (.slice (some ⟨g,0,none⟩) l'.length c):=by rw [M] at hN;have:=G1 hN;subst this;rw [Nat.add_comm 1] at hg;simpa using hg
 obtain ⟨g',cap,cur,q1,q2,q3,q4,q5,q6,q7⟩:=an5 y1 (aA7 hk0 hk1);simp only [Value.slice.injEq,cn4,Addr.mk.injEq,and_true,true_and] at q1;obtain ⟨rfl,rfl⟩:=q1;have hul:us.length=ds.length:=by rw [hr.1,Y]
 have hdv:ds.length=vs.length:=Y;have hlen:(kk.toNat+1)*szOf U t'<=ys.length:=by rw [y1.1];exact Nat.mul_le_mul_right _ K
 rw [Nat.add_mul,Nat.one_mul] at hlen;have hle2:l'.length*szOf U t'<=c*szOf U t':=Nat.mul_le_mul_right _ q4;have hys:=y1.1;have hpl:kk.toNat*szOf U t'+off+us.length<=ys.length:=by omega
 have hdr2:∀ (j:Nat) (d:Datum U) (v:Value),ds[j]? =some d->us[j]? =some v->Rep U w (Live β (upds h I)) d v:=λj d v N q=>ag4 k X R hr (λ_ hx=>hx) j d v N q;refine ⟨cur,q3,by omega,?_⟩;rw [C6];refine A1.trans ?_;refine J0 A1.ok hl1 rfl rfl rfl rfl (by simp) (λb hb' hn=>setRow_other w g b _ (λf=>hn (by rw [f,M];exact ⟨_,List.mem_cons_of_mem _ (List.mem_of_getElem? s),rfl⟩))) rfl (λ_ _=>rfl) rfl (λh=>by simp [Ob.oth] at h) (λb hb'=>.inl hb') (λ_ _ h5=>by cases h5) (λe2 t2 l2 v2 lv2 h5=>by cases h5) (λxx=>?_) (λD hD=>?_)
 .refine ⟨root,xs,ns,M,?_,by simpa using k2,k3,k4,λi' x2 y A d H=>?_,k6,k7⟩
  .rw [List.length_set];exact k1.kept (λb hb=>setRow_other w g b _ (λf=>k7 _ _ g s rfl (by rw [<-f];exact hb)))
  .have hjs2:=aa1 H;have keep:∀ (d:Datum U) (u n:Value),¬ (i'=i.toNat/\A=j)->ns[i'*szOf U t+A]? =some n->InnR F.B w (Live β (upds h I)) m none i' A d u n->InnR F.B (w.setRow g (D4 cur.toList (kk.toNat*szOf U t'+off) us).toArray) (Live β (write id (.dp (.rows e t m (l.set i.toNat x) ver iv true none)) (upds h I))) m none i' A d u n:=by
    intro d u n hne hn hI;refine ⟨λhm=>⟨(hI.1 hm).1,λf=>?_⟩,λhm=>⟨(hI.2 hm).1,xx.rep (hI.2 hm).2⟩⟩;obtain ⟨r1,e2,t2,l2,r2,r3⟩:=(hI.1 hm).2 f;refine ⟨r1,e2,t2,l2,r2,r3.map (λd v r=>xx.rep r) (λb hb=>setRow_other w g b _ (λhh2=>hne ?_))⟩;have:=k6 _ _ _ _ g hn s (by rw [r1,<-hh2];exact hb) rfl;exact an6 hjs2 hjs this
   by_cases O:i'=i.toNat
   .subst O;rw [cp9,if_pos rfl,if_pos J] at y;simp only [cn4] at y;subst y;rw [<-L,H9 _ _ _ _ (by rw [B0];simp only [cp8];omega)] at H;by_cases C:j<=A/\A<j+[(⟨.slice e' t',l'.set kk.toNat x'⟩:Datum U)].length
    .rw [if_pos C] at H;have hjj:A=j:=by have:=C.2;simp at this;omega
     subst hjj;simp only [Nat.sub_self,co2,cn4] at H;subst H;obtain ⟨P,Q,N,q,a3,a4⟩:=k5 _ _ (cn6 J) A _ hcj;obtain ⟨r1,_⟩:=(a3 hm).2 (by rintro ⟨_,f,_⟩;cases f);rw [s] at q;simp only [cn4] at q;refine ⟨P,Q,N,by rw [s,q],λ_=>⟨(by rintro ⟨_,f,_⟩;cases f),λ_=>⟨r1,e',t',_,rfl,D4 ys (kk.toNat*szOf U t'+off) us,?_,by simpa using y2,ag5 y3 hr.2.1,?_⟩⟩,λhm'=>by rw [hm] at hm';cases hm'⟩
     .rw [<-r1,<-q,List.length_set];exact Y4 q3 q2 q4 q5 q6 q7 hys hpl
     .exact Els.ext xx (bD8 (β:=β) (h:=upds h I) y4 hys K W (by omega) hul hdr2)
    .rw [if_neg C] at H;obtain ⟨P,Q,N,q,a3⟩:=k5 _ _ (cn6 J) A d H;refine ⟨P,Q,N,q,keep d P Q (λf=>C ?_) q a3⟩;rw [f.2];simp
   .rw [cp9,if_neg (λf=>O f.symm)] at y;obtain ⟨P,Q,N,q,a3⟩:=k5 _ _ y A d H;exact ⟨P,Q,N,q,keep d P Q (λf=>O f.1) q a3⟩
 .cases hD;refine ⟨_,rfl,λc v E=>?_⟩;cases c with
  |self v0=>exact E
  |elt v0 i0 off0=>exact ⟨E.1,λf=>by simpa using E.2 f⟩
  |inn v0 i0 j0=>exact ⟨E.1,λf=>by simpa using E.2 f⟩
  |iat v0 i0 j0 k0 off0=>
   refine ⟨E.1,λf=>?_⟩;obtain ⟨b0,b1,b2,b3,vs0,g0,c0,e0,t0,l0,b4,b5,b6,b7,b8⟩:=E.2 f;simp only [List.length_set];refine ⟨b0,b1,b2,b3,vs0,g0,c0,e0,t0,?_⟩;by_cases hs:i0.toNat=i.toNat/\j0=j
   .obtain ⟨z,rfl⟩:=hs;have hde:I9 t l i0 j0=I9 t l i j0:=by unfold I9;rw [z]
    rw [hde,hd] at b6;simp only [cn4] at b6;cases b6;exact ⟨l'.set kk.toNat x',b4,by simpa using b5,bt8 J L hjs z,by simpa using b7,b8⟩
   .refine ⟨l0,b4,b5,?_,b7,b8⟩;by_cases z:i0.toNat=i.toNat
    .have hj0:j0≠j:=λf=>hs ⟨z,f⟩;rw [aX1 J L (by simp only [cp8];omega) (by simp only [cp8];omega)];exact b6
    .rw [bf9 z];exact b6
  |key=>exact E
  |it=>exact E
theorem bt9 (k:Ok F w β h) {ids:List Nat} {id:Nat} {ty:Option Ty} {c:Cell U} {d:Datum U} {u:Obs U} (a:bZ9 (sub h ids) id ty c=some (d,u)) {v:Value} (hr:CRel w β h c v):
  ∃ e t l,d=⟨.slice e t,l⟩/\RowC F.B w (Live β h) e t l v/\((u=[]/\∀ b,¬ Has v b)\/∃ r vr,u=[(r,.row e t [] (vr+1) true)]/\r≠id/\look r h=some (.row e t l vr true)/\v=β r):=by
 unfold bZ9 at a;split at a
 .rename_i r vr;split at a
  case h_2=>cases a
  rename_i e t l vr' hl;split at a
  case isFalse=>cases a
  rename_i hc;simp only [cn7,Bool.not_eq_true'] at hc;have j:=cn5 hc.1;have m:r≠id:=λn=>by have:=hc.2;rw [n,Nat.beq_refl] at this;cases this
  simp only [cn4,co6] at a;obtain ⟨rfl,rfl⟩:=a;have hl:=C1 hl;obtain ⟨_,_,_,_,_,f,_,g⟩:=hr;rw [hl] at f;simp only [cn4,Ob.row.injEq] at f;have g:=g (j.trans f.2.2.2.1);subst g;exact ⟨e,t,l,rfl,k.obj r _ hl,.inr ⟨r,vr',rfl,m,hl,rfl⟩⟩
 .split at a
  case h_2=>cases a
  rename_i e t;simp only [cn4,co6] at a;obtain ⟨rfl,rfl⟩:=a;have j:v=.slice none 0 0:=hr;subst j;exact ⟨e,t,[],rfl,⟨[],Owns.of (World.ownsRow_nil _ _ _ _),by simp [most],by simp,λi y o=>by simp at o⟩,.inl ⟨rfl,λb p=>U0 p⟩⟩
 .cases a
theorem C3 {root:Value} {ns:List Value} {b:Nat}:Has (.tuple (root::ns).toArray) b<->D5 root=some b\/∃ (p:Nat) (n:Value),ns[p]? =some n/\D5 n=some b:=by
 constructor
 .rintro ⟨u,c,a⟩;simp only [List.mem_cons] at c;rcases c with rfl|c
  .exact .inl a
  .obtain ⟨p,d⟩:=List.mem_iff_getElem?.1 c;exact .inr ⟨p,u,d,a⟩
 .rintro (a|⟨p,n,e,a⟩)
  .exact ⟨root,by simp,a⟩
  .exact ⟨n,List.mem_cons_of_mem _ (List.mem_of_getElem? e),a⟩
theorem bD9 {e:TypeId} {t:Ty} {m:List Nat} {l l':List (den U.T t)} {ver iv:Nat} {lv lv':Bool} {hole d:Option (Int×Nat)} {root:Value} {ns ns':List Value} (b:l'.length=l.length) (c:DC U) (v:Value)
  (a:DCRel (.rows e t m l ver iv lv hole) (.tuple (root::ns).toArray) c v):DCRel (.rows e t m l' ver (iv+1) lv' d) (.tuple (root::ns').toArray) c v:=by
 cases c with
 |self v0=>refine ⟨a.1,λf=>?_⟩;obtain ⟨vs,h1,h2⟩:=a.2 f;have:=G1 h1;subst this;exact ⟨_,rfl,by simpa using h2⟩
 |elt v0 i off=>refine ⟨a.1,λf=>?_⟩;obtain ⟨h0,h1,vs,g,c,h2,h3,h4⟩:=a.2 f;have:=G1 h2;subst this;exact ⟨h0,by rw [b];exact h1,_,g,c,rfl,by rw [b];simpa using h3,h4⟩
 |inn v0 i j=>exact ⟨Nat.le_succ_of_le a.1,λf=>by have:=a.1;omega⟩
 |iat v0 i j k off=>exact ⟨Nat.le_succ_of_le a.1,λf=>by have:=a.1;omega⟩
 |key=>exact a
 |it=>exact a
theorem aX4 (k:Ok F w β h) {ids:List Nat} {id:Nat} {e:TypeId} {t:Ty} {m:List Nat} {l:List (den U.T t)} {ver iv:Nat} {hole:Option (Int×Nat)} (hl:look id h=some (.dp (.rows e t m l ver iv true hole))) {i:Int} {off:Nat} {c:Cell U} {p:Option Prop} {u:Obs U}
  (R:aV6 (sub h ids) id e t m l ver iv hole i off c=some (p,u)) (hob:holds p) (h0:0<=i) (h1:i<(l.length:Int)) {v:Value} (hr:CRel w β h c v) (hv1:v.oneCell'=true) {a:Array Value} {g cp:Nat} (hN:β id=.tuple a) (hg:a[0]? =some (.slice (some ⟨g,0,none⟩) l.length cp)):
  ∃ cur,w.heap[g]? =some (.cells cur e (0,0))/\i.toNat*szOf U t+off+1<=cur.size/\∃ β',After F w β h (w.setRow g (D4 cur.toList (i.toNat*szOf U t+off) [v]).toArray) β' (upds h u):=by
 unfold aV6 at R;split at R
 case h_2=>cases R
 rename_i d X hin;split at R
 case isFalse=>cases R
 rename_i hc;simp only [cn7,beq_iff_eq] at hc;obtain ⟨hm,hty⟩:=hc;split at R
 case h_2=>cases R
 rename_i x hx;split at R
 case h_2=>cases R
 rename_i p0 C;simp only [cn4,co6] at R;obtain ⟨rfl,rfl⟩:=R;have hi:i.toNat<l.length:=by omega
 rw [P1 hi] at hx;have hmk:=am0 hx;obtain ⟨e',t',l',rfl,hrow,Y⟩:=bt9 k hin hr;have hdr:DRel F.B w β h (.rows e t m l ver iv true hole) (β id):=k.obj id _ hl;obtain ⟨root,xs,ns,G,k1,k2,k3,k4,k5,k6,k7⟩:=hdr;have hroot:root=.slice (some ⟨g,0,none⟩) l.length cp:=by rw [G] at hN;have:=G1 hN;subst this;simpa using hg
 subst hroot;obtain ⟨g',cap,cur,q1,q2,q3,q4,q5,q6,q7⟩:=an5 k1 (aA7 h0 h1);simp only [Value.slice.injEq,cn4,Addr.mk.injEq,and_true,true_and] at q1;obtain ⟨rfl,rfl⟩:=q1;have hsz:off<szOf U t:=by
  have h2:(tysE U t).length=szOf U t:=by cases t<;>rfl
  rw [<-h2];exact (cn9.1 hty).1
 have hlen:(i.toNat+1)*szOf U t<=xs.length:=by rw [k1.1];exact Nat.mul_le_mul_right _ hi
 rw [Nat.add_mul,Nat.one_mul] at hlen;have hle2:l.length*szOf U t<=cp*szOf U t:=Nat.mul_le_mul_right _ q4;have hxs:=k1.1;have S:i.toNat*szOf U t+off+[v].length<=xs.length:=by simp only [cp8];omega
 have H:i.toNat*szOf U t+off<ns.length:=by rw [k4];simp only [cp8] at S;omega
 --the hole,if there is one,is here
 have hh:∀ (i' j':Nat),(∃ hi:Int,hole=some (hi,j')/\hi.toNat=i')->i'=i.toNat/\j'=off:=by
  rintro i' j' ⟨hi2,hh1,K⟩;subst hh1;simp only at C;split at C
  case isFalse=>cases C
  rename_i A;simp only [cn4] at C;subst C;have hob:hi2=i:=hob;exact ⟨by rw [<-K,hob],cn5 A⟩
 --the blocks of what is stored
 have hvb:∀ b,Has v b->∃ r vr,X=[(r,.row e' t' [] (vr+1) true)]/\r≠id/\look r h=some (.row e' t' l' vr true)/\v=β r:=by
  intro b A;rcases Y with ⟨_,h2⟩|h2
  .exact absurd A (h2 b)
  .exact h2
 have s:∀ b,D5 v=some b->Has v b:=by obtain ⟨ys,y1,_⟩:=hrow;exact λb A=>y1.has A
 have Z:∀ b,Has v b->¬ Has (β id) b:=by intro b A hN2;obtain ⟨r,vr,_,f,V,rfl⟩:=hvb b A;exact f (k.dis r _ id _ b V hl A hN2)
 refine ⟨cur,q3,by simp only [cp8] at S;omega,?_⟩
 let N2:Value:=.tuple ((.slice (some ⟨g,0,none⟩) l.length cp:Value)::ns.set (i.toNat*szOf U t+off) v).toArray
 let β':Nm:=⟨λj=>open Classical in if j=id then N2 else if (∃ o,(j,o)∈X) then .slice none 0 0 else β j,β.M,β.lp⟩
 have hβid:β' id=N2:=by simp [β']
 have hβr:∀ j,j≠id->(∃ o,(j,o)∈X)->β' j=.slice none 0 0:=by intro j P hex;simp only [β'];rw [if_neg P,if_pos hex]
 have hu0id:∀ o,(id,o)∉X:=by
  intro o L;rcases Y with ⟨h2,_⟩|⟨r,vr,h2,f,_⟩
  .rw [h2] at L;simp at L
  .rw [h2] at L;simp only [co5,co6] at L;exact f L.1.symm
 have D:∀ j o,(j,o)∈X->∃ vr,j≠id/\look j h=some (.row e' t' l' vr true)/\o=.row e' t' [] (vr+1) true/\v=β j:=by
  intro j o L;rcases Y with ⟨h2,_⟩|⟨r,vr,h2,f,V,hvr⟩
  .rw [h2] at L;simp at L
  .rw [h2] at L;simp only [co5,co6] at L;obtain ⟨rfl,rfl⟩:=L;exact ⟨vr,f,V,rfl,hvr⟩
 have W:(id,Ob.dp (.rows e t m (l.set i.toNat x) ver (iv+1) true none))∈X++[(id,Ob.dp (.rows e t m (l.set i.toNat x) ver (iv+1) true none))]:=by simp
 refine ⟨β',P2 k ?_ ?_ rfl rfl rfl (by simp) ?_ rfl ?_ rfl ?_ ?_ ?_ ?_ ?_⟩
 .rcases Y with ⟨h2,_⟩|⟨r,vr,h2,f,_⟩
  .rw [h2];simp
  .rw [h2];simpa using f
 .intro j o ob hm z;rcases cq1.1 hm with h2|h2
  .obtain ⟨vr,_,h3,_⟩:=D j o h2;rw [h3] at z;simp only [cn4] at z;subst z;rfl
  .simp only [co5,co6] at h2;rw [h2.1,hl] at z;simp only [cn4] at z;subst z;rfl
 .intro b A hn;exact setRow_other w g b _ (λK=>hn id _ _ W hl (by rw [K,G];exact C3.2 (.inl rfl)))
 .intro j P;have h2:j≠id:=λK=>P (.dp (.rows e t m (l.set i.toNat x) ver (iv+1) true none)) (by rw [K];simp);have h3:¬ ∃ o,(j,o)∈X:=λ⟨o,L⟩=>P o (by simp [L]);simp only [β'];rw [if_neg h2,if_neg h3]
 .intro j o b hm A;rcases cq1.1 hm with h2|h2
  .obtain ⟨vr,f,_⟩:=D j o h2;rw [hβr j f ⟨o,h2⟩] at A;exact (U0 A).elim
  .simp only [co5,co6] at h2;rw [h2.1,hβid] at A;left;rcases C3.1 A with h3|⟨q,n,h3,h4⟩
   .exact ⟨id,_,_,W,hl,by rw [G];exact C3.2 (.inl h3)⟩
   .rw [cp9] at h3;split at h3
    .simp only [if_pos H,cn4] at h3;subst h3;obtain ⟨r,vr,h5,f,V,hvr⟩:=hvb b (s b h4);exact ⟨r,.row e' t' [] (vr+1) true,_,by rw [h5];simp,V,by rw [<-hvr];exact s b h4⟩
    .exact ⟨id,_,_,W,hl,by rw [G];exact C3.2 (.inr ⟨q,n,h3,h4⟩)⟩
 .intro j o j' o' b hm hm' A hb';rcases cq1.1 hm with h2|h2
  .obtain ⟨vr,f,_⟩:=D j o h2;rw [hβr j f ⟨o,h2⟩] at A;exact (U0 A).elim
  .rcases cq1.1 hm' with h3|h3
   .obtain ⟨vr,f,_⟩:=D j' o' h3;rw [hβr j' f ⟨o',h3⟩] at hb';exact (U0 hb').elim
   .simp only [co5,co6] at h2 h3;rw [h2.1,h3.1]
 .intro j o ob hm z;rcases cq1.1 hm with h2|h2
  .obtain ⟨vr,f,h3,h4,_⟩:=D j o h2;rw [h3] at z;simp only [cn4] at z;subst z;rw [h4];exact ⟨rfl,rfl,by omega,λK=>by omega⟩
  .simp only [co5,co6] at h2;obtain ⟨rfl,rfl⟩:=h2;rw [hl] at z;simp only [cn4] at z;subst z;rw [hβid,G];intro c v hv;exact bD9 (by simp) c v hv
 .intro j o hm;rcases cq1.1 hm with h2|h2
  .obtain ⟨vr,_,_,h4,_⟩:=D j o h2;rw [h4];rfl
  .simp only [co5,co6] at h2;rw [h2.2];rfl
 .intro xx j o hm;rcases cq1.1 hm with h2|h2
  .obtain ⟨vr,f,_,h4,_⟩:=D j o h2;rw [h4];exact ⟨[],by rw [hβr j f ⟨o,h2⟩];exact Owns.of (World.ownsRow_nil _ _ _ _),by simp [most],by simp,λi y hy=>by simp at hy⟩
  .simp only [co5,co6] at h2;rw [h2.1,h2.2]
   suffices key:DRel F.B (w.setRow g (D4 cur.toList (i.toNat*szOf U t+off) [v]).toArray) β' (upds h (X++[(id,.dp (.rows e t m (l.set i.toNat x) ver (iv+1) true none))])) (.rows e t m (l.set i.toNat x) ver (iv+1) true none) N2 by rw [<-hβid] at key;exact key
   have hgb:∀ b,Has v b\/(∃ (q:Nat) (n:Value),ns[q]? =some n/\D5 n=some b)->b≠g:=by
    rintro b (A|⟨q,n,hn,A⟩) rfl
    .exact Z b A (by rw [G];exact C3.2 (.inl rfl))
    .exact k7 q n b hn A rfl
   refine ⟨_,D4 xs (i.toNat*szOf U t+off) [v],_,rfl,?_,by simpa using k2,ag5 k3 (by simpa using hv1),by rw [S8 _ _ _ S,List.length_set];exact k4,λi' x2 I J d P=>?_,?_,?_⟩
   .rw [List.length_set];exact Y4 q3 q2 q4 q5 q6 q7 hxs S
   .have hjs2:=aa1 P;have keep:∀ (d:Datum U) (u n:Value),¬ (i'=i.toNat/\J=off)->ns[i'*szOf U t+J]? =some n->InnR F.B w (Live β h) m hole i' J d u n->InnR F.B (w.setRow g (D4 cur.toList (i.toNat*szOf U t+off) [v]).toArray) (Live β' (upds h (X++[(id,.dp (.rows e t m (l.set i.toNat x) ver (iv+1) true none))]))) m none i' J d u n:=by
     intro d u n f hn hI;refine ⟨λhm=>⟨(by rintro ⟨_,E,_⟩;cases E),λ_=>?_⟩,λhm=>⟨(hI.2 hm).1,xx.rep (hI.2 hm).2⟩⟩;obtain ⟨r1,e2,t2,l2,r2,r3⟩:=(hI.1 hm).2 (λE=>f (hh _ _ E));exact ⟨r1,e2,t2,l2,r2,r3.map (λd v r=>xx.rep r) (λb A=>setRow_other w g b _ (hgb b (.inr ⟨_,n,hn,by rw [r1];exact A⟩)))⟩
    have hnp:¬ (i'=i.toNat/\J=off)->(ns.set (i.toNat*szOf U t+off) v)[i'*szOf U t+J]? =ns[i'*szOf U t+J]? :=by intro f;rw [cp9,if_neg (λE=>f ?_)];have:=an6 hsz hjs2 E;exact ⟨this.1.symm,this.2.symm⟩
    rw [H9 _ _ _ _ S];by_cases N:i'=i.toNat/\J=off
    .obtain ⟨rfl,rfl⟩:=N;rw [if_pos (by simp)];rw [cp9,if_pos rfl,if_pos hi] at I;simp only [cn4] at I;subst I;rw [<-hmk,H9 _ _ _ _ (by rw [B0];simp only [cp8];omega),if_pos (by simp)] at P;simp only [Nat.sub_self,co2,cn4] at P;subst P;refine ⟨v,v,by simp,by rw [cp9,if_pos rfl,if_pos H],λ_=>⟨(by rintro ⟨_,E,_⟩;cases E),λ_=>⟨rfl,e',t',l',rfl,hrow.map (λd v r=>xx.rep r) (λb A=>setRow_other w g b _ (hgb b (.inl (s b A))))⟩⟩,λhm2=>by rw [hm] at hm2;cases hm2⟩
    .have hno:¬ (i.toNat*szOf U t+off<=i'*szOf U t+J/\i'*szOf U t+J<i.toNat*szOf U t+off+[v].length):=by
      rintro ⟨b1,b2⟩;simp only [cp8] at b2;have:i'*szOf U t+J=i.toNat*szOf U t+off:=by omega
      exact N (an6 hjs2 hsz this)
     rw [if_neg hno,hnp N];by_cases hii:i'=i.toNat
     .subst hii;rw [cp9,if_pos rfl,if_pos hi] at I;simp only [cn4] at I;subst I;have hj0:¬ J=off:=λE=>N ⟨rfl,E⟩;rw [<-hmk,H9 _ _ _ _ (by rw [B0];simp only [cp8];omega),if_neg (by simp only [cp8];omega)] at P;obtain ⟨u1,n1,a1,a2,a3⟩:=k5 _ _ (cn6 hi) J d P;exact ⟨u1,n1,a1,a2,keep d u1 n1 N a2 a3⟩
     .rw [cp9,if_neg (λE=>hii E.symm)] at I;obtain ⟨u1,n1,a1,a2,a3⟩:=k5 _ _ I J d P;exact ⟨u1,n1,a1,a2,keep d u1 n1 N a2 a3⟩
   .intro q q' a c b Q hc O hcb;rw [cp9] at Q hc;split at Q<;>split at hc
    .rename_i b1 b2;rw [<-b1,<-b2]
    .simp only [if_pos H,cn4] at Q;subst Q;exact (Z b (s b O) (by rw [G];exact C3.2 (.inr ⟨q',c,hc,hcb⟩))).elim
    .simp only [if_pos H,cn4] at hc;subst hc;exact (Z b (s b hcb) (by rw [G];exact C3.2 (.inr ⟨q,a,Q,O⟩))).elim
    .exact k6 q q' a c b Q hc O hcb
   .intro q a b Q O;rw [cp9] at Q;split at Q
    .simp only [if_pos H,cn4] at Q;subst Q;intro hb2;exact Z b (s b O) (by rw [G];exact C3.2 (.inl hb2))
    .exact k7 q a b Q O
theorem Does.store (R:Rel F n β s tmps w) {t:TypeId} {x y:Operand} (Q:o.op=.store t x y) {a v:PV U} (r:PRel w β s.h s.σ a (ρ x)) (q:PRel w β s.h s.σ v (ρ y)) {ids:List Nat}
  (z:ax6 E (sub s.h ids) t a v=some e) (hob:e.Obl):Does E.P F β s ρ w o e:=by
 unfold ax6 at z;split at z
 .rename_i vs hvs;have hr:=aK2 q hvs;split at z
  .rename_i b k hs;split at z
   .rename_i hk;have hk:=cn5 hk;have H:(ρ y).cells.size=k:=by have:=hr.1;simpa [hk] using this
    split at z
    ·--a box
     rename_i id off;split at z
     .rename_i e' cs hl;split at z
      .rename_i M;have M:=cp7 M;simp only [cn4] at z;subst z;have hl:=C1 hl;obtain ⟨_,_,g,L,hb,Z⟩:=r.inv.2;obtain ⟨g',cur,h1,h2,h3,h4⟩:=R.obj id _ hl;rw [hb] at h1;simp only [Value.pointer.injEq,cn4,Addr.mk.injEq,and_true] at h1;subst h1;have hcl:cur.size=cs.length:=by have:=h4.1;simpa using this
       have G:=ak0 (P:=E.P) hs w g off e' cur h3 (ρ y) H (by omega) hr.2.1;have A:After F w β s.h (w.setRow g (D4 cur.toList off (ρ y).cells.toList).toArray) β (write id (.box e' (D4 cs off vs)) s.h):=by
        refine J0 R.ok hl rfl rfl rfl rfl (by simp) (λb I hn=>setRow_other w g b _ (λhh=>hn (by rw [hh,hb];rfl))) rfl (λ_ _=>rfl) rfl (λh=>by simp [Ob.oth] at h) (λb I=>.inl I) (λe2 cs2 J=>?_) (λ_ _ _ _ _ J=>by cases J) (λx=>?_)
        .cases J;exact ⟨rfl,_,rfl⟩
        .exact ⟨g,_,hb,h2,setRow_heap w g cur _ e' (0,0) h3,x.cs (by simpa using h4.spl hr off)⟩
       exact ⟨undef,_,β,.inr ⟨by simp [execOp,Q,Z,G],rfl⟩,A,trivial⟩
      .cases z
     .cases z
    ·--an element
     rename_i id ver i off;split at z
     .rename_i e' c l ver' lv hl;split at z
      .rename_i C;simp only [cn7] at C;have B:=cn5 C.1.1;have hlv:lv=true:=C.1.2;have S:=cp7 C.2;subst hlv;split at z
       .rename_i ds u hds;split at z
        .rename_i x0 hx0;split at z
         case isFalse=>cases z
         rename_i hnot;simp only [cn4] at z;subst z;have hl:=C1 hl;obtain ⟨_,_,_,_,_,L,T,Z⟩:=r.inv.2;rw [hl] at L;simp only [cn4,Ob.row.injEq] at L;obtain ⟨rfl,rfl,V,rfl,rfl⟩:=L;have V:=eq_of_heq V;subst V;obtain ⟨h0,h1,g,cap,hβ,K⟩:=Z B;have hi:=bp0 h0 h1;obtain ⟨hfz,hdl⟩:=L4 hds;have A1:=H8 R.ok hfz;have hnin:∀ ob,(id,ob)∉u:=λob hm=>by have:=cq4.1 hnot _ hm;simp at this
         have hl1:look id (upds s.h u)=some (.row e' c l ver' true):=by rw [B6 hnin];exact hl
         have hgd:l.getD i.toNat (dfl U c)=l[i.toNat]:=by simp [List.getD,cn6 hi]
         rw [hgd] at hx0;have hmk:=am0 hx0;obtain ⟨xs,N,hm,h1c,hel⟩:=A1.obj id _ hl1;obtain ⟨g',cap',cur,h3,h4,J,h6,h7,h8,h9⟩:=an5 N (aA7 h0 h1);rw [hβ] at h3;simp only [Value.slice.injEq,cn4,Addr.mk.injEq,and_true,true_and] at h3;obtain ⟨rfl,rfl⟩:=h3;have O:ds.length=k:=by rw [hdl];exact hk
         have hoff:off+ds.length<=szOf U c:=by rw [O];exact S
         have hvl:(ρ y).cells.toList.length=ds.length:=by rw [O];simpa using H
         have W:=N.1;have hlen:(i.toNat+1)*szOf U c<=xs.length:=by rw [W];exact Nat.mul_le_mul_right _ hi
         rw [Nat.add_mul,Nat.one_mul] at hlen;have hle2:l.length*szOf U c<=cap*szOf U c:=Nat.mul_le_mul_right _ h6;have hp:i.toNat*szOf U c+off+(ρ y).cells.toList.length<=xs.length:=by omega
         have G:=ak0 (P:=E.P) hs w g (i.toNat*szOf U c+off) e' cur J (ρ y) H (by omega) hr.2.1;have hdr:∀ (j:Nat) (d:Datum U) (v:Value),ds[j]? =some d->(ρ y).cells.toList[j]? =some v->Rep U w (Live β (upds s.h u)) d v:=λj d v h12 h13=>ag4 R.ok hfz hds hr (λ_ K=>K) j d v h12 h13;have A2:After F w β (upds s.h u) (w.setRow g (D4 cur.toList (i.toNat*szOf U c+off) (ρ y).cells.toList).toArray) β (write id (.row e' c (l.set i.toNat x0) ver' true) (upds s.h u)):=by
          refine J0 A1.ok hl1 rfl rfl rfl rfl (by simp) (λb I hn=>setRow_other w g b _ (λhh=>hn (by rw [hh,hβ];rfl))) rfl (λ_ _=>rfl) rfl (λh=>by simp [Ob.oth] at h) (λb I=>.inl I) (λ_ _ J=>by cases J) (λe2 t2 l2 v2 lv2 J=>?_) (λx=>?_)
          .cases J;exact ⟨_,_,_,rfl,Nat.le_refl _,λ_=>⟨rfl,by simp⟩⟩
          .refine ⟨D4 xs (i.toNat*szOf U c+off) (ρ y).cells.toList,?_,by simpa using hm,ag5 h1c hr.2.1,Els.ext x (bD8 hel W hi hmk hoff hvl hdr)⟩;rw [hβ,List.length_set];exact Y4 J h4 h6 h7 h8 h9 W hp
         refine ⟨undef,w.setRow g (D4 cur.toList (i.toNat*szOf U c+off) (ρ y).cells.toList).toArray,β,.inr ⟨by simp [execOp,Q,K,G],rfl⟩,?_,trivial⟩;dsimp only;rw [C6,B];exact A1.trans A2
        .cases z
       .cases z
      .cases z
     .cases z
    ·--a deep object
     rename_i id c;split at z
     case h_2=>cases z
     rename_i D hl;split at z
     case h_2=>cases z
     rename_i p u f;simp only [cn4] at z;subst z;have hl:=C1 hl;obtain ⟨D',X,Z⟩:=r.inv.2;rw [hl] at X;simp only [cn4,Ob.dp.injEq] at X;subst X;have fin:∀ (g q:Nat) (el:TypeId) (cur:Array Value) (β':Nm),ρ x=.pointer (some ⟨g,q,none⟩)->w.heap[g]? =some (.cells cur el (0,0))->q+(ρ y).cells.toList.length<=cur.size->After F w β s.h (w.setRow g (D4 cur.toList q (ρ y).cells.toList).toArray) β' (upds s.h u)->
       Does E.P F β s ρ w o ⟨p,.un,u⟩:=by
      intro g q el cur β' K hg T hA;have hkl:(ρ y).cells.toList.length=k:=by simpa using H
      have G:=ak0 (P:=E.P) hs w g q el cur hg (ρ y) H (by rw [hkl] at T;exact T) hr.2.1;exact ⟨undef,_,β',.inr ⟨by simp [execOp,Q,K,G],rfl⟩,hA,trivial⟩
     cases D with
     |maps=>simp [Deep.put] at f
     |iter=>simp [Deep.put] at f
     |rows e t m l ver iv lv hole=>
      cases lv with
      |false=>simp [Deep.put] at f
      |true=>
       cases c with
       |self=>simp [Deep.put] at f
       |inn=>simp [Deep.put] at f
       |key=>simp [Deep.put] at f
       |it=>simp [Deep.put] at f
       |iat v0 i j kk off=>
        simp only [Deep.put] at f;split at f
        case isFalse=>cases f
        rename_i B;split at f
        case h_2=>cases f
        obtain ⟨h0,h1,hm,hk0,a,g,c,e',t',l',hN,hg,hd,hk1,K⟩:=Z.2 (cn5 B);obtain ⟨cur,a1,a2,a3⟩:=aX3 R.ok hl f h0 h1 hm hd hk0 hk1 hr hN hg;exact fin g _ e' cur β K a1 a2 a3
       |elt v0 i off=>
        simp only [Deep.put] at f;split at f
        case isFalse=>cases f
        rename_i B;obtain ⟨h0,h1,a,g,c,hN,hg,K⟩:=Z.2 (cn5 B);split at f
        .rename_i c0 hany;have hu1:∃ v,(ρ y).cells.toList=[v]:=by
          have:=hr.1;exact List.length_eq_one_iff.1 (by simpa using this)
         obtain ⟨v,Y⟩:=hu1;rw [Y] at hr;obtain ⟨cur,a1,a2,β',a3⟩:=aX4 R.ok hl f hob h0 h1 hr.inv.2 hr.inv.1 hN hg;exact fin g _ e cur β' K a1 (by rw [Y];exact a2) (by rw [Y];exact a3)
        .split at f
         case h_2=>cases f
         obtain ⟨cur,a1,a2,a3⟩:=aX2 R.ok hl f h0 h1 hr hN hg;exact fin g _ e cur β K a1 a2 a3
    .cases z
   .cases z
  .cases z
 .cases z
end
end Go.VT
end
