/- Part of a proof. -/
import Derived.OrdersHeld
import Derived.Test.YtajgpcnlehinbaaGreatA02
namespace Go.Proofs.YtajgpcnlehinbaaGreat
open Go.RowKit
set_option maxRecDepth 100000
set_option maxHeartbeats 60000000
set_option linter.all false
structure qZ where
 ns:List Nat
 ef:List Nat
def Side (S:World→Prop) (sd:qZ) (j:Nat) (w w':World):Prop:=
 if sd.ns.contains j then S w' else if sd.ef.contains j then True else w'=w
section
variable {P:Program} {ops:Array Oper} {Q:Exit→Act→World→Prop} {S:World→Prop} {sd:qZ}
def oO (P:Program) (ops:Array Oper) (Q:Exit→Act→World→Prop) (S:World→Prop) (sd:qZ):Nat→Array Bool→Act→World→Prop
 |0,listed,a,w=>Region.ready .any ops listed= []∧Q .normal a w
 |fuel+1,listed,a,w=>
  (Region.ready .any ops listed= []→Q .normal a w)∧
  ∀i∈Region.ready .any ops listed,wpOp P ops Q i (fun a' w'=>Side S sd i w w'∧oO P ops Q S sd fuel (listed.setIfInBounds i true) a' w') a w
theorem yl:∀(fuel:Nat) (listed:Array Bool) (a:Act) (w:World),oO P ops Q S sd fuel listed a w→wpAny P .any ops Q fuel listed a w
 |0,_,_,_,h=>h
 |fuel+1,_,_,_,h=>⟨h.1,fun i hi=>wpOp_mono (fun a' w' h'=>yl fuel _ a' w' h'.2) (h.2 i hi)⟩
structure PL (ops:Array Oper) (sd:qZ) (R S:World→Prop) (listed:Array Bool) (i:Nat) (oi:Oper) (D:List Nat):Prop where
 hi:ops[i]? =some oi
 mem:i∈D
 nns:sd.ns.contains i=false
 ready:i∈Region.ready .any ops listed
 free:∀d∈D,listed.getD d false=false
 waits:∀d∈D,d≠i→∃od,ops[d]? =some od∧∃e∈od.after,Region.binds .any e=true∧e.on∈D
 apart:∀j oj,ops[j]? =some oj→j∉D→listed.getD j true=false→oi.apart ops oj=true∧∀w1 w2,R w1→Side S sd j w1 w2→R w2
theorem IJ {listed:Array Bool} {i j:Nat} (h:i≠j) (d:Bool):(listed.setIfInBounds i true).getD j d=listed.getD j d:=by
 simp[Array.getElem?_setIfInBounds_ne h]
theorem BU {i:Nat} {oi:Oper} {v:Value} {R:World→Prop} {D:List Nat} (hsel:∀(j:Nat) (o:Oper) cs b,ops[j]? =some o→o.op≠ .select cs b)
 (hQ:∀c a w,Q (.panic c) (a.put oi.dst v) w→Q (.panic c) a w):
 ∀(fuel:Nat) (listed:Array Bool) (a:Act) (w:World),PL ops sd R S listed i oi D→YieldsIf P ops R oi v a→R w→
  oO P ops Q S sd fuel (listed.setIfInBounds i true) (a.put oi.dst v) w→oO P ops Q S sd (fuel+1) listed a w:=by
 intro fuel
 have sideI:∀w,PL ops sd R S default i oi D∨sd.ns.contains i=false→Side S sd i w w:=by
  intro w h
  have h1:sd.ns.contains i=false:=h.elim (fun t=>t.nns) id
  unfold Side
  rw[h1]
  simp
 induction fuel with
 |zero=>
  intro listed a w T hy hR H
  refine⟨fun h=>(by have:=T.ready;rw[h]at this;cases this),fun j hj=>?_⟩
  by_cases hji:j=i
  ·subst hji;exact hy.wpOp T.hi hR ⟨sideI w (.inr T.nns),H⟩
  ·have:=ready_mono hj hji
   rw[H.1]at this
   cases this
 |succ fuel ih=>
  intro listed a w T hy hR H
  refine⟨fun h=>(by have:=T.ready;rw[h]at this;cases this),fun j hj=>?_⟩
  by_cases hji:j=i
  ·subst hji;exact hy.wpOp T.hi hR ⟨sideI w (.inr T.nns),H⟩
  ·have h1:=H.2 j (ready_mono hj hji)
   obtain⟨hjun,oj,hoj,hall⟩:=mem_ready.1 hj
   have hjD:j∉D:=fun hd=>by
    obtain⟨od,ho,e,he,hb,hon⟩:=T.waits j hd hji
    have:od=oj:=Option.some.inj (ho.symm.trans hoj)
    subst this
    have h2:=hall e he hb
    rw[T.free _ hon]at h2
    cases h2
   obtain⟨hap,hkeep⟩:=T.apart j oj hoj hjD hjun
   have h2:=wpOp_putIf hoj hap (fun cs b=>hsel i oi cs b T.hi) (fun cs b=>hsel j oj cs b hoj) hQ hy h1
   refine wpOp_mono (fun a' w' h3=>⟨h3.2.1,ih (listed.setIfInBounds j true) a' w' ?_ h3.1 (hkeep _ _ hR h3.2.1) ?_⟩) h2
   ·refine⟨T.hi,T.mem,T.nns,ready_mono T.ready (Ne.symm hji),fun d hd=>?_,T.waits,fun k ok hk hkD hun=>T.apart k ok hk hkD ?_⟩
    ·rw[IJ (fun e:j=d=>hjD (e▸hd))];exact T.free d hd
    ·by_cases hjk:j=k
     ·subst hjk;exact hjun
     ·rw[IJ hjk]at hun;exact hun
   ·rw[Array.setIfInBounds_comm _ _ hji]
    exact h3.2.2
inductive St where
 |c (mode i:Nat)
 |e (i:Nat)
def waits (ops:Array Oper) (m i:Nat):List Nat:=
 (List.range ops.size).foldl (fun acc j=>if i<j&&(match ops[j]? with
   |some o=>o.after.any fun e=>Region.binds .any e&&(if m==0 then e.on==i else acc.contains e.on)
   |none=>false) then j::acc else acc) [i]
def takeB (ops:Array Oper) (sd:qZ) (listed:Array Bool) (mode i:Nat) (D:List Nat):Bool:=
 match ops[i]? with
 |none=>false
 |some oi=>
  D.contains i&& !sd.ns.contains i&&(!listed.getD i true&&oi.after.all fun e=> !Region.binds .any e||listed.getD e.on false)&&
  D.all (fun d=> !listed.getD d false&&(d==i||match ops[d]? with
   |some od=>od.after.any fun e=>Region.binds .any e&&D.contains e.on
   |none=>false))&&
  (List.range ops.size).all fun j=>listed.getD j true||D.contains j||match ops[j]? with
    |some oj=>oi.apart ops oj&&(mode==0||(!sd.ef.contains j&&(mode==2|| !sd.ns.contains j)))
    |none=>true
def yE (ops:Array Oper) (sd:qZ):List St→Array Bool→Bool
 | [],listed=>(Region.ready .any ops listed).isEmpty
 | .c m i::r,listed=>takeB ops sd listed m i (waits ops m i)&&yE ops sd r (listed.setIfInBounds i true)
 | .e i::r,listed=>decide (Region.ready .any ops listed=[i])&&yE ops sd r (listed.setIfInBounds i true)
def Yj (S:World→Prop) (m:Nat) (w w':World):Prop:=if m==0 then True else if m==1 then w'=w else(w'=w∨S w')
theorem Gw {listed:Array Bool} {m i:Nat} {D:List Nat} {w:World} (h:takeB ops sd listed m i D=true):∃oi,PL ops sd (Yj S m w) S listed i oi D:=by
 unfold takeB at h
 split at h
 ·cases h
 rename_i oi hi
 simp only[Bool.and_eq_true,List.all_eq_true,Bool.or_eq_true,Bool.not_eq_true',List.contains_iff_mem,Array.all_eq_true']at h
 obtain⟨⟨⟨⟨h1,h2⟩,h3⟩,h4⟩,h5⟩:=h
 refine⟨oi,hi,h1,h2,mem_ready.2 ⟨h3.1,oi,hi,fun e he hb=>?_⟩,fun d hd=>(h4 d hd).1,fun d hd hne=>?_,fun j oj hj hjD hun=>?_⟩
 ·have:=h3.2 e he
  rw[hb]at this
  simpa using this
 ·have:=(h4 d hd).2
  rcases this with h6|h6
  ·exact absurd (by simpa using h6) hne
  ·split at h6
   ·rename_i od hod
    obtain⟨e,he,hb⟩:=Array.any_eq_true'.1 h6
    simp only[Bool.and_eq_true,List.contains_iff_mem]at hb
    exact⟨od,hod,e,he,hb.1,hb.2⟩
   ·cases h6
 ·have hlt:j<ops.size:=(Array.getElem?_eq_some_iff.1 hj).1
  have:=h5 j (List.mem_range.2 hlt)
  rw[hun]at this
  simp only[hj,Bool.false_eq_true,false_or]at this
  rcases this with h6|h6
  ·exact absurd h6 hjD
  ·simp only[Bool.and_eq_true,Bool.or_eq_true,Bool.not_eq_true',beq_iff_eq]at h6
   refine⟨h6.1,fun w1 w2 hR hS=>?_⟩
   rcases h6.2 with rfl|⟨hef,h7⟩
   ·simp[Yj]
   ·unfold Side at hS
    unfold Yj at hR⊢
    rw[hef]at hS
    by_cases h0:m=0
    ·simp[h0]
    ·rcases h7 with rfl|hns
     ·by_cases hn:sd.ns.contains j=true
      ·rw[if_pos hn]at hS;simp[hS]
      ·rw[if_neg hn]at hS;simp at hS;subst hS;exact hR
     ·rw[hns]at hS;simp at hS;subst hS;exact hR
def fD (P:Program) (ops:Array Oper) (Q:Exit→Act→World→Prop) (S:World→Prop) (sd:qZ):List St→Act→World→Prop
 | [],a,w=>Q .normal a w
 | .c m i::r,a,w=>∃oi v,ops[i]? =some oi∧YieldsIf P ops (Yj S m w) oi v a∧fD P ops Q S sd r (a.put oi.dst v) w
 | .e i::r,a,w=>wpOp P ops Q i (fun a' w'=>Side S sd i w w'∧fD P ops Q S sd r a' w') a w
theorem Ob (m:Nat) (w:World):Yj S m w w:=by
 unfold Yj
 split
 ·trivial
 ·split<;>simp
theorem qR (hsel:∀(j:Nat) (o:Oper) cs b,ops[j]? =some o→o.op≠ .select cs b) (hQ:∀c a w,¬Q (.panic c) a w):
 ∀(pl:List St) (listed:Array Bool) (a:Act) (w:World),yE ops sd pl listed=true→fD P ops Q S sd pl a w→oO P ops Q S sd pl.length listed a w
 | [],listed,a,w,hb,h=>⟨by simpa[yE]using hb,h⟩
 | .c m i::r,listed,a,w,hb,h=>by
  simp only[yE,Bool.and_eq_true]at hb
  obtain⟨oi,v,hi,hy,hr⟩:=h
  obtain⟨oi',T⟩:=Gw (S:=S) (w:=w) hb.1
  have:oi'=oi:=Option.some.inj (T.hi.symm.trans hi)
  subst this
  exact BU hsel (fun c a w h=>absurd h (hQ c _ w)) _ listed a w T hy (Ob m w) (qR hsel hQ r _ _ _ hb.2 hr)
 | .e i::r,listed,a,w,hb,h=>by
  simp only[yE,Bool.and_eq_true,decide_eq_true_eq]at hb
  refine⟨fun h0=>(by rw[hb.1]at h0;cases h0),fun j hj=>?_⟩
  rw[hb.1]at hj
  obtain rfl:j=i:=by simpa using hj
  exact wpOp_mono (fun a' w' h'=>⟨h'.1,qR hsel hQ r _ a' w' hb.2 h'.2⟩) h
theorem yY {id:Nat} {a:Act} {w:World} (S:World→Prop) (sd:qZ) (pl:List St) (hm:P.follows .mixedOrders=true)
 (hb:(Region.noSelect ops&&(pl.length==ops.size)&&yE ops sd pl (Array.replicate ops.size false))=true)
 (h:∀w1,w1=w.drew→fD P ops (NoPanic Q) S sd pl a w1):(Code.region id ops true).wp P Q a w:=by
 simp only[Bool.and_eq_true,beq_iff_eq]at hb
 obtain⟨⟨h1,h2⟩,h3⟩:=hb
 refine wp_region_noPanic (wp_region_any hm ?_)
 have h4:=qR (S:=S) (Region.noSelect_spec h1) (fun c a w h=>h) pl _ _ _ h3 (h _ rfl)
 rw[h2]at h4
 exact yl _ _ _ _ h4
variable {a:Act} {w:World} {r:List St}
theorem DI {i:Nat} {dst:Option Tmp} {op:Op} {ty:TypeId} {pos:String} {after:Array Edge} {v:Value} (ho:ops[i]? =some ⟨dst,op,ty,pos,after,none⟩)
 (hy:∀w',(execOp a.eval ⟨dst,op,ty,pos,after,none⟩).run P w'= .ok (.value v) w')
 (h:fD P ops Q S sd r (a.put dst v) w):fD P ops Q S sd (.c 0 i::r) a w:=
 ⟨_,v,ho,.inl ⟨by simp[Region.wanted],fun w' _=>hy w'⟩,h⟩
theorem Eh {i:Nat} {dst:Option Tmp} {op:Op} {ty:TypeId} {pos:String} {after:Array Edge} {v:Value} (ho:ops[i]? =some ⟨dst,op,ty,pos,after,none⟩)
 (hy:(execOp a.eval ⟨dst,op,ty,pos,after,none⟩).run P w= .ok (.value v) w)
 (h:fD P ops Q S sd r (a.put dst v) w):fD P ops Q S sd (.c 1 i::r) a w:=
 ⟨_,v,ho,.inl ⟨by simp[Region.wanted],fun w' e=>by simp[Yj]at e;subst e;exact hy⟩,h⟩
theorem DW {i:Nat} {dst:Option Tmp} {op:Op} {ty:TypeId} {pos:String} {after:Array Edge} {v:Value} (ho:ops[i]? =some ⟨dst,op,ty,pos,after,none⟩)
 (hS:S w) (hy:∀w',S w'→(execOp a.eval ⟨dst,op,ty,pos,after,none⟩).run P w'= .ok (.value v) w')
 (h:fD P ops Q S sd r (a.put dst v) w):fD P ops Q S sd (.c 2 i::r) a w:=
 ⟨_,v,ho,.inl ⟨by simp[Region.wanted],fun w' e=>by
  simp[Yj]at e
  rcases e with e|e
  ·subst e;exact hy _ hS
  ·exact hy _ e⟩,h⟩
theorem Ae {j:Nat} {want b:Bool} {d:Tmp} {dst:Option Tmp} {op:Op} {ty:TypeId} {pos:String} {after:Array Edge} (hd:((ops[j]?).bind (·.dst))=some d) (ht:a.tmps[d]? =some (.bool b)):
 Region.wanted ⟨dst,op,ty,pos,after,some (j,want)⟩ (yielded ops a.tmps)=(b==want):=by
 simp only[Region.wanted,yielded,hd,Option.bind_some,ht]
 cases b<;>cases want<;>rfl
theorem BF {i j d:Nat} {b:Bool} {dst:Option Tmp} {op:Op} {ty:TypeId} {pos:String} {after:Array Edge} {v:Value} (ho:ops[i]? =some ⟨dst,op,ty,pos,after,some (j,b)⟩)
 (hd:((ops[j]?).bind (·.dst))=some d) (ht:a.tmps[d]? =some (.bool b))
 (hy:∀w',(execOp a.eval ⟨dst,op,ty,pos,after,some (j,b)⟩).run P w'= .ok (.value v) w')
 (h:fD P ops Q S sd r (a.put dst v) w):fD P ops Q S sd (.c 0 i::r) a w:=
 ⟨_,v,ho,.inl ⟨by rw[Ae hd ht];simp,fun w' _=>hy w'⟩,h⟩
theorem BH {i j d:Nat} {b:Bool} {dst:Option Tmp} {op:Op} {ty:TypeId} {pos:String} {after:Array Edge} {v:Value} (ho:ops[i]? =some ⟨dst,op,ty,pos,after,some (j,b)⟩)
 (hd:((ops[j]?).bind (·.dst))=some d) (ht:a.tmps[d]? =some (.bool b))
 (hy:(execOp a.eval ⟨dst,op,ty,pos,after,some (j,b)⟩).run P w= .ok (.value v) w)
 (h:fD P ops Q S sd r (a.put dst v) w):fD P ops Q S sd (.c 1 i::r) a w:=
 ⟨_,v,ho,.inl ⟨by rw[Ae hd ht];simp,fun w' e=>by simp[Yj]at e;subst e;exact hy⟩,h⟩
theorem Bj {i j d:Nat} {b:Bool} {dst:Option Tmp} {op:Op} {ty:TypeId} {pos:String} {after:Array Edge} {v:Value} (ho:ops[i]? =some ⟨dst,op,ty,pos,after,some (j,b)⟩)
 (hd:((ops[j]?).bind (·.dst))=some d) (ht:a.tmps[d]? =some (.bool b))
 (hS:S w) (hy:∀w',S w'→(execOp a.eval ⟨dst,op,ty,pos,after,some (j,b)⟩).run P w'= .ok (.value v) w')
 (h:fD P ops Q S sd r (a.put dst v) w):fD P ops Q S sd (.c 2 i::r) a w:=
 ⟨_,v,ho,.inl ⟨by rw[Ae hd ht];simp,fun w' e=>by
  simp[Yj]at e
  rcases e with e|e
  ·subst e;exact hy _ hS
  ·exact hy _ e⟩,h⟩
theorem Ba {m i j d:Nat} {want b:Bool} {dst:Option Tmp} {op:Op} {ty:TypeId} {pos:String} {after:Array Edge} (ho:ops[i]? =some ⟨dst,op,ty,pos,after,some (j,want)⟩)
 (hd:((ops[j]?).bind (·.dst))=some d) (ht:a.tmps[d]? =some (.bool b)) (hn:(b==want)=false)
 (h:fD P ops Q S sd r (a.put dst undef) w):fD P ops Q S sd (.c m i::r) a w:=
 ⟨_,undef,ho,.inr ⟨by rw[Ae hd ht];exact hn,rfl⟩,h⟩
theorem Sr {m i:Nat} {o:Oper} (ho:ops[i]? =some o) (hg:Region.wanted o (yielded ops a.tmps)=false)
 (h:fD P ops Q S sd r (a.put o.dst undef) w):fD P ops Q S sd (.c m i::r) a w:=
 ⟨o,undef,ho,.inr ⟨hg,rfl⟩,h⟩
theorem uz {i:Nat} {o:Oper} {K:Act→World→Prop} (ho:ops[i]? =some o) (h:wpList P ops (Exit.then K Q) [o] a w):wpOp P ops Q i K a w:=by
 unfold wpOp
 simp only[ho]
 unfold wpList at h
 split
 ·rename_i hw
  rw[if_pos hw]at h
  rcases h with h|h
  ·left
   refine Oper.wp_mono (K:=wpList P ops (Exit.then K Q) []) (fun a w h=>h) ?_
   unfold Oper.wp at*
   generalize (execOp a.eval o).run P w=q at*
   cases q with
   |ok n w'=>cases n<;>simp only[Oper.upon]at h⊢ <;>first|exact h|exact Calls.mono h (fun e w'' he=>by cases e<;>exact he)
   |halt x w'=>cases x<;>simp only[Oper.upon]at h⊢ <;>exact h
  ·right;exact h
 ·rename_i hw
  rw[if_neg hw]at h
  exact h
theorem gz {i:Nat} {dst:Option Tmp} {op:Op} {ty:TypeId} {pos:String} {after:Array Edge} {gd} (ho:ops[i]? =some ⟨dst,op,ty,pos,after,gd⟩) (hn:sd.ns.contains i=true)
 (h:∀K:Act→World→Prop,(∀a w,S w→fD P ops Q S sd r a w→K a w)→wpList P ops (Exit.then K Q) [⟨dst,op,ty,pos,after,gd⟩] a w):fD P ops Q S sd (.e i::r) a w:=by
 refine uz ho (h _ fun a' w' hS hr=>⟨?_,hr⟩)
 unfold Side
 rw[if_pos hn]
 exact hS
theorem bG {i:Nat} {dst:Option Tmp} {op:Op} {ty:TypeId} {pos:String} {after:Array Edge} {gd} (ho:ops[i]? =some ⟨dst,op,ty,pos,after,gd⟩) (hn:(!sd.ns.contains i&&sd.ef.contains i)=true)
 (h:∀K:Act→World→Prop,(∀a w,fD P ops Q S sd r a w→K a w)→wpList P ops (Exit.then K Q) [⟨dst,op,ty,pos,after,gd⟩] a w):fD P ops Q S sd (.e i::r) a w:=by
 refine uz ho (h _ fun a' w' hr=>⟨?_,hr⟩)
 simp only[Bool.and_eq_true,Bool.not_eq_true']at hn
 unfold Side
 rw[hn.1,hn.2]
 simp
theorem Jm {i:Nat} {dst:Option Tmp} {op:Op} {ty:TypeId} {pos:String} {after:Array Edge} {gd} (ho:ops[i]? =some ⟨dst,op,ty,pos,after,gd⟩) (hn:(!sd.ns.contains i&& !sd.ef.contains i)=true)
 (h:∀K:Act→World→Prop,(∀a,fD P ops Q S sd r a w→K a w)→wpList P ops (Exit.then K Q) [⟨dst,op,ty,pos,after,gd⟩] a w):fD P ops Q S sd (.e i::r) a w:=by
 refine uz ho (h _ fun a' hr=>⟨?_,hr⟩)
 simp only[Bool.and_eq_true,Bool.not_eq_true']at hn
 unfold Side
 rw[hn.1,hn.2]
 simp
theorem aS (h:Q .normal a w):fD P ops (NoPanic Q) S sd [] a w:=by unfold fD;exact h
attribute [irreducible] fD
end
structure ig (P:Program) (t E:TypeId) (size bytes:Nat) (z:Value):Prop where
 und:P.underlying t=some (.slice E)
 info:(P.info? E).map (fun i=>(i.zero,i.size,i.bytes))=some (some z,size,bytes)
 zs:z.cells.size=size
 pos:0<size
 one:∀u∈z.cells.toList,u.oneCell'=true
theorem ig.sz {P:Program} {t E:TypeId} {size bytes:Nat} {z:Value} (h:ig P t E size bytes z):(P.info? E).map (·.size)=some size:=by
 have h1:=h.info
 cases hq:P.info? E with
 |none=>simp[hq]at h1
 |some i=>simp[hq]at h1;simp[h1.2.1]
theorem In.abs {w0 W:World} {L:List SL} {G:World→Prop} (h:In w0 W L) (k:∀W',In w0 W' L→G W'):G W:=k W h
theorem In.Qa {P:Program} {f:FuncId} {args:Array Value} {Q:Ending→World→Prop} {w0 W:World} {L:List SL} (h:In w0 W L) (k:∀W',In w0 W' L→Calls P f args W' Q):Calls P f args W Q:=k W h
inductive O0:List SL→List SL→Prop
 |refl (l):O0 l l
 |skip {B l l'}:O0 l l'→O0 l (B::l')
 |take {A l l' l''}:oG A l' l''→O0 l l''→O0 (A::l) l'
 |nil (l):O0 [] l
theorem O0.perm {l l':List SL} (h:O0 l l'):∃r,l'.Perm (r++l):=by
 induction h with
 |refl l=>exact⟨[],.refl _⟩
 |nil l=>exact⟨l,by simp⟩
 | @skip B l l' _ ih=>obtain⟨r,p⟩:=ih;exact⟨B::r,.cons _ p⟩
 | @take A l l' l'' q _ ih=>obtain⟨r,p⟩:=ih;exact⟨r,(q.perm.trans (.cons _ p)).trans List.perm_middle.symm⟩
theorem In.drops {w0 w:World} {l:List SL}:∀(r:List SL),In w0 w (r++l)→In w0 w l
 | [],h=>h
 |_::r,h=>In.drops r h.drop
theorem In.sub {w0 w:World} {l l':List SL} (h:In w0 w l') (p:O0 l l'):In w0 w l:=by
 obtain⟨r,q⟩:=p.perm
 exact In.drops r (h.perm q)
theorem In.pl {w0 w:World} {l l':List SL} {A:SL} (h:In w0 w l) (p:oG A l l':=by repeat(first|(with_reducible exact oG.here)|apply oG.there)):In w0 w (A::l'):=h.ae p
theorem In.s {w0 w:World} {l l':List SL} (h:In w0 w l') (p:O0 l l':=by
 (repeat(apply O0.take;(focus ((repeat(first|(with_reducible exact oG.here)|apply oG.there));done))))
 (repeat(first|(with_reducible exact O0.refl _)|(with_reducible exact O0.nil _)|(apply O0.skip)))):In w0 w l:=h.sub p
theorem In.facts {w0 w:World} {l:List SL} {Q:Prop} (h:In w0 w l) (s:In w0 w l→Q:=by
 intro h
 (try apply And.intro (In.cells h))
 (try apply And.intro (In.free h))
 (try apply And.intro (In.cells (In.ae h p1)))
 (try apply And.intro (In.free (In.ae h p1)))
 (try apply And.intro (In.cells (In.ae h p2)))
 (try apply And.intro (In.free (In.ae h p2)))
 (try apply And.intro (In.cells (In.ae h p3)))
 (try apply And.intro (In.free (In.ae h p3)))
 (try apply And.intro (In.cells (In.ae h p4)))
 (try apply And.intro (In.free (In.ae h p4)))
 (try apply And.intro (In.cells (In.ae h p5)))
 (try apply And.intro (In.free (In.ae h p5)))
 (try apply And.intro (In.cells (In.ae h p6)))
 (try apply And.intro (In.free (In.ae h p6)))
 (try apply And.intro (In.cells (In.ae h p7)))
 (try apply And.intro (In.free (In.ae h p7)))
 exact True.intro):Q:=s h
class Nth (i:Nat) (l:List SL) (A:outParam SL) (r:outParam (List SL)):Prop where
 p:oG A l r
instance {A:SL} {r:List SL}:Nth 0 (A::r) A r:=⟨.here⟩
instance {n:Nat} {A B:SL} {l r:List SL} [h:Nth n l A r]:Nth (n+1) (B::l) A (B::r):=⟨.there h.p⟩
class Pks (ix:List Nat) (l:List SL) (l':outParam (List SL)):Prop where
 p:O0 l' l
instance {l:List SL}:Pks [] l []:=⟨.nil l⟩
instance {i:Nat} {ix:List Nat} {l r l':List SL} {A:SL} [h:Nth i l A r] [k:Pks ix r l']:Pks (i::ix) l (A::l'):=⟨.take h.p k.p⟩
class Pkr (ix:List Nat) (s:Nat) (l:List SL) (l':outParam (List SL)):Prop where
 p:O0 l' l
instance {l:List SL}:Pkr [] 0 l l:=⟨.refl l⟩
instance {s:Nat} {A:SL} {l l':List SL} [k:Pkr [] s l l']:Pkr [] (s+1) (A::l) l':=⟨.skip k.p⟩
instance {i s:Nat} {ix:List Nat} {l r l':List SL} {A:SL} [h:Nth i l A r] [k:Pkr ix s r l']:Pkr (i::ix) s l (A::l'):=⟨.take h.p k.p⟩
theorem In.ps {w0 w:World} {l l':List SL} (h:In w0 w l) (ix:List Nat) [k:Pks ix l l']:In w0 w l':=h.sub k.p
theorem In.pr {w0 w:World} {l l':List SL} (h:In w0 w l) (ix:List Nat) (s:Nat:=0) [k:Pkr ix s l l']:In w0 w l':=h.sub k.p
theorem DZ {w:World} {b:Nat} (h:b<w.heap.size) (A:Obj) (o:Nat):(w.alloc A).cell? ⟨b,o,none⟩=w.cell? ⟨b,o,none⟩:=by
 simp only[World.cell?,Below.heap_alloc w A b h]
theorem df {S:World→Prop} {Y K:Act→World→Prop} {a:Act} {w:World} (hK:∀a w,S w→Y a w→K a w) (hs:S w) (h:S w→Y a w):K a w:=hK a w hs (h hs)
structure Kept (B:Prop):Prop where
 it:B
theorem calm {A B:Prop} (h:B) (s:Kept B→A:=by
 intro h
 (repeat((first
   |((with_reducible apply DI);rfl;(intro _;go_simp<;>(try go_bits)<;>with_reducible rfl))
   |((with_reducible apply Eh);rfl;(go_simp<;>(try go_bits)<;>with_reducible rfl))
   |((with_reducible apply DW);rfl;assumption;(intro _ hS;go_simp<;>(try go_bits)<;>with_reducible rfl))
   |((with_reducible apply Ba);rfl;rfl;rfl;rfl)
   |((with_reducible apply BF);rfl;rfl;rfl;(intro _;go_simp<;>(try go_bits)<;>with_reducible rfl))
   |((with_reducible apply BH);rfl;rfl;rfl;(go_simp<;>(try go_bits)<;>with_reducible rfl))
   |((with_reducible apply Bj);rfl;rfl;rfl;assumption;(intro _ hS;go_simp<;>(try go_bits)<;>with_reducible rfl)));simp only[Act.put,List.setIfInBounds_toArray,List.set_cons_zero,List.set_cons_succ]))
 exact h.it):A:=s ⟨h⟩
theorem uu {A B:Prop} (h:B) (s:Kept B→A:=by
 intro h
 (repeat((first
   |((with_reducible apply DI);rfl;(intro _;go_simp<;>(try go_bits)<;>with_reducible rfl))
   |((with_reducible apply Eh);rfl;(go_simp<;>(try go_bits)<;>with_reducible rfl))
   |((with_reducible apply DW);rfl;assumption;(intro _ hS;have hf:=In.facts hS;(try have hlk:=hLk _ hS);go_simp<;>(try go_bits)<;>with_reducible rfl))
   |((with_reducible apply Ba);rfl;rfl;rfl;rfl)
   |((with_reducible apply BF);rfl;rfl;rfl;(intro _;go_simp<;>(try go_bits)<;>with_reducible rfl))
   |((with_reducible apply BH);rfl;rfl;rfl;(go_simp<;>(try go_bits)<;>with_reducible rfl))
   |((with_reducible apply Bj);rfl;rfl;rfl;assumption;(intro _ hS;have hf:=In.facts hS;(try have hlk:=hLk _ hS);go_simp<;>(try go_bits)<;>with_reducible rfl)));simp only[Act.put,List.setIfInBounds_toArray,List.set_cons_zero,List.set_cons_succ]))
 exact h.it):A:=s ⟨h⟩
theorem cS_ {A B:Prop} (h:B) (s:Kept B→A:=by intro h;refine calm ?_;exact gz rfl rfl h.it):A:=s ⟨h⟩
theorem rG {A B:Prop} (h:B) (s:Kept B→A:=by intro h;refine calm ?_;exact bG rfl rfl h.it):A:=s ⟨h⟩
theorem P8 {A B:Prop} (h:B) (s:Kept B→A:=by intro h;refine calm ?_;exact Jm rfl rfl h.it):A:=s ⟨h⟩
theorem lK {A B:Prop} (h:B) (s:Kept B→A:=by intro h;refine calm ?_;(try refine aS ?_);exact h.it):A:=s ⟨h⟩
theorem nD {A B:Prop} (h:B) (s:Kept B→A:=by intro h;refine uu ?_;exact gz rfl rfl h.it):A:=s ⟨h⟩
theorem uw {A B:Prop} (h:B) (s:Kept B→A:=by intro h;refine uu ?_;exact bG rfl rfl h.it):A:=s ⟨h⟩
theorem iP_ {A B:Prop} (h:B) (s:Kept B→A:=by intro h;refine uu ?_;exact Jm rfl rfl h.it):A:=s ⟨h⟩
theorem wM {A B:Prop} (h:B) (s:Kept B→A:=by intro h;refine uu ?_;(try refine aS ?_);exact h.it):A:=s ⟨h⟩
theorem bW {P:Program} {f f':FuncId} {a a':Array Value} {w w':World} {R Q:Ending→World→Prop} {v:Ending} (h:Calls P f a w R) (k:Q v w') (hf:f=f':=by exact rfl) (ha:a=a':=by exact rfl) (hw:w=w':=by exact rfl)
 (s:∀e w',R e w'→e=v∧w'=w:=by rintro _ _ ⟨rfl,h⟩;first|exact⟨rfl,h⟩|exact⟨rfl,h.symm⟩):Calls P f' a' w' Q:=by
 subst hf ha hw
 exact h.mono fun e w' q=>by obtain⟨rfl,rfl⟩:=s e w' q;exact k
theorem bF {P:Program} {f f':FuncId} {a a':Array Value} {w w':World} {R Q:Ending→World→Prop} {v:Ending} {G:World→Prop} (h:Calls P f a w R) (k:∀w',G w'→Q v w') (hf:f=f':=by exact rfl) (ha:a=a':=by exact rfl) (hw:w=w':=by exact rfl)
 (s:∀e w',R e w'→e=v∧G w':=by rintro _ _ ⟨rfl,h⟩;exact⟨rfl,h⟩):Calls P f' a' w' Q:=by
 subst hf ha hw
 exact h.mono fun e w' q=>by obtain⟨rfl,h⟩:=s e w' q;exact k w' h
section
variable {P:Program} {ops:Array Oper} {Q:Exit→Act→World→Prop} {id:Nat} {a:Act} {w w0:World}
theorem rgS (S:World→Prop) (sd:qZ) (pl:List St) (h:fD P ops (NoPanic Q) S sd pl a w.drew) (hm:P.follows .mixedOrders=true:=by kernel_rfl)
 (hb:(Region.noSelect ops&&(pl.length==ops.size)&&yE ops sd pl (Array.replicate ops.size false))=true:=by kernel_rfl):(Code.region id ops true).wp P Q a w:=
 yY S sd pl hm hb fun _ e=>e▸h
theorem rg (sd:qZ) (pl:List St) (h:fD P ops (NoPanic Q) (fun _=>True) sd pl a w.drew) (hm:P.follows .mixedOrders=true:=by kernel_rfl)
 (hb:(Region.noSelect ops&&(pl.length==ops.size)&&yE ops sd pl (Array.replicate ops.size false))=true:=by kernel_rfl):(Code.region id ops true).wp P Q a w:=
 yY _ sd pl hm hb fun _ e=>e▸h
theorem nK {L:List SL} (_:In w0 w.drew L) (sd:qZ) (pl:List St) (h:fD P ops (NoPanic Q) (fun w'=>In w0 w' L) sd pl a w.drew) (hm:P.follows .mixedOrders=true:=by kernel_rfl)
 (hb:(Region.noSelect ops&&(pl.length==ops.size)&&yE ops sd pl (Array.replicate ops.size false))=true:=by kernel_rfl):(Code.region id ops true).wp P Q a w:=
 yY _ sd pl hm hb fun _ e=>e▸h
end
theorem zC (w:World) (A:Obj):(w.alloc A).heap.size=w.heap.size+1:=by unfold World.alloc;exact Array.size_push _
theorem In.alloc2 {w0 w:World} {l:List SL} (h:In w0 w l) (A B:Obj):In w0 ((w.alloc A).alloc B) (pts (w.heap.size+1) B::pts w.heap.size A::l):=by
 have:=(h.alloc A).alloc B
 rwa[zC]at this
theorem In.iQ {w0 w:World} {l:List SL} (h:In w0 w l) (A B C:Obj):In w0 (((w.alloc A).alloc B).alloc C) (pts (w.heap.size+2) C::pts (w.heap.size+1) B::pts w.heap.size A::l):=by
 have:=(h.alloc2 A B).alloc C
 rwa[zC,zC]at this
def dm (w:World) (b:Nat):Nat→List Value→World
 |_, []=>w
 |i,v::vs=>dm (w.setCell ⟨b,i,none⟩ v) b (i+1) vs
theorem In.VP {w0:World} {l:List SL} {b:Nat} {T:TypeId} {fr:Nat × Nat}:∀(vs:List Value) (i:Nat) (w:World) (cs:Array Value),In w0 w (pts b (.cells cs T fr)::l)→i+vs.length≤cs.size→
 In w0 (dm w b i vs) (pts b (.cells (cs.toList.take i++vs++cs.toList.drop (i+vs.length)).toArray T fr)::l)
 | [],i,w,cs,h,_=>by simpa[dm]using h
 |v::vs,i,w,cs,h,hi=>by
  have h1:=In.VP vs (i+1) _ _ (h.setCell (off:=i) v) (by simp at hi⊢;omega)
  have hi':i<cs.toList.length:=by simp at hi⊢;omega
  have hA:(cs.toList.take i).length=i:=by rw[List.length_take];omega
  have e0:(cs.setIfInBounds i v).toList=cs.toList.take i++v::cs.toList.drop (i+1):=by
   rw[Array.toList_setIfInBounds,List.set_eq_take_append_cons_drop,if_pos hi']
  have e1:(cs.toList.take i++v::cs.toList.drop (i+1)).take (i+1)=cs.toList.take i++ [v]:=by
   rw[List.take_append,hA,List.take_of_length_le (by omega)]
   have:i+1-i=1:=by omega
   rw[this]
   rfl
  have e2:(cs.toList.take i++v::cs.toList.drop (i+1)).drop (i+1+vs.length)=cs.toList.drop (i+(v::vs).length):=by
   rw[List.drop_append,hA,List.drop_eq_nil_of_le (by omega)]
   have:i+1+vs.length-i=vs.length+1:=by omega
   rw[this,List.nil_append,List.drop_succ_cons,List.drop_drop]
   congr 1
   simp
   omega
  rw[e0,e1,e2,List.append_assoc (cs.toList.take i)]at h1
  exact h1
theorem In.fill {w0 w:World} {l:List SL} {b:Nat} {cs:Array Value} {T:TypeId} {fr:Nat × Nat} (h:In w0 w (pts b (.cells cs T fr)::l)) (vs:List Value) (hl:vs.length=cs.size):
 In w0 (dm w b 0 vs) (pts b (.cells vs.toArray T fr)::l):=by
 have h1:=In.VP vs 0 w cs h (by omega)
 rw[Nat.zero_add,hl,←Array.length_toList,List.drop_length]at h1
 simpa using h1
theorem In.cells {w0 w:World} {l:List SL} {b:Nat} {cs:Array Value} {T:TypeId} {fr:Nat × Nat} (h:In w0 w (pts b (.cells cs T fr)::l)):∀off,w.cell? ⟨b,off,none⟩=cs[off]? :=fun _=>h.cell
theorem In.free {w0 w:World} {l:List SL} {b:Nat} {cs:Array Value} {T:TypeId} (h:In w0 w (pts b (.cells cs T (0,0))::l)):∀off,w.frozen? ⟨b,off,none⟩=false:=fun _=>h.frozen
theorem In.lt {w0 w:World} {l:List SL} {b:Nat} {o:Obj} (h:In w0 w (pts b o::l)):b<w.heap.size:=(Array.getElem?_eq_some_iff.1 h.block).1
theorem In.cellsA {w0 w:World} {l:List SL} {b:Nat} {cs:Array Value} {T:TypeId} {fr:Nat × Nat} (h:In w0 w (pts b (.cells cs T fr)::l)):∀o off,(w.alloc o).cell? ⟨b,off,none⟩=cs[off]? :=
 fun o off=>(World.cell?_alloc_lt _ _ _ h.lt).trans h.cell
theorem In.ne1 {w0 w:World} {l:List SL} {b:Nat} {o:Obj} (h:In w0 w (pts b o::l)):¬b=w.heap.size:=Nat.ne_of_lt h.lt
theorem In.ne2 {w0 w:World} {l:List SL} {b:Nat} {o:Obj} (h:In w0 w (pts b o::l)):¬w.heap.size=b:=fun e=>h.ne1 e.symm
theorem addr_add (g j:Nat):(⟨g,0,none⟩:Addr).add j=⟨g,j,none⟩:=by unfold Addr.add;split<;>simp_all
theorem addr_add' (g o j:Nat):(⟨g,o,none⟩:Addr).add j=⟨g,o+j,none⟩:=by unfold Addr.add;split<;>simp_all
def zeros (z:Value) (n:Nat):List Value:=(madeCells z.cells (n*z.cells.size)).toList
set_option maxRecDepth 10000 in
theorem zeros_length (z:Value) (n:Nat):(zeros z n).length=n*z.cells.size:=by
 unfold zeros madeCells
 rw[Array.length_toList,Array.size_map,Array.size_range]
theorem jW {size:Nat}:∀ {sl:List (List Value)},(∀x∈sl,x.length=size)→sl.flatten.length=sl.length*size
 | [],_=>by simp
 |x::r,h=>by
  have h1:=h x (by simp)
  have h2:=jW (sl:=r) fun y hy=>h y (by simp[hy])
  simp[h1,h2,Nat.add_mul,Nat.add_comm]
theorem flat_get {size:Nat}:∀ {sl:List (List Value)},(∀x∈sl,x.length=size)→∀ {i:Nat} {x:List Value},sl[i]? =some x→∀j,j<size→sl.flatten[i*size+j]? =x[j]?
 | [],_,_,_,h,_,_=>by simp at h
 |y::r,h,0,x,hx,j,hj=>by
  simp at hx;subst hx
  have h1:=h y (by simp)
  simp[List.getElem?_append_left (h1▸hj)]
 |y::r,h,i+1,x,hx,j,hj=>by
  have h1:=h y (by simp)
  have h2:=flat_get (sl:=r) (fun z hz=>h z (by simp[hz])) (i:=i) (x:=x) (by simpa using hx) j hj
  rw[List.flatten_cons,List.getElem?_append_right (by rw[h1,Nat.add_mul];omega),←h2]
  congr 1
  rw[h1,Nat.add_mul]
  omega
theorem kP (z:Value) (n:Nat) (hz:0<z.cells.size):zeros z n=(List.replicate n z.cells.toList).flatten:=by
 have hs:∀x∈List.replicate n z.cells.toList,x.length=z.cells.size:=by
  intro x hx
  rw[(List.mem_replicate.1 hx).2,Array.length_toList]
 have hl:=jW hs
 rw[List.length_replicate]at hl
 apply List.ext_getElem?
 intro i
 by_cases hi:i<n*z.cells.size
 ·have hq:i/z.cells.size<n:=Nat.div_lt_of_lt_mul (by rw[Nat.mul_comm];exact hi)
  have hr:i%z.cells.size<z.cells.size:=Nat.mod_lt _ hz
  have h2:=flat_get hs (i:=i/z.cells.size) (x:=z.cells.toList) (by simp[hq]) (i%z.cells.size) hr
  have e:i/z.cells.size*z.cells.size+i%z.cells.size=i:=by rw[Nat.mul_comm];exact Nat.div_add_mod _ _
  rw[e]at h2
  rw[h2]
  unfold zeros madeCells
  simp[hi,hr]
 ·rw[List.getElem?_eq_none (by rw[zeros_length];omega),List.getElem?_eq_none (by omega)]
theorem uI {z:Value} {n:Nat} (hz:0<z.cells.size) (h:∀u∈z.cells.toList,u.oneCell'=true):∀u∈zeros z n,u.oneCell'=true:=by
 rw[kP z n hz]
 intro u hu
 obtain⟨y,hy,hxy⟩:=List.mem_flatten.1 hu
 rw[(List.mem_replicate.1 hy).2]at hxy
 exact h u hxy
def Stop (p:Prop):Prop:=p
section
variable {P:Program} {ops:Array Oper} {rest:List Oper} {dst:Option Tmp} {ty:TypeId} {pos:String} {after:Array Edge} {gd:Option (Nat × Bool)} {a:Act} {Q:Exit→Act→World→Prop} {w:World} {args:Array Operand} {ts:Array TypeId} {t:TypeId} {x y z:Operand} {c:Bool}
theorem IW (h:Stop (wpList P ops Q (⟨dst,.call ⟨.builtin .copy,args,ts⟩,ty,pos,after,gd⟩::rest) a w)):wpList P ops Q (⟨dst,.call ⟨.builtin .copy,args,ts⟩,ty,pos,after,gd⟩::rest) a w:=h
theorem bH (h:Stop (wpList P ops Q (⟨dst,.call ⟨.builtin .append,args,ts⟩,ty,pos,after,gd⟩::rest) a w)):wpList P ops Q (⟨dst,.call ⟨.builtin .append,args,ts⟩,ty,pos,after,gd⟩::rest) a w:=h
theorem uS (h:Stop (wpList P ops Q (⟨dst,.call ⟨.builtin .clear,args,ts⟩,ty,pos,after,gd⟩::rest) a w)):wpList P ops Q (⟨dst,.call ⟨.builtin .clear,args,ts⟩,ty,pos,after,gd⟩::rest) a w:=h
theorem vY (h:Stop (wpList P ops Q (⟨dst,.call ⟨.builtin .delete,args,ts⟩,ty,pos,after,gd⟩::rest) a w)):wpList P ops Q (⟨dst,.call ⟨.builtin .delete,args,ts⟩,ty,pos,after,gd⟩::rest) a w:=h
theorem wZ (h:Stop (wpList P ops Q (⟨dst,.makeSlice t x y,ty,pos,after,gd⟩::rest) a w)):wpList P ops Q (⟨dst,.makeSlice t x y,ty,pos,after,gd⟩::rest) a w:=h
theorem Md (h:Stop (wpList P ops Q (⟨dst,.mapUpdate t x y z,ty,pos,after,gd⟩::rest) a w)):wpList P ops Q (⟨dst,.mapUpdate t x y z,ty,pos,after,gd⟩::rest) a w:=h
theorem JD (t:TypeId) (h:Stop (wpList P ops Q (⟨dst,.load t x,ty,pos,after,gd⟩::rest) a w)):wpList P ops Q (⟨dst,.load t x,ty,pos,after,gd⟩::rest) a w:=h
theorem EK (t:TypeId) (h:Stop (wpList P ops Q (⟨dst,.store t x y,ty,pos,after,gd⟩::rest) a w)):wpList P ops Q (⟨dst,.store t x y,ty,pos,after,gd⟩::rest) a w:=h
theorem Qm (h:Stop (wpList P ops Q (⟨dst,.store t x y,ty,pos,after,gd⟩::rest) a w)):wpList P ops Q (⟨dst,.store t x y,ty,pos,after,gd⟩::rest) a w:=h
end
section
variable {P:Program} {ops:Array Oper} {rest:List Oper} {dst:Option Tmp} {ty:TypeId} {pos:String} {after:Array Edge} {a:Act} {Q:Exit→Act→World→Prop}
variable {w0 w:World} {l:List SL} {t E:TypeId} {size bytes:Nat} {z v:Value} {n:Nat} {cs:List Value}
theorem aZ (hT:ig P t E size bytes z) {s x:Operand} {g:Nat} {news:List Value}
 (h:In w0 w (pts g (.cells news.toArray E (0,0))::Row E size v n cs::l)) (hs:a.eval s=v) (hx:a.eval x= .slice (some ⟨g,0,none⟩) 1 1)
 (hl:news.length=size) (h1:∀u∈news,u.oneCell'=true) (hb:(n+1)*(bytes+1)≤140737488355328)
 (k:∀v' w',In w0 w' (Row E size v' (n+1) (cs++news)::l)→wpList P ops Q rest (a.put dst v') w'):
 wpList P ops Q (⟨dst,.call {callee:= .builtin .append,args:=#[s,x],argTypes:=#[t,t]},ty,pos,after,none⟩::rest) a w:=by
 obtain⟨i,hi,hz,hsz,hby⟩:=info_parts hT.info
 have hb1:(n+1)*bytes≤140737488355328:=Nat.le_trans (Nat.mul_le_mul_left _ (by omega)) hb
 have hb2:n+1≤maxLen:=by
  have:n+1≤(n+1)*(bytes+1):=Nat.le_mul_of_pos_right _ (by omega)
  unfold maxLen;omega
 refine vW rfl s x t rfl hT.und hi hz hsz hby hT.zs hT.pos hs (h.ae p1) hx (by rw[hl,Nat.one_mul]) (fun j u hu=>?_) h1 hb2 hb1 (fun v' w' h' _=>k v' w' (h'.ae p1).drop)
 rw[addr_add,h.cell]
 simpa using hu
theorem F5 (hT:ig P t E size bytes z) {s x:Operand} (h:In w0 w (Row E size v n cs::l)) (hs:a.eval s=v) (hx:a.eval x= .slice none 0 0)
 (k:wpList P ops Q rest (a.put dst v) w):
 wpList P ops Q (⟨dst,.call {callee:= .builtin .append,args:=#[s,x],argTypes:=#[t,t]},ty,pos,after,none⟩::rest) a w:=by
 obtain⟨i,hi,hz,hsz,hby⟩:=info_parts hT.info
 refine wpList_plain rfl fun K hK=>?_
 have hr:(Builtin.append_ #[t,t] ty #[v,.slice none 0 0]).run P w= .ok v w:=by
  rcases h.aU with⟨rfl,rfl,rfl,h2⟩|⟨g,cap,ext,rfl,h2,h3,h4,h5⟩
  ·simp[Builtin.append_,run_underlying hT.und,sizeOf,typeInfo,hi,Builtin.lenOf,Builtin.firstCells]
  ·simp[Builtin.append_,run_underlying hT.und,sizeOf,typeInfo,hi,Builtin.lenOf,Builtin.firstCells,h2,storeCells]
 unfold Oper.wp execOp
 simp only[resolve,invoke,builtin,Sem.run_bind,Sem.run_pure,Result.andThen_ok,List.map_toArray,List.map_cons,List.map_nil,hs,hx,hr]
 exact hK _ _ k
theorem kQ (hT:ig P t E size bytes z) {s x:Operand} {ad:Addr} {m c:Nat} {news:List Value}
 (h:In w0 w (Row E size v n cs::l)) (hs:a.eval s=v) (hx:a.eval x= .slice (some ad) m c) (hl:news.length=m*size)
 (hnews:∀j u,news[j]? =some u→w.cell? (ad.add j)=some u) (h1:∀u∈news,u.oneCell'=true) (hb:(n+m)*(bytes+1)≤140737488355328)
 (k:∀v' w',In w0 w' (Row E size v' (n+m) (cs++news)::l)→wpList P ops Q rest (a.put dst v') w'):
 wpList P ops Q (⟨dst,.call {callee:= .builtin .append,args:=#[s,x],argTypes:=#[t,t]},ty,pos,after,none⟩::rest) a w:=by
 obtain⟨i,hi,hz,hsz,hby⟩:=info_parts hT.info
 have hb1:(n+m)*bytes≤140737488355328:=Nat.le_trans (Nat.mul_le_mul_left _ (by omega)) hb
 have hb2:n+m≤maxLen:=by
  have:n+m≤(n+m)*(bytes+1):=Nat.le_mul_of_pos_right _ (by omega)
  unfold maxLen;omega
 exact vW rfl s x t rfl hT.und hi hz hsz hby hT.zs hT.pos hs h hx hl hnews h1 hb2 hb1 (fun v' w' h' _=>k v' w' h')
theorem lX (hT:ig P t E size bytes z) (h:In w0 w l) {x:Operand} {ki:IntKind} {c:Nat} (hx:a.eval x= .int ki c) (hb:bytes*c≤281474976710656) (hc:c≤maxLen)
 (k:∀g w',In w0 w' (Row E size (.slice (some ⟨g,0,none⟩) c c) c (zeros z c)::l)→wpList P ops Q rest (a.put dst (.slice (some ⟨g,0,none⟩) c c)) w'):
 wpList P ops Q (⟨dst,.makeSlice t x x,ty,pos,after,none⟩::rest) a w:=by
 obtain⟨i,hi,hz,hsz,hby⟩:=info_parts hT.info
 refine wpList_plain rfl fun K hK=>?_
 have hb':(i.bytes:Int)*(c:Int)≤281474976710656:=by
  rw[hby]
  have:((bytes*c:Nat):Int)≤281474976710656:=by omega
  rwa[Int.natCast_mul]at this
 have hr:=run_make (P:=P) w t E i z hT.und hi hz ki ki c c (by omega) (by omega) hb' (by unfold maxLen at hc;omega)
 unfold Oper.wp execOp
 simp only[hx,hr,Sem.run_bind,Sem.run_pure,Result.andThen_ok,Int.toNat_natCast,Oper.upon]
 refine hK _ _ (k _ _ ?_)
 have h2:=h.alloc (.cells (madeCells z.cells (c*i.size)) E)
 have e:(madeCells z.cells (c*i.size))=(zeros z c++ []).toArray:=by simp[zeros,hT.zs,hsz]
 rw[e]at h2⊢
 exact h2.nJ (by rw[zeros_length,hT.zs]) (Nat.le_refl _) hc (by simp) (uI (by rw[hT.zs];exact hT.pos) hT.one)
theorem In.Am {g m cap:Nat} (h:In w0 w (Row E size (.slice (some ⟨g,0,none⟩) m cap) n cs::l)):∀j u,cs[j]? =some u→w.cell? ((⟨g,0,none⟩:Addr).add j)=some u:=
 fun j u hu=>by rw[addr_add];exact h.gI hu
theorem pU (hT:ig P t E size bytes z) {s x:Operand} {u:Value} {m:Nat} {ds:List Value}
 (h:In w0 w (Row E size v n cs::Row E size u m ds::l)) (hs:a.eval s=v) (hx:a.eval x=u) (hb:(n+m)*(bytes+1)≤140737488355328)
 (k:∀v' w',In w0 w' (Row E size v' (n+m) (cs++ds)::Row E size u m ds::l)→wpList P ops Q rest (a.put dst v') w'):
 wpList P ops Q (⟨dst,.call {callee:= .builtin .append,args:=#[s,x],argTypes:=#[t,t]},ty,pos,after,none⟩::rest) a w:=by
 have hl:=(h.ae p1).pJ
 have h1:=(h.ae p1).row_one
 rcases(h.ae p1).aU with⟨rfl,rfl,rfl,_⟩|⟨g,cap,ext,rfl,_⟩
 ·refine F5 hT h hs hx (k _ _ ?_)
  simpa using h
 ·exact kQ hT h hs hx hl.1 (h.ae p1).Am h1 hb k
theorem EF (hT:ig P t E size bytes z) {d s:Operand} {g cap m c:Nat} {so:Option Addr} {src:List Value}
 (h:In w0 w (Row E size (.slice (some ⟨g,0,none⟩) n cap) n cs::l)) (hd:a.eval d= .slice (some ⟨g,0,none⟩) n cap) (hs:a.eval s= .slice so m c)
 (hm:m≤n) (hl:src.length=m*size) (hsrc:∀ad,so=some ad→∀j u,src[j]? =some u→w.cell? (ad.add j)=some u) (hnil:so=none→m=0) (h1:∀u∈src,u.oneCell'=true)
 (k:∀w',In w0 w' (Row E size (.slice (some ⟨g,0,none⟩) n cap) n (src++cs.drop src.length)::l)→wpList P ops Q rest (a.put dst (.int .i64 m)) w'):
 wpList P ops Q (⟨dst,.call {callee:= .builtin .copy,args:=#[d,s],argTypes:=#[t,t]},ty,pos,after,none⟩::rest) a w:=by
 obtain⟨i,hi,hz,hsz,hby⟩:=info_parts hT.info
 refine wpList_plain rfl fun K hK=>?_
 rcases h.aU with⟨hv,_⟩|⟨g',cap',ext,hv,h2,h3,h4,h5⟩
 ·cases hv
 cases hv
 have hlen:=h.pJ
 have hmin:Nat.min m n=m:=Nat.min_eq_left hm
 have hfit:src.length≤(cs++ext).toArray.size:=by
  simp only[List.size_toArray,List.length_append,hlen.1,hl]
  have:=Nat.mul_le_mul_right size hm
  omega
 have hst:=run_storeCells_at P g 0 E src 0 (cs++ext).toArray w h5.block (by simpa using hfit) h1
 have hfc:(Builtin.firstCells i.size m (.slice so m c)).run P w= .ok src.toArray w:=by
  cases so with
  |none=>have:=hnil rfl;subst this;simp[Builtin.firstCells];exact List.eq_nil_of_length_eq_zero (by simpa using hl)
  |some ad=>exact run_firstCells_some (P:=P) w i.size m ad m c src (by rw[hl,hsz]) (hsrc ad rfl)
 have hr:(Builtin.copy_ #[t,t] ty #[.slice (some ⟨g,0,none⟩) n cap,.slice so m c]).run P w=
  .ok (goInt m) (w.setRow g (src++(cs++ext).drop src.length).toArray):=by
  simp only[Nat.zero_add,Nat.add_zero,List.toList_toArray,List.take_zero,List.nil_append]at hst
  simp[Builtin.copy_,run_underlying hT.und,sizeOf,typeInfo,hi,Builtin.lenOf,hmin,hfc,hst]
 unfold Oper.wp execOp
 simp only[resolve,invoke,builtin,Sem.run_bind,Sem.run_pure,Result.andThen_ok,List.map_toArray,List.map_cons,List.map_nil,hd,hs,hr,Oper.upon]
 refine hK _ _ (k _ ?_)
 have h6:=h5.turn (w':=w.setRow g (src++(cs++ext).drop src.length).toArray) ⟨rfl,rfl,rfl,by simp⟩
  (setRow_heap w g _ _ E _ h5.block) (fun k _ hk=>setRow_other w g k _ hk)
 have hle:src.length≤cs.length:=by rw[hl,hlen.1];exact Nat.mul_le_mul_right size hm
 have e:src++(cs++ext).drop src.length=src++cs.drop src.length++ext:=by rw[List.drop_append_of_le_length hle,List.append_assoc]
 rw[e]at h6⊢
 refine h6.nJ ?_ h2 h3 h4 fun u hu=>(List.mem_append.1 hu).elim (h1 u) (fun hd=>h.row_one u (List.mem_of_mem_drop hd))
 rw[List.length_append,List.length_drop,hlen.1,hl]
 have:=Nat.mul_le_mul_right size hm
 omega
theorem AC {g cap off:Nat} {vs:List Value} (h:In w0 w (Row E size (.slice (some ⟨g,0,none⟩) n cap) n cs::l)) (hoff:off+vs.length≤cs.length) (h1:∀u∈vs,u.oneCell'=true):
 ∃w',(storeCells ⟨g,off,none⟩ vs).run P w= .ok () w'∧In w0 w' (Row E size (.slice (some ⟨g,0,none⟩) n cap) n (cs.take off++vs++cs.drop (off+vs.length))::l):=by
 rcases h.aU with⟨hv,_⟩|⟨g',cap',ext,hv,h2,h3,h4,h5⟩
 ·cases hv
 cases hv
 have hlen:=h.pJ
 have hst:=run_storeCells_at P g off E vs 0 (cs++ext).toArray w h5.block (by simp;omega) h1
 refine⟨_,hst,?_⟩
 simp only[Nat.add_zero,List.toList_toArray]
 have h6:=h5.turn (w':=w.setRow g ((cs++ext).take off++vs++(cs++ext).drop (off+vs.length)).toArray) ⟨rfl,rfl,rfl,by simp⟩
  (setRow_heap w g _ _ E _ h5.block) (fun k _ hk=>setRow_other w g k _ hk)
 have e:(cs++ext).take off++vs++(cs++ext).drop (off+vs.length)=(cs.take off++vs++cs.drop (off+vs.length))++ext:=by
  rw[List.take_append_of_le_length (by omega),List.drop_append_of_le_length (by omega)]
  simp
 rw[e]at h6⊢
 refine h6.nJ ?_ h2 h3 h4 fun u hu=>?_
 rotate_left
 ·rcases List.mem_append.1 hu with hu|hu
  ·exact(List.mem_append.1 hu).elim (fun ht=>h.row_one u (List.mem_of_mem_take ht)) (h1 u)
  ·exact h.row_one u (List.mem_of_mem_drop hu)
 simp only[List.length_append,List.length_take,List.length_drop]
 omega
theorem uC (hT:ig P t E size bytes z) {x:Operand} {g cap off m c:Nat}
 (h:In w0 w (Row E size (.slice (some ⟨g,0,none⟩) n cap) n cs::l)) (hx:a.eval x= .slice (some ⟨g,off,none⟩) m c) (hpos:0<m) (hoff:off+m*size≤cs.length)
 (hone:∀u∈zeros z m,u.oneCell'=true)
 (k:∀w',In w0 w' (Row E size (.slice (some ⟨g,0,none⟩) n cap) n (cs.take off++zeros z m++cs.drop (off+m*size))::l)→wpList P ops Q rest (a.put dst (.tuple #[])) w'):
 wpList P ops Q (⟨dst,.call {callee:= .builtin .clear,args:=#[x],argTypes:=#[t]},ty,pos,after,none⟩::rest) a w:=by
 obtain⟨i,hi,hz,hsz,hby⟩:=info_parts hT.info
 refine wpList_plain rfl fun K hK=>?_
 have hzl:(zeros z m).length=m*size:=by rw[zeros_length,hT.zs]
 obtain⟨w',hst,h'⟩:=AC (P:=P) h (off:=off) (vs:=zeros z m) (by omega) hone
 have hzc:(Builtin.zeroCells z.cells m).toList=zeros z m:=rfl
 have hr:(Builtin.clear_ #[t] ty #[.slice (some ⟨g,off,none⟩) m c]).run P w= .ok (.tuple #[]) w':=by
  obtain⟨m',rfl⟩:∃m',m=m'+1:=⟨m-1,by omega⟩
  simp[Builtin.clear_,run_underlying hT.und,zeroValue,typeInfo,hi,hz,hzc,hst]
 unfold Oper.wp execOp
 simp only[resolve,invoke,builtin,Sem.run_bind,Sem.run_pure,Result.andThen_ok,List.map_toArray,List.map_cons,List.map_nil,hx,hr,Oper.upon]
 rw[hzl]at h'
 exact hK _ _ (k _ h')
theorem AA (hT:ig P t E size bytes z) {x:Operand} {ao:Option Addr} {c:Nat} (hx:a.eval x= .slice ao 0 c)
 (k:wpList P ops Q rest (a.put dst (.tuple #[])) w):
 wpList P ops Q (⟨dst,.call {callee:= .builtin .clear,args:=#[x],argTypes:=#[t]},ty,pos,after,none⟩::rest) a w:=by
 refine wpList_plain rfl fun K hK=>?_
 have hr:(Builtin.clear_ #[t] ty #[.slice ao 0 c]).run P w= .ok (.tuple #[]) w:=by
  cases ao<;>simp[Builtin.clear_,run_underlying hT.und]
 unfold Oper.wp execOp
 simp only[resolve,invoke,builtin,Sem.run_bind,Sem.run_pure,Result.andThen_ok,List.map_toArray,List.map_cons,List.map_nil,hx,hr,Oper.upon]
 exact hK _ _ k
theorem wpList_store_row (hs:(P.info? E).map (·.size)=some size) {x y:Operand} {g cap off:Nat}
 (h:In w0 w (Row E size (.slice (some ⟨g,0,none⟩) n cap) n cs::l)) (hx:a.eval x= .pointer (some ⟨g,off,none⟩)) {vs:List Value} (hv:(a.eval y).cells=vs.toArray)
 (hl:vs.length=size) (hoff:off+size≤cs.length) (hone:∀u∈vs,u.oneCell'=true)
 (k:∀w',In w0 w' (Row E size (.slice (some ⟨g,0,none⟩) n cap) n (cs.take off++vs++cs.drop (off+size))::l)→wpList P ops Q rest (a.put dst undef) w'):
 wpList P ops Q (⟨dst,.store E x y,ty,pos,after,none⟩::rest) a w:=by
 obtain⟨w',hst,h'⟩:=AC (P:=P) h (off:=off) (vs:=vs) (by omega) hone
 refine wpList_plain rfl fun K hK=>?_
 obtain⟨i,hi,hsz⟩:∃i,P.info? E=some i∧i.size=size:=by
  cases hq:P.info? E with
  |none=>simp[hq]at hs
  |some i=>exact⟨i,rfl,by simpa[hq]using hs⟩
 have hr:(Instr.storeAt E (a.eval x) (a.eval y)).run P w= .ok () w':=by
  simp[Instr.storeAt,hx,Instr.sureAddr,storeVar,sizeOf,typeInfo,hi,hv,hsz,hl,hst]
 unfold Oper.wp execOp
 simp only[hr,Sem.run_bind,Sem.run_pure,Result.andThen_ok,Oper.upon]
 rw[hl]at h'
 exact hK _ _ (k _ h')
end
theorem zN {size:Nat}:∀ {sl:List (List Value)},(∀x∈sl,x.length=size)→∀ {i:Nat} (v:List Value),i<sl.length→
 (sl.set i v).flatten=sl.flatten.take (i*size)++v++sl.flatten.drop (i*size+size)
 | [],_,_,_,h=>by simp at h
 |y::r,h,0,v,_=>by
  have h1:=h y (by simp)
  simp[List.drop_append,h1]
 |y::r,h,i+1,v,hi=>by
  have h1:=h y (by simp)
  have h2:=zN (sl:=r) (fun z hz=>h z (by simp[hz])) (i:=i) v (by simpa using hi)
  have e1:(i+1)*size=y.length+i*size:=by rw[h1,Nat.add_mul];omega
  rw[List.set_cons_succ,List.flatten_cons,List.flatten_cons,h2,e1,List.take_append,List.drop_append]
  have t1:y.take (y.length+i*size)=y:=List.take_of_length_le (by omega)
  have t2:y.drop (y.length+i*size+size)= []:=List.drop_eq_nil_of_le (by omega)
  rw[t1,t2]
  have e2:y.length+i*size-y.length=i*size:=by omega
  have e3:y.length+i*size+size-y.length=i*size+size:=by omega
  rw[e2,e3]
  simp
theorem In.bT {w0 w:World} {l:List SL} {E size g m cap n:Nat} {sl:List (List Value)} (h:In w0 w (Row E size (.slice (some ⟨g,0,none⟩) m cap) n sl.flatten::l))
 (hs:∀x∈sl,x.length=size) {i:Nat} {x:List Value} (hi:sl[i]? =some x) (j:Nat) {u:Value} (hu:x[j]? =some u):w.cell? ⟨g,i*size+j,none⟩=some u:=by
 have hx:x.length=size:=hs x (List.mem_of_getElem? hi)
 have hj:j<size:=hx▸(List.getElem?_eq_some_iff.1 hu).1
 exact h.gI (by rw[flat_get hs hi j hj];exact hu)
theorem FI (z:Value) (n k:Nat) (hz:0<z.cells.size) (hk:k≤n):(zeros z n).drop (k*z.cells.size)=(List.replicate (n-k) z.cells.toList).flatten:=by
 rw[kP z n hz,show n=k+(n-k) by omega,←List.replicate_append_replicate,List.flatten_append]
 have hl:(List.replicate k z.cells.toList).flatten.length=k*z.cells.size:=by
  rw[jW (size:=z.cells.size) (fun x hx=>by rw[(List.mem_replicate.1 hx).2,Array.length_toList]),List.length_replicate]
 rw[←hl,List.drop_left,show k+(n-k)-k=n-k by omega]
theorem vX {size:Nat} {sl:List (List Value)} {i:Nat} {v:List Value} (h:∀x∈sl,x.length=size) (hv:v.length=size):∀x∈sl.set i v,x.length=size:=by
 intro x hx
 rcases List.mem_or_eq_of_mem_set hx with h1|rfl
 ·exact h x h1
 ·exact hv
section
variable {P:Program} {ops:Array Oper} {Q:Exit→Act→World→Prop} {S:World→Prop} {sd:qZ} {listed:Array Bool} {a:Act} {w:World} {n:Nat}
def JS (P:Program) (ops:Array Oper) (Q:Exit→Act→World→Prop) (S:World→Prop) (sd:qZ) (n:Nat) (listed:Array Bool):Exit→Act→World→Prop
 | .normal,a,w=>oO P ops Q S sd n listed a w
 |e,a,w=>Q e a w
def abZ:List St→Array Bool→Array Bool
 | .c _ i::r,listed=>abZ r (listed.setIfInBounds i true)
 |_,listed=>listed
def VV (ops:Array Oper) (sd:qZ):List St→Array Bool→Bool
 | [],_=>true
 | .c m i::r,listed=>takeB ops sd listed m i (waits ops m i)&&VV ops sd r (listed.setIfInBounds i true)
 | .e _::_,_=>false
theorem MW (hsel:∀(j:Nat) (o:Oper) cs b,ops[j]? =some o→o.op≠ .select cs b) (hQ:∀c a w,¬Q (.panic c) a w):
 ∀(pl:List St) (listed:Array Bool) (a:Act) (w:World),VV ops sd pl listed=true→fD P ops (JS P ops Q S sd n (abZ pl listed)) S sd pl a w→oO P ops Q S sd (pl.length+n) listed a w
 | [],listed,a,w,_,h=>by
  unfold fD at h
  rw[List.length_nil,Nat.zero_add]
  exact h
 | .c m i::r,listed,a,w,hb,h=>by
  simp only[VV,Bool.and_eq_true]at hb
  unfold fD at h
  obtain⟨oi,v,hi,hy,hr⟩:=h
  obtain⟨oi',T⟩:=Gw (S:=S) (w:=w) hb.1
  have:oi'=oi:=Option.some.inj (T.hi.symm.trans hi)
  subst this
  have e:(St.c m i::r).length+n=(r.length+n)+1:=by simp;omega
  rw[e]
  exact BU hsel (fun c a w h=>absurd h (hQ c _ w)) _ listed a w T hy (Ob m w) (MW hsel hQ r _ _ _ hb.2 hr)
 | .e _::_,_,_,_,hb,_=>by simp[VV]at hb
theorem jk {fuel:Nat} (n:Nat) (pl:List St) (hs:Region.noSelect ops=true) (hf:fuel=pl.length+n) (hb:VV ops sd pl listed=true)
 (h:fD P ops (JS P ops (NoPanic Q) S sd n (abZ pl listed)) S sd pl a w):oO P ops (NoPanic Q) S sd fuel listed a w:=by
 subst hf
 exact MW (Region.noSelect_spec hs) (fun c a w h=>h) pl listed a w hb h
theorem lu (h:oO P ops Q S sd n listed a w):fD P ops (JS P ops Q S sd n listed) S sd [] a w:=by unfold fD;exact h
theorem qi {id:Nat} (S:World→Prop) (sd:qZ) (hm:P.follows .mixedOrders=true) (h:∀w1,w1=w.drew→oO P ops (NoPanic Q) S sd ops.size (Array.replicate ops.size false) a w1):
 (Code.region id ops true).wp P Q a w:=by
 refine wp_region_noPanic (wp_region_any hm ?_)
 exact yl _ _ _ _ (h _ rfl)
theorem Kw {i:Nat} {dst:Option Tmp} {op:Op} {ty:TypeId} {pos:String} {after:Array Edge} {G:Act→World→Prop} (ho:ops[i]? =some ⟨dst,op,ty,pos,after,none⟩) (hn:sd.ns.contains i=true)
 (h:∀K:Act→World→Prop,(∀a w,S w→G a w→K a w)→wpList P ops (Exit.then K Q) [⟨dst,op,ty,pos,after,none⟩] a w):wpOp P ops Q i (fun a' w'=>Side S sd i w w'∧G a' w') a w:=by
 refine uz ho (h _ fun a' w' hS hr=>⟨?_,hr⟩)
 unfold Side
 rw[if_pos hn]
 exact hS
theorem dH {c:Nat} {dst:Option Tmp} {op:Op} {ty:TypeId} {pos:String} {after:Array Edge} (hr:Region.ready .any ops listed=[c]) (ho:ops[c]? =some ⟨dst,op,ty,pos,after,none⟩) (hn:sd.ns.contains c=true)
 (h:∀K:Act→World→Prop,(∀a w,S w→oO P ops Q S sd n (listed.setIfInBounds c true) a w→K a w)→wpList P ops (Exit.then K Q) [⟨dst,op,ty,pos,after,none⟩] a w):oO P ops Q S sd (n+1) listed a w:=by
 refine⟨fun e=>(by rw[hr]at e;cases e),fun j hj=>?_⟩
 rw[hr]at hj
 obtain rfl:j=c:=by simpa using hj
 exact Kw ho hn h
theorem jR {c j:Nat} {dst dst':Option Tmp} {op op':Op} {ty ty':TypeId} {pos pos':String} {after after':Array Edge} (hr:Region.ready .any ops listed=[c,j]) (ho:ops[c]? =some ⟨dst,op,ty,pos,after,none⟩) (hn:sd.ns.contains c=true)
 (ho':ops[j]? =some ⟨dst',op',ty',pos',after',none⟩) (hn':sd.ns.contains j=true)
 (h':∀K:Act→World→Prop,(∀a w,S w→oO P ops Q S sd n (listed.setIfInBounds j true) a w→K a w)→wpList P ops (Exit.then K Q) [⟨dst',op',ty',pos',after',none⟩] a w)
 (h:∀K:Act→World→Prop,(∀a w,S w→oO P ops Q S sd n (listed.setIfInBounds c true) a w→K a w)→wpList P ops (Exit.then K Q) [⟨dst,op,ty,pos,after,none⟩] a w):oO P ops Q S sd (n+1) listed a w:=by
 refine⟨fun e=>(by rw[hr]at e;cases e),fun i hi=>?_⟩
 rw[hr]at hi
 rcases List.mem_cons.1 hi with rfl|hi
 ·exact Kw ho hn h
 ·obtain rfl:i=j:=by simpa using hi
  exact Kw ho' hn' h'
theorem any_nil (hr:Region.ready .any ops listed= []) (h:Q .normal a w):oO P ops (NoPanic Q) S sd 0 listed a w:=⟨hr,h⟩
end
theorem ael {α β γ:Type} {Pre:α→β→γ→World→Prop} {K:Act→World→Prop} {G:Prop} (A:α→β→γ→Act) (main:(∀x y z w,Pre x y z w→K (A x y z) w)→G) (rest:∀x y z w,Pre x y z w→K (A x y z) w):G:=main rest
theorem In.jK {w0 w:World} {L L':List SL} (h:In w0 w L) (o:Obj) (p:oG (pts w.heap.size o) L' L):In w0 (w.alloc o) L':=(h.alloc o).push p
end Go.Proofs.YtajgpcnlehinbaaGreat
