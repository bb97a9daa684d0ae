/- Part of a proof. -/
namespace Go.Proofs.YtajgpcnlehinbaaGreat
set_option maxRecDepth 100000
set_option maxHeartbeats 60000000
set_option linter.all false
structure iI (α:Type) where
 room:Nat
 items:List α
structure aK where
 kind:Int
 id:Int
 status:Int
 service:Int
 jC:Int
structure lg where
 shut:Bool
 all:Int
 os:Int
structure oV where
 frame:aK
 gate:lg
structure He (α:Type) where
 depth:Nat
 items:List α
structure EvS where
 mask:Int
 set:Int
 waits:Int
 waiting:Bool
structure eY where
 limit:Int
 extended:Bool
 state:Int
 bI:Int
structure wP where
 ay:List eY
 running:Int
structure vS where
 limit:Int
 extended:Bool
structure eX where
 set:Bool
 left:Int
 cycle:Int
def eX.off:eX:=⟨false,0,0⟩
structure dS where
 most:Int
 least:Int
 value:Int
 ag:List eX
structure dS.Ok (s:dS):Prop where
 le1:1≤s.least
 WP:s.least≤s.most
 le3:s.most≤2147483647
 v0:0≤s.value
 v1:s.value≤s.most
 few:s.ag.length≤64
 al:∀a∈s.ag,0≤a.left∧a.left≤s.most+1∧0≤a.cycle∧a.cycle≤s.most∧(a.set=true→1≤a.left)
theorem dS.Ok.set {s:dS} (h:s.Ok) (i:Nat) {a:eX} (ha:0≤a.left∧a.left≤s.most+1∧0≤a.cycle∧a.cycle≤s.most∧(a.set=true→1≤a.left)):
 dS.Ok {s with ag:=s.ag.set i a}:=
 ⟨h.le1,h.WP,h.le3,h.v0,h.v1,by simpa using h.few,fun b hb=>by
  rcases List.mem_or_eq_of_mem_set hb with hb|rfl
  ·exact h.al b hb
  ·exact ha⟩
def dS.wH (s:dS) (n:Int):Bool:=decide (n=0∨s.least≤n∧n≤s.most)
def dS.until (s:dS) (v:Int):Int:=if s.value<v then v-s.value else s.most+1-s.value+v
def dS.next (s:dS):Int:=if s.value=s.most then 0 else s.value+1
def eX.tick (a:eX):eX:=if a.set then(if 1<a.left then {a with left:=a.left-1} else if a.cycle=0 then .off else {a with left:=a.cycle}) else a
def eX.due (a:eX):Bool:=a.set&&decide (a.left≤1)
def bV {α:Type} (p:α→Bool):Nat→List α→List Nat
 |_, []=> []
 |k,a::l=>if p a then k::bV p (k+1) l else bV p (k+1) l
def dS.tick (s:dS):dS:={s with value:=s.next,ag:=s.ag.map eX.tick}
def dS.aO (s:dS):List Nat:=bV eX.due 0 s.ag
theorem pG {α:Type} (p:α→Bool) (a:α):∀(l:List α) (k:Nat),bV p k (l++ [a])=bV p k l++(if p a then[k+l.length] else [])
 | [],k=>by simp[bV]
 |b::l,k=>by
  have ih:=pG p a l (k+1)
  have e:k+1+l.length=k+(l.length+1):=by omega
  simp only[List.cons_append,bV,ih,List.length_cons,e]
  split<;>simp
theorem gU {α:Type} (p:α→Bool):∀(l:List α) (k:Nat),(bV p k l).length≤l.length
 | [],k=>by simp[bV]
 |b::l,k=>by
  have ih:=gU p l (k+1)
  simp only[bV]
  split<;>simp<;>omega
theorem wF {α:Type} (p:α→Bool):∀(l:List α) (k:Nat),∀i∈bV p k l,k≤i∧i<k+l.length
 | [],k=>by simp[bV]
 |b::l,k=>by
  have ih:=wF p l (k+1)
  intro i hi
  simp only[bV]at hi
  split at hi
  ·rcases List.mem_cons.1 hi with rfl|hi
   ·simp
   ·have:=ih i hi;simp;omega
  ·have:=ih i hi;simp;omega
def dS.kE (s:dS) (k:Nat):dS:={s with value:=s.next,ag:=(s.ag.take k).map eX.tick++s.ag.drop k}
theorem dS.DL {s:dS} {k:Nat}:(s.kE k).ag.length=s.ag.length:=by
 simp only[dS.kE,List.length_append,List.length_map,List.length_take,List.length_drop]
 omega
theorem dS.Tn {s:dS} {k:Nat} (h:k<s.ag.length):(s.kE k).ag[k]? =some s.ag[k]:=by
 have e:((s.ag.take k).map eX.tick).length=k:=by simp;omega
 simp only[dS.kE]
 rw[List.getElem?_append_right (by omega),e]
 simp
theorem dS.SV {s:dS} {k:Nat} (h:k<s.ag.length):(s.kE k).ag.set k s.ag[k].tick=(s.kE (k+1)).ag:=by
 have e:((s.ag.take k).map eX.tick).length=k:=by simp;omega
 simp only[dS.kE]
 rw[List.set_append_right _ _ (by omega),e,Nat.sub_self,List.take_succ_eq_append_getElem h,List.map_append,List.append_assoc]
 congr 1
 rw[List.drop_eq_getElem_cons h]
 rfl
theorem dS.TN {s:dS}:s.kE s.ag.length=s.tick:=by
 simp[dS.kE,dS.tick]
theorem dS.Ro {s:dS} (h:s.Ok):0≤s.next∧s.next≤s.most:=by
 have:=h.le1;have:=h.WP;have:=h.v0;have:=h.v1
 unfold dS.next
 split<;>omega
theorem eX.Q5 {s:dS} (h:s.Ok) {a:eX} (ha:a∈s.ag):0≤a.tick.left∧a.tick.left≤s.most+1∧0≤a.tick.cycle∧a.tick.cycle≤s.most∧(a.tick.set=true→1≤a.tick.left):=by
 have h1:=h.al a ha
 have:=h.le1;have:=h.WP
 rcases a with⟨st,lf,cy⟩
 unfold eX.tick
 cases st
 ·exact h1
 ·simp only[if_true]at h1⊢
  split
  ·refine⟨?_,?_,h1.2.2.1,h1.2.2.2.1,?_⟩<;>simp only []<;>omega
  ·split
   ·refine⟨by decide,?_,by decide,?_,fun h=>by cases h⟩<;>simp only[eX.off]<;>omega
   ·refine⟨?_,?_,h1.2.2.1,h1.2.2.2.1,?_⟩<;>simp only []<;>omega
theorem dS.Ok.kE {s:dS} (h:s.Ok) (k:Nat):(s.kE k).Ok:=by
 refine⟨h.le1,h.WP,h.le3,(dS.Ro h).1,(dS.Ro h).2,by rw[dS.DL];exact h.few,fun a ha=>?_⟩
 simp only[dS.kE,List.mem_append,List.mem_map]at ha
 rcases ha with⟨b,hb,rfl⟩|ha
 ·exact eX.Q5 h (List.mem_of_mem_take hb)
 ·exact h.al a (List.mem_of_mem_drop ha)
abbrev dC:=List (Option (iI Int))
def dC.busy (q:dC) (i:Nat):Bool:=match q[i]? with|some (some s)=> !s.items.isEmpty|_=>false
def dC.YT (q:dC) (p:Nat):Prop:=q.busy p=true∧∀i,p<i→q.busy i=false
def dC.Idle (q:dC):Prop:=∀i,q.busy i=false
def dC.len (q:dC):Nat:=(q.map fun x=>match x with|some s=>s.items.length|none=>0).sum
structure dC.Word (q:dC) (b:Nat):Prop where
 small:b<2 ^ 64
 bit:∀i,b.testBit i=q.busy i
theorem dC.Cj {q:dC} {p:Nat} (h:q.busy p=true):p<q.length:=by
 unfold dC.busy at h
 split at h
 ·rename_i s hs
  exact(List.getElem?_eq_some_iff.1 hs).1
 ·cases h
theorem dC.Word.idle {q:dC} {b:Nat} (h:q.Word b) (hi:q.Idle):b=0:=by
 apply Nat.eq_of_testBit_eq
 intro i
 rw[h.bit,hi i,Nat.zero_testBit]
theorem dC.Word.zero {q:dC} {b:Nat} (h:q.Word b) (hb:b=0):q.Idle:=fun i=>by rw[←h.bit,hb,Nat.zero_testBit]
theorem dC.Word.top {q:dC} {b p:Nat} (h:q.Word b) (ht:q.YT p):b≠0∧b.log2=p:=by
 have h1:b.testBit p=true:=by rw[h.bit];exact ht.1
 have h2:2 ^ p≤b:=Nat.ge_two_pow_of_testBit h1
 have h3:b<2 ^ (p+1):=Nat.lt_pow_two_of_testBit _ fun i hi=>by rw[h.bit];exact ht.2 i (by omega)
 have h0:b≠0:=by have:=Nat.two_pow_pos p;omega
 exact⟨h0,(Nat.log2_eq_iff h0).2 ⟨h2,h3⟩⟩
theorem dC.VL (q:dC):q.Idle∨∃p,q.YT p:=by
 by_cases h:∃p,q.busy p=true
 ·right
  obtain⟨p,hp⟩:=h
  have key:∀n,∀p,q.busy p=true→q.length-p≤n→∃p,q.YT p:=by
   intro n
   induction n with
   |zero=>intro p hp hn;have:=dC.Cj hp;omega
   |succ n ih=>
    intro p hp hn
    by_cases h2:∃i,p<i∧q.busy i=true
    ·obtain⟨i,hi,hb⟩:=h2
     exact ih i hb (by have:=dC.Cj hb;omega)
    ·refine⟨p,hp,fun i hi=>?_⟩
     cases hq:q.busy i with
     |false=>rfl
     |true=>exact absurd ⟨i,hi,hq⟩ h2
  exact key _ p hp (Nat.le_refl _)
 ·left
  intro i
  cases hq:q.busy i with
  |false=>rfl
  |true=>exact absurd ⟨i,hq⟩ h
theorem dC.BZ {q:dC} {p:Nat} {s:iI Int} (hp:p<q.length) (i:Nat):dC.busy (q.set p (some s)) i=if i=p then !s.items.isEmpty else q.busy i:=by
 unfold dC.busy
 by_cases h:i=p
 ·subst h;simp[hp]
 ·rw[List.getElem?_set_ne (by omega),if_neg h]
theorem dC.Word.set {q:dC} {b p:Nat} {s:iI Int} (h:q.Word b) (hp:p<q.length) (h64:p<64) (hs:s.items≠ []):dC.Word (q.set p (some s)) (b|||2 ^ p):=by
 refine⟨Nat.or_lt_two_pow h.small (Nat.pow_lt_pow_right (by decide) h64),fun i=>?_⟩
 rw[Nat.testBit_or,Nat.testBit_two_pow,h.bit,dC.BZ hp]
 by_cases hi:i=p
 ·subst hi
  have:s.items.isEmpty=false:=by simpa using hs
  simp[this]
 ·have:¬p=i:=fun e=>hi e.symm
  simp[hi,this]
theorem dC.Word.kept {q:dC} {b p:Nat} {s:iI Int} (h:q.Word b) (hp:q.busy p=true) (hs:s.items≠ []):dC.Word (q.set p (some s)) b:=by
 refine⟨h.small,fun i=>?_⟩
 rw[h.bit,dC.BZ (dC.Cj hp)]
 split
 ·rename_i e
  subst e
  rw[hp]
  have:s.items.isEmpty=false:=by simpa using hs
  simp[this]
 ·rfl
theorem dC.Word.clear {q:dC} {b p:Nat} {s:iI Int} (h:q.Word b) (hp:p<q.length) (h64:p<64) (hs:s.items= []):dC.Word (q.set p (some s)) (b&&& (18446744073709551615-2 ^ p)):=by
 refine⟨Nat.lt_of_le_of_lt Nat.and_le_left h.small,fun i=>?_⟩
 have e:18446744073709551615-2 ^ p=2 ^ 64-(2 ^ p+1):=by omega
 rw[e,Nat.testBit_and,Nat.testBit_two_pow_sub_succ (Nat.pow_lt_pow_right (by decide) h64),Nat.testBit_two_pow,h.bit,dC.BZ hp]
 by_cases hi:i=p
 ·subst hi
  simp[hs]
 ·have h2:¬p=i:=fun e=>hi e.symm
  simp only[hi,h2,if_false,decide_false,Bool.not_false,Bool.and_true]
  by_cases h3:i<64
  ·simp[h3]
  ·have:q.busy i=false:=by
    rw[←h.bit]
    exact Nat.testBit_lt_two_pow (Nat.lt_of_lt_of_le h.small (Nat.pow_le_pow_right (by decide) (by omega)))
   simp[this]
structure kS where
 aI:Int
 cap:Int
def kS.ring (x:kS):iI Int:=⟨x.cap.toNat, []⟩
def tu (rows:List kS):dC:=rows.foldl (fun q x=>List.set q x.aI.toNat (some x.ring)) (List.replicate 64 none)
theorem TJ (l:List kS) (x:kS):tu (l++ [x])=List.set (tu l) x.aI.toNat (some x.ring):=by simp[tu]
theorem U6 (l:List kS):(tu l).length=64:=by
 unfold tu
 have key:∀(l:List kS) (q:dC),q.length=64→(l.foldl (fun q x=>List.set q x.aI.toNat (some x.ring)) q).length=64:=by
  intro l
  induction l with
  |nil=>intro q h;exact h
  |cons x l ih=>intro q h;exact ih _ (by simpa using h)
 exact key l _ (by simp)
theorem Uj (l:List kS) (p:Nat) (hp:p<64) (h:∀x∈l,x.aI.toNat≠p):(tu l)[p]? =some none:=by
 unfold tu
 have key:∀(l:List kS) (q:dC),(∀x∈l,x.aI.toNat≠p)→q[p]? =some none→(l.foldl (fun q x=>List.set q x.aI.toNat (some x.ring)) q)[p]? =some none:=by
  intro l
  induction l with
  |nil=>intro q _ h;exact h
  |cons x l ih=>
   intro q h hq
   refine ih _ (fun y hy=>h y (List.mem_cons_of_mem _ hy)) ?_
   rw[List.getElem?_set_ne (h x (by simp))]
   exact hq
 exact key l _ h (by rw[List.getElem?_replicate,if_pos hp])
theorem dC.Word.fresh {q:dC} {b p:Nat} {s:iI Int} (h:q.Word b) (hp:q[p]? =some none) (hs:s.items= []):dC.Word (q.set p (some s)) b:=by
 refine⟨h.small,fun i=>?_⟩
 have hl:=(List.getElem?_eq_some_iff.1 hp).1
 rw[h.bit,dC.BZ hl]
 split
 ·rename_i e
  subst e
  unfold dC.busy
  rw[hp]
  simp[hs]
 ·rfl
structure xK (l:List kS):Prop where
 desc:l.Pairwise (fun x y=>y.aI<x.aI)
 bound:∀x∈l,0≤x.aI∧x.aI≤63∧1≤x.cap∧x.cap≤65536
def xg (l:List kS):Int:=(l.getLast?.map (·.aI)).getD 64
theorem xK.last {l:List kS} {x:kS} (h:xK (l++ [x])):x.aI<xg l∧∀y∈l,y.aI.toNat≠x.aI.toNat:=by
 have hb:=h.bound x (by simp)
 have hd:∀y∈l,x.aI<y.aI:=fun y hy=>(List.pairwise_append.1 h.desc).2.2 y hy x (by simp)
 refine⟨?_,fun y hy=>?_⟩
 ·unfold xg
  cases hl:l.getLast? with
  |none=>simp;omega
  |some y=>
   have:y∈l:=List.mem_of_getLast? hl
   simpa using hd y this
 ·have h1:=hd y hy
  have h2:=h.bound y (by simp[hy])
  omega
theorem xK.take {l:List kS} (h:xK l) (k:Nat):xK (l.take k):=⟨h.desc.sublist (List.take_sublist k l),fun x hx=>h.bound x (List.mem_of_mem_take hx)⟩
structure bK where
 isr:Bool
 id:Int
deriving DecidableEq
structure mD where
 aI:Int
 own:List Int
 internal:Int
 category:Int
structure kR where
 dom:List bK
 rows:bK→Option mD
 internal:List Bool
 fE:List Int
def kR.depth (t:kR) (o:bK):Nat:=match t.rows o with|some x=>x.own.length|none=>0
structure di where
 held:bK→List Int
 holder:Int→Option bK
 entered:Int→Bool
def di.fresh:di:=⟨fun _=> [],fun _=>none,fun _=>false⟩
def iE {α β:Type} [DecidableEq α] (f:α→β) (a:α) (x:β):α→β:=fun c=>if c=a then x else f c
def kR.aI (t:kR) (s:di) (o:bK):Int:=
 match t.rows o with
 |none=>-1
 |some x=>
  let p:=(s.held o).foldr (fun r p=>max p (t.fE.getD r.toNat 0)) x.aI
  if o.isr=false∧s.entered o.id=true then max p x.internal else p
def kR.free (t:kR) (s:di) (x:mD) (r:Int):Bool:=
 !(s.holder r).isSome&&decide (r∈x.own)&&decide (x.aI≤t.fE.getD r.toNat 0)
def di.take (s:di) (o:bK) (r:Int):di:={s with held:=iE s.held o (s.held o++ [r]),holder:=iE s.holder r (some o)}
def di.give (s:di) (o:bK) (r:Int) (rest:List Int):di:={s with held:=iE s.held o rest,holder:=iE s.holder r none}
def kR.known (t:kR) (o:bK) (r:Int):Bool:=
 (t.rows o).isSome&&decide (0≤r∧r<t.fE.length)&& !(t.internal.getD r.toNat true)
structure dn where
 aI:Int
 ring:Int
 full:Bool
 limit:Int
 mask:Int
 internal:Int
 own:List Int
 dX:Int
structure IA where
 internal:Bool
 gJ:Int
structure xm where
 max:Int
 base:Int
 min:Int
structure zx where
 kind:Int
 lL:Int
 mask:Int
structure gq where
 counter:Int
 act:zx
 dX:Int
 time:Int
 cycle:Int
structure kG where
 category:Int
 aI:Int
 own:List Int
structure qF where
 kind:Int
 length:Int
 src:Int
 init:Int
 queue:Int
 act:zx
structure ah where
 uses:Int
 modes:Int
 ay:List dn
 rings:List kS
 bP:List IA
 bi:List xm
 ag:List gq
 bf:List kG
 cZ:List qF
 depth:Int
 frames:Int
 errors:Int
 dU:Int
def dn.vU (x:dn):mD:=⟨x.aI,x.own,x.internal,0⟩
def kG.vU (x:kG):mD:=⟨x.aI,x.own,-1,x.category⟩
def ah.AP (T:ah) (o:bK):Option mD:=
 if o.id<0 then none else if o.isr then(T.bf[o.id.toNat]?).map kG.vU else(T.ay[o.id.toNat]?).map dn.vU
def ah.dom (T:ah):List bK:=(List.range T.ay.length).map (fun i=>⟨false,(i:Int)⟩)++(List.range T.bf.length).map (fun i=>⟨true,(i:Int)⟩)
def ah.eU (T:ah):kR:=⟨T.dom,T.AP,T.bP.map (·.internal),T.bP.map (·.gJ)⟩
theorem ah.Uc (T:ah):T.dom.Nodup:=by
 unfold ah.dom
 rw[List.nodup_append]
 refine⟨?_,?_,?_⟩
 ·rw[List.nodup_iff_pairwise_ne,List.pairwise_map]
  exact List.nodup_range.imp fun h e=>h (by simp at e;omega)
 ·rw[List.nodup_iff_pairwise_ne,List.pairwise_map]
  exact List.nodup_range.imp fun h e=>h (by simp at e;omega)
 ·intro x hx y hy e
  obtain⟨i,_,rfl⟩:=List.mem_map.1 hx
  obtain⟨j,_,rfl⟩:=List.mem_map.1 hy
  simp at e
theorem ah.YY (T:ah) (o:bK) (h:T.AP o≠none):o∈T.dom:=by
 unfold ah.AP at h
 rcases o with⟨b,i⟩
 simp only at h
 by_cases hi:i<0
 ·rw[if_pos hi]at h;exact absurd rfl h
 ·rw[if_neg hi]at h
  obtain⟨n,rfl⟩:∃n:Nat,i=n:=⟨i.toNat,by omega⟩
  unfold ah.dom
  rw[List.mem_append]
  cases b
  ·left
   simp only[Bool.false_eq_true,if_false,Int.toNat_natCast]at h
   have:n<T.ay.length:=by
    apply Decidable.byContradiction
    intro hn
    rw[List.getElem?_eq_none (by omega)]at h
    exact h rfl
   exact List.mem_map.2 ⟨n,List.mem_range.2 this,rfl⟩
  ·right
   simp only[if_true,Int.toNat_natCast]at h
   have:n<T.bf.length:=by
    apply Decidable.byContradiction
    intro hn
    rw[List.getElem?_eq_none (by omega)]at h
    exact h rfl
   exact List.mem_map.2 ⟨n,List.mem_range.2 this,rfl⟩
def ah.xx (T:ah) (a b:Nat) (o:bK):Option mD:=
 if o.id<0 then none else if o.isr then(if o.id.toNat<b then(T.bf[o.id.toNat]?).map kG.vU else none) else(if o.id.toNat<a then(T.ay[o.id.toNat]?).map dn.vU else none)
theorem ah.PP (T:ah) (o:bK):T.xx 0 0 o=none:=by
 unfold ah.xx
 simp
theorem ah.PT (T:ah) {a b:Nat} {x:dn} (h:T.ay[a]? =some x) (o:bK):T.xx (a+1) b o=if o=⟨false,(a:Int)⟩then some x.vU else T.xx a b o:=by
 rcases o with⟨i,n⟩
 unfold ah.xx
 simp only[bK.mk.injEq]
 cases i
 ·simp only[Bool.false_eq_true,if_false,true_and]
  by_cases hn:n<0
  ·simp[hn,show ¬n=(a:Int) by omega]
  ·obtain⟨m,rfl⟩:∃m:Nat,n=m:=⟨n.toNat,by omega⟩
   simp only[Int.toNat_natCast,if_neg hn]
   by_cases hm:m=a
   ·subst hm;simp[h]
   ·have:(m<a+1)=(m<a):=by apply propext;omega
    have hm':¬((m:Int)=a):=by omega
    simp[this,hm']
 ·simp
theorem ah.TK (T:ah) {a b:Nat} {x:kG} (h:T.bf[b]? =some x) (o:bK):T.xx a (b+1) o=if o=⟨true,(b:Int)⟩then some x.vU else T.xx a b o:=by
 rcases o with⟨i,n⟩
 unfold ah.xx
 simp only[bK.mk.injEq]
 cases i
 ·simp
 ·simp only[if_true,true_and]
  by_cases hn:n<0
  ·simp[hn,show ¬n=(b:Int) by omega]
  ·obtain⟨m,rfl⟩:∃m:Nat,n=m:=⟨n.toNat,by omega⟩
   simp only[Int.toNat_natCast,if_neg hn]
   by_cases hm:m=b
   ·subst hm;simp[h]
   ·have:(m<b+1)=(m<b):=by apply propext;omega
    have hm':¬((m:Int)=b):=by omega
    simp[this,hm']
theorem ah.Uw (T:ah) (o:bK):T.xx T.ay.length T.bf.length o=T.AP o:=by
 unfold ah.xx ah.AP
 by_cases hn:o.id<0
 ·simp[hn]
 ·simp only[if_neg hn]
  cases o.isr
  ·simp only[Bool.false_eq_true,if_false]
   split
   ·rfl
   ·rw[List.getElem?_eq_none (by omega)];rfl
  ·simp only[if_true]
   split
   ·rfl
   ·rw[List.getElem?_eq_none (by omega)];rfl
structure fV where
 bi:List xm
 ag:List gq
 modes:Int
 bf:List (Int × Int)
structure aJ where
 clocks:List dS
 req:List Bool
def fV.fG (t:fV) (c:Nat):List Nat:=bV (fun a:gq=>decide (a.counter=c)) 0 t.ag
def fV.place (t:fV) (i:Nat):Nat:=match t.ag[i]? with|some a=>((t.ag.take i).filter (fun b=>decide (b.counter=a.counter))).length|none=>0
def fV.oZ (t:fV) (i:Nat):Nat:=match t.ag[i]? with|some a=>a.counter.toNat|none=>0
structure fV.Ok (t:fV):Prop where
 inr:∀a∈t.ag,0≤a.counter∧a.counter<t.bi.length
 few:t.bf.length≤32
 abb:t.ag.length≤64
 rng:∀a∈t.ag,0≤a.dX∧a.dX≤4294967295∧0≤a.time∧a.time≤4294967295∧0≤a.cycle∧a.cycle≤4294967295
structure aJ.Ok (t:fV) (s:aJ):Prop where
 len:s.clocks.length=t.bi.length
 req:s.req.length=32
 al:∀(c:Nat) x,s.clocks[c]? =some x→x.ag.length=(t.fG c).length
theorem Ez {α:Type} (p:α→Bool):∀(l:List α) (k i:Nat) (a:α),l[i]? =some a→p a=true→((l.take i).filter p).length<(bV p k l).length
 | [],_,_,_,h,_=>by simp at h
 |x::r,k,0,a,h,hp=>by
  simp at h
  subst h
  simp[bV,hp]
 |x::r,k,i+1,a,h,hp=>by
  have ih:=Ez p r (k+1) i a (by simpa using h) hp
  simp only[List.take_succ_cons,List.filter_cons,bV]
  split<;>simp<;>omega
theorem aJ.Ok.at {t:fV} {s:aJ} (h:s.Ok t) (ht:t.Ok) {i:Nat} {a:gq} (ha:t.ag[i]? =some a):
 ∃x,s.clocks[t.oZ i]? =some x∧t.place i<x.ag.length:=by
 have hb:=ht.inr a (List.mem_of_getElem? ha)
 have hc:t.oZ i<s.clocks.length:=by unfold fV.oZ;rw[ha,h.len];simp only;omega
 refine⟨_,List.getElem?_eq_getElem hc,?_⟩
 rw[h.al _ _ (List.getElem?_eq_getElem hc)]
 unfold fV.place fV.fG fV.oZ
 rw[ha]
 simp only
 have e:((a.counter.toNat:Nat):Int)=a.counter:=by omega
 rw[e]
 exact Ez _ _ _ _ a ha (by simp)
end Go.Proofs.YtajgpcnlehinbaaGreat
