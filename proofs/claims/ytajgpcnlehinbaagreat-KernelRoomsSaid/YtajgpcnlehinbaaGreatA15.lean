/- Part of a proof. -/
import Derived.Test.YtajgpcnlehinbaaGreatA11
import Derived.Test.YtajgpcnlehinbaaGreatA14
namespace Go.Proofs.YtajgpcnlehinbaaGreat
open Tryz Go.RowKit
set_option maxRecDepth 100000
set_option maxHeartbeats 60000000
set_option linter.all false
structure az where
 lock:di
 tk:wP
 q:dC
 before:List Int
 ev:List EvS
 leaving:Int
 wants:Int
def oL (i:Int):bK:=⟨false,i⟩
def dC.join (q:dC) (p:Nat) (x:Int):dC:=match q[p]? with|some (some s)=>q.set p (some {s with items:=s.items++ [x]})|_=>q
def ah.join (T:ah) (q:dC) (n:Nat):dC:=match T.ay[n]? with|some k=>q.join k.aI.toNat n|none=>q
def nM (ev:List EvS) (n:Nat):List EvS:=match ev[n]? with|some x=>if x.mask=0 then ev else ev.set n x.fresh|none=>ev
def dC.high (q:dC):Option Nat:=((List.range 64).reverse.find? fun p=>q.busy p)
theorem dC.Nu {q:dC} {p:Nat} (hl:q.length=64) (h:q.YT p):q.high=some p:=by
 unfold dC.high
 have hp:=dC.Cj h.1
 rw[hl]at hp
 rw[List.find?_eq_some_iff_append]
 refine⟨h.1,(List.range 64).reverse.take (63-p),(List.range 64).reverse.drop (64-p),?_,?_⟩
 ·have e1:(List.range 64).reverse.drop (63-p)=p::(List.range 64).reverse.drop (64-p):=by
   rw[List.drop_eq_getElem_cons (by simp;omega)]
   congr 1
   ·simp;omega
   ·congr 1;omega
  rw[←e1,List.take_append_drop]
 ·intro a ha
  obtain⟨i,hi,rfl⟩:=List.mem_iff_getElem.1 ha
  have hi2:i<63-p:=by simp at hi;omega
  have:((List.range 64).reverse.take (63-p))[i]=63-i:=by simp
  rw[this,h.2 (63-i) (by omega)]
  rfl
theorem dC.TE {q:dC} (h:q.Idle):q.high=none:=by
 unfold dC.high
 rw[List.find?_eq_none]
 intro p _ hb
 rw[h p]at hb
 cases hb
def ah.Bg (T:ah) (n:Int):Int:=match T.ay[n.toNat]? with|some k=>k.aI|none=>0
def az.dB (T:ah) (s:az) (n:Int):az × Int:=
 if n<0 then(s,3) else
 match s.tk.ay[n.toNat]? with
 |none=>(s,3)
 |some x=>if x.limit≤x.bI then(s,4) else
  ({s with tk:={s.tk with ay:=s.tk.ay.set n.toNat x.more},q:=T.join s.q n.toNat,ev:=if x.state=3 then nM s.ev n.toNat else s.ev},0)
def az.me (s:az):Bool:=decide (s.leaving=0)&&decide (0≤s.tk.running)
def az.free (s:az):Bool:=(s.lock.held (oL s.tk.running)).isEmpty
def az.gK (s:az):az × Int:=
 if s.me=false then(s,2) else if s.free=false then(s,6) else({s with leaving:=1},0)
def az.chain (T:ah) (s:az) (m:Int):az × Int:=
 if s.me=false then(s,2) else if m<0∨(T.ay.length:Int)≤m then(s,3) else if s.free=false then(s,6)
 else if s.tk.running=m then({s with leaving:=2},0)
 else match s.dB T m with|(s',st)=>if st=0 then({s' with leaving:=1},0) else(s',st)
def az.schedule (T:ah) (s:az):az × Int:=
 if s.me=false then(s,2) else if s.free=false then(s,6)
 else match s.q.high,T.ay[s.tk.running.toNat]? with
  |some p,some k=>if k.aI<p then({s with leaving:=5},0) else(s,0)
  |_,_=>(s,0)
def di.iC (s:di) (o:bK):di:=if s.held o= [] then s else s.drop o
def az.oQ (s:az):az × Int:=
 if s.me=false then(s,2) else({s with lock:=s.lock.iC (oL s.tk.running),leaving:=1},0)
def az.zL (T:ah) (s:az) (n:Int):Int:=
 if n<0 then 3 else match T.ay[n.toNat]?,s.tk.ay[n.toNat]? with
 |some k,some x=>if k.mask=0 then 1 else if x.state=3 then 7 else 0
 |_,_=>3
def az.fA (T:ah) (s:az) (n:Int) (m:Int):az × Int:=
 if s.zL T n=0 then
  match s.ev[n.toNat]?,s.tk.ay[n.toNat]? with
  |some e,some x=>
   if e.woken m then({s with ev:=s.ev.set n.toNat (e.put m),tk:={s.tk with ay:=s.tk.ay.set n.toNat {x with state:=2}},q:=T.join s.q n.toNat},0)
   else({s with ev:=s.ev.set n.toNat (e.put m)},0)
  |_,_=>(s,0)
 else(s,s.zL T n)
def az.fF (s:az) (m:Int):az × Int:=
 if s.me=false then(s,2) else match s.ev[s.tk.running.toNat]? with
 |some e=>if e.mask=0 then(s,1) else({s with ev:=s.ev.set s.tk.running.toNat {e with set:=bits .andNot .u32 e.set m}},0)
 |none=>(s,3)
def az.mO (T:ah) (s:az) (n:Int):Int × Int:=
 if s.zL T n=0 then(match s.ev[n.toNat]? with|some e=>(e.set,0)|none=>(0,3)) else(0,s.zL T n)
def az.fM (T:ah) (s:az) (m:Int):az × Int:=
 if s.me=false then(s,2) else if T.vz s.tk.running=0 then(s,1) else if s.free=false then(s,6)
 else match s.ev[s.tk.running.toNat]? with
 |some e=>if bits .and .u32 e.set m=0 then({s with leaving:=3,wants:=m},0) else(s,0)
 |none=>(s,0)
def az.get (T:ah) (s:az) (o:bK) (r:Int):az × Int:=
 if T.eU.known o r=false then(s,3) else match T.eU.rows o with
 |some x=>if T.eU.free s.lock x r then({s with lock:=s.lock.take o r},0) else(s,1)
 |none=>(s,3)
def az.release (T:ah) (s:az) (o:bK) (r:Int):az × Int:=
 if T.eU.known o r=false then(s,3) else
 if(s.lock.held o).getLast?=some r then({s with lock:=s.lock.give o r (s.lock.held o).dropLast},0) else(s,5)
def az.aI (T:ah) (s:az) (i:Int):Int:=T.eU.aI s.lock (oL i)
def az.carry (T:ah) (s:az):az:=
 let n:=s.tk.running.toNat
 match s.tk.ay[n]? with
 |none=>s
 |some x=>
  let lock:=if s.leaving=4 then s.lock else {s.lock with entered:=iE s.lock.entered s.tk.running false}
  if s.leaving=1 then {s with leaving:=0,lock,tk:=⟨s.tk.ay.set n x.less,-1⟩}
  else if s.leaving=2 then {s with leaving:=0,lock,tk:=⟨s.tk.ay.set n {x with state:=2},-1⟩,q:=T.join s.q n,ev:=if T.vz s.tk.running=0 then s.ev else nM s.ev n}
  else if s.leaving=3 then
   match s.ev[n]? with
   |none=>s
   |some e=>
    if bits .and .u32 e.set s.wants=0 then {s with leaving:=0,lock,tk:=⟨s.tk.ay.set n {x with state:=1},-1⟩,ev:=s.ev.set n {e with waiting:=true,waits:=s.wants}}
    else {s with leaving:=0,lock,tk:=⟨s.tk.ay.set n {x with state:=2},-1⟩,q:=T.join s.q n}
  else {s with leaving:=0,lock,tk:=⟨s.tk.ay.set n {x with state:=2},-1⟩,before:=s.before++ [s.tk.running]}
def az.waiting (s:az):Bool:=decide (0<s.q.len)|| !s.before.isEmpty
def az.l9 (T:ah) (s:az):Option Int:=
 match s.before.getLast? with
 |none=>none
 |some n=>match s.q.high with
  |none=>some n
  |some p=>if(p:Int)≤s.aI T n then some n else none
def az.start (T:ah) (s:az) (n:Int):az:=
 match s.tk.ay[n.toNat]?,T.ay[n.toNat]? with
 |some x,some k=>{s with tk:=⟨s.tk.ay.set n.toNat {x with state:=0},n⟩,lock:={s.lock with entered:=iE s.lock.entered n (decide (0≤k.internal))}}
 |_,_=>s
def az.next (T:ah) (s:az):Option (Int × az):=
 match s.l9 T with
 |some n=>some (n,{s with before:=s.before.dropLast})
 |none=>match s.q.high with
  |none=>none
  |some p=>match s.q[p]? with
   |some (some g)=>match g.items with
    |x::xs=>some (x,{s with q:=s.q.set p (some {g with items:=xs})})
    | []=>none
   |_=>none
def az.runs (T:ah) (s:az):Option (Int × az):=(s.next T).map fun p=>(p.1,p.2.start T p.1)
def az.due (T:ah) (s:az):Bool:=
 s.me&&(match T.ay[s.tk.running.toNat]? with|some k=>k.full|none=>false)&&(match s.q.high with|some p=>decide (s.aI T s.tk.running<p)|none=>false)
def az.jQ (s:az):az:=if s.me then {s with leaving:=4} else s
def ah.mP (T:ah):az:=⟨.fresh,⟨T.ay.map fun k=>vS.one ⟨k.limit, !decide (k.mask=0)⟩,-1⟩,tu T.rings, [],T.ay.map fun k=>⟨k.mask,0,0,false⟩,0,0⟩
theorem sG {α:Type} [DecidableEq α]:∀ {l m:List α},l.Nodup→l ⊆ m→l.length≤m.length
 | [],m,_,_=>Nat.zero_le _
 |a::l,m,hn,hs=>by
  rw[List.nodup_cons]at hn
  have ha:a∈m:=hs (by simp)
  have h1:l ⊆ m.erase a:=fun b hb=>(List.mem_erase_of_ne (by rintro rfl;exact hn.1 hb)).2 (hs (by simp[hb]))
  have h2:=sG hn.2 h1
  rw[List.length_erase_of_mem ha]at h2
  have:0<m.length:=List.length_pos_of_mem ha
  simp only[List.length_cons]
  omega
theorem AV:∀(n:Nat) (l:List Int),(∀x∈l,∃j:Nat,j<n∧x=j)→l.length=((List.range n).map fun j:Nat=>l.count (j:Int)).sum
 |0,l,h=>by
  cases l with
  |nil=>rfl
  |cons x r=>obtain⟨j,hj,_⟩:=h x (by simp);omega
 |n+1,l,h=>by
  have ih:=AV n (l.filter fun x=>decide (x≠(n:Int))) (fun x hx=>by
   rw[List.mem_filter,decide_eq_true_eq]at hx
   obtain⟨j,hj,rfl⟩:=h x hx.1
   exact⟨j,by have:j≠n:=fun e=>hx.2 (by rw[e]);omega,rfl⟩)
  rw[List.range_succ,List.map_append,List.sum_append]
  have e1:(List.range n).map (fun j:Nat=>(l.filter fun x=>decide (x≠(n:Int))).count (j:Int))=(List.range n).map fun j:Nat=>l.count (j:Int):=by
   apply List.map_congr_left
   intro j hj
   rw[List.mem_range]at hj
   rw[List.count_filter]
   simp;omega
  rw[←e1,←ih]
  simp only[List.map_cons,List.map_nil,List.sum_cons,List.sum_nil,Nat.add_zero]
  clear ih e1 h
  induction l with
  |nil=>rfl
  |cons x r ih=>
   by_cases hx:x=(n:Int)
   ·subst hx;simp only[List.length_cons,ih,List.count_cons_self];simp;omega
   ·rw[List.filter_cons_of_pos (by simpa using hx),List.count_cons_of_ne hx,List.length_cons,List.length_cons,ih];omega
theorem Xo:∀(L:List dn) (h:dn→Int) (f:Nat→Nat),(∀j k,L[j]? =some k→(f j:Int)≤h k)→((((List.range L.length).map f).sum:Nat):Int)≤(L.map h).sum
 | [],_,_,_=>by simp
 |k::L,h,f,hf=>by
  have ih:=Xo L h (fun j=>f (j+1)) (fun j k hk=>hf (j+1) k (by simpa using hk))
  have h0:=hf 0 k rfl
  rw[List.length_cons,List.range_succ_eq_map,List.map_cons,List.map_map,List.sum_cons,List.map_cons,List.sum_cons]
  have e:(List.range L.length).map (f∘Nat.succ)=(List.range L.length).map fun j=>f (j+1):=rfl
  rw[e]
  push_cast
  omega
theorem IR {T:ah} {p:Nat} {l:List Int} (h1:∀x∈l,∃j k,x=((j:Nat):Int)∧T.ay[j]? =some k∧k.aI.toNat=p) (hp:∀k∈T.ay,0≤k.aI)
 (h2:∀(j:Nat) (k:dn),T.ay[j]? =some k→k.aI.toNat=p→(l.count (j:Int):Int)≤k.limit) (hl:∀k∈T.ay,0≤k.limit):(l.length:Int)≤kJ T.ay p:=by
 rw[AV T.ay.length l (fun x hx=>by
  obtain⟨j,k,e,hk,_⟩:=h1 x hx
  exact⟨j,(List.getElem?_eq_some_iff.1 hk).1,e⟩)]
 unfold kJ
 refine Xo _ _ _ fun j k hk=>?_
 have hm:=List.mem_of_getElem? hk
 have:=hp k hm
 split
 ·rename_i e;exact h2 j k hk (by omega)
 ·rename_i e
  have:l.count (j:Int)=0:=by
   rw[List.count_eq_zero]
   intro hj
   obtain⟨j',k',e',hk',hp'⟩:=h1 _ hj
   have:j=j':=by omega
   subst this
   rw[hk]at hk'
   cases hk'
   omega
  rw[this]
  exact Int.le_refl _
structure sZ (tab:kR) (s:di):Prop where
 off:∀o,tab.rows o=none→s.held o= []
 own:∀o x,tab.rows o=some x→∀r∈s.held o,r∈x.own
 nodup:∀o,(s.held o).Nodup
 holds:∀o r,r∈s.held o↔s.holder r=some o
theorem sZ.fresh (tab:kR):sZ tab .fresh:=⟨fun _ _=>rfl,fun _ _ _ r hr=>by simp[di.fresh]at hr,fun _=>by simp[di.fresh],fun _ _=>by simp[di.fresh]⟩
theorem sZ.room {tab:kR} {s:di} (h:sZ tab s) {o:bK} {x:mD} {r:Int} (hx:tab.rows o=some x) (hf:tab.free s x r=true):(s.held o).length<x.own.length:=by
 unfold kR.free at hf
 simp only[Bool.and_eq_true,Bool.not_eq_true',decide_eq_true_eq,Option.isSome_eq_false_iff,Option.isNone_iff_eq_none]at hf
 obtain⟨⟨h1,h2⟩,_⟩:=hf
 have h3:r∉s.held o:=fun hm=>by rw[(h.holds o r).1 hm]at h1;cases h1
 have h4:(r::s.held o).length≤x.own.length:=sG (List.nodup_cons.2 ⟨h3,h.nodup o⟩) (fun a ha=>by
  rcases List.mem_cons.1 ha with rfl|ha
  ·exact h2
  ·exact h.own o x hx a ha)
 simp only[List.length_cons]at h4
 omega
theorem sZ.few {tab:kR} {s:di} (h:sZ tab s) {o:bK} {x:mD} (hx:tab.rows o=some x):(s.held o).length≤x.own.length:=sG (h.nodup o) (h.own o x hx)
theorem sZ.take {tab:kR} {s:di} (h:sZ tab s) {o:bK} {x:mD} {r:Int} (hx:tab.rows o=some x) (hf:tab.free s x r=true):sZ tab (s.take o r):=by
 unfold kR.free at hf
 simp only[Bool.and_eq_true,Bool.not_eq_true',decide_eq_true_eq,Option.isSome_eq_false_iff,Option.isNone_iff_eq_none]at hf
 obtain⟨⟨h1,h2⟩,_⟩:=hf
 have h3:∀o,r∉s.held o:=fun o hm=>by rw[(h.holds o r).1 hm]at h1;cases h1
 refine⟨fun o' ho=>?_,fun o' y hy q hq=>?_,fun o'=>?_,fun o' q=>?_⟩
 ·simp only[di.take,iE]
  split
  ·rename_i e;subst e;rw[hx]at ho;cases ho
  ·exact h.off o' ho
 ·simp only[di.take,iE]at hq
  split at hq
  ·rename_i e;subst e
   rw[hx]at hy;cases hy
   rcases List.mem_append.1 hq with hq|hq
   ·exact h.own _ _ hx q hq
   ·simp at hq;subst hq;exact h2
  ·exact h.own o' y hy q hq
 ·simp only[di.take,iE]
  split
  ·rename_i e;subst e
   rw[List.nodup_append]
   exact⟨h.nodup _,by simp,fun a ha b hb e=>by simp at hb;subst hb;subst e;exact h3 _ ha⟩
  ·exact h.nodup o'
 ·simp only[di.take,iE]
  by_cases hq:q=r
  ·subst hq
   by_cases ho:o'=o
   ·subst ho;simp
   ·have:=h3 o'
    simp only[if_neg ho,this,if_true,false_iff,Option.some.injEq]
    exact fun e=>ho e.symm
  ·rw[if_neg hq]
   split
   ·rename_i e;subst e
    rw[List.mem_append,h.holds]
    simp[hq]
   ·exact h.holds o' q
theorem sZ.give {tab:kR} {s:di} (h:sZ tab s) {o:bK} {r:Int} {xs:List Int} (hh:s.held o=xs++ [r]):sZ tab (s.give o r xs):=by
 have hn:=h.nodup o
 rw[hh,List.nodup_append]at hn
 have hr:r∉xs:=fun hm=>hn.2.2 r hm r (by simp) rfl
 have h1:s.holder r=some o:=(h.holds o r).1 (by rw[hh];simp)
 refine⟨fun o' ho=>?_,fun o' y hy q hq=>?_,fun o'=>?_,fun o' q=>?_⟩
 ·simp only[di.give,iE]
  split
  ·rename_i e;subst e;have:=h.off _ ho;rw[hh]at this;simp at this
  ·exact h.off o' ho
 ·simp only[di.give,iE]at hq
  split at hq
  ·rename_i e;subst e;exact h.own _ _ hy q (by rw[hh];simp[hq])
  ·exact h.own o' y hy q hq
 ·simp only[di.give,iE]
  split
  ·exact hn.1
  ·exact h.nodup o'
 ·simp only[di.give,iE]
  by_cases hq:q=r
  ·subst hq
   rw[if_pos rfl]
   split
   ·simp[hr]
   ·rename_i e
    simp only[reduceCtorEq,iff_false]
    intro hm
    rw[(h.holds o' q).1 hm]at h1
    cases h1
    exact e rfl
  ·rw[if_neg hq]
   split
   ·rename_i e;subst e
    rw[←h.holds,hh]
    simp[hq]
   ·exact h.holds o' q
theorem sZ.drop {tab:kR} {s:di} (h:sZ tab s) (o:bK):sZ tab (s.drop o):=by
 refine⟨fun o' ho=>?_,fun o' y hy q hq=>?_,fun o'=>?_,fun o' q=>?_⟩
 ·simp only[di.drop,iE]
  split
  ·rfl
  ·exact h.off o' ho
 ·simp only[di.drop,iE]at hq
  split at hq
  ·simp at hq
  ·exact h.own o' y hy q hq
 ·simp only[di.drop,iE]
  split
  ·simp
  ·exact h.nodup o'
 ·simp only[di.drop,iE]
  by_cases hq:q∈s.held o
  ·rw[if_pos hq]
   split
   ·simp
   ·rename_i e
    simp only[reduceCtorEq,iff_false]
    intro hm
    have h1:=(h.holds o q).1 hq
    rw[(h.holds o' q).1 hm]at h1
    cases h1
    exact e rfl
  ·rw[if_neg hq]
   split
   ·rename_i e;subst e
    rw[←h.holds]
    simp[hq]
   ·exact h.holds o' q
theorem sZ.iC {tab:kR} {s:di} (h:sZ tab s) (o:bK):sZ tab (s.iC o):=by
 unfold di.iC
 split
 ·exact h
 ·exact h.drop o
theorem sZ.enter {tab:kR} {s:di} (h:sZ tab s) (f:Int→Bool):sZ tab {s with entered:=f}:=⟨h.off,h.own,h.nodup,h.holds⟩
theorem DT (f:Int→Int):∀(l:List Int) (a:Int),a≤l.foldr (fun r p=>max p (f r)) a
 | [],a=>Int.le_refl _
 |r::l,a=>by have:=DT f l a;simp only[List.foldr_cons];omega
theorem QQ {tab:kR} {s:di} {o:bK} {x:mD} (hx:tab.rows o=some x):x.aI≤tab.aI s o:=by
 unfold kR.aI
 rw[hx]
 simp only
 have:=DT (fun r=>tab.fE.getD r.toNat 0) (s.held o) x.aI
 split<;>omega
structure ah.Ok (T:ah):Prop where
 n1:1≤T.ay.length
 n2:T.ay.length≤256
 rs:T.rings=Ar T.ay
 pr:∀k∈T.ay,0≤k.aI∧k.aI≤63
 lm:∀k∈T.ay,1≤k.limit∧k.limit≤255
 ex:∀k∈T.ay,k.mask≠0→k.limit=1
theorem pK (l:List dn):∀(n:Nat) (x:kS),x∈iP l n↔∃i,i<n∧0<kJ l (63-i)∧x=⟨63-i,kJ l (63-i)⟩
 |0,x=>by simp[iP]
 |n+1,x=>by
  rw[iP,List.mem_append,pK l n x]
  constructor
  ·rintro(⟨i,h1,h2⟩|h)
   ·exact⟨i,by omega,h2⟩
   ·split at h
    ·rename_i hp;simp at h;exact⟨n,by omega,hp,h⟩
    ·simp at h
  ·rintro⟨i,h1,h2,h3⟩
   by_cases e:i=n
   ·subst e;right;rw[if_pos h2,h3];simp
   ·left;exact⟨i,by omega,h2,h3⟩
theorem Eu (l:List dn):∀(n:Nat),(iP l n).Pairwise (fun x y=>y.aI<x.aI)
 |0=>by simp[iP]
 |n+1=>by
  rw[iP,List.pairwise_append]
  refine⟨Eu l n,?_,?_⟩
  ·split<;>simp
  ·intro x hx y hy
   obtain⟨i,h1,_,rfl⟩:=(pK l n x).1 hx
   split at hy
   ·simp at hy;subst hy;simp only;omega
   ·simp at hy
theorem Ji {l:List dn} (hl:∀k∈l,1≤k.limit) {k:dn} (hk:k∈l):0<kJ l k.aI:=by
 unfold kJ
 have key:∀(l:List dn),(∀k∈l,1≤k.limit)→0≤(l.map fun y:dn=>if y.aI=k.aI then y.limit else 0).sum:=by
  intro l
  induction l with
  |nil=>intro _;simp
  |cons y r ih=>
   intro h
   have h1:=h y (by simp)
   have h2:=ih fun z hz=>h z (by simp[hz])
   simp only[List.map_cons,List.sum_cons]
   split<;>omega
 induction l with
 |nil=>simp at hk
 |cons y r ih=>
  have h1:=hl y (by simp)
  have h3:=key r fun z hz=>hl z (by simp[hz])
  simp only[List.map_cons,List.sum_cons]
  rcases List.mem_cons.1 hk with rfl|hk
  ·rw[if_pos rfl];omega
  ·have:=ih (fun z hz=>hl z (by simp[hz])) hk
   split<;>omega
theorem MM {l:List dn} (hl:∀k∈l,0≤k.limit∧k.limit≤255) (p:Int):kJ l p≤255*l.length:=by
 unfold kJ
 induction l with
 |nil=>simp
 |cons y r ih=>
  have h1:=hl y (by simp)
  have h2:=ih fun z hz=>hl z (by simp[hz])
  simp only[List.map_cons,List.sum_cons,List.length_cons]
  split<;>omega
theorem ah.Ok.rows {T:ah} (h:T.Ok):xK T.rings:=by
 rw[h.rs]
 refine⟨Eu _ _,fun x hx=>?_⟩
 obtain⟨i,h1,h2,rfl⟩:=(pK _ _ x).1 hx
 have:=MM (l:=T.ay) (fun k hk=>⟨by have:=h.lm k hk;omega,(h.lm k hk).2⟩) (63-i)
 have:=h.n2
 refine⟨?_,?_,?_,?_⟩<;>simp only<;>omega
theorem Hg:∀(l:List kS) (q:dC) (p:Nat) (v:Option (iI Int)),(∀y∈l,y.aI.toNat≠p)→q[p]? =some v→(l.foldl (fun q x=>List.set q x.aI.toNat (some x.ring)) q)[p]? =some v
 | [],_,_,_,_,h=>h
 |y::l,q,p,v,hn,h=>Hg l _ p v (fun z hz=>hn z (by simp[hz])) (by rw[List.getElem?_set_ne (hn y (by simp))];exact h)
theorem IK:∀(l:List kS) (q:dC),q.length=64→l.Pairwise (fun x y=>y.aI<x.aI)→(∀x∈l,0≤x.aI∧x.aI≤63)→∀x∈l,(l.foldl (fun q x=>List.set q x.aI.toNat (some x.ring)) q)[x.aI.toNat]? =some (some x.ring)
 | [],_,_,_,_,x,hx=>by simp at hx
 |y::l,q,hq,hp,hb,x,hx=>by
  rw[List.pairwise_cons]at hp
  have hy:=hb y (by simp)
  rcases List.mem_cons.1 hx with rfl|hx
  ·refine Hg l _ _ _ (fun z hz=>?_) (List.getElem?_set_self (by omega))
   have:=hp.1 z hz
   have:=hb z (by simp[hz])
   omega
  ·exact IK l _ (by simpa using hq) hp.2 (fun z hz=>hb z (by simp[hz])) x hx
theorem Ol (l:List kS) (h:xK l) (x:kS) (hx:x∈l):(tu l)[x.aI.toNat]? =some (some x.ring):=
 IK l _ (by simp) h.desc (fun x hx=>⟨(h.bound x hx).1,(h.bound x hx).2.1⟩) x hx
theorem Bf (l:List kS) (p:Nat) (g:iI Int) (h:(tu l)[p]? =some (some g)):g.items= []:=by
 have key:∀(l:List kS) (q:dC),(∀g,q[p]? =some (some g)→g.items= [])→∀g,(l.foldl (fun q x=>List.set q x.aI.toNat (some x.ring)) q)[p]? =some (some g)→g.items= []:=by
  intro l
  induction l with
  |nil=>intro q h;exact h
  |cons y l ih=>
   intro q hq
   refine ih _ fun g hg=>?_
   by_cases e:y.aI.toNat=p
   ·subst e
    rw[List.getElem?_set]at hg
    simp at hg
    rw[←hg.2];rfl
   ·rw[List.getElem?_set_ne e]at hg
    exact hq g hg
 exact key l _ (fun g hg=>by rw[List.getElem?_replicate]at hg;split at hg<;>simp at hg) g h
theorem ah.Ok.ring {T:ah} (h:T.Ok) {k:dn} (hk:k∈T.ay):(tu T.rings)[k.aI.toNat]? =some (some ⟨(kJ T.ay k.aI).toNat, []⟩):=by
 have h1:=h.pr k hk
 have h2:(⟨k.aI,kJ T.ay k.aI⟩:kS)∈T.rings:=by
  rw[h.rs]
  refine(pK _ _ _).2 ⟨(63-k.aI).toNat,by omega,?_,?_⟩
  ·have e:(63:Int)-((63-k.aI).toNat:Nat)=k.aI:=by omega
   rw[e]
   exact Ji (fun z hz=>(h.lm z hz).1) hk
  ·have e:(63:Int)-((63-k.aI).toNat:Nat)=k.aI:=by omega
   rw[e]
 exact Ol _ h.rows _ h2
section
structure qO (k:dn) (x:eY):Prop where
 lim:x.limit=k.limit
 ext:x.extended= !decide (k.mask=0)
 a0:0≤x.bI
 a1:x.bI≤x.limit
 st:x.state=0∨x.state=1∨x.state=2∨x.state=3
 sus:x.state=3↔x.bI=0
 wt:x.state=1→k.mask≠0
structure Iy (T:ah) (ts:List eY) (r:Int):Prop where
 len:ts.length=T.ay.length
 each:∀(i:Nat) x k,ts[i]? =some x→T.ay[i]? =some k→qO k x
 run:∀(i:Nat) x,ts[i]? =some x→(x.state=0↔r=(i:Int))
 rng:r= -1∨∃i:Nat,i<T.ay.length∧r=i
structure DV (T:ah) (ts:List eY) (ev:List EvS):Prop where
 len:ev.length=T.ay.length
 mask:∀(i:Nat) e k,ev[i]? =some e→T.ay[i]? =some k→e.mask=k.mask
 wait:∀(i:Nat) e x,ev[i]? =some e→ts[i]? =some x→(e.waiting=true↔x.state=1)
def eY.out (x:eY) (i:Nat) (before:List Int):Int:=if x.state=0∨x.state=1∨(i:Int)∈before then 1 else 0
structure Aw (T:ah) (ts:List eY) (before:List Int) (q:dC):Prop where
 shape:q.map (Option.map (·.room))=(tu T.rings).map (Option.map (·.room))
 ids:∀(p:Nat) g,q[p]? =some (some g)→∀x∈g.items,∃j k,x=((j:Nat):Int)∧T.ay[j]? =some k∧k.aI.toNat=p
 cnt:∀(j:Nat) x k g,ts[j]? =some x→T.ay[j]? =some k→q[k.aI.toNat]? =some (some g)→(g.items.count (j:Int):Int)=x.bI-x.out j before
def BInv (ts:List eY) (before:List Int):Prop:=∀b∈before,∃j x,b=((j:Nat):Int)∧ts[j]? =some x∧x.state=2
def az.line (s:az):List Int:=s.before++(if s.tk.running= -1 then [] else[s.tk.running])
def qm (T:ah) (lock:di) (l:List Int):Prop:=l.Pairwise fun a b=>T.eU.aI lock (oL a)<T.Bg b
structure bD (T:ah) (s:az):Prop where
 t:Iy T s.tk.ay s.tk.running
 e:DV T s.tk.ay s.ev
 q:Aw T s.tk.ay s.before s.q
 b:BInv s.tk.ay s.before
 rise:qm T s.lock s.line
 lv:0≤s.leaving∧s.leaving≤5∧(s.leaving≠0→s.tk.running≠ -1)∧(s.leaving=3→T.vz s.tk.running≠0)
 lk:sZ T.eU s.lock
variable {T:ah}
theorem Iy.row {ts:List eY} {r:Int} (h:Iy T ts r) {i:Nat} {x:eY} (hx:ts[i]? =some x):∃k,T.ay[i]? =some k:=by
 have:=(List.getElem?_eq_some_iff.1 hx).1
 rw[h.len]at this
 exact⟨_,List.getElem?_eq_getElem this⟩
theorem Iy.one {ts:List eY} {r:Int} (h:Iy T ts r) {i:Nat} {k:dn} (hk:T.ay[i]? =some k):∃x,ts[i]? =some x:=by
 have:=(List.getElem?_eq_some_iff.1 hk).1
 rw[←h.len]at this
 exact⟨_,List.getElem?_eq_getElem this⟩
theorem jP {α:Type} {l:List α} {n:Nat} {y:α} {i:Nat} {x:α} (h:(l.set n y)[i]? =some x):(i=n∧x=y∧n<l.length)∨(i≠n∧l[i]? =some x):=by
 by_cases e:i=n
 ·subst e
  rw[List.getElem?_set]at h
  simp at h
  exact .inl ⟨rfl,h.2.symm,h.1⟩
 ·rw[List.getElem?_set_ne (by omega)]at h
  exact .inr ⟨e,h⟩
theorem Iy.set {ts:List eY} {r r':Int} {n:Nat} {k:dn} {y:eY} (h:Iy T ts r) (hk:T.ay[n]? =some k) (hy:qO k y)
 (hr:y.state=0↔r'=(n:Int)) (ho:∀i:Nat,i≠n→(r=(i:Int)↔r'=(i:Int))) (hg:r'= -1∨∃i:Nat,i<T.ay.length∧r'=i):Iy T (ts.set n y) r':=by
 refine⟨by simpa using h.len,fun i x k' hx hk'=>?_,fun i x hx=>?_,hg⟩
 ·rcases jP hx with⟨rfl,rfl,_⟩|⟨hi,hx⟩
  ·rw[hk]at hk';cases hk';exact hy
  ·exact h.each i x k' hx hk'
 ·rcases jP hx with⟨rfl,rfl,_⟩|⟨hi,hx⟩
  ·exact hr
  ·rw[h.run i x hx];exact ho i hi
theorem DV.set {ts:List eY} {ev:List EvS} {n:Nat} {x y:eY} (h:DV T ts ev) (hx:ts[n]? =some x) (hy:y.state=1↔x.state=1):DV T (ts.set n y) ev:=by
 refine⟨h.len,h.mask,fun i e z he hz=>?_⟩
 rcases jP hz with⟨rfl,rfl,_⟩|⟨hi,hz⟩
 ·rw[h.wait i e x he hx,hy]
 ·exact h.wait i e z he hz
theorem DV.U3 {ts:List eY} {ev:List EvS} {n:Nat} {y:eY} {e e':EvS} (h:DV T ts ev) (he:ev[n]? =some e) (hm:e'.mask=e.mask) (hw:e'.waiting=true↔y.state=1):DV T (ts.set n y) (ev.set n e'):=by
 refine⟨by simpa using h.len,fun i d k hd hk=>?_,fun i d z hd hz=>?_⟩
 ·rcases jP hd with⟨rfl,rfl,_⟩|⟨hi,hd⟩
  ·rw[hm];exact h.mask i e k he hk
  ·exact h.mask i d k hd hk
 ·rcases jP hd with⟨rfl,rfl,_⟩|⟨hi,hd⟩
  ·rcases jP hz with⟨_,rfl,_⟩|⟨hi,_⟩
   ·exact hw
   ·exact absurd rfl hi
  ·rcases jP hz with⟨rfl,_,_⟩|⟨_,hz⟩
   ·exact absurd rfl hi
   ·exact h.wait i d z hd hz
theorem DV.ev {ts:List eY} {ev:List EvS} {n:Nat} {e e':EvS} (h:DV T ts ev) (he:ev[n]? =some e) (hm:e'.mask=e.mask) (hw:e'.waiting=e.waiting):DV T ts (ev.set n e'):=by
 refine⟨by simpa using h.len,fun i d k hd hk=>?_,fun i d z hd hz=>?_⟩
 ·rcases jP hd with⟨rfl,rfl,_⟩|⟨hi,hd⟩
  ·rw[hm];exact h.mask i e k he hk
  ·exact h.mask i d k hd hk
 ·rcases jP hd with⟨rfl,rfl,_⟩|⟨hi,hd⟩
  ·rw[hw];exact h.wait i e z he hz
  ·exact h.wait i d z hd hz
theorem DV.fresh {ts:List eY} {ev:List EvS} {n:Nat} {y x:eY} {r:Int} (ht:Iy T ts r) (h:DV T ts ev) (hx:ts[n]? =some x) (hs:x.state≠1) (hy:y.state≠1):DV T (ts.set n y) (nM ev n):=by
 unfold nM
 have hn:n<ev.length:=by rw[h.len,←ht.len];exact(List.getElem?_eq_some_iff.1 hx).1
 rw[List.getElem?_eq_getElem hn]
 simp only
 split
 ·exact h.set hx (by simp[hs,hy])
 ·exact h.U3 (List.getElem?_eq_getElem hn) rfl (by simp[EvS.fresh,hy])
theorem BInv.set {ts:List eY} {before:List Int} {n:Nat} {y:eY} (h:BInv ts before) (hy:(n:Int)∈before→y.state=2):BInv (ts.set n y) before:=by
 intro b hb
 obtain⟨j,x,rfl,hx,hs⟩:=h b hb
 by_cases e:j=n
 ·subst e
  exact⟨j,y,rfl,by rw[List.getElem?_set_self (List.getElem?_eq_some_iff.1 hx).1],hy hb⟩
 ·exact⟨j,x,rfl,by rw[List.getElem?_set_ne (by omega)];exact hx,hs⟩
theorem Aw.keep {ts:List eY} {b b':List Int} {q:dC} {n:Nat} {x y:eY} (h:Aw T ts b q) (hx:ts[n]? =some x) (hb:∀j:Nat,j≠n→((j:Int)∈b'↔(j:Int)∈b))
 (hy:y.bI-y.out n b'=x.bI-x.out n b):Aw T (ts.set n y) b' q:=by
 refine⟨h.shape,h.ids,fun j z k g hz hk hg=>?_⟩
 rcases jP hz with⟨rfl,rfl,_⟩|⟨hi,hz⟩
 ·rw[hy];exact h.cnt j x k g hx hk hg
 ·have:=h.cnt j z k g hz hk hg
  rw[this]
  unfold eY.out
  simp only[hb j hi]
theorem Jk {q:dC} {p:Nat} {g:iI Int} {l:List Int} (hq:q[p]? =some (some g)):(q.set p (some {g with items:=l})).map (Option.map (·.room))=q.map (Option.map (·.room)):=by
 have hl:=(List.getElem?_eq_some_iff.1 hq).1
 apply List.ext_getElem?
 intro i
 rw[List.getElem?_map,List.getElem?_map]
 by_cases e:i=p
 ·subst e
  rw[List.getElem?_set_self hl,hq]
  rfl
 ·rw[List.getElem?_set_ne (by omega)]
theorem Aw.nP {ts:List eY} {b:List Int} {q:dC} (hT:T.Ok) (h:Aw T ts b q) {k:dn} (hk:k∈T.ay):∃g,q[k.aI.toNat]? =some (some g)∧g.room=(kJ T.ay k.aI).toNat:=by
 have h1:=hT.ring hk
 have h2:((tu T.rings).map (Option.map (·.room)))[k.aI.toNat]? =some (some (kJ T.ay k.aI).toNat):=by rw[List.getElem?_map,h1];rfl
 rw[←h.shape,List.getElem?_map]at h2
 cases hq:q[k.aI.toNat]? with
 |none=>rw[hq]at h2;cases h2
 |some o=>
  rw[hq]at h2
  cases o with
  |none=>simp at h2
  |some g=>simp at h2;exact⟨g,rfl,h2⟩
theorem Aw.join {ts:List eY} {b:List Int} {q:dC} {n:Nat} {x y:eY} {k:dn} (hT:T.Ok) (h:Aw T ts b q) (hx:ts[n]? =some x) (hk:T.ay[n]? =some k)
 (hy:y.bI-y.out n b=x.bI-x.out n b+1):Aw T (ts.set n y) b (T.join q n):=by
 obtain⟨g,hg,hroom⟩:=h.nP hT (List.mem_of_getElem? hk)
 have hl:=(List.getElem?_eq_some_iff.1 hg).1
 have e:T.join q n=q.set k.aI.toNat (some {g with items:=g.items++ [(n:Int)]}):=by
  unfold ah.join dC.join;rw[hk];simp only;rw[hg]
 rw[e]
 refine⟨by rw[Jk hg];exact h.shape,fun p g' hp z hz=>?_,fun j z k' g' hz hk' hg'=>?_⟩
 ·rcases jP hp with⟨rfl,e2,_⟩|⟨_,hp⟩
  ·cases e2
   simp only[List.mem_append,List.mem_singleton]at hz
   rcases hz with hz|rfl
   ·exact h.ids _ g hg z hz
   ·exact⟨n,k,rfl,hk,rfl⟩
  ·exact h.ids p g' hp z hz
 ·rcases jP hg' with⟨e3,e2,_⟩|⟨hne,hg'⟩
  ·cases e2
   simp only[List.count_append,List.count_singleton]
   rcases jP hz with⟨rfl,rfl,_⟩|⟨hi,hz⟩
   ·have:=h.cnt j x k g hx hk hg
    simp;omega
   ·rw[←e3]at hg
    have:=h.cnt j z k' g hz hk' hg
    have hne:¬((n:Int)=(j:Int)):=by omega
    simp[hne];omega
  ·rcases jP hz with⟨rfl,rfl,_⟩|⟨hi,hz⟩
   ·rw[hk]at hk';cases hk';exact absurd rfl hne
   ·exact h.cnt j z k' g' hz hk' hg'
theorem Aw.take {ts:List eY} {b:List Int} {q:dC} {n p:Nat} {x y:eY} {k:dn} {g:iI Int} {xs:List Int} (h:Aw T ts b q) (hx:ts[n]? =some x) (hk:T.ay[n]? =some k)
 (hg:q[p]? =some (some g)) (hi:g.items=(n:Int)::xs) (hy:y.bI-y.out n b=x.bI-x.out n b-1):Aw T (ts.set n y) b (q.set p (some {g with items:=xs})):=by
 have hkp:k.aI.toNat=p:=by
  obtain⟨j,k',e,hk',hp⟩:=h.ids p g hg (n:Int) (by rw[hi];simp)
  have:n=j:=by omega
  subst this
  rw[hk]at hk';cases hk'
  exact hp
 refine⟨by rw[Jk hg];exact h.shape,fun p' g' hp z hz=>?_,fun j z k' g' hz hk' hg'=>?_⟩
 ·rcases jP hp with⟨rfl,e2,_⟩|⟨_,hp⟩
  ·cases e2
   exact h.ids _ g hg z (by rw[hi];exact List.mem_cons_of_mem _ hz)
  ·exact h.ids p' g' hp z hz
 ·rcases jP hg' with⟨e3,e2,_⟩|⟨hne,hg'⟩
  ·cases e2
   simp only
   rcases jP hz with⟨rfl,rfl,_⟩|⟨hij,hz⟩
   ·have:=h.cnt j x k g hx hk (by rw[hkp];exact hg)
    rw[hi,List.count_cons_self]at this
    push_cast at this
    omega
   ·have:=h.cnt j z k' g hz hk' (by rw[e3];exact hg)
    rw[hi,List.count_cons_of_ne (by omega)]at this
    exact this
  ·rcases jP hz with⟨rfl,rfl,_⟩|⟨hij,hz⟩
   ·rw[hk]at hk';cases hk';exact absurd hkp hne
   ·exact h.cnt j z k' g' hz hk' hg'
theorem Aw.room {ts:List eY} {b:List Int} {r:Int} {q:dC} {n:Nat} {x:eY} {k:dn} {g:iI Int} (hT:T.Ok) (ht:Iy T ts r) (h:Aw T ts b q) (hx:ts[n]? =some x) (hk:T.ay[n]? =some k)
 (hg:q[k.aI.toNat]? =some (some g)) (hlt:x.bI-x.out n b<k.limit):g.items.length<g.room:=by
 obtain⟨g',hg',hroom⟩:=h.nP hT (List.mem_of_getElem? hk)
 rw[hg]at hg';cases hg'
 have hkp:=hT.pr k (List.mem_of_getElem? hk)
 have e0:((k.aI.toNat:Nat):Int)=k.aI:=by omega
 have h1:=IR (T:=T) (p:=k.aI.toNat) (l:=(n:Int)::g.items) (fun z hz=>by
  rcases List.mem_cons.1 hz with rfl|hz
  ·exact⟨n,k,rfl,hk,rfl⟩
  ·exact h.ids _ g hg z hz) (fun k hk=>(hT.pr k hk).1) (fun j k' hk' hp=>by
   obtain⟨z,hz⟩:=ht.one hk'
   have hc:=h.cnt j z k' g hz hk' (by rw[hp];exact hg)
   have hti:=ht.each j z k' hz hk'
   by_cases hj:j=n
   ·subst hj
    rw[hx]at hz;cases hz
    rw[hk]at hk';cases hk'
    rw[List.count_cons_self];push_cast;omega
   ·rw[List.count_cons_of_ne (by omega),hc]
    have:=hti.a1
    rw[hti.lim]at this
    unfold eY.out
    split<;>omega) (fun k hk=>by have:=hT.lm k hk;omega)
 rw[e0]at h1
 simp only[List.length_cons]at h1
 omega
end
section
variable {T:ah} {s:az}
theorem ah.Af {n:Nat} {k:dn} (h:T.ay[n]? =some k):T.eU.rows (oL n)=some k.vU:=by
 show T.AP (oL n)=_
 unfold ah.AP oL
 simp only
 rw[if_neg (by omega)]
 simp[h]
theorem ah.uX {n:Nat} {k:dn} (h:T.ay[n]? =some k):T.Bg n=k.aI:=by unfold ah.Bg;rw[Int.toNat_natCast,h]
theorem ah.sF {n:Nat} {k:dn} (h:T.ay[n]? =some k):T.vz n=k.mask:=by unfold ah.vz;rw[Int.toNat_natCast,h]
theorem bD.BG (h:bD T s) {n:Nat} {x:eY} (hx:s.tk.ay[n]? =some x) (hs:x.state≠2):(n:Int)∉s.before:=by
 intro hb
 obtain⟨j,y,e,hy,h2⟩:=h.b _ hb
 have:n=j:=by omega
 subst this
 rw[hx]at hy;cases hy
 exact hs h2
theorem bD.init (hT:T.Ok):bD T T.mP:=by
 refine⟨⟨by simp[ah.mP],fun i x k hx hk=>?_,fun i x hx=>?_,.inl rfl⟩,⟨by simp[ah.mP],fun i e k he hk=>?_,fun i e x he hx=>?_⟩,⟨rfl,fun p g hg x hx=>?_,fun j x k g hx hk hg=>?_⟩,fun b hb=>by simp[ah.mP]at hb,by simp[ah.mP,az.line,qm],by simp[ah.mP],sZ.fresh _⟩
 ·simp only[ah.mP,List.getElem?_map,hk,Option.map_some,Option.some.injEq]at hx
  subst hx
  have:=hT.lm k (List.mem_of_getElem? hk)
  exact⟨rfl,rfl,Int.le_refl _,by simp[vS.one];omega,by simp[vS.one],by simp[vS.one],by simp[vS.one]⟩
 ·simp only[ah.mP,List.getElem?_map,Option.map_eq_some_iff]at hx
  obtain⟨k,_,rfl⟩:=hx
  simp[vS.one,ah.mP]
 ·simp only[ah.mP,List.getElem?_map,hk,Option.map_some,Option.some.injEq]at he
  subst he;rfl
 ·simp only[ah.mP,List.getElem?_map,Option.map_eq_some_iff]at he hx
  obtain⟨k,_,rfl⟩:=he
  obtain⟨k',_,rfl⟩:=hx
  simp[vS.one]
 ·have:=Bf T.rings p g hg
  rw[this]at hx;simp at hx
 ·have:=Bf T.rings k.aI.toNat g hg
  rw[this]
  simp only[ah.mP,List.getElem?_map,hk,Option.map_some,Option.some.injEq]at hx
  subst hx
  simp[vS.one,eY.out,ah.mP]
theorem bD.dB (hT:T.Ok) (h:bD T s) (n:Int):bD T (s.dB T n).1:=by
 unfold az.dB
 split
 ·exact h
 rename_i hn
 obtain⟨m,rfl⟩:∃m:Nat,n=m:=⟨n.toNat,by omega⟩
 rw[Int.toNat_natCast]
 cases hx:s.tk.ay[m]? with
 |none=>exact h
 |some x=>
  simp only
  split
  ·exact h
  rename_i hlim
  obtain⟨k,hk⟩:=h.t.row hx
  have hi:=h.t.each m x k hx hk
  have hrun:=h.t.run m x hx
  have hst:=hi.st
  have aer:=hi.sus
  have hy:x.more.state=0↔x.state=0:=by
   show(if x.state=3 then(2:Int) else x.state)=0↔_
   split<;>omega
  have hy1:x.more.state=1↔x.state=1:=by
   show(if x.state=3 then(2:Int) else x.state)=1↔_
   split<;>omega
  have hy2:x.more.state=2↔x.state=2∨x.state=3:=by
   show(if x.state=3 then(2:Int) else x.state)=2↔_
   split<;>omega
  have hti:qO k x.more:=⟨hi.lim,hi.ext,by have:=hi.a0;show 0≤x.bI+1;omega,by show x.bI+1≤x.limit;omega,
   by show(if x.state=3 then(2:Int) else x.state)=0∨_;split<;>omega,
   by show(if x.state=3 then(2:Int) else x.state)=3↔x.bI+1=0
      have:=hi.a0
      split<;>omega,fun e=>hi.wt (hy1.1 e)⟩
  refine⟨h.t.set hk hti (hy.trans hrun) (fun i hi=>Iff.rfl) h.t.rng,?_,?_,?_,h.rise,h.lv,h.lk⟩
  ·split
   ·rename_i h3
    exact h.e.fresh h.t hx (by omega) (by rw[Ne,hy1];omega)
   ·exact h.e.set hx hy1
  ·refine h.q.join hT hx hk ?_
   show x.bI+1-x.more.out m s.before=_
   unfold eY.out
   simp only[hy,hy1]
   by_cases h3:x.state=3
   ·have hb:=h.BG hx (by omega)
    simp[hb];omega
   ·split<;>omega
  ·refine h.b.set fun hb=>?_
   obtain⟨j,z,e,hz,h2⟩:=h.b _ hb
   have:m=j:=by omega
   subst this
   rw[hx]at hz;cases hz
   exact hy2.2 (.inl h2)
theorem bD.running (h:bD T s) (hr:s.tk.running≠ -1):∃(n:Nat) (x:eY) (k:dn),s.tk.running=n∧s.tk.ay[n]? =some x∧T.ay[n]? =some k∧x.state=0∧qO k x∧(n:Int)∉s.before:=by
 obtain⟨n,hn,e⟩:=h.t.rng.resolve_left hr
 have hk:=List.getElem?_eq_getElem hn
 obtain⟨x,hx⟩:=h.t.one hk
 have h0:x.state=0:=(h.t.run n x hx).2 e
 exact⟨n,x,_,e,hx,hk,h0,h.t.each n x _ hx hk,h.BG hx (by omega)⟩
theorem az.CY:s.me=true↔s.leaving=0∧0≤s.tk.running:=by unfold az.me;simp
theorem bD.leaves (h:bD T s) (hm:s.me=true) {i:Int} (h0:1≤i) (h5:i≤5) (h3:i≠3):bD T {s with leaving:=i}:=
 ⟨h.t,h.e,h.q,h.b,h.rise,⟨by show 0≤i;omega,h5,fun _=>by have:=(az.CY.1 hm).2;show s.tk.running≠ -1;omega,fun e=>absurd e h3⟩,h.lk⟩
theorem bD.gK (h:bD T s):bD T s.gK.1:=by
 unfold az.gK
 split
 ·exact h
 split
 ·exact h
 ·exact h.leaves (by simpa using ‹¬s.me=false›) (by decide) (by decide) (by decide)
theorem OM {n:Int}:(s.dB T n).1.me=s.me:=by
 unfold az.dB
 split
 ·rfl
 split
 ·rfl
 split<;>rfl
theorem bD.chain (hT:T.Ok) (h:bD T s) (n:Int):bD T (s.chain T n).1:=by
 unfold az.chain
 split
 ·exact h
 rename_i hme
 split
 ·exact h
 split
 ·exact h
 split
 ·exact h.leaves (by simpa using hme) (by decide) (by decide) (by decide)
 have h1:=h.dB hT n
 have h2:=OM (T:=T) (s:=s) (n:=n)
 generalize s.dB T n=p at*
 rcases p with⟨s',st⟩
 simp only at h1 h2⊢
 split
 ·exact h1.leaves (by rw[h2];simpa using hme) (by decide) (by decide) (by decide)
 ·exact h1
theorem bD.schedule (h:bD T s):bD T (s.schedule T).1:=by
 unfold az.schedule
 split
 ·exact h
 rename_i hme
 split
 ·exact h
 split
 ·split
  ·exact h.leaves (by simpa using hme) (by decide) (by decide) (by decide)
  ·exact h
 ·exact h
theorem qm.lock {lock lock':di} {l:List Int} (h:qm T lock l) (hp:∀a∈l.dropLast,T.eU.aI lock' (oL a)=T.eU.aI lock (oL a)):qm T lock' l:=by
 unfold qm at*
 induction l with
 |nil=>simp
 |cons a l ih=>
  rw[List.pairwise_cons]at h⊢
  cases l with
  |nil=>simp
  |cons b l=>
   rw[List.dropLast_cons_cons]at hp
   refine⟨fun c hc=>?_,ih h.2 fun c hc=>hp c (List.mem_cons_of_mem _ hc)⟩
   rw[hp a (by simp)]
   exact h.1 c hc
theorem AZ {tab:kR} {s s':di} {o:bK} (h1:s'.held o=s.held o) (h2:o.isr=false→s'.entered o.id=s.entered o.id):tab.aI s' o=tab.aI s o:=by
 unfold kR.aI
 cases tab.rows o with
 |none=>rfl
 |some x=>
  simp only[h1]
  cases hi:o.isr with
  |true=>simp
  |false=>rw[h2 hi]
theorem bD.Og (h:bD T s):∀a∈s.line.dropLast,a∈s.before:=by
 intro a ha
 unfold az.line at ha
 split at ha
 ·rw[List.append_nil]at ha;exact List.dropLast_subset _ ha
 ·rw[List.dropLast_concat]at ha;exact ha
theorem bD.turn (h:bD T s) {lock:di} {o:bK} (hl:sZ T.eU lock) (ho:∀b∈s.before,oL b≠o) (h1:∀o',o'≠o→lock.held o'=s.lock.held o') (h2:lock.entered=s.lock.entered):bD T {s with lock:=lock}:=
 ⟨h.t,h.e,h.q,h.b,h.rise.lock fun a ha=>AZ (h1 _ (ho a (h.Og a ha))) (fun _=>by rw[h2]),h.lv,hl⟩
theorem di.CB (s:di) (o o':bK) (h:o'≠o):(s.iC o).held o'=s.held o':=by
 unfold di.iC
 split
 ·rfl
 ·simp[di.drop,iE,h]
theorem di.yO (s:di) (o:bK):(s.iC o).entered=s.entered:=by
 unfold di.iC
 split<;>rfl
theorem bD.Aq (h:bD T s) (hr:s.tk.running≠ -1):∀b∈s.before,oL b≠oL s.tk.running:=by
 obtain⟨n,x,k,e,_,_,_,_,hb⟩:=h.running hr
 intro b hm he
 unfold oL at he
 injection he with _ he
 rw[he,e]at hm
 exact hb hm
theorem bD.oQ (h:bD T s):bD T s.oQ.1:=by
 unfold az.oQ
 split
 ·exact h
 rename_i hme
 have hme:s.me=true:=by simpa using hme
 have hr:=(az.CY.1 hme).2
 exact(h.turn (h.lk.iC _) (h.Aq (by omega)) (fun o' ho=>s.lock.CB _ o' ho) (s.lock.yO _)).leaves (s:={s with lock:=_}) hme (by decide) (by decide) (by decide)
def az.acts (s:az) (o:bK):Prop:=∀b∈s.before,oL b≠o
theorem az.CW (i:Int):s.acts ⟨true,i⟩:=fun b _ e=>by simp[oL]at e
theorem bD.get (h:bD T s) {o:bK} (ho:s.acts o) (r:Int):bD T (s.get T o r).1:=by
 unfold az.get
 split
 ·exact h
 split
 ·rename_i x hx
  split
  ·rename_i hf
   exact h.turn (h.lk.take hx hf) ho (fun o' ho'=>by simp[di.take,iE,ho']) rfl
  ·exact h
 ·exact h
theorem ni {l:List Int} {r:Int} (h:l.getLast?=some r):l=l.dropLast++ [r]:=by
 have hne:l≠ []:=by rintro rfl;cases h
 rw[List.getLast?_eq_some_getLast hne]at h
 injection h with h
 rw[←h,List.dropLast_concat_getLast]
theorem bD.release (h:bD T s) {o:bK} (ho:s.acts o) (r:Int):bD T (s.release T o r).1:=by
 unfold az.release
 split
 ·exact h
 split
 ·rename_i hl
  exact h.turn (h.lk.give (ni hl)) ho (fun o' ho'=>by simp[di.give,iE,ho']) rfl
 ·exact h
theorem bD.drop (h:bD T s) {o:bK} (ho:s.acts o):bD T {s with lock:=s.lock.iC o}:=
 h.turn (h.lk.iC o) ho (fun o' ho'=>s.lock.CB o o' ho') (s.lock.yO o)
end
section
variable {T:ah} {s:az}
theorem EvS.Oh (x:EvS) (m:Int):(x.put m).mask=x.mask:=by unfold EvS.put;simp only;split<;>rfl
theorem EvS.IV {x:EvS} {m:Int} (h:x.woken m=true):x.waiting=true∧(x.put m).waiting=false:=by
 unfold EvS.woken at h
 simp only[Bool.not_eq_true',decide_eq_false_iff_not]at h
 unfold EvS.put
 simp only
 rw[if_neg h]
 refine⟨?_,rfl⟩
 cases hw:x.waiting with
 |true=>rfl
 |false=>exact absurd (.inl hw) h
theorem EvS.Wp {x:EvS} {m:Int} (h:x.woken m=false):(x.put m).waiting=x.waiting:=by
 unfold EvS.woken at h
 simp only[Bool.not_eq_false',decide_eq_true_eq]at h
 unfold EvS.put
 simp only
 rw[if_pos h]
theorem bD.aaz (h:bD T s) {n:Nat} {e e':EvS} (he:s.ev[n]? =some e) (hm:e'.mask=e.mask) (hw:e'.waiting=e.waiting):bD T {s with ev:=s.ev.set n e'}:=
 ⟨h.t,h.e.ev he hm hw,h.q,h.b,h.rise,h.lv,h.lk⟩
theorem az.Em {n:Int} (h:s.zL T n=0):∃(m:Nat) (k:dn) (x:eY),n=m∧T.ay[m]? =some k∧s.tk.ay[m]? =some x∧k.mask≠0∧x.state≠3:=by
 unfold az.zL at h
 split at h
 ·cases h
 rename_i hn
 obtain⟨m,rfl⟩:∃m:Nat,n=m:=⟨n.toNat,by omega⟩
 rw[Int.toNat_natCast]at h
 split at h
 ·rename_i k x hk hx
  split at h
  ·cases h
  split at h
  ·cases h
  exact⟨m,k,x,rfl,hk,hx, ‹_›, ‹_›⟩
 ·cases h
theorem bD.fA (hT:T.Ok) (h:bD T s) (n m:Int):bD T (s.fA T n m).1:=by
 unfold az.fA
 split
 ·rename_i hok
  obtain⟨j,k,x,rfl,hk,hx,hm,hs⟩:=az.Em hok
  rw[Int.toNat_natCast]
  rw[hx]
  split
  ·rename_i e y he hy
   cases hy
   split
   ·rename_i hw
    obtain⟨w1,w2⟩:=EvS.IV hw
    have h1:x.state=1:=(h.e.wait j e x he hx).1 w1
    have hi:=h.t.each j x k hx hk
    have hrun:=h.t.run j x hx
    have hb:=h.BG hx (by omega)
    refine⟨h.t.set hk ⟨hi.lim,hi.ext,hi.a0,hi.a1,by simp,by have:=hi.sus;simp;omega,by simp⟩ (by simp<;>omega) (fun i hi=>Iff.rfl) h.t.rng,
     h.e.U3 he (EvS.Oh _ _) (by simp[w2]),h.q.join hT hx hk (by simp[eY.out,h1,hb]<;>omega),h.b.set (fun hbb=>absurd hbb hb),h.rise,h.lv,h.lk⟩
   ·rename_i hw
    exact h.aaz he (EvS.Oh _ _) (EvS.Wp (by simpa using hw))
  ·exact h
 ·exact h
theorem bD.fF (h:bD T s) (m:Int):bD T (s.fF m).1:=by
 unfold az.fF
 split
 ·exact h
 split
 ·rename_i e he
  split
  ·exact h
  ·exact h.aaz he rfl rfl
 ·exact h
theorem bD.fM (h:bD T s) (m:Int):bD T (s.fM T m).1:=by
 unfold az.fM
 split
 ·exact h
 rename_i hme
 split
 ·exact h
 rename_i hmask
 split
 ·exact h
 split
 ·split
  ·have hme:s.me=true:=by simpa using hme
   have hr:=(az.CY.1 hme).2
   exact⟨h.t,h.e,h.q,h.b,h.rise,⟨by show(0:Int)≤3;decide,by show(3:Int)≤5;decide,fun _=>by show s.tk.running≠ -1;omega,fun _=>hmask⟩,h.lk⟩
  ·exact h
 ·exact h
theorem bD.jQ (h:bD T s):bD T s.jQ:=by
 unfold az.jQ
 split
 ·exact h.leaves ‹_› (by decide) (by decide) (by decide)
 ·exact h
theorem qm.left {lock:di} (h:bD T s) (hr:s.tk.running≠ -1) (hl:∀o',o'≠oL s.tk.running→lock.held o'=s.lock.held o'∧(o'.isr=false→lock.entered o'.id=s.lock.entered o'.id)):
 qm T lock (s.before++ [s.tk.running])∧qm T lock s.before:=by
 have h1:=h.rise
 unfold az.line at h1
 rw[if_neg hr]at h1
 have h2:qm T lock (s.before++ [s.tk.running]):=h1.lock fun a ha=>by
  rw[List.dropLast_concat]at ha
  have:=hl _ (h.Aq hr a ha)
  exact AZ this.1 this.2
 exact⟨h2,(List.pairwise_append.1 h2).1⟩
theorem bD.carry (hT:T.Ok) (h:bD T s) (hl:s.leaving≠0):bD T (s.carry T):=by
 have hr:=h.lv.2.2.1 hl
 obtain⟨n,x,k,e,hx,hk,hs,hi,hb⟩:=h.running hr
 unfold az.carry
 rw[e,Int.toNat_natCast]
 simp only
 rw[hx]
 simp only
 have hmn:=T.sF hk
 generalize hlk:(if s.leaving=4 then s.lock else {s.lock with entered:=iE s.lock.entered (n:Int) false})=lock
 have OW:sZ T.eU lock:=by rw[←hlk];split;exact h.lk;exact h.lk.enter _
 have hrise:=qm.left (lock:=lock) h hr (fun o' ho=>by
  rw[←hlk]
  split
  ·exact⟨rfl,fun _=>rfl⟩
  ·refine⟨rfl,fun hi=>?_⟩
   simp only[iE]
   rw[if_neg]
   intro e2
   apply ho
   rcases o' with⟨a,b⟩
   simp only at hi e2
   unfold oL
   rw[hi,e,e2])
 rw[e]at hrise
 have hother:∀i:Nat,i≠n→(s.tk.running=(i:Int)↔(-1:Int)=(i:Int)):=fun i hi=>by rw[e];omega
 have hl4:∀(ts:List eY) (q:dC) (ev:List EvS),({s with leaving:=0,lock:=lock,tk:=⟨ts,-1⟩,q:=q,ev:=ev}:az).line=s.before:=fun _ _ _=>by simp[az.line]
 have aer:=hi.sus
 have ha1:=hi.a1
 have ha0:=hi.a0
 split
 ·
  have hls:(x.less.state=3∧x.bI=1)∨(x.less.state=2∧x.bI≠1):=by
   show((if x.bI=1 then(3:Int) else 2)=3∧_)∨((if x.bI=1 then(3:Int) else 2)=2∧_)
   split<;>simp[*]
  have hla:x.less.bI=x.bI-1:=rfl
  have hy:qO k x.less:=⟨hi.lim,hi.ext,by omega,by show x.bI-1≤x.limit;omega,by omega,by omega,by omega⟩
  have hy0:x.less.state≠0∧x.less.state≠1:=by omega
  refine⟨h.t.set hk hy (by simp[hy0.1]) hother (.inl rfl),h.e.set hx (by have:=hy0.2;omega),h.q.keep hx (fun _ _=>Iff.rfl) ?_,h.b.set (fun hbb=>absurd hbb hb),?_,by simp,OW⟩
  ·show x.bI-1-_=_
   unfold eY.out
   simp[hy0.1,hy0.2,hb,hs]
  ·rw[show az.line _=s.before from hl4 _ _ _];exact hrise.2
 split
 ·
  have hy:qO k {x with state:=2}:=⟨hi.lim,hi.ext,hi.a0,hi.a1,by simp,by simp<;>omega,by simp⟩
  refine⟨h.t.set hk hy (by simp<;>omega) hother (.inl rfl),?_,h.q.join hT hx hk (by simp[eY.out,hs,hb]),h.b.set (fun hbb=>absurd hbb hb),?_,by simp,OW⟩
  ·simp only
   split
   ·exact h.e.set hx (by simp<;>omega)
   ·exact h.e.fresh h.t hx (by omega) (by simp)
  ·rw[show az.line _=s.before from hl4 _ _ _];exact hrise.2
 split
 ·
  rename_i h3
  have hmask:=h.lv.2.2.2 h3
  rw[e,hmn]at hmask
  split
  ·exact h
  rename_i d hd
  split
  ·have hy:qO k {x with state:=1}:=⟨hi.lim,hi.ext,hi.a0,hi.a1,by simp,by simp<;>omega,fun _=>hmask⟩
   refine⟨h.t.set hk hy (by simp<;>omega) hother (.inl rfl),h.e.U3 hd rfl (by simp),h.q.keep hx (fun _ _=>Iff.rfl) (by simp[eY.out,hs]),h.b.set (fun hbb=>absurd hbb hb),?_,by simp,OW⟩
   rw[show az.line _=s.before from hl4 _ _ _];exact hrise.2
  ·have hy:qO k {x with state:=2}:=⟨hi.lim,hi.ext,hi.a0,hi.a1,by simp,by simp<;>omega,by simp⟩
   refine⟨h.t.set hk hy (by simp<;>omega) hother (.inl rfl),h.e.set hx (by simp<;>omega),h.q.join hT hx hk (by simp[eY.out,hs,hb]),h.b.set (fun hbb=>absurd hbb hb),?_,by simp,OW⟩
   rw[show az.line _=s.before from hl4 _ _ _];exact hrise.2
 ·
  have hy:qO k {x with state:=2}:=⟨hi.lim,hi.ext,hi.a0,hi.a1,by simp,by simp<;>omega,by simp⟩
  refine⟨h.t.set hk hy (by simp<;>omega) hother (.inl rfl),h.e.set hx (by simp<;>omega),h.q.keep hx (fun j hj=>by simp<;>omega) (by simp[eY.out,hs]),?_,?_,by simp,OW⟩
  ·intro b hbm
   rcases List.mem_append.1 hbm with hbm|hbm
   ·exact(h.b.set (n:=n) (y:={x with state:=2}) (fun _=>rfl)) b hbm
   ·simp at hbm;subst hbm
    exact⟨n,_,rfl,by rw[List.getElem?_set_self (List.getElem?_eq_some_iff.1 hx).1],rfl⟩
  ·show qm T lock (az.line _)
   simp only[az.line,if_true,List.append_nil]
   exact hrise.1
end
section
variable {T:ah} {s:az}
theorem Aw.len {ts:List eY} {b:List Int} {q:dC} (h:Aw T ts b q):q.length=64:=by
 have:=congrArg List.length h.shape
 rw[List.length_map,List.length_map,U6]at this
 exact this
theorem dC.rZ {q:dC} {p:Nat} (hl:q.length=64) (h:q.high=some p):q.YT p:=by
 rcases q.VL with hi|⟨p',hp⟩
 ·rw[dC.TE hi]at h;cases h
 ·rw[dC.Nu hl hp]at h;cases h;exact hp
theorem dC.DF {q:dC} (hl:q.length=64) (h:q.high=none):q.Idle:=by
 rcases q.VL with hi|⟨p',hp⟩
 ·exact hi
 ·rw[dC.Nu hl hp]at h;cases h
theorem dC.YT.ring {q:dC} {p:Nat} (h:q.YT p):∃g x xs,q[p]? =some (some g)∧g.items=x::xs:=by
 have h1:=h.1
 unfold dC.busy at h1
 split at h1
 ·rename_i g hg
  cases hi:g.items with
  |nil=>rw[hi]at h1;cases h1
  |cons x xs=>exact⟨g,x,xs,hg,hi⟩
 ·cases h1
theorem qm.below {lock:di} {l:List Int} {n:Int} (h:qm T lock (l++ [n])):∀a∈l,T.eU.aI lock (oL a)<T.Bg n:=fun a ha=>
 (List.pairwise_append.1 h).2.2 a ha n (by simp)
theorem wV {lock:di} {j:Nat} {k:dn} (hk:T.ay[j]? =some k):T.Bg j≤T.eU.aI lock (oL j):=by
 rw[T.uX hk]
 exact QQ (x:=k.vU) (ah.Af hk)
theorem bD.IU (h:bD T s):∀a∈s.line,∃(j:Nat) (k:dn),a=j∧T.ay[j]? =some k:=by
 intro a ha
 unfold az.line at ha
 rcases List.mem_append.1 ha with ha|ha
 ·obtain⟨j,x,rfl,hx,_⟩:=h.b a ha
  obtain⟨k,hk⟩:=h.t.row hx
  exact⟨j,k,rfl,hk⟩
 ·split at ha
  ·simp at ha
  ·rename_i hr
   simp at ha
   obtain⟨n,x,k,e,hx,hk,_⟩:=h.running hr
   exact⟨n,k,by omega,hk⟩
theorem bD.deep (hT:T.Ok) (h:bD T s):s.line.length≤T.rings.length:=by
 have h1:(s.line.map T.Bg).Nodup:=by
  rw[List.nodup_iff_pairwise_ne,List.pairwise_map]
  have hm:=h.IU
  have hr:=h.rise
  unfold qm at hr
  refine hr.imp_of_mem fun{a b} ha hb hab=>?_
  obtain⟨j,k,rfl,hk⟩:=hm a ha
  have:=wV (lock:=s.lock) hk
  omega
 have h2:s.line.map T.Bg ⊆ T.rings.map (·.aI):=by
  intro p hp
  obtain⟨a,ha,rfl⟩:=List.mem_map.1 hp
  obtain⟨j,k,rfl,hk⟩:=h.IU a ha
  rw[T.uX hk]
  have hkm:=List.mem_of_getElem? hk
  have h3:=hT.pr k hkm
  rw[hT.rs]
  refine List.mem_map.2 ⟨⟨k.aI,kJ T.ay k.aI⟩,(pK _ _ _).2 ⟨(63-k.aI).toNat,by omega,?_,?_⟩,rfl⟩
  ·have e:(63:Int)-((63-k.aI).toNat:Nat)=k.aI:=by omega
   rw[e];exact Ji (fun z hz=>(hT.lm z hz).1) hkm
  ·have e:(63:Int)-((63-k.aI).toNat:Nat)=k.aI:=by omega
   rw[e]
 have:=sG h1 h2
 simpa using this
theorem bD.first (hT:T.Ok) (h:bD T s) (hr:s.tk.running= -1) {p:Nat} {g:iI Int} {x:Int} {xs:List Int} (hg:s.q[p]? =some (some g)) (hi:g.items=x::xs)
 (hb:∀a∈s.before,s.aI T a<p):∃(j:Nat) (y:eY) (k:dn),x=j∧s.tk.ay[j]? =some y∧T.ay[j]? =some k∧y.state=2∧k.aI=p∧(j:Int)∉s.before:=by
 obtain⟨j,k,rfl,hk,hp⟩:=h.q.ids p g hg x (by rw[hi];simp)
 obtain⟨y,hy⟩:=h.t.one hk
 have hkp:=hT.pr k (List.mem_of_getElem? hk)
 have hnb:(j:Int)∉s.before:=fun hm=>by
  have h1:=hb _ hm
  have h2:=wV (lock:=s.lock) hk
  rw[T.uX hk]at h2
  unfold az.aI at h1
  omega
 have hc:=h.q.cnt j y k g hy hk (by rw[hp];exact hg)
 rw[hi,List.count_cons_self]at hc
 have hti:=h.t.each j y k hy hk
 have h0:y.state≠0:=fun e=>by have:=(h.t.run j y hy).1 e;omega
 have h1:y.state≠1:=fun e=>by
  have h2:=hti.wt e
  have h3:=hT.ex k (List.mem_of_getElem? hk) h2
  have h4:=hti.a1
  rw[hti.lim,h3]at h4
  unfold eY.out at hc
  rw[if_pos (.inr (.inl e))]at hc
  push_cast at hc
  omega
 have h3:y.state≠3:=fun e=>by
  have:=hti.sus.1 e
  unfold eY.out at hc
  push_cast at hc
  split at hc<;>omega
 have:=hti.st
 exact⟨j,y,k,rfl,hy,hk,by omega,by omega,hnb⟩
theorem J7 (h:bD T s) {l:List Int} {n:Nat} {k:dn} (hk:T.ay[n]? =some k) (hl:qm T s.lock (l++ [(n:Int)])):(n:Int)∉l:=fun hm=>by
 have h1:=hl.below _ hm
 have h2:=wV (lock:=s.lock) hk
 omega
theorem ED {lock:di} {n:Nat} {b:Bool} {a:Int} (h:a≠n):T.eU.aI {lock with entered:=iE lock.entered (n:Int) b} (oL a)=T.eU.aI lock (oL a):=
 AZ rfl fun _=>by simp[iE,oL,h]
theorem bD.l9 (h:bD T s) {n:Int} (hg:s.l9 T=some n):s.before=s.before.dropLast++ [n]:=by
 unfold az.l9 at hg
 split at hg
 ·cases hg
 ·rename_i m hm
  have:=ni hm
  split at hg
  ·cases hg;exact this
  ·split at hg
   ·cases hg;exact this
   ·cases hg
theorem az.zH (h:bD T s) (hg:s.l9 T=none) {p:Nat} (hp:s.q.high=some p):∀a∈s.before,s.aI T a<p:=by
 unfold az.l9 at hg
 split at hg
 ·rename_i hl
  rw[List.getLast?_eq_none_iff]at hl
  rw[hl];simp
 ·rename_i m hm
  rw[hp]at hg
  simp only at hg
  split at hg
  ·cases hg
  rename_i hlt
  have hs:=ni hm
  have hr:=h.rise
  unfold az.line at hr
  have hr2:qm T s.lock s.before:=(List.pairwise_append.1 hr).1
  rw[hs]at hr2
  intro a ha
  rw[hs]at ha
  rcases List.mem_append.1 ha with ha|ha
  ·have h1:=hr2.below a ha
   obtain⟨j,x,rfl,hx,_⟩:=h.b m (by rw[hs];simp)
   obtain⟨k,hk⟩:=h.t.row hx
   have h2:=wV (lock:=s.lock) hk
   unfold az.aI at*
   omega
  ·simp at ha;subst ha;omega
theorem bD.runs (hT:T.Ok) (h:bD T s) (hr:s.tk.running= -1) {n:Int} {s':az} (hn:s.runs T=some (n,s')):bD T s'∧s'.tk.running=n:=by
 have hlv:s.leaving=0:=Decidable.byContradiction fun e=>h.lv.2.2.1 e hr
 unfold az.runs az.next at hn
 have RF:qm T s.lock s.before:=by have:=h.rise;unfold az.line at this;rw[if_pos hr,List.append_nil]at this;exact this
 split at hn
 ·
  rename_i m hg
  simp only[Option.map_some,Option.some.injEq,Prod.mk.injEq]at hn
  obtain⟨rfl,rfl⟩:=hn
  have hs:=h.l9 hg
  obtain⟨j,x,rfl,hx,h2⟩:=h.b m (by rw[hs];simp)
  obtain⟨k,hk⟩:=h.t.row hx
  have hi:=h.t.each j x k hx hk
  rw[hs]at RF
  have hnb:=J7 h hk RF
  unfold az.start
  simp only[Int.toNat_natCast,hx,hk]
  refine⟨⟨h.t.set hk ⟨hi.lim,hi.ext,hi.a0,hi.a1,by simp,by have:=hi.sus;simp;omega,by simp⟩ (by simp) (fun i hi=>by rw[hr];show(-1:Int)=i↔(j:Int)=i;omega) (.inr ⟨j,(List.getElem?_eq_some_iff.1 hk).1,rfl⟩),h.e.set hx (by simp;omega),
   h.q.keep hx (fun i hi=>by rw[hs];simp;omega) ?_,?_,?_,by simp[hlv],h.lk.enter _⟩,trivial⟩
  ·have:(j:Int)∈s.before:=by rw[hs];simp
   simp[eY.out,this]
  ·intro b hb
   have hb2:b∈s.before:=by rw[hs];simp[hb]
   obtain⟨i,y,rfl,hy,h3⟩:=h.b b hb2
   have:i≠j:=fun e=>hnb (by rw[←e];exact hb)
   exact⟨i,y,rfl,by rw[List.getElem?_set_ne (by omega)];exact hy,h3⟩
  ·unfold az.line
   simp only
   rw[if_neg (by omega)]
   refine RF.lock fun a ha=>?_
   rw[List.dropLast_concat]at ha
   exact ED fun e=>hnb (by rw[←e];exact ha)
 ·rename_i hg
  split at hn
  ·cases hn
  rename_i p hp
  have htop:=dC.rZ h.q.len hp
  have hlow:=az.zH h hg hp
  split at hn
  ·rename_i g hq
   split at hn
   ·rename_i x xs BM
    simp only[Option.map_some,Option.some.injEq,Prod.mk.injEq]at hn
    obtain⟨rfl,rfl⟩:=hn
    obtain⟨j,y,k,rfl,hy,hk,h2,hkp,hnb⟩:=h.first hT hr hq BM hlow
    have hi:=h.t.each j y k hy hk
    unfold az.start
    simp only[Int.toNat_natCast,hy,hk]
    refine⟨⟨h.t.set hk ⟨hi.lim,hi.ext,hi.a0,hi.a1,by simp,by have:=hi.sus;simp;omega,by simp⟩ (by simp) (fun i hi=>by rw[hr];show(-1:Int)=i↔(j:Int)=i;omega) (.inr ⟨j,(List.getElem?_eq_some_iff.1 hk).1,rfl⟩),h.e.set hy (by simp;omega),
     h.q.take hy hk hq BM (by simp[eY.out,hnb,h2]),h.b.set (fun hb=>absurd hb hnb),?_,by simp[hlv],h.lk.enter _⟩,trivial⟩
    unfold az.line
    simp only
    rw[if_neg (by omega)]
    have h5:qm T s.lock (s.before++ [(j:Int)]):=by
     unfold qm
     rw[List.pairwise_append]
     refine⟨RF,by simp,fun a ha b hb=>?_⟩
     simp at hb;subst hb
     rw[T.uX hk,hkp]
     exact hlow a ha
    refine h5.lock fun a ha=>?_
    rw[List.dropLast_concat]at ha
    exact ED fun e=>hnb (by rw[←e];exact ha)
   ·simp at hn
  ·simp at hn
end
section
variable {T:ah}
theorem ah.BI {l:List Int} {p:Int} {i:Nat} (h:T.Ff l p i=true):∃r x,l[i]? =some r∧0≤r∧r<T.bP.length∧(i=0∨l.getD (i-1) 0<r)∧T.bP[r.toNat]? =some x∧x.internal=false∧p≤x.gJ:=by
 unfold ah.Ff at h
 split at h
 ·rename_i r hr
  simp only[Bool.and_eq_true,decide_eq_true_eq,Bool.or_eq_true]at h
  obtain⟨⟨⟨h1,h2⟩,h3⟩,h4⟩:=h
  split at h4
  ·rename_i x hx
   simp only[Bool.and_eq_true,decide_eq_true_eq,Bool.not_eq_true']at h4
   exact⟨r,x,hr,h1,h2,h3,hx,h4.1,h4.2⟩
  ·cases h4
 ·cases h
theorem ah.oH {l:List Int} {p:Int} (h:T.yF l p=true):l.length≤T.bP.length:=by
 have h1:=lw.1 h
 have key:∀i,i<l.length→∃r,l[i]? =some r∧(i:Int)≤r∧r<T.bP.length:=by
  intro i
  induction i with
  |zero=>intro hi;obtain⟨r,x,a,b,c,_⟩:=ah.BI (h1 0 hi);exact⟨r,a,by omega,c⟩
  |succ i ih=>
   intro hi
   obtain⟨r,x,a,b,c,d,_⟩:=ah.BI (h1 _ hi)
   obtain⟨q,e,f,_⟩:=ih (by omega)
   refine⟨r,a,?_,c⟩
   rcases d with d|d
   ·omega
   ·have:l.getD (i+1-1) 0=q:=by rw[Nat.add_sub_cancel,List.getD_eq_getElem?_getD,e];rfl
    rw[this]at d
    push_cast
    omega
 cases hl:l.length with
 |zero=>omega
 |succ n=>
  obtain⟨r,_,b,c⟩:=key n (by omega)
  omega
theorem ah.DJ {l:List Int} {p:Int} (h:T.yF l p=true):∀r∈l,0≤r∧r<T.bP.length:=by
 intro r hr
 obtain⟨i,hi,rfl⟩:=List.mem_iff_getElem.1 hr
 obtain⟨q,x,a,b,c,_⟩:=ah.BI (lw.1 h i hi)
 rw[List.getElem?_eq_getElem hi]at a
 cases a
 exact⟨b,c⟩
theorem tK {α:Type} {l:List α} {f:Nat→Bool} (h:mX l.length f=true) {x:α} (hx:x∈l):∃i,l[i]? =some x∧f i=true:=by
 obtain⟨i,hi,rfl⟩:=List.mem_iff_getElem.1 hx
 exact⟨i,List.getElem?_eq_getElem hi,lw.1 h i hi⟩
theorem NP:∀ {a b:List kS},wW a b=true→a=b:=by
 intro a b h
 unfold wW at h
 simp only[Bool.and_eq_true,decide_eq_true_eq]at h
 obtain⟨h1,h2⟩:=h
 refine List.ext_getElem h1 fun i hi hj=>?_
 have:=lw.1 h2 i hi
 rw[List.getElem?_eq_getElem hi,List.getElem?_eq_getElem hj]at this
 simp only[kS.same,Bool.and_eq_true,decide_eq_true_eq]at this
 rcases ha:a[i]with⟨p,c⟩
 rcases hb:b[i]with⟨p',c'⟩
 rw[ha,hb]at this
 simp at this
 rw[this.1,this.2]
structure dn.Ok (T:ah) (k:dn):Prop where
 pr:0≤k.aI∧k.aI≤63
 lm:1≤k.limit∧k.limit≤255
 ex:k.mask≠0→k.limit=1
 int:k.internal= -1∨k.aI≤k.internal∧k.internal≤127
 own:T.yF k.own k.aI=true
 dX:k.dX/2 ^ T.modes.toNat=0
structure kG.Ok (T:ah) (x:kG):Prop where
 cat:x.category=1∨x.category=2
 pr:64≤x.aI∧x.aI≤127
 own:T.yF x.own x.aI=true
structure gq.Ok (T:ah) (a:gq):Prop where
 oZ:0≤a.counter∧a.counter<T.bi.length
 act:T.yT a.act 1 3=true
structure ah.Fine (T:ah):Prop where
 ok:T.Ok
 uses:0≤T.uses∧T.uses≤255
 modes:1≤T.modes∧T.modes≤8
 bP:T.bP.length≤65
 Ja:T.bi.length≤16
 mF:T.ag.length≤64
 CJ:T.bf.length≤32
 Gt:T.cZ.length≤64
 ay:∀k∈T.ay,k.Ok T
 bf:∀x∈T.bf,x.Ok T
 apart:∀(i j:Nat) x y,T.bf[i]? =some x→T.bf[j]? =some y→i≠j→x.aI≠y.aI
 bi:∀c∈T.bi,1≤c.min∧c.min≤c.max∧c.max≤2147483647
 ag:∀a∈T.ag,a.Ok T
 room:T.depth=T.rings.length∧T.frames=T.bf.length+4∧T.errors=T.most∧T.dU=T.zk
theorem ah.fine (h:T.check=true):T.Fine:=by
 unfold ah.check at h
 simp only[Bool.and_eq_true]at h
 obtain⟨⟨⟨⟨⟨⟨⟨hf,hce⟩,hpr⟩,ht⟩,hc⟩,hi⟩,hm⟩,hr⟩:=h
 unfold ah.few at hf
 simp only[Bool.and_eq_true,decide_eq_true_eq]at hf
 obtain⟨⟨⟨⟨⟨⟨⟨⟨⟨⟨f1,f2⟩,f3⟩,f4⟩,f5⟩,f6⟩,f7⟩,f8⟩,f9⟩,f10⟩,f11⟩:=hf
 unfold ah.zV at ht
 simp only[Bool.and_eq_true]at ht
 have hrs:=NP ht.2
 have RG:∀k∈T.ay,k.Ok T:=by
  intro k hk
  obtain⟨i1,e1,h1⟩:=tK ht.1 hk
  rw[e1]at h1
  obtain⟨i2,e2,h2⟩:=tK hpr hk
  rw[e2]at h2
  simp only at h1 h2
  unfold ah.ui at h1
  simp only[Bool.and_eq_true,decide_eq_true_eq,Bool.or_eq_true]at h1 h2
  obtain⟨⟨⟨⟨⟨⟨a1,a2⟩,a3⟩,a4⟩,a5⟩,a6⟩,a7⟩:=h1
  exact⟨h2,⟨a2,a3⟩,fun hm=>a4.resolve_left hm,a5,a6,a7⟩
 unfold ah.ve at hc
 simp only[Bool.and_eq_true]at hc
 unfold ah.P6 at hr
 simp only[Bool.and_eq_true,decide_eq_true_eq]at hr
 refine⟨⟨f5,f6,hrs.symm,fun k hk=>(RG k hk).pr,fun k hk=>(RG k hk).lm,fun k hk=>(RG k hk).ex⟩,⟨f1,f2⟩,⟨f3,f4⟩,f7,f8,f9,f10,f11,RG,fun x hx=>?_,fun i j x y hx hy hij=>?_,fun c hcm=>?_,fun a ha=>?_,⟨hr.1.1.1,hr.1.1.2,hr.1.2,hr.2⟩⟩
 ·obtain⟨i,hi',rfl⟩:=List.mem_iff_getElem.1 hx
  have:=lw.1 hi i hi'
  rw[List.getElem?_eq_getElem hi']at this
  simp only[Bool.and_eq_true]at this
  have h1:=this.1
  unfold ah.Cb at h1
  simp only[Bool.and_eq_true,decide_eq_true_eq,Bool.or_eq_true]at h1
  exact⟨h1.1.1.1.1,⟨h1.1.1.1.2,h1.1.1.2⟩,h1.1.2⟩
 ·have key:∀(i j:Nat) x y,j<i→T.bf[i]? =some x→T.bf[j]? =some y→x.aI≠y.aI:=by
   intro i j x y hlt hx hy
   have h1:=lw.1 hi i (List.getElem?_eq_some_iff.1 hx).1
   rw[hx]at h1
   simp only[Bool.and_eq_true]at h1
   have h2:=lw.1 h1.2 j hlt
   rw[hy]at h2
   unfold kG.beside at h2
   simp only[Bool.and_eq_true,Bool.not_eq_true',decide_eq_false_iff_not]at h2
   exact h2.1
  rcases Nat.lt_or_gt_of_ne hij with h|h
  ·exact fun e=>key j i y x h hy hx e.symm
  ·exact key i j x y h hx hy
 ·obtain⟨i1,e1,this⟩:=tK hc.1 hcm
  rw[e1]at this
  simp only at this
  unfold xm.ok xX at this
  simp only[Bool.and_eq_true,decide_eq_true_eq]at this
  omega
 ·obtain⟨i1,e1,this⟩:=tK hc.2 ha
  rw[e1]at this
  simp only at this
  unfold ah.kX at this
  simp only[Bool.and_eq_true,decide_eq_true_eq]at this
  exact⟨⟨this.1.1.1.1,this.1.1.1.2⟩,this.1.1.2⟩
theorem ah.Fine.row {o:bK} {x:mD} (h:T.Fine) (hx:T.eU.rows o=some x):x.own.length≤65∧∀r∈x.own,0≤r∧r<T.eU.fE.length:=by
 have hl:T.eU.fE.length=T.bP.length:=List.length_map ..
 rw[hl]
 have key:∀ {l p},T.yF l p=true→l.length≤65∧∀r∈l,0≤r∧r<T.bP.length:=fun ho=>
  ⟨Nat.le_trans (ah.oH ho) h.bP,ah.DJ ho⟩
 have hx:T.AP o=some x:=hx
 unfold ah.AP at hx
 split at hx
 ·cases hx
 split at hx
 ·obtain⟨y,hy,rfl⟩:=Option.map_eq_some_iff.1 hx
  exact key (h.bf y (List.mem_of_getElem? hy)).own
 ·obtain⟨y,hy,rfl⟩:=Option.map_eq_some_iff.1 hx
  exact key (h.ay y (List.mem_of_getElem? hy)).own
end
structure jM where
 vt:Value
 vr:Value
 vs:Value
 vc:Value
 va:Value
 vi:Value
 vm:Value
 pl:Nat
 pt:Nat
 pq:Nat
 pb:Nat
 pe:Nat
def uB (T:ah) (x:jM):List Value:=[.int .i64 T.uses,.int .i64 T.modes,x.vt,x.vr,x.vs,x.vc,x.va,x.vi,x.vm,.int .i64 T.depth,.int .i64 T.frames,.int .i64 T.errors,.int .i64 T.dU]
def bM (T:ah) (lv wt:Int) (x:jM):Obj:=
 .cells (([x.vt,x.vr,fJ x.pl,fJ x.pt,fJ x.pq,fJ x.pb,fJ x.pe,.int .i64 lv,.int .u32 wt]:List Value)++uB T x).toArray 222 (0,0)
structure uj (B:List (Nat × Obj)) (T:ah) (s:az) (x:jM):Prop where
 tab:xu B (.agg (uB T x).toArray) T x.vt x.vr x.vs x.vc x.va x.vi x.vm
 chk:T.check=true
 inv:bD T s
def Core (r:Nat) (T:ah) (s:az):SL:=
 ex fun B=>ex fun x:jM=>bQ [AQ (uj B T s x),pts r (bM T s.leaving s.wants x),bJ B,lW x.pl T.eU s.lock,nN x.pt s.tk,sS x.pq s.q,jo x.pb ⟨T.depth.toNat,s.before⟩,sU x.pe s.ev]
section
variable {w0 w:World} {l:List SL} {r:Nat} {T:ah} {s:az} {B:List (Nat × Obj)} {x:jM}
theorem dE (h:In w0 w (Core r T s::l)):∃B x,uj B T s x∧In w0 w (pts r (bM T s.leaving s.wants x)::bJ B::lW x.pl T.eU s.lock::nN x.pt s.tk::sS x.pq s.q::jo x.pb ⟨T.depth.toNat,s.before⟩::sU x.pe s.ev::l):=by
 obtain⟨B,h⟩:=In.aY.1 h
 obtain⟨x,h⟩:=In.aY.1 h
 obtain⟨a,h⟩:=In.dw.1 (In.bn.1 h)
 exact⟨B,x,a,h⟩
theorem dI (a:uj B T s x) (h:In w0 w (pts r (bM T s.leaving s.wants x)::bJ B::lW x.pl T.eU s.lock::nN x.pt s.tk::sS x.pq s.q::jo x.pb ⟨T.depth.toNat,s.before⟩::sU x.pe s.ev::l)):In w0 w (Core r T s::l):=
 In.aY.2 ⟨B,In.aY.2 ⟨x,In.bn.2 (In.dw.2 ⟨a,h⟩)⟩⟩
theorem jY (h:In w0 w (Core r T s::l)):T.Fine∧bD T s:=by
 obtain⟨B,x,a,_⟩:=dE h
 exact⟨ah.fine a.chk,a.inv⟩
theorem uj.turn {s':az} (a:uj B T s x) (h:bD T s'):uj B T s' x:=⟨a.tab,a.chk,h⟩
theorem uj.fine (a:uj B T s x):T.Fine:=ah.fine a.chk
theorem bu {lv wt:Int} (h:In w0 w (pts r (bM T lv wt x)::l)) (k:Nat) {u:Value} (hu:(([x.vt,x.vr,fJ x.pl,fJ x.pt,fJ x.pq,fJ x.pb,fJ x.pe,.int .i64 lv,.int .u32 wt]:List Value)++uB T x)[k]? =some u):w.cell? ⟨r,k,none⟩=some u:=by
 rw[h.cell,List.getElem?_toArray]
 exact hu
theorem uQ {v vt vr vs vc va vi vm:Value} {n:Nat} {k:dn} (ht:xu B v T vt vr vs vc va vi vm) (hk:T.ay[n]? =some k):
 ∃g o cap,vt= .slice (some ⟨g,o,none⟩) T.ay.length cap∧T.ay.length≤cap∧∀ {w0 w:World} {l:List SL},In w0 w (bJ B::l)→
  w.cell? ⟨g,o+n*8,none⟩=some (.int .i64 k.aI)∧w.cell? ⟨g,o+n*8+2,none⟩=some (.bool k.full)∧w.cell? ⟨g,o+n*8+4,none⟩=some (.int .u32 k.mask):=by
 obtain⟨tl,t1,t2,t3⟩:=ht.ay
 have hn:=(List.getElem?_eq_some_iff.1 hk).1
 obtain⟨p,hp⟩:∃p,tl[n]? =some p:=⟨_,List.getElem?_eq_getElem (by rw[←List.length_map (f:=(·.1)),t1];exact hn)⟩
 have hpk:p.1=k:=by rw[←t1,List.getElem?_map,hp]at hk;cases hk;rfl
 obtain⟨h0,⟨_,e,_⟩|⟨g,o,cap,cells,Ty,fr,e,h2,h3,h4⟩⟩:=t2
 ·omega
 refine⟨g,o,cap,e,h2,fun h=>?_⟩
 have hb:=h.sO h3
 have hcs:∀(j:Nat) (u:Value),(dM p)[j]? =some u→j<8→cells[o+(n*8+j)]? =some u:=fun j u hu hj=>
  h4 _ u ((flat_get (dL (slot:=dM) (size:=8) (fun _=>rfl) tl) (i:=n) (x:=dM p) (by simp[hp]) j hj).trans hu)
 simp only at hb
 subst hpk
 refine⟨?_,?_,?_⟩
 ·have:=hcs 0 _ rfl (by decide);simp[World.cell?,hb];simpa[Nat.add_assoc]using this
 ·have:=hcs 2 _ rfl (by decide);simp[World.cell?,hb];simpa[Nat.add_assoc]using this
 ·have:=hcs 4 _ rfl (by decide);simp[World.cell?,hb];simpa[Nat.add_assoc]using this
theorem jZ (h:In w0 w (Core r T s::l)):Calls prog 108 #[r] w fun e w'=>e= .returned (.bool true)∧w=w':=by
 obtain⟨B,x,a,h1⟩:=dE h
 have hc:=bu h1 3 rfl
 simp only[fJ]at hc
 go_enter func108,ntmps108
 go_wp2_with fail
 go_ret
 exact⟨rfl,rfl⟩
theorem Qu (h:In w0 w (Core r T s::l)) (n:Int):Calls prog 206 #[r,.int .i64 n] w fun e w'=>e= .returned (.bool (decide (0≤n∧n<T.ay.length)))∧w=w':=by
 have hm:=jZ h
 obtain⟨B,x,a,h1⟩:=dE h
 have hc:=bu h1 0 rfl
 obtain⟨tl,t1,t2,t3⟩:=a.tab.ay
 obtain⟨ao,cap,e⟩:=t2.form
 rw[e]at hc
 by_cases h0:0≤n
 ·by_cases h2:n<T.ay.length
  ·have hd:decide (0≤n∧n<T.ay.length)=true:=by simp[h0,h2]
   rw[hd]
   go_enter func206,ntmps206
   go_wp2_with (go_at_call 108;refine bW hm ?_)
   go_ret
   exact⟨rfl,rfl⟩
  ·have hd:decide (0≤n∧n<T.ay.length)=decide (n<T.ay.length):=by simp[h0]
   rw[hd]
   go_enter func206,ntmps206
   go_wp2_with (go_at_call 108;refine bW hm ?_)
   go_ret
   exact⟨rfl,rfl⟩
 ·have hd:decide (0≤n∧n<T.ay.length)=false:=by simp;omega
  rw[hd]
  go_enter func206,ntmps206
  go_wp2_with (go_at_call 108;refine bW hm ?_)
  go_ret
  exact⟨rfl,rfl⟩
theorem Ew {n:Nat} {k:dn} (h:In w0 w (Core r T s::l)) (hk:T.ay[n]? =some k):Calls prog 386 #[r,.int .i64 n] w fun e w'=>e= .returned (.bool (!decide (k.mask=0)))∧w=w':=by
 obtain⟨B,x,a,h1⟩:=dE h
 have hc:=bu h1 0 rfl
 obtain⟨g,o,cap,e,hcap,hcell⟩:=uQ a.tab hk
 rw[e]at hc
 obtain⟨_,_,hm⟩:=hcell (h1.ae p1)
 have n1:(n:Int)<T.ay.length:=by have:=(List.getElem?_eq_some_iff.1 hk).1;omega
 go_enter func386,ntmps386
 go_wp2_with fail
 go_ret
 exact⟨rfl,rfl⟩
theorem BD (h:In w0 w (Core r T s::l)):Calls prog 236 #[r] w fun e w'=>e= .returned (.int .i64 s.tk.running)∧w=w':=by
 have hm:=jZ h
 obtain⟨B,x,a,h1⟩:=dE h
 have hc:=bu h1 3 rfl
 simp only[fJ]at hc
 have hr:=uY (h1.ae p3)
 go_enter func236,ntmps236
 go_wp2_with (first|(go_at_call 108;refine bW hm ?_)|(go_at_call 117;refine bW hr ?_))
 go_ret
 exact⟨rfl,rfl⟩
theorem GH (h:In w0 w (Core r T s::l)):Calls prog 381 #[r] w fun e w'=>e= .returned (.int .i64 s.leaving)∧w=w':=by
 have hm:=jZ h
 obtain⟨B,x,a,h1⟩:=dE h
 have hc:=bu h1 7 rfl
 go_enter func381,ntmps381
 go_wp2_with (go_at_call 108;refine bW hm ?_)
 go_ret
 exact⟨rfl,rfl⟩
theorem aaC (h:In w0 w (Core r T s::l)):Calls prog 234 #[r] w fun e w'=>e= .returned (.tuple #[.int .i64 (if s.leaving=0 then s.tk.running else-1),.bool s.me])∧w=w':=by
 have hm:=jZ h
 obtain⟨B,x,a,h1⟩:=dE h
 have hc3:=bu h1 3 rfl
 have AY:=bu h1 7 rfl
 simp only[fJ]at hc3
 have hr:=uY (h1.ae p3)
 by_cases h0:s.leaving=0
 ·have e1:s.me=decide (0≤s.tk.running):=by unfold az.me;simp[h0]
  rw[if_pos h0,e1]
  rw[h0]at AY
  go_enter func234,ntmps234
  go_wp2_with (first|(go_at_call 108;refine bW hm ?_)|(go_at_call 117;refine bW hr ?_))
  go_ret2
  exact⟨rfl,rfl⟩
 ·have e1:s.me=false:=by unfold az.me;simp[h0]
  rw[if_neg h0,e1]
  go_enter func234,ntmps234
  go_wp2_with (go_at_call 108;refine bW hm ?_)
  go_ret2
  exact⟨rfl,rfl⟩
theorem qg (h:In w0 w l) (n:Int):aW 112 #[.int .i64 n] w w0 (.agg #[.bool false,.int .i64 n]) l:=by
 have h1:=h.alloc (mi false 0)
 go_enter func112,ntmps112
 go_upto_region 1 with(fail)
 refine In.abs h1 ?_
 clear h1 h
 generalize w.heap.size=z
 intro w2 h2
 have fc_:=h2.facts
 have h3:=h2.fill [.bool false,.int .i64 n] rfl
 simp only[dm]at h3
 have hcc:=h3.cells
 go_wp2_with fail
 refine bodyPost_ret (v:= .agg #[.bool false,.int .i64 n]) (by simp[results,results112,go_sem,hcc]) rfl ?_
 exact⟨rfl,h3.drop⟩
end
section
variable {w0 w:World} {l:List SL} {r:Nat} {T:ah} {s:az} {B:List (Nat × Obj)} {x:jM}
theorem kF {lv wt:Int} (v:Int) (h:In w0 w (pts r (bM T lv wt x)::l)):In w0 (w.setCell ⟨r,7,none⟩ (.int .i64 v)) (pts r (bM T v wt x)::l):=h.setCell (off:=7) (.int .i64 v)
theorem oJ {lv wt:Int} {off:Nat} (h:In w0 w (pts r (bM T lv wt x)::l)):w.frozen? ⟨r,off,none⟩=false:=h.frozen
theorem qA {n:Nat} {k:dn} (hk:T.ay[n]? =some k):T.eU.rows ⟨false,(n:Int)⟩=some k.vU:=ah.Af hk
theorem eY.aa1 (y:eY) (m:Nat) (b:List Int):y.out m b=0∨y.out m b=1:=by unfold eY.out;split<;>simp
theorem YX {a:Int} {b:Bool} (h:a=0↔b=true):(a==0)=b:=by
 cases b<;>simp at h⊢ <;>exact h
theorem EW {n:Nat} {k:dn} (h:In w0 w (Core r T s::l)) (hk:T.ay[n]? =some k):aW 382 #[r,.int .i64 n] w w0 (.bool (s.lock.held (oL n)).isEmpty) (Core r T s::l):=by
 obtain⟨B,x,a,h1⟩:=dE h
 have hc2:=bu h1 2 rfl
 simp only[fJ]at hc2
 have hrow:=qA hk
 have hfew:=(a.inv.lk.few hrow)
 have h65:=(a.fine.row hrow).1
 have has:=fun{w:World} (h:In w0 w (Core r T s::l))=>qg h (n:Int)
 have fin:=h1.pr [2,0,0,0,0,0,0]
 have hlen:(((s.lock.held (oL n)).length:Int)=0)↔(s.lock.held (oL n)).isEmpty=true:=by cases s.lock.held (oL n)<;>simp;omega
 have hh:s.lock.held (oL n)=s.lock.held ⟨false,(n:Int)⟩:=rfl
 rw[hh]at hlen⊢
 generalize (s.lock.held ⟨false,(n:Int)⟩).isEmpty=emp at*
 have hLk:∀w',In w0 w' [pts r (bM T s.leaving s.wants x)]→w'.cell? ⟨r,2,none⟩=some (.pointer (some ⟨x.pl,0,none⟩)):=fun w' h=>bu h 2 rfl
 go_enter func382,ntmps382
 go_wp2_with fail
 have hS0:=(h1.drew).ps [0]
 refine nK hS0 ⟨[6],[7]⟩ [.c 0 0,.c 0 1,.c 0 2,.c 0 3,.c 2 4,.c 0 5,.e 6,.e 7,.c 0 8,.c 0 9,.c 0 10] ?_
 refine nD ?_;intro K hK
 go_wp2_with (go_at_call 112;refine bF (qg fin.drew (n:Int)) ?_;intro w3 h3)
 go_wp2_with fail
 refine df hK ((h3).s) fun hS0=>?_
 refine bG rfl rfl fun K hK=>?_
 go_wp2_with (go_at_call 115;refine(JV h3 hrow (by omega)).mono ?_;rintro _ w4 ⟨v,rfl,h4⟩)
 obtain⟨ao,cap,rfl⟩:=In.aG (E:=3) (size:=1) h4
 go_wp2_with fail
 refine wM ?_
 go_wp2_with fail
 go_ret
 exact⟨congrArg (fun b=>Ending.returned (.bool b)) (YX hlen),dI a (h4.drop.s)⟩
theorem xP {n:Nat} {k:dn} {g:iI Int} (a:uj B T s x) (hk:T.ay[n]? =some k) (hg:s.q[k.aI.toNat]? =some (some g)) (hr:g.items.length<g.room) {lv wt:Int}
 (h:In w0 w (pts r (bM T lv wt x)::bJ B::sS x.pq s.q::l)):
 aW 209 #[r,.int .i64 n] w w0 (.tuple #[]) (pts r (bM T lv wt x)::bJ B::sS x.pq (T.join s.q n)::l):=by
 have hc0:=bu h 0 rfl
 have hc4:=bu h 4 rfl
 obtain⟨gg,o,cap,e,hcap,hcell⟩:=uQ a.tab hk
 rw[e]at hc0
 simp only[fJ]at hc4
 obtain⟨hp,_,_⟩:=hcell (h.ae p1)
 have n1:(n:Int)<T.ay.length:=by have:=(List.getElem?_eq_some_iff.1 hk).1;omega
 have hpr:=a.fine.ok.pr k (List.mem_of_getElem? hk)
 obtain⟨p,hpp⟩:∃p:Nat,k.aI=p:=⟨k.aI.toNat,by omega⟩
 rw[hpp,Int.toNat_natCast]at hg
 rw[hpp]at hp
 have ht:=WS (x:=(n:Int)) (h.drew.ae p2) hg hr
 have hj:T.join s.q n=s.q.set p (some {g with items:=g.items++ [(n:Int)]}):=by
  unfold ah.join dC.join;rw[hk];simp only;rw[hpp,Int.toNat_natCast,hg]
 rw[hj]
 go_enter func209,ntmps209
 refine rg ⟨[],[13]⟩ [.c 0 0,.c 0 1,.c 0 2,.c 1 3,.c 0 4,.c 0 5,.c 0 6,.c 1 7,.c 0 8,.c 0 9,.c 0 10,.c 1 11,.c 0 12,.e 13] ?_
 refine rG ?_;intro K hK
 try refine aS ?_
 go_wp2_with (go_at_call 301;refine bF ht ?_;intro w3 h3)
 go_wp2_with fail
 try refine aS ?_
 go_wp2_with fail
 go_end0
 exact⟨rfl,h3.s⟩
theorem KR {n:Int} (h:¬(0≤n∧n<T.ay.length)) (ht:s.tk.ay.length=T.ay.length):s.dB T n=(s,3):=by
 unfold az.dB
 split
 ·rfl
 ·rw[List.getElem?_eq_none (by omega)]
theorem tX (h:In w0 w (Core r T s::l)) (n:Int):aW 77 #[r,.int .i64 n] w w0 (.int .i64 (s.dB T n).2) (Core r T (s.dB T n).1::l):=by
 have hh:=Qu h n
 have hok:=jY h
 by_cases hn:0≤n∧n<T.ay.length
 ·obtain⟨m,rfl⟩:∃m:Nat,n=m:=⟨n.toNat,by omega⟩
  have hd:decide (0≤(m:Int)∧(m:Int)<T.ay.length)=true:=by simpa using hn
  rw[hd]at hh
  have hinv':=hok.2.dB hok.1.ok (m:Int)
  obtain⟨B,x,a,h1⟩:=dE h
  have hk:=List.getElem?_eq_getElem (l:=T.ay) (i:=m) (by omega)
  obtain⟨y,hy⟩:=a.inv.t.one hk
  generalize T.ay[m]'(by omega)=k at hk
  have hti:=a.inv.t.each m y k hy hk
  have hlm:=a.fine.ok.lm k (List.mem_of_getElem? hk)
  have hc3:=bu h1 3 rfl
  simp only[fJ]at hc3
  by_cases hf:y.limit≤y.bI
  ·have e0:s.dB T m=(s,4):=by unfold az.dB;rw[if_neg (by omega),Int.toNat_natCast,hy];simp only;rw[if_pos hf]
   rw[e0]
   have hact:=DX (h1.ae p3) hy hf
   go_enter func77,ntmps77
   go_wp2_with (first|(go_at_call 206;refine bW hh ?_)|(go_at_call 207;refine bF hact ?_;intro w3 h3))
   go_ret
   exact⟨rfl,dI a (h3.s)⟩
  ·have hlt:y.bI<y.limit:=by omega
   have e0:s.dB T m=({s with tk:={s.tk with ay:=s.tk.ay.set m y.more},q:=T.join s.q m,ev:=if y.state=3 then nM s.ev m else s.ev},0):=by
    unfold az.dB;rw[if_neg (by omega),Int.toNat_natCast,hy];simp only;rw[if_neg hf]
   rw[e0]at hinv'⊢
   simp only at hinv'⊢
   have hact:=MP (h1.ae p3) hy hlt hti.a0 (by rw[hti.lim];exact hlm.2)
   obtain⟨g,hg,hroom⟩:=a.inv.q.nP a.fine.ok (List.mem_of_getElem? hk)
   have hr:=a.inv.q.room a.fine.ok a.inv.t hy hk hg (by have:=eY.aa1 y m s.before;rw[←hti.lim];omega)
   have hel:m<s.ev.length:=by rw[a.inv.e.len];omega
   have Au:=List.getElem?_eq_getElem hel
   generalize s.ev[m]'hel=d at Au
   by_cases h3:y.state=3
   ·have hd3:decide (y.state=3)=true:=by simp[h3]
    rw[hd3]at hact
    rw[if_pos h3]at hinv'⊢
    by_cases hm:d.mask=0
    ·have ef:nM s.ev m=s.ev:=by unfold nM;rw[Au];simp only;rw[if_pos hm]
     rw[ef]at hinv'⊢
     go_enter func77,ntmps77
     go_upto_region 7 with(first|(go_at_call 206;refine bW hh ?_)|(go_at_call 207;refine bF hact ?_;intro w3 h3))
     have hc6:=bu (h3.ae p1) 6 rfl
     simp only[fJ]at hc6
     have hfr:=SN (h3.ae p6) Au hm
     go_upto_region 8 with(go_at_call 208;refine bF hfr ?_;intro w4 h4)
     have hjn:=xP a hk hg hr (h4.s:In w0 w4 (pts r (bM T s.leaving s.wants x)::bJ B::sS x.pq s.q::nN x.pt {s.tk with ay:=s.tk.ay.set m y.more}::lW x.pl T.eU s.lock::jo x.pb ⟨T.depth.toNat,s.before⟩::sU x.pe s.ev::l))
     go_wp2_with (go_at_call 209;refine bF hjn ?_;intro w5 h5)
     go_ret
     exact⟨rfl,dI (a.turn hinv') (h5.s)⟩
    ·have ef:nM s.ev m=s.ev.set m d.fresh:=by unfold nM;rw[Au];simp only;rw[if_neg hm]
     rw[ef]at hinv'⊢
     go_enter func77,ntmps77
     go_upto_region 7 with(first|(go_at_call 206;refine bW hh ?_)|(go_at_call 207;refine bF hact ?_;intro w3 h3))
     have hc6:=bu (h3.ae p1) 6 rfl
     simp only[fJ]at hc6
     have hfr:=Ov (h3.ae p6) Au hm
     go_upto_region 8 with(go_at_call 208;refine bF hfr ?_;intro w4 h4)
     have hjn:=xP a hk hg hr (h4.s:In w0 w4 (pts r (bM T s.leaving s.wants x)::bJ B::sS x.pq s.q::nN x.pt {s.tk with ay:=s.tk.ay.set m y.more}::lW x.pl T.eU s.lock::jo x.pb ⟨T.depth.toNat,s.before⟩::sU x.pe (s.ev.set m d.fresh)::l))
     go_wp2_with (go_at_call 209;refine bF hjn ?_;intro w5 h5)
     go_ret
     exact⟨rfl,dI (a.turn hinv') (h5.s)⟩
   ·have hd3:decide (y.state=3)=false:=by simp[h3]
    rw[hd3]at hact
    rw[if_neg h3]at hinv'⊢
    go_enter func77,ntmps77
    go_upto_region 8 with(first|(go_at_call 206;refine bW hh ?_)|(go_at_call 207;refine bF hact ?_;intro w3 h3))
    have hjn:=xP a hk hg hr (h3.s:In w0 w3 (pts r (bM T s.leaving s.wants x)::bJ B::sS x.pq s.q::nN x.pt {s.tk with ay:=s.tk.ay.set m y.more}::lW x.pl T.eU s.lock::jo x.pb ⟨T.depth.toNat,s.before⟩::sU x.pe s.ev::l))
    go_wp2_with (go_at_call 209;refine bF hjn ?_;intro w5 h5)
    go_ret
    exact⟨rfl,dI (a.turn hinv') (h5.s)⟩
 ·have hd:decide (0≤n∧n<T.ay.length)=false:=by simpa using hn
  rw[hd]at hh
  rw[KR hn hok.2.t.len]
  go_enter func77,ntmps77
  go_wp2_with (go_at_call 206;refine bW hh ?_)
  go_ret
  exact⟨rfl,h⟩
end
section
variable {w0 w:World} {l:List SL} {r:Nat} {T:ah} {s:az} {B:List (Nat × Obj)} {x:jM}
theorem tZ (h:In w0 w (Core r T s::l)) (hm:s.me=false):Calls prog 234 #[r] w fun e w'=>(∃i,e= .returned (.tuple #[.int .i64 i,.bool false]))∧w=w':=by
 have:=aaC h
 rw[hm]at this
 exact this.mono fun e w' q=>⟨⟨_,q.1⟩,q.2⟩
theorem qj {n:Int} (h:In w0 w (Core r T s::l)) (hm:s.me=true) (hn:s.tk.running=n):Calls prog 234 #[r] w fun e w'=>e= .returned (.tuple #[.int .i64 n,.bool true])∧w=w':=by
 have:=aaC h
 rw[hm,if_pos (az.CY.1 hm).1,hn]at this
 exact this
theorem bD.BJ (h:bD T s) (hm:s.me=true):∃(n:Nat) (y:eY) (k:dn),s.tk.running=n∧s.tk.ay[n]? =some y∧T.ay[n]? =some k∧y.state=0∧qO k y∧(n:Int)∉s.before:=
 h.running (by have:=(az.CY.1 hm).2;omega)
theorem Kq (h:In w0 w (Core r T s::l)):aW 314 #[r] w w0 (.int .i64 s.gK.2) (Core r T s.gK.1::l):=by
 have hok:=jY h
 have hmd:=jZ h
 have hinv':=hok.2.gK
 cases hm:s.me with
 |false=>
  have hme:=tZ h hm
  have e0:s.gK=(s,2):=by unfold az.gK;rw[if_pos hm]
  rw[e0]
  go_enter func314,ntmps314
  go_wp2_with (first|(go_at_call 234;refine hme.mono ?_;rintro _ _ ⟨⟨i,rfl⟩,rfl⟩)|(go_at_call 108;refine bW hmd ?_))
  go_ret
  exact⟨rfl,h⟩
 |true=>
  obtain⟨n,y,k,hn,hy,hk,_⟩:=hok.2.BJ hm
  have hme:=qj h hm hn
  have hfr:=EW h hk
  have ef:s.free=(s.lock.held (oL n)).isEmpty:=by unfold az.free;rw[hn]
  rw[←ef]at hfr
  cases hf:s.free with
  |false=>
   have e0:s.gK=(s,6):=by unfold az.gK;rw[if_neg (by rw[hm];decide),if_pos hf]
   rw[e0]
   rw[hf]at hfr
   go_enter func314,ntmps314
   go_wp2_with (first|(go_at_call 234;refine bW hme ?_)|(go_at_call 108;refine bW hmd ?_)|(go_at_call 382;refine bF hfr ?_;intro w3 h3))
   go_ret
   exact⟨rfl,h3⟩
  |true=>
   have e0:s.gK=({s with leaving:=1},0):=by unfold az.gK;rw[if_neg (by rw[hm];decide),if_neg (by rw[hf];decide)]
   rw[e0]at hinv'⊢
   rw[hf]at hfr
   go_enter func314,ntmps314
   go_upto_region 8 with(first|(go_at_call 234;refine bW hme ?_)|(go_at_call 108;refine bW hmd ?_)|(go_at_call 382;refine bF hfr ?_;intro w3 h3))
   obtain⟨B,x,a,h4⟩:=dE h3
   have hfz:=oJ (off:=7) h4
   have AY:=bu h4 7 rfl
   go_wp2_with fail
   go_ret
   exact⟨rfl,dI (a.turn hinv') (kF 1 h4)⟩
theorem Xh (h:In w0 w (Core r T s::l)) (m:Int):aW 315 #[r,.int .i64 m] w w0 (.int .i64 (s.chain T m).2) (Core r T (s.chain T m).1::l):=by
 have hok:=jY h
 have hmd:=jZ h
 have hinv':=hok.2.chain hok.1.ok m
 have hhas:=Qu h m
 cases hm:s.me with
 |false=>
  have hme:=tZ h hm
  have e0:s.chain T m=(s,2):=by unfold az.chain;rw[if_pos hm]
  rw[e0]
  go_enter func315,ntmps315
  go_wp2_with (first|(go_at_call 234;refine hme.mono ?_;rintro _ _ ⟨⟨i,rfl⟩,rfl⟩)|(go_at_call 108;refine bW hmd ?_))
  go_ret
  exact⟨rfl,h⟩
 |true=>
  obtain⟨n,y,k,hn,hy,hk,_⟩:=hok.2.BJ hm
  have hme:=qj h hm hn
  by_cases hb:0≤m∧m<T.ay.length
  ·have hd:decide (0≤m∧m<T.ay.length)=true:=by simpa using hb
   rw[hd]at hhas
   have hfr:=EW h hk
   have ef:s.free=(s.lock.held (oL n)).isEmpty:=by unfold az.free;rw[hn]
   rw[←ef]at hfr
   cases hf:s.free with
   |false=>
    have e0:s.chain T m=(s,6):=by unfold az.chain;rw[if_neg (by rw[hm];decide),if_neg (by omega),if_pos hf]
    rw[e0]
    rw[hf]at hfr
    go_enter func315,ntmps315
    go_wp2_with (first|(go_at_call 234;refine bW hme ?_)|(go_at_call 108;refine bW hmd ?_)|(go_at_call 206;refine bW hhas ?_)|(go_at_call 382;refine bF hfr ?_;intro w3 h3))
    go_ret
    exact⟨rfl,h3⟩
   |true=>
    rw[hf]at hfr
    by_cases hnm:(n:Int)=m
    ·have e0:s.chain T m=({s with leaving:=2},0):=by unfold az.chain;rw[if_neg (by rw[hm];decide),if_neg (by omega),if_neg (by rw[hf];decide),if_pos (by rw[hn];exact hnm)]
     rw[e0]at hinv'⊢
     subst hnm
     go_enter func315,ntmps315
     go_upto_region 11 with(first|(go_at_call 234;refine bW hme ?_)|(go_at_call 108;refine bW hmd ?_)|(go_at_call 206;refine bW hhas ?_)|(go_at_call 382;refine bF hfr ?_;intro w3 h3))
     obtain⟨B,x,a,h4⟩:=dE h3
     have hfz:=oJ (off:=7) h4
     have AY:=bu h4 7 rfl
     go_wp2_with fail
     go_ret
     exact⟨rfl,dI (a.turn hinv') (kF 2 h4)⟩
    ·have e0:s.chain T m=(match s.dB T m with|(s',st)=>if st=0 then({s' with leaving:=1},0) else(s',st)):=by
      unfold az.chain;rw[if_neg (by rw[hm];decide),if_neg (by omega),if_neg (by rw[hf];decide),if_neg (by rw[hn];exact hnm)]
     rw[e0]at hinv'⊢
     have hac:=fun{w:World} (h:In w0 w (Core r T s::l))=>tX h m
     generalize s.dB T m=p at*
     rcases p with⟨s',st⟩
     simp only at hac hinv'⊢
     by_cases hst:st=0
     ·subst hst
      rw[if_pos rfl]at hinv'⊢
      go_enter func315,ntmps315
      go_upto_region 13 with(first|(go_at_call 234;refine bW hme ?_)|(go_at_call 108;refine bW hmd ?_)|(go_at_call 206;refine bW hhas ?_)|(go_at_call 382;refine bF hfr ?_;intro w3 h3))
      go_upto_region 16 with(go_at_call 77;refine bF (hac h3) ?_;intro w4 h4)
      obtain⟨B,x,a,h5⟩:=dE h4
      have hfz:=oJ (off:=7) h5
      have AY:=bu h5 7 rfl
      go_wp2_with fail
      go_ret
      exact⟨rfl,dI (a.turn hinv') (kF 1 h5)⟩
     ·rw[if_neg hst]at hinv'⊢
      go_enter func315,ntmps315
      go_upto_region 13 with(first|(go_at_call 234;refine bW hme ?_)|(go_at_call 108;refine bW hmd ?_)|(go_at_call 206;refine bW hhas ?_)|(go_at_call 382;refine bF hfr ?_;intro w3 h3))
      go_wp2_with (go_at_call 77;refine bF (hac h3) ?_;intro w4 h4)
      go_ret
      exact⟨rfl,h4⟩
  ·have hd:decide (0≤m∧m<T.ay.length)=false:=by simpa using hb
   rw[hd]at hhas
   have e0:s.chain T m=(s,3):=by unfold az.chain;rw[if_neg (by rw[hm];decide),if_pos (by omega)]
   rw[e0]
   go_enter func315,ntmps315
   go_wp2_with (first|(go_at_call 234;refine bW hme ?_)|(go_at_call 108;refine bW hmd ?_)|(go_at_call 206;refine bW hhas ?_))
   go_ret
   exact⟨rfl,h⟩
def Dq (o:Option Nat):Value:=match o with|some p=> .tuple #[.int .i64 p,.bool true]|none=> .tuple #[.int .i64 0,.bool false]
theorem xy {q:dC} {b:Nat} (h:In w0 w (sS b q::l)) (hl:q.length=64):Calls prog 351 #[b] w fun e w'=>e= .returned (Dq q.high)∧w=w':=by
 cases hh:q.high with
 |none=>exact WJ h (dC.DF hl hh)
 |some p=>exact Om h (dC.rZ hl hh)
theorem LX (h:In w0 w (Core r T s::l)):aW 316 #[r] w w0 (.int .i64 (s.schedule T).2) (Core r T (s.schedule T).1::l):=by
 have hok:=jY h
 have hmd:=jZ h
 have hinv':=hok.2.schedule
 cases hm:s.me with
 |false=>
  have hme:=tZ h hm
  have e0:s.schedule T=(s,2):=by unfold az.schedule;rw[if_pos hm]
  rw[e0]
  go_enter func316,ntmps316
  go_wp2_with (first|(go_at_call 234;refine hme.mono ?_;rintro _ _ ⟨⟨i,rfl⟩,rfl⟩)|(go_at_call 108;refine bW hmd ?_))
  go_ret
  exact⟨rfl,h⟩
 |true=>
  obtain⟨n,y,k,hn,hy,hk,_⟩:=hok.2.BJ hm
  have hme:=qj h hm hn
  have hfr:=EW h hk
  have ef:s.free=(s.lock.held (oL n)).isEmpty:=by unfold az.free;rw[hn]
  rw[←ef]at hfr
  cases hf:s.free with
  |false=>
   have e0:s.schedule T=(s,6):=by unfold az.schedule;rw[if_neg (by rw[hm];decide),if_pos hf]
   rw[e0]
   rw[hf]at hfr
   go_enter func316,ntmps316
   go_wp2_with (first|(go_at_call 234;refine bW hme ?_)|(go_at_call 108;refine bW hmd ?_)|(go_at_call 382;refine bF hfr ?_;intro w3 h3))
   go_ret
   exact⟨rfl,h3⟩
  |true=>
   rw[hf]at hfr
   have e0:s.schedule T=(match s.q.high with|some p=>if k.aI<p then({s with leaving:=5},0) else(s,0)|none=>(s,0)):=by
    unfold az.schedule;rw[if_neg (by rw[hm];decide),if_neg (by rw[hf];decide),hn,Int.toNat_natCast,hk];cases s.q.high<;>rfl
   rw[e0]at hinv'⊢
   have n1:(n:Int)<T.ay.length:=by have:=(List.getElem?_eq_some_iff.1 hk).1;omega
   cases hh:s.q.high with
   |none=>
    simp only
    go_enter func316,ntmps316
    go_upto_region 8 with(first|(go_at_call 234;refine bW hme ?_)|(go_at_call 108;refine bW hmd ?_)|(go_at_call 382;refine bF hfr ?_;intro w3 h3))
    obtain⟨B,x,a,h4⟩:=dE h3
    have hc4:=bu h4 4 rfl
    simp only[fJ]at hc4
    have hhi:=xy (h4.ae p4) a.inv.q.len
    rw[hh]at hhi
    unfold Dq at hhi
    go_wp2_with (go_at_call 351;refine bW hhi ?_)
    go_ret
    exact⟨rfl,h3⟩
   |some p=>
    rw[hh]at hinv'
    simp only at hinv'⊢
    by_cases hp:k.aI<p
    ·rw[if_pos hp]at hinv'⊢
     go_enter func316,ntmps316
     go_upto_region 8 with(first|(go_at_call 234;refine bW hme ?_)|(go_at_call 108;refine bW hmd ?_)|(go_at_call 382;refine bF hfr ?_;intro w3 h3))
     obtain⟨B,x,a,h4⟩:=dE h3
     have hc4:=bu h4 4 rfl
     have hc0:=bu h4 0 rfl
     have hfz:=oJ (off:=7) h4
     have AY:=bu h4 7 rfl
     simp only[fJ]at hc4
     obtain⟨g,o,cap,e,hcap,hcell⟩:=uQ a.tab hk
     rw[e]at hc0
     obtain⟨hpr,_,_⟩:=hcell (h4.ae p1)
     have hhi:=xy (h4.ae p4) a.inv.q.len
     rw[hh]at hhi
     unfold Dq at hhi
     go_wp2_with (go_at_call 351;refine bW hhi ?_)
     go_ret
     exact⟨rfl,dI (a.turn hinv') (kF 5 h4)⟩
    ·rw[if_neg hp]at hinv'⊢
     go_enter func316,ntmps316
     go_upto_region 8 with(first|(go_at_call 234;refine bW hme ?_)|(go_at_call 108;refine bW hmd ?_)|(go_at_call 382;refine bF hfr ?_;intro w3 h3))
     obtain⟨B,x,a,h4⟩:=dE h3
     have hc4:=bu h4 4 rfl
     have hc0:=bu h4 0 rfl
     simp only[fJ]at hc4
     obtain⟨g,o,cap,e,hcap,hcell⟩:=uQ a.tab hk
     rw[e]at hc0
     obtain⟨hpr,_,_⟩:=hcell (h4.ae p1)
     have hhi:=xy (h4.ae p4) a.inv.q.len
     rw[hh]at hhi
     unfold Dq at hhi
     go_wp2_with (go_at_call 351;refine bW hhi ?_)
     go_ret
     exact⟨rfl,h3⟩
end
end Go.Proofs.YtajgpcnlehinbaaGreat
