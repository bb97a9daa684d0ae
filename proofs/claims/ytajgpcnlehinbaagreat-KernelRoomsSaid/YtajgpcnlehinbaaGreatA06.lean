/- Part of a proof. -/
import Derived.Laws.StructEq
import Derived.MapKept
import Derived.Test.YtajgpcnlehinbaaGreatA04
import Derived.Test.YtajgpcnlehinbaaGreatA05
namespace Go.Proofs.YtajgpcnlehinbaaGreat
open Go.RowKit
set_option maxRecDepth 100000
set_option maxHeartbeats 60000000
set_option linter.all false
def jl {κ:Type} [DecidableEq κ] (a:κ):List (κ × Value × Nat)→Nat→Option (Nat × Value)
 | [],_=>none
 |x::r,i=>if x.1=a then some (i,x.2.1) else jl a r (i+1)
structure yu (P:Program) (k:TypeId) {κ:Type} [DecidableEq κ] (ek:κ→Value):Prop where
 check:∀(e:Bool) (a:κ) (w:World),(Instr.checkKey e 10000 k (ek a)).run P w= .ok () w
 find:∀(a:κ) (L:List (κ × Value × Nat)) (w:World),(Instr.findKey k (ek a) (L.map fun x=>⟨ek x.1,x.2.1,x.2.2⟩)).run P w=
  .ok (jl a L 0) w
 same:∀a:κ,Instr.sameBits 10000 (ek a) (ek a)=true
section
variable {P:Program} {k:TypeId} {κ:Type} [DecidableEq κ] {ek:κ→Value}
theorem yu.acU {fs:Array Field} (hu:P.underlying k=some (.struct fs)) (hc:∀(e:Bool) (a:κ) (w:World),(Instr.checkKey e 10000 k (ek a)).run P w= .ok () w) (hag:∀a,∃cs,ek a= .agg cs)
 (he:∀(a b:κ) (w:World),(Op.equal k (ek a) (ek b)).run P w= .ok (decide (b=a)) w) (hs:∀a:κ,Instr.sameBits 10000 (ek a) (ek a)=true):yu P k ek:=by
 refine⟨hc,fun a L w=>?_,hs⟩
 have h1:∀(L:List (κ × Value × Nat)) (i:Nat),(Instr.findAsking k (ek a) (L.map fun x=>(⟨ek x.1,x.2.1,x.2.2⟩:MapEntry)) i).run P w= .ok (jl a L i) w:=by
  intro L
  induction L with
  |nil=>intro i;rfl
  |cons x r ih=>
   intro i
   simp only[List.map_cons,Instr.findAsking,Sem.run_bind,he a x.1 w,Result.andThen_ok]
   by_cases h:x.1=a
   ·simp[h,jl]
   ·simp[h,jl,ih]
 unfold Instr.findKey
 rw[Sem.run_bind,run_underlying hu w,Result.andThen_ok]
 cases L with
 |nil=>rfl
 |cons x r=>
  obtain⟨cs,hcs⟩:=hag a
  obtain⟨ds,hds⟩:=hag x.1
  have e:Instr.findNow (.struct fs) (ek a) ((x::r).map fun x=>(⟨ek x.1,x.2.1,x.2.2⟩:MapEntry)) 0=none:=by
   simp only[List.map_cons,Instr.findNow,hcs,hds,Instr.sameNow]
  rw[e]
  exact h1 (x::r) 0
theorem yu.of_int {q:IntKind} (hu:P.underlying k=some (.int q)):yu P k (fun a:Int=>Value.int q a):=by
 refine⟨fun e a w=>?_,fun a L w=>?_,fun a=>?_⟩
 ·unfold Instr.checkKey
  rw[Sem.run_bind,run_underlying hu w,Result.andThen_ok]
  rfl
 ·have h1:∀(L:List (Int × Value × Nat)) (i:Nat),Instr.findNow (.int q) (.int q a) (L.map fun x=>(⟨.int q x.1,x.2.1,x.2.2⟩:MapEntry)) i=some (jl a L i):=by
   intro L
   induction L with
   |nil=>intro i;rfl
   |cons x r ih=>
    intro i
    simp only[List.map_cons,Instr.findNow,Instr.sameNow,if_true]
    by_cases h:a=x.1
    ·subst h;simp[jl]
    ·have h':¬x.1=a:=fun e=>h e.symm
     have hb:(a==x.1)=false:=by simpa using h
     simp[hb,h',jl,ih]
  unfold Instr.findKey
  rw[Sem.run_bind,run_underlying hu w,Result.andThen_ok,h1]
  rfl
 ·simp[Instr.sameBits]
structure rP {ν:Type} (L:List (κ × ν × Nat)) (clock:Nat) (f:κ→Option ν):Prop where
 keys:(L.map (·.1)).Nodup
 WC:(L.map (·.2.2)).Nodup
 lt:∀x∈L,x.2.2<clock
 fn:∀a,f a=(L.find? (fun x=>decide (x.1=a))).map (·.2.1)
def oP {ν:Type} (ek:κ→Value) (ev:ν→Value) (L:List (κ × ν × Nat)) (clock:Nat):Obj:= .map (L.map fun x=>(⟨ek x.1,ev x.2.1,x.2.2⟩:MapEntry)).toArray clock
def fC {ν:Type} (b:Nat) (ek:κ→Value) (ev:ν→Value) (f:κ→Option ν):SL:=
 ex fun L=>ex fun clock=>bQ [AQ (rP L clock f),pts b (oP ek ev L clock)]
section
variable {ν:Type} {ev:ν→Value} {f:κ→Option ν} {w0 w:World} {l:List SL} {b:Nat} {L:List (κ × ν × Nat)} {clock:Nat}
theorem zX (h:In w0 w (fC b ek ev f::l)):∃L clock,rP L clock f∧In w0 w (pts b (oP ek ev L clock)::l):=by
 obtain⟨L,h⟩:=In.aY.1 h
 obtain⟨c,h⟩:=In.aY.1 h
 obtain⟨hp,h⟩:=In.dw.1 (In.bn.1 h)
 exact⟨L,c,hp,h⟩
theorem xn (hp:rP L clock f) (h:In w0 w (pts b (oP ek ev L clock)::l)):In w0 w (fC b ek ev f::l):=
 In.aY.2 ⟨L,In.aY.2 ⟨clock,In.bn.2 (In.dw.2 ⟨hp,h⟩)⟩⟩
def ut (x:Option ν) (ev:ν→Value) (z:Value) (c:Bool):Value:=
 match x with
 |some v=>if c then .tuple #[ev v,.bool true] else ev v
 |none=>if c then .tuple #[z,.bool false] else z
theorem rP.search (hp:rP L clock f) (a:κ) (n:Nat):(jl a (L.map fun x=>(x.1,ev x.2.1,x.2.2)) n).map (·.2)=(f a).map ev:=by
 rw[hp.fn a]
 clear hp
 induction L generalizing n with
 |nil=>rfl
 |cons x r ih=>
  simp only[List.map_cons,jl,List.find?_cons]
  by_cases h:x.1=a
  ·simp[h]
  ·simp only[h,decide_false,if_false]
   exact ih (n+1)
theorem Kr {es:Array MapEntry} (hb:w.heap[b]? =some (.map es clock)):(getObj b).run P w= .ok (.map es clock) w:=by simp[getObj,Sem.run,hb]
theorem ES {es:Array MapEntry} (o:Obj) (hb:w.heap[b]? =some (.map es clock)):(setObj b o).run P w= .ok () (w.putObj b o):=by simp[setObj,Sem.run,hb,World.putObj]
theorem Fp (K:yu P k ek) (a:κ) (w:World):(Instr.findKey k (ek a) (L.map fun x=>(⟨ek x.1,ev x.2.1,x.2.2⟩:MapEntry))).run P w= .ok (jl a (L.map fun x=>(x.1,ev x.2.1,x.2.2)) 0) w:=by
 have h1:=K.find a (L.map fun x=>(x.1,ev x.2.1,x.2.2)) w
 have e:(L.map fun x=>(x.1,ev x.2.1,x.2.2)).map (fun x=>(⟨ek x.1,x.2.1,x.2.2⟩:MapEntry))=L.map fun x=>(⟨ek x.1,ev x.2.1,x.2.2⟩:MapEntry):=by rw[List.map_map];rfl
 rwa[e]at h1
theorem zK {t e:TypeId} {z:Value} (K:yu P k ek) (ht:P.underlying t=some (.map k e)) (hz:∀w,(zeroValue e).run P w= .ok z w) (hp:rP L clock f) (hb:w.heap[b]? =some (oP ek ev L clock)) (a:κ) (c:Bool):
 (Instr.lookup t (.map (some b)) (ek a) c).run P w= .ok (ut (f a) ev z c) w:=by
 have hs:=hp.search (ev:=ev) a 0
 unfold Instr.lookup
 simp only[Sem.run_bind,run_underlying ht w,Result.andThen_ok,Kr (show w.heap[b]? =some (.map _ _) from hb),Sem.run_pure,K.check,Fp K a w]
 cases hl:jl a (L.map fun x=>(x.1,ev x.2.1,x.2.2)) 0 with
 |none=>
  rw[hl]at hs
  have hf:f a=none:=by cases h:f a with|none=>rfl|some v=>rw[h]at hs;simp at hs
  simp only[Sem.run_bind,hz,Result.andThen_ok,Sem.run_pure,hf,ut]
 |some iv=>
  rw[hl]at hs
  cases hf:f a with
  |none=>rw[hf]at hs;simp at hs
  |some v=>
   rw[hf]at hs
   simp only[Option.map_some,Option.some.injEq]at hs
   simp only[Sem.run_bind,Sem.run_pure,Result.andThen_ok,ut,hs]
theorem fU {t e:TypeId} {z:Value} (K:yu P k ek) (ht:P.underlying t=some (.map k e)) (hz:∀w,(zeroValue e).run P w= .ok z w) (h:In w0 w (fC b ek ev f::l)) (a:κ) (c:Bool):
 (Instr.lookup t (.map (some b)) (ek a) c).run P w= .ok (ut (f a) ev z c) w:=by
 obtain⟨L,clock,hp,h⟩:=zX h
 exact zK K ht hz hp h.block a c
def upd {ν:Type} (f:κ→Option ν) (a:κ) (x:Option ν):κ→Option ν:=fun c=>if c=a then x else f c
theorem wK {a:κ}:∀ {M:List (κ × Value × Nat)} {n:Nat},jl a M n=none→∀x∈M,x.1≠a
 | [],_,_,_,hx=>by simp at hx
 |y::r,n,h,x,hx=>by
  unfold jl at h
  split at h
  ·cases h
  ·rcases List.mem_cons.1 hx with rfl|hx
   ·assumption
   ·exact wK h x hx
theorem wE {a:κ} {u:Value}:∀ {M:List (κ × Value × Nat)} {n i:Nat},jl a M n=some (i,u)→∃j x,i=n+j∧M[j]? =some x∧x.1=a
 | [],_,_,h=>by simp[jl]at h
 |y::r,n,i,h=>by
  unfold jl at h
  split at h
  ·simp only[Option.some.injEq,Prod.mk.injEq]at h
   exact⟨0,y,by omega,rfl, ‹_›⟩
  ·obtain⟨j,x,h1,h2,h3⟩:=wE h
   exact⟨j+1,x,by omega,by simpa using h2,h3⟩
theorem Hf {a:κ}:∀ {L:List (κ × ν × Nat)},(∀x∈L,x.1≠a)→L.find? (fun x=>decide (x.1=a))=none:=by
 intro L h
 rw[List.find?_eq_none]
 intro x hx
 simpa using h x hx
theorem rP.push (hp:rP L clock f) {a:κ} (v:ν) (h:∀x∈L,x.1≠a):rP (L++ [(a,v,clock)]) (clock+1) (upd f a (some v)):=by
 refine⟨?_,?_,?_,fun c=>?_⟩
 ·rw[List.map_append,List.nodup_append]
  refine⟨hp.keys,by simp,fun x hx y hy=>?_⟩
  simp at hy
  subst hy
  obtain⟨z,hz,rfl⟩:=List.mem_map.1 hx
  exact h z hz
 ·rw[List.map_append,List.nodup_append]
  refine⟨hp.WC,by simp,fun x hx y hy=>?_⟩
  simp at hy
  subst hy
  obtain⟨z,hz,rfl⟩:=List.mem_map.1 hx
  have:=hp.lt z hz
  omega
 ·intro x hx
  rcases List.mem_append.1 hx with hx|hx
  ·have:=hp.lt x hx;omega
  ·simp at hx;subst hx;simp
 ·unfold upd
  by_cases hc:c=a
  ·subst hc
   rw[if_pos rfl,List.find?_append,Hf h]
   simp
  ·rw[if_neg hc,hp.fn c,List.find?_append]
   have:¬a=c:=fun e=>hc e.symm
   cases hx:L.find? (fun x=>decide (x.1=c))with
   |none=>simp[this]
   |some y=>simp
theorem LZ {a c:κ} {v:ν}:∀ {L:List (κ × ν × Nat)} {j:Nat} {x:κ × ν × Nat},(L.map (·.1)).Nodup→L[j]? =some x→x.1=a→
 ((L.set j (a,v,x.2.2)).find? (fun x=>decide (x.1=c))).map (·.2.1)=if c=a then some v else(L.find? (fun x=>decide (x.1=c))).map (·.2.1)
 | [],_,_,_,h,_=>by simp at h
 |y::r,0,x,hn,h,hx=>by
  simp at h
  subst h
  simp only[List.set_cons_zero,List.find?_cons]
  by_cases hc:c=a
  ·subst hc;simp
  ·have h1:¬a=c:=fun e=>hc e.symm
   have h2:¬y.1=c:=fun e=>h1 (hx▸e)
   simp[h1,h2,hc]
 |y::r,j+1,x,hn,h,hx=>by
  simp only[List.map_cons,List.nodup_cons]at hn
  have h':r[j]? =some x:=by simpa using h
  have ih:=LZ (c:=c) (v:=v) hn.2 h' hx
  simp only[List.set_cons_succ,List.find?_cons]
  by_cases hc:y.1=c
  ·have:¬c=a:=by
    rintro rfl
    exact hn.1 (hc▸hx▸List.mem_map.2 ⟨x,List.mem_of_getElem? h',rfl⟩)
   simp[hc,this]
  ·simp only[hc,decide_false]
   exact ih
theorem rP.turn (hp:rP L clock f) {a:κ} (v:ν) {j:Nat} {x:κ × ν × Nat} (h:L[j]? =some x) (hx:x.1=a):rP (L.set j (a,v,x.2.2)) clock (upd f a (some v)):=by
 obtain⟨hj,e⟩:=List.getElem?_eq_some_iff.1 h
 refine⟨?_,?_,?_,fun c=>?_⟩
 ·have:(L.set j (a,v,x.2.2)).map (·.1)=L.map (·.1):=by
   rw[List.map_set]
   apply List.ext_getElem (by simp)
   intro i h1 h2
   by_cases hi:i=j
   ·subst hi;simp[e,hx]
   ·rw[List.getElem_set_ne (by omega)]
  rw[this]
  exact hp.keys
 ·have:(L.set j (a,v,x.2.2)).map (·.2.2)=L.map (·.2.2):=by
   rw[List.map_set]
   apply List.ext_getElem (by simp)
   intro i h1 h2
   by_cases hi:i=j
   ·subst hi;simp[e]
   ·rw[List.getElem_set_ne (by omega)]
  rw[this]
  exact hp.WC
 ·intro y hy
  rcases List.mem_or_eq_of_mem_set hy with hy|rfl
  ·exact hp.lt y hy
  ·exact hp.lt x (List.mem_of_getElem? h)
 ·rw[LZ hp.keys h hx]
  unfold upd
  rw[hp.fn c]
theorem EH {t e:TypeId} (K:yu P k ek) (ht:P.underlying t=some (.map k e)) (h:In w0 w (fC b ek ev f::l)) (a:κ) (v:ν):
 ∃w',(Instr.mapUpdate t (.map (some b)) (ek a) (ev v)).run P w= .ok () w'∧In w0 w' (fC b ek ev (upd f a (some v))::l):=by
 obtain⟨L,clock,hp,h⟩:=zX h
 have hb:w.heap[b]? =some (.map _ _):=h.block
 unfold Instr.mapUpdate
 simp only[Sem.run_bind,run_underlying ht w,Result.andThen_ok,Kr hb,Sem.run_pure,K.check,Fp K a w]
 cases hl:jl a (L.map fun x=>(x.1,ev x.2.1,x.2.2)) 0 with
 |none=>
  have hno:∀x∈L,x.1≠a:=fun x hx=>wK hl (x.1,ev x.2.1,x.2.2) (List.mem_map.2 ⟨x,hx,rfl⟩)
  refine⟨_,ES _ hb,xn (hp.push v hno) ?_⟩
  have h2:=h.putObj (o':=oP ek ev (L++ [(a,v,clock)]) (clock+1))
  have e:oP ek ev (L++ [(a,v,clock)]) (clock+1)= .map ((L.map fun x=>(⟨ek x.1,ev x.2.1,x.2.2⟩:MapEntry)).toArray.push ⟨ek a,ev v,clock⟩) (clock+1):=by
   unfold oP
   rw[List.map_append,List.push_toArray]
   rfl
  rw[e]at h2⊢
  exact h2
 |some iv=>
  obtain⟨i,u⟩:=iv
  obtain⟨j,y,rfl,hy,hya⟩:=wE hl
  rw[Nat.zero_add]at*
  have hx:∃x,L[j]? =some x∧(x.1,ev x.2.1,x.2.2)=y:=by simpa using hy
  obtain⟨x,hx,rfl⟩:=hx
  have hxa:x.1=a:=hya
  have hk:(((L.map fun x=>(⟨ek x.1,ev x.2.1,x.2.2⟩:MapEntry)).toArray[j]?).map (·.key)).getD (ek a)=ek a:=by simp[hx,hxa]
  simp only[hk,Instr.keyThatStays,K.same a,if_true,Sem.run_bind,Sem.run_pure,Result.andThen_ok]
  refine⟨_,ES _ hb,xn (hp.turn v hx hxa) ?_⟩
  have h2:=h.putObj (o':=oP ek ev (L.set j (a,v,x.2.2)) clock)
  have e:oP ek ev (L.set j (a,v,x.2.2)) clock= .map ((L.map fun x=>(⟨ek x.1,ev x.2.1,x.2.2⟩:MapEntry)).toArray.modify j fun e=>{e with key:=ek a,val:=ev v}) clock:=by
   unfold oP
   congr 1
   apply Array.ext_getElem?
   intro i
   rw[Array.getElem?_modify,List.getElem?_toArray,List.getElem?_toArray,List.getElem?_map,List.getElem?_map]
   by_cases hi:j=i
   ·subst hi
    have hj:=(List.getElem?_eq_some_iff.1 hx).1
    rw[if_pos rfl,List.getElem?_set_self hj,hx]
    rfl
   ·rw[if_neg hi,List.getElem?_set_ne hi]
  rw[e]at h2⊢
  exact h2
theorem FD {a c:κ}:∀ {L:List (κ × ν × Nat)} {j:Nat} {x:κ × ν × Nat},(L.map (·.1)).Nodup→L[j]? =some x→x.1=a→
 ((L.eraseIdx j).find? (fun x=>decide (x.1=c))).map (·.2.1)=if c=a then none else(L.find? (fun x=>decide (x.1=c))).map (·.2.1)
 | [],_,_,_,h,_=>by simp at h
 |y::r,0,x,hn,h,hx=>by
  simp at h
  subst h
  simp only[List.map_cons,List.nodup_cons]at hn
  simp only[List.eraseIdx_cons_zero,List.find?_cons]
  by_cases hc:c=a
  ·subst hc
   have hno:∀z∈r,z.1≠c:=fun z hz e=>hn.1 (by rw[hx,←e];exact List.mem_map.2 ⟨z,hz,rfl⟩)
   rw[if_pos rfl,Hf hno]
   rfl
  ·have h2:¬y.1=c:=fun e=>hc (hx▸e.symm)
   simp[h2,hc]
 |y::r,j+1,x,hn,h,hx=>by
  simp only[List.map_cons,List.nodup_cons]at hn
  have h':r[j]? =some x:=by simpa using h
  have ih:=FD (c:=c) hn.2 h' hx
  simp only[List.eraseIdx_cons_succ,List.find?_cons]
  by_cases hc:y.1=c
  ·have:¬c=a:=by
    rintro rfl
    exact hn.1 (hc▸hx▸List.mem_map.2 ⟨x,List.mem_of_getElem? h',rfl⟩)
   simp[hc,this]
  ·simp only[hc,decide_false]
   exact ih
theorem rP.erase (hp:rP L clock f) {a:κ} {j:Nat} {x:κ × ν × Nat} (h:L[j]? =some x) (hx:x.1=a):rP (L.eraseIdx j) clock (upd f a none):=by
 refine⟨hp.keys.sublist ((List.eraseIdx_sublist L j).map _),hp.WC.sublist ((List.eraseIdx_sublist L j).map _),fun y hy=>hp.lt y ((List.eraseIdx_sublist L j).subset hy),fun c=>?_⟩
 rw[FD hp.keys h hx]
 unfold upd
 rw[hp.fn c]
theorem rP.none (hp:rP L clock f) {a:κ} (h:∀x∈L,x.1≠a):upd f a none=f:=by
 funext c
 unfold upd
 split
 ·rename_i e
  subst e
  rw[hp.fn,Hf h]
  rfl
 ·rfl
theorem JE {α β:Type} (g:α→β):∀(l:List α) (i:Nat),(l.eraseIdx i).map g=(l.map g).eraseIdx i
 | [],_=>rfl
 |_::_,0=>rfl
 |x::r,i+1=>by simp only[List.eraseIdx_cons_succ,List.map_cons];rw[JE g r i]
theorem Nz {t e ty kt:TypeId} (K:yu P k ek) (ht:P.underlying t=some (.map k e)) (h:In w0 w (fC b ek ev f::l)) (a:κ):
 ∃w',(Builtin.delete_ #[t,kt] ty #[.map (some b),ek a]).run P w= .ok (.tuple #[]) w'∧In w0 w' (fC b ek ev (upd f a none)::l):=by
 obtain⟨L,clock,hp,h⟩:=zX h
 have hb:w.heap[b]? =some (.map _ _):=h.block
 unfold Builtin.delete_
 simp only[List.getElem?_toArray,List.getElem?_cons_zero,List.getElem?_cons_succ,Sem.run_bind,run_underlying ht w,Result.andThen_ok,Kr hb,Sem.run_pure,K.check,Fp K a w]
 cases hl:jl a (L.map fun x=>(x.1,ev x.2.1,x.2.2)) 0 with
 |none=>
  have hno:∀x∈L,x.1≠a:=fun x hx=>wK hl (x.1,ev x.2.1,x.2.2) (List.mem_map.2 ⟨x,hx,rfl⟩)
  simp only[Sem.run_bind,ES _ hb,Result.andThen_ok,Sem.run_pure]
  refine⟨_,rfl,xn (by rw[hp.none hno];exact hp) ?_⟩
  exact h.putObj (o':=oP ek ev L clock)
 |some iv=>
  obtain⟨i,u⟩:=iv
  obtain⟨j,y,rfl,hy,hya⟩:=wE hl
  rw[Nat.zero_add]at*
  have hx:∃x,L[j]? =some x∧(x.1,ev x.2.1,x.2.2)=y:=by simpa using hy
  obtain⟨x,hx,rfl⟩:=hx
  have hxa:x.1=a:=hya
  simp only[Sem.run_bind,ES _ hb,Result.andThen_ok,Sem.run_pure]
  refine⟨_,rfl,xn (hp.erase hx hxa) ?_⟩
  have h2:=h.putObj (o':=oP ek ev (L.eraseIdx j) clock)
  have e:oP ek ev (L.eraseIdx j) clock= .map ((L.map fun x=>(⟨ek x.1,ev x.2.1,x.2.2⟩:MapEntry)).toArray.eraseIdxIfInBounds j) clock:=by
   unfold oP
   congr 1
   apply Array.ext'
   have e2:∀(M:List MapEntry) (i:Nat),(M.toArray.eraseIdxIfInBounds i).toList=M.eraseIdx i:=fun M i=>by simp
   rw[e2,List.toList_toArray]
   exact JE _ _ _
  rw[e]at h2⊢
  exact h2
end
section
variable {ν:Type} {ev:ν→Value} {f:κ→Option ν} {w0 w:World} {l:List SL} {b:Nat}
variable {ops:Array Oper} {rest:List Oper} {dst:Option Tmp} {ty:TypeId} {pos:String} {after:Array Edge} {a:Act} {Q:Exit→Act→World→Prop}
theorem o6 {t e:TypeId} (K:yu P k ek) (ht:P.underlying t=some (.map k e)) (h:In w0 w (fC b ek ev f::l)) {x y z:Operand} (c:κ) (v:ν)
 (hx:a.eval x= .map (some b)) (hy:a.eval y=ek c) (hz:a.eval z=ev v)
 (kk:∀w',In w0 w' (fC b ek ev (upd f c (some v))::l)→wpList P ops Q rest a w'):
 wpList P ops Q (⟨none,.mapUpdate t x y z,ty,pos,after,none⟩::rest) a w:=by
 refine wpList_plain rfl fun K' hK=>?_
 obtain⟨w',hr,h'⟩:=EH K ht h c v
 unfold Oper.wp execOp
 simp only[hx,hy,hz,Sem.run_bind,hr,Result.andThen_ok,Sem.run_pure,Oper.upon]
 exact hK _ _ (kk _ h')
theorem oW {t e kt:TypeId} (K:yu P k ek) (ht:P.underlying t=some (.map k e)) (h:In w0 w (fC b ek ev f::l)) {x y:Operand} (c:κ)
 (hx:a.eval x= .map (some b)) (hy:a.eval y=ek c)
 (kk:∀w',In w0 w' (fC b ek ev (upd f c none)::l)→wpList P ops Q rest (a.put dst (.tuple #[])) w'):
 wpList P ops Q (⟨dst,.call {callee:= .builtin .delete,args:=#[x,y],argTypes:=#[t,kt]},ty,pos,after,none⟩::rest) a w:=by
 refine wpList_plain rfl fun K' hK=>?_
 obtain⟨w',hr,h'⟩:=Nz (ty:=ty) (kt:=kt) K ht h c
 unfold Oper.wp execOp
 simp only[resolve,invoke,builtin,Sem.run_bind,Sem.run_pure,Result.andThen_ok,List.map_toArray,List.map_cons,List.map_nil,hx,hy,hr,Oper.upon]
 exact hK _ _ (kk _ h')
end
end
def bJ (B:List (Nat × Obj)):SL:=bQ (B.map fun p=>ro p.1 p.2)
section
variable {w0 w:World} {l:List SL} {B C:List (Nat × Obj)}
theorem In.sW (h:In w0 w l):In w0 w (bJ []::l):=In.Ai.2 h
theorem In.o7 {p:Nat × Obj}:In w0 w (bJ (p::B)::l)↔In w0 w (ro p.1 p.2::bJ B::l):=In.pR
theorem In.sO (h:In w0 w (bJ B::l)) {p:Nat × Obj} (hp:p∈B):w.heap[p.1]? =some p.2:=by
 induction B generalizing l with
 |nil=>simp at hp
 |cons q B ih=>
  have h1:=In.o7.1 h
  rcases List.mem_cons.1 hp with rfl|hp
  ·exact h1.XL
  ·exact ih h1.drop hp
theorem In.xO (h:In w0 w (bJ B::l)):In w0 w (bJ B::bJ B::l):=by
 induction B generalizing l with
 |nil=>exact In.sW h
 |cons q B ih=>
  have h1:=((In.o7.1 h).acd).ae p2
  have h2:=ih h1
  have h3:=In.o7.2 (h2.ae p2)
  exact In.o7.2 (((h3.ae p2).ae p2).ae p1)
theorem In.Ad (h:In w0 w (bJ B::l)) (hs:C ⊆ B):In w0 w (bJ C::l):=by
 induction C generalizing l with
 |nil=>exact In.sW h.drop
 |cons q C ih=>
  have h1:=h.xO
  have h3:In w0 w (bJ C::bJ B::l):=ih h1 (fun x hx=>hs (List.mem_cons_of_mem _ hx))
  have key:∀ {B:List (Nat × Obj)} {l:List SL},q∈B→In w0 w (bJ B::l)→In w0 w (ro q.1 q.2::l):=by
   intro B
   induction B with
   |nil=>intro l hq;simp at hq
   |cons p B ihB=>
    intro l hq hB
    have h4:=In.o7.1 hB
    rcases List.mem_cons.1 hq with rfl|hq
    ·exact(h4.ae p1).drop
    ·exact ihB hq h4.drop
  exact In.o7.2 (key (hs (by simp)) (h3.ae p1))
theorem In.Lc (h:In w0 w (bJ B::bJ C::l)):In w0 w (bJ (B++C)::l):=by
 induction B generalizing l with
 |nil=>exact h.drop
 |cons q B ih=>
  have h1:=(In.o7.1 h).ae p2
  have h2:=(h1.ae p2).ae p2
  exact In.o7.2 ((ih (h2.ae p1 |>.ae p2 |>.ae p1)).ae p1)
def abI (v:Value):Prop:=v= .slice none 0 0∨∃ad cap,v= .slice (some ad) 0 cap
def dQ (B:List (Nat × Obj)) (v:Value) (n:Nat) (cs:List Value):Prop:=
 n≤maxLen∧((abI v∧n=0∧cs= [])∨∃g o cap cells T fr,v= .slice (some ⟨g,o,none⟩) n cap∧n≤cap∧(g,Obj.cells cells T fr)∈B∧∀j u,cs[j]? =some u→cells[o+j]? =some u)
theorem dQ.mono {v:Value} {n:Nat} {cs:List Value} (h:dQ B v n cs) (hs:B ⊆ C):dQ C v n cs:=by
 obtain⟨h0,h|⟨g,o,cap,cells,T,fr,h1,h2,h3,h4⟩⟩:=h
 ·exact⟨h0,.inl h⟩
 ·exact⟨h0,.inr ⟨g,o,cap,cells,T,fr,h1,h2,hs h3,h4⟩⟩
theorem dQ.form {v:Value} {n:Nat} {cs:List Value} (h:dQ B v n cs):∃ao cap,v= .slice ao n cap:=by
 obtain⟨_,⟨rfl|⟨ad,cap,rfl⟩,rfl,_⟩|⟨g,o,cap,cells,T,fr,rfl,_⟩⟩:=h
 ·exact⟨_,_,rfl⟩
 ·exact⟨_,_,rfl⟩
 ·exact⟨_,_,rfl⟩
theorem dQ.cells {v:Value} {n:Nat} {cs:List Value} (h:dQ B v n cs) (hw:In w0 w (bJ B::l)) (hn:0<n):
 ∃g o cap,v= .slice (some ⟨g,o,none⟩) n cap∧n≤cap∧∀j u,cs[j]? =some u→w.cell? ⟨g,o+j,none⟩=some u:=by
 obtain⟨_,⟨_,rfl,_⟩|⟨g,o,cap,cells,T,fr,rfl,h2,h3,h4⟩⟩:=h
 ·omega
 ·have hb:=hw.sO h3
  refine⟨g,o,cap,rfl,h2,fun j u hu=>?_⟩
  simp only at hb
  simp[World.cell?,hb,h4 j u hu]
theorem In.dY {E:TypeId} {size n:Nat} {v:Value} {cs:List Value} (h:In w0 w (Row E size v n cs::bJ B::l)):∃C,B ⊆ C∧dQ C v n cs∧In w0 w (bJ C::l):=by
 have hl:=h.pJ
 rcases h.aU with⟨rfl,rfl,rfl,h1⟩|⟨g,cap,ext,rfl,h1,h2,h3,h4⟩
 ·exact⟨B,fun _ h=>h,⟨hl.2,.inl ⟨.inl rfl,rfl,rfl⟩⟩,h1⟩
 ·refine⟨(g,.cells (cs++ext).toArray E (0,0))::B,fun _ h=>List.mem_cons_of_mem _ h,⟨hl.2,.inr ⟨g,0,cap,_,_,_,rfl,h1,List.mem_cons_self,fun j u hu=>?_⟩⟩,In.o7.2 h4.aas⟩
  have:j<cs.length:=(List.getElem?_eq_some_iff.1 hu).1
  simp[List.getElem?_append_left this,hu]
def IsMap {κ ν:Type} [DecidableEq κ] (B:List (Nat × Obj)) (b:Nat) (ek:κ→Value) (ev:ν→Value) (f:κ→Option ν):Prop:=
 ∃L clock,rP L clock f∧(b,oP ek ev L clock)∈B
theorem IsMap.mono {κ ν:Type} [DecidableEq κ] {b:Nat} {ek:κ→Value} {ev:ν→Value} {f:κ→Option ν} (h:IsMap B b ek ev f) (hs:B ⊆ C):IsMap C b ek ev f:=by
 obtain⟨L,c,h1,h2⟩:=h
 exact⟨L,c,h1,hs h2⟩
theorem In.ZP {κ ν:Type} [DecidableEq κ] {b:Nat} {ek:κ→Value} {ev:ν→Value} {f:κ→Option ν} (h:In w0 w (fC b ek ev f::bJ B::l)):∃C,B ⊆ C∧IsMap C b ek ev f∧In w0 w (bJ C::l):=by
 obtain⟨L,c,hp,h⟩:=zX h
 exact⟨(b,oP ek ev L c)::B,fun _ h=>List.mem_cons_of_mem _ h,⟨L,c,hp,List.mem_cons_self⟩,In.o7.2 h.aas⟩
theorem IsMap.lookup {P:Program} {k:TypeId} {κ ν:Type} [DecidableEq κ] {b:Nat} {ek:κ→Value} {ev:ν→Value} {f:κ→Option ν} {t e:TypeId} {z:Value} (h:IsMap B b ek ev f) (hw:In w0 w (bJ B::l))
 (K:yu P k ek) (ht:P.underlying t=some (.map k e)) (hz:∀w,(zeroValue e).run P w= .ok z w) (a:κ) (c:Bool):(Instr.lookup t (.map (some b)) (ek a) c).run P w= .ok (ut (f a) ev z c) w:=by
 obtain⟨L,clock,hp,hb⟩:=h
 exact zK K ht hz hp (hw.sO hb) a c
variable {κ:Type} [DecidableEq κ] {dom:List κ} {F F':κ→SL} {o:κ}
theorem In.xR (h:In w0 w (bQ (dom.map F)::l)) (hd:o∈dom):In w0 w (F o::bQ ((dom.erase o).map F)::l):=
 In.pR.1 (h.head fun _ s=>bQ.perm ((List.perm_cons_erase hd).map F) s)
theorem In.Px (h:In w0 w (F' o::bQ ((dom.erase o).map F)::l)) (hd:o∈dom) (hn:dom.Nodup) (hF:∀c,c≠o→F' c=F c):In w0 w (bQ (dom.map F')::l):=by
 have e:(dom.erase o).map F=(dom.erase o).map F':=List.map_congr_left fun c hc=>(hF c (fun e=>by subst e;exact(List.Nodup.not_mem_erase hn) hc)).symm
 rw[e]at h
 exact(In.pR.2 h).head fun _ s=>bQ.perm ((List.perm_cons_erase hd).symm.map F') s
end
end Go.Proofs.YtajgpcnlehinbaaGreat
