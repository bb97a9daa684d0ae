/- Part of a proof. -/
import Derived.RangeFuncRecord
import Derived.RangeFuncCalls
import Derived.OrdersIn
import Derived.Shelf.Abstract
import Derived.Test.YtajgpcnlehinbaaGreatA03
namespace Go.Proofs.YtajgpcnlehinbaaGreat
open Go.RowKit
set_option maxRecDepth 100000
set_option maxHeartbeats 60000000
set_option linter.all false
abbrev Rd (l:Nat):Fence:=Fence.wide.inRound l
def lQ (ops:Array Oper):Bool:=ops.all fun o=>match o.op with| .defer _=>false|_=>true
section
variable {P:Program} {ops:Array Oper} {Q:Exit→Act→World→Prop} {K:Act→World→Prop} {a:Act} {w:World} {l n:Nat}
theorem KO (h:lQ ops=true) {i:Nat} {o:Oper} (ho:ops[i]? =some o):∀c,o.op≠ .defer c:=by
 intro c hc
 have:=Array.all_eq_true'.1 h o (Array.mem_of_getElem? ho)
 rw[hc]at this
 cases this
theorem Qb {o:Oper} (hd:∀c,o.op≠ .defer c) (hno:¬LetsOut Q) (h:o.wp P a w K Q):o.wpIn (Rd l) n P a w K Q:=by
 refine⟨fun _ _=>trivial,?_⟩
 rw[Oper.semAt_eq _ _ _ hd]
 unfold Oper.wp at h
 generalize (execOp a.eval o).run P w=r at*
 cases r with
 |ok x w'=>
  cases x<;>simp only[Oper.upon]at h<;>simp only[Oper.uponIn]
  case value=>exact h
  case skip=>exact h
  case defer=>exact h
  case enter f args=>
   refine⟨fun hh=>by simp[Rd,Fence.wide,Fence.inRound]at hh,CallsIn.inRound l ((callsIn_wide (n:=n-1)).2 h)⟩
  case row row args=>
   refine⟨fun hh=>by simp[Rd,Fence.wide,Fence.inRound]at hh,fun c cs _=>?_⟩
   obtain⟨v,w'',hr,hs⟩:=h c cs
   exact⟨v,w'',hr,(stepsIn_wide.2 hs:StepsIn (Machine.fenced P Fence.wide) P _ _)⟩
 |halt x w'=>cases x<;>simp only[Oper.upon]at h<;>simp only[Oper.uponIn]<;>exact h
theorem I8 {i:Nat} (hd:lQ ops=true) (hno:¬LetsOut Q) (h:wpOp P ops Q i K a w):wpOpIn (Rd l) n P ops Q i K a w:=by
 unfold wpOp at h
 unfold wpOpIn
 split
 ·rename_i ho;simp only[ho]at h;exact h
 ·rename_i o ho
  simp only[ho]at h
  split
  ·rename_i hw
   simp only[hw,if_true]at h
   rcases h with h|h
   ·exact Qb (KO hd ho) hno h
   ·exact absurd h.2 hno
  ·rename_i hw
   simp only[hw]at h
   exact⟨fun _ _=>trivial,h⟩
theorem F9 (hd:lQ ops=true) (hno:¬LetsOut Q):∀(is:List Nat) (a:Act) (w:World),wpOps P ops Q is a w→wpOpsIn (Rd l) n P ops Q is a w
 | [],_,_,h=>h
 |i::r,a,w,h=>by
  rw[wpOps_cons]at h
  rw[wpOpsIn_cons]
  exact wpOpIn_mono (fun a' w' h'=>F9 hd hno r a' w' h') (I8 hd hno h)
theorem FM (hd:lQ ops=true) (hno:¬LetsOut Q):∀(f:Nat) (listed:Array Bool) (a:Act) (w:World),wpAny P .any ops Q f listed a w→wpAnyIn (Rd l) n P .any ops Q f listed a w
 |0,_,_,_,h=>h
 |f+1,_,_,_,h=>⟨h.1,fun i hi=>wpOpIn_mono (fun a' w' h'=>FM hd hno f _ a' w' h') (I8 hd hno (h.2 i hi))⟩
def Ey (P:Program):Code→(Exit→Act→World→Prop)→Act→World→Prop
 | .skip,Q,a,w=>Q .normal a w
 | .region _ ops true,Q,a,w=>wpAny P .any ops Q ops.size (Array.replicate ops.size false) a w.drew
 | .region _ ops false,Q,a,w=>wpOps P ops Q (List.range ops.size) a w
 | .seq x y,Q,a,w=>Ey P x (Exit.then (Ey P y Q) Q) a w
 | .cond c x y,Q,a,w=>∃t,a.eval c= .bool t∧(if t then Ey P x Q a w else Ey P y Q a w)
 | .block id c,Q,a,w=>Ey P c (Exit.inBlock id Q) a w
 | .exit id,Q,a,w=>Q (.exit id) a w
 | .ret,Q,a,w=>Q .ret a w
 |_,_,_,_=>False
def gy:Code→Bool
 | .region _ ops _=>lQ ops
 | .seq x y=>gy x&&gy y
 | .cond _ x y=>gy x&&gy y
 | .block _ c=>gy c
 |_=>true
theorem su (hm:P.follows .mixedOrders=true):∀(c:Code) {Q:Exit→Act→World→Prop} {a:Act} {w:World},gy c=true→(¬LetsOut Q)→Ey P c Q a w→c.wpIn (Rd l) n P Q a w
 | .skip,_,_,_,_,_,h=>wpIn_skip h
 | .region _ ops true,_,_,_,hp,hno,h=>wpIn_region_any hm (FM hp hno _ _ _ _ h)
 | .region _ ops false,_,_,_,hp,hno,h=>wpIn_region (F9 hp hno _ _ _ h)
 | .seq x y,Q,_,_,hp,hno,h=>by
  simp only[gy,Bool.and_eq_true]at hp
  have h:Ey P x (Exit.then (Ey P y Q) Q) _ _:=h
  refine wpIn_seq (wpIn_mono (su (Q:=Exit.then (Ey P y Q) Q) hm x hp.1 (fun h=>hno h) h) fun e a w q=>?_)
  cases e<;>first|exact su hm y hp.2 hno q|exact q
 | .cond c x y,Q,_,_,hp,hno,h=>by
  simp only[gy,Bool.and_eq_true]at hp
  obtain⟨t,ht,h⟩:=h
  refine wpIn_cond ht ?_
  cases t
  ·exact su hm y hp.2 hno h
  ·exact su hm x hp.1 hno h
 | .block id c,Q,_,_,hp,hno,h=>wpIn_block (su hm c hp (fun h=>hno h) h)
 | .exit id,_,_,_,_,_,h=>wpIn_exit h
 | .ret,_,_,_,_,_,h=>wpIn_ret h
 | .loop _,_,_,_,_,_,h=>h.elim
 | .rangeFunc ..,_,_,_,_,_,h=>h.elim
 | .scope _,_,_,_,_,_,h=>h.elim
 | .label _,_,_,_,_,_,h=>h.elim
 | .goto _,_,_,_,_,_,h=>h.elim
 | .refuse _,_,_,_,_,_,h=>h.elim
theorem Ry {x y:Code} (h:Ey P x (Exit.then (Ey P y Q) Q) a w):Ey P (.seq x y) Q a w:=h
theorem qf {id:Nat} {c:Code} (h:Ey P c (Exit.inBlock id Q) a w):Ey P (.block id c) Q a w:=h
theorem MC {c:Operand} {x y:Code} (hc:a.eval c= .bool true) (h:Ey P x Q a w):Ey P (.cond c x y) Q a w:=⟨true,hc,h⟩
theorem Ju {c:Operand} {x y:Code} (hc:a.eval c= .bool false) (h:Ey P y Q a w):Ey P (.cond c x y) Q a w:=⟨false,hc,h⟩
theorem sJ {id:Nat} {ops:List Oper} (h:wpList P ops.toArray Q ops a w):Ey P (.region id ops.toArray false) Q a w:=by
 show wpOps P ops.toArray Q (List.range ops.toArray.size) a w
 rw[List.range_eq_range',←Array.length_toList,wpOps_eq_wpList ops.toArray.toList 0 (by simp)]
 exact h
end
def QU (P:Program) (l:Nat) (args:Array Value) (w:World) (R:Ending→World→Prop):Prop:=
 ∃fn tmps assign body,(Instr.yield l args).run P w= .ok (.round l fn tmps assign body) w∧RoundIn Fence.wide 0 P l fn tmps assign body w R
def Iter {α:Type} (P:Program) (gf:FuncId) (lb:Array Value) (enc:α→Value) (xs:List α) (A:SL):Prop:=
 ∀(l:Nat) (J Jx:List α→SL) (L:List SL) (w0 w:World),
  (∀pre x w' R,pre++ [x]<+:xs→In w0 w' (J pre::R)→QU P l #[enc x] w' fun e w''=>
    (e= .returned (.bool true)∧In w0 w'' (J (pre++ [x])::R))∨(e= .returned (.bool false)∧In w0 w'' (Jx (pre++ [x])::R)))→
  In w0 w (A::J []::L)→
  Calls P gf (#[.func (.yield l) #[] #[]]++lb) w fun e w'=>(∃v,e= .returned v)∧(In w0 w' (A::J xs::L)∨∃pre,pre<+:xs∧In w0 w' (A::Jx pre::L))
def GZ (w0:World) (R:List SL) (Ig:SL) (Ix:Code→SL):Exit→Act→World→Prop
 | .normal,_,w=>In w0 w (Ig::R)
 | .ret,_,w=>In w0 w (Ix .ret::R)
 | .exit id,_,w=>In w0 w (Ix (.exit id)::R)
 |_,_,_=>False
theorem In.putObj {w0 w:World} {l:List SL} {b:Nat} {o o':Obj} (h:In w0 w (pts b o::l)):In w0 (w.putObj b o') (pts b o'::l):=
 h.turn ⟨rfl,rfl,rfl,by simp⟩ (World.putObj_heap_same h.lt) (fun k _ hk=>World.putObj_heap_other hk)
theorem Nc {P:Program} {α:Type} {g:Operand} {ps:Tmp} {assign body:Code} {Q:Exit→Act→World→Prop} {a:Act} {w0 w:World} {L:List SL}
 {gf:FuncId} {lb:Array Value} {enc:α→Value} {xs:List α} {A:SL} (I:List α→SL) (Ix:Code→List α→SL) (Bd:List α→α→SL→Act→Prop)
 (hm:P.follows .mixedOrders=true) (hg:a.eval g= .func (.func gf) #[] lb) (hen:∀args w,(callFunc gf args).run P w= .ok (.enter gf args) w)
 (hp:(gy assign&&gy body)=true) (hit:Iter P gf lb enc xs A) (h:In w0 w (A::I []::L))
 (hA:∀pre x w' R,pre++ [x]<+:xs→In w0 w' (I pre::R)→
   Ey P assign (Exit.then (fun a₁ w₁=>∃Y,In w0 w₁ (Y::R)∧Bd pre x Y a₁) (fun _ _ _=>False)) {tmps:=a.tmps.setIfInBounds ps (enc x),defers:= []} w')
 (hB:∀pre x Y a₁ w' R,pre++ [x]<+:xs→Bd pre x Y a₁→In w0 w' (Y::R)→Ey P body (GZ w0 R (I (pre++ [x])) (fun c=>Ix c (pre++ [x]))) a₁ w')
 (hdone:∀D w',In w0 w' (pts D (.deferred (some []))::A::I xs::L)→Q .normal {a with defers:=⟨.collected D,#[]⟩::a.defers} w')
 (hstop:∀D c pre w',pre<+:xs→In w0 w' (pts D (.deferred (some []))::A::Ix c pre::L)→c.wp P Q {a with defers:=⟨.collected D,#[]⟩::a.defers} w'):
 (Code.rangeFunc g #[ps] assign body).wp P Q a w:=by
 simp only[Bool.and_eq_true]at hp
 refine(wpIn_wide (n:=0)).1 (wpIn_rangeFunc fun fn _=>?_)
 let rec0:Loop:={state:= .ready,pending:=none,fn,tmps:=a.tmps,params:=#[ps],assign,body,defers:=w.heap.size}
 have h1:In w0 ((w.alloc (.deferred (some []))).alloc (.loop rec0)) (pts (w.heap.size+1) (.loop rec0)::pts w.heap.size (.deferred (some []))::A::I []::L):=by
  have:=(h.alloc (.deferred (some []))).alloc (.loop rec0)
  rwa[World.size_alloc]at this
 let J:List α→SL:=fun pre=>bQ [pts (w.heap.size+1) (.loop rec0),pts w.heap.size (.deferred (some [])),I pre]
 let Jx:List α→SL:=fun pre=>ex fun c=>bQ [pts (w.heap.size+1) (.loop {rec0 with state:= .done,pending:=some c}),pts w.heap.size (.deferred (some [])),Ix c pre]
 have acj:∀pre x w' R,pre++ [x]<+:xs→In w0 w' (J pre::R)→QU P (w.heap.size+1) #[enc x] w' fun e w''=>
  (e= .returned (.bool true)∧In w0 w'' (J (pre++ [x])::R))∨(e= .returned (.bool false)∧In w0 w'' (Jx (pre++ [x])::R)):=by
  intro pre x w' R hpre hin
  have h2:=In.bn.1 hin
  refine⟨_,_,_,_,run_yield h2.block (by simp[rec0]),roundIn_of_wpIn (n:=0) trivial ?_⟩
  have h3:=hA pre x w' (pts (w.heap.size+1) (.loop rec0)::pts w.heap.size (.deferred (some []))::R) hpre (h2.ae p2)
  have e1:(((#[ps]:Array Tmp).zip #[enc x]).foldl (fun tmps (t,a)=>tmps.setIfInBounds t a) a.tmps)=a.tmps.setIfInBounds ps (enc x):=by simp
  show assign.wpIn (Rd (w.heap.size+1)) 0 P _ {tmps:=((#[ps]:Array Tmp).zip #[enc x]).foldl (fun tmps (t,a)=>tmps.setIfInBounds t a) a.tmps,defers:= []} w'
  rw[e1]
  refine wpIn_mono (su hm assign hp.1 (fun⟨_,_,hf⟩=>hf) h3) fun e a₁ w₁ q=>?_
  cases e with
  |normal=>
   obtain⟨Y,hY,hbd⟩:=q
   have h4:=hY.ae p1
   refine⟨_,run_beginRound h4.block rfl,?_⟩
   have h5:=h4.putObj (o':= .loop {rec0 with state:= .busy})
   have h6:=hB pre x Y a₁ _ (pts (w.heap.size+1) (.loop {rec0 with state:= .busy})::pts w.heap.size (.deferred (some []))::R) hpre hbd (h5.ae p1)
   refine wpIn_mono (su hm body hp.2 (fun⟨_,_,hf⟩=>hf) h6) fun e a₂ w₂ q=>?_
   cases e with
   |normal=>
    have h7:=In.ae q p1
    refine⟨_,_,run_endRound none h7.block,.inl ⟨rfl,In.bn.2 ?_⟩⟩
    exact(h7.putObj (o':= .loop rec0)).push p0 |>.perm (.cons _ (.swap _ _ _))
   |ret=>
    have h7:=In.ae q p1
    refine⟨_,_,run_endRound (some .ret) h7.block,.inr ⟨rfl,In.aY.2 ⟨.ret,In.bn.2 ?_⟩⟩⟩
    exact(h7.putObj (o':= .loop {rec0 with state:= .done,pending:=some .ret})).perm (.cons _ (.swap _ _ _))
   |exit id=>
    have h7:=In.ae q p1
    refine⟨_,_,run_endRound (some (.exit id)) h7.block,.inr ⟨rfl,In.aY.2 ⟨.exit id,In.bn.2 ?_⟩⟩⟩
    exact(h7.putObj (o':= .loop {rec0 with state:= .done,pending:=some (.exit id)})).perm (.cons _ (.swap _ _ _))
   |goto t=>exact q.elim
   |panic c=>exact q.elim
   |outgrown=>exact q.elim
  |exit id=>exact q.elim
  |goto t=>exact q.elim
  |ret=>exact q.elim
  |panic c=>exact q.elim
  |outgrown=>exact q.elim
 have h8:In w0 ((w.alloc (.deferred (some []))).alloc (.loop rec0)) (A::J []::L):=by
  refine In.ae (l:=J []::A::L) (In.bn.2 ?_) p1
  exact(h1.perm (.cons _ (.cons _ (.swap _ _ _))))
 have h9:=hit (w.heap.size+1) J Jx L w0 _ acj h8
 refine⟨w.heap.size+1,_,_,{target:= .fn (.func gf) lb,args:=#[.func (.yield (w.heap.size+1)) #[] #[]]},(w.alloc (.deferred (some []))).alloc (.loop rec0),gf,_,_,run_enterLoop_outer fn a.tmps #[ps] assign body,?_,fun _ _=>trivial,?_,fun hh=>by simp[Fence.wide]at hh,callsIn_wide.2 (h9.mono ?_)⟩
 ·show Sem.run P (Deferred.ofValue (a.eval g) _) _=_
  rw[hg]
  simp[Deferred.ofValue,Act.eval,rangeCall,rec0]
 ·show(callFunc gf _).run P _=_
  exact hen _ _
 ·rintro e w' ⟨⟨v,rfl⟩,hin|⟨pre,hpre,hin⟩⟩
  ·have h10:=In.bn.1 (hin.ae p1)
   refine⟨none,_,run_endLoop h10.block (by simp[rec0]),?_⟩
   have h11:=(h10.putObj (o':= .loop {rec0 with state:= .exhausted})).drop
   exact hdone _ _ (h11.perm (.cons _ (.swap _ _ _)))
  ·obtain⟨c,h10⟩:=In.aY.1 (hin.ae p1)
   have h10:=In.bn.1 h10
   refine⟨some c,_,run_endLoop h10.block (by simp),?_⟩
   have h11:=(h10.putObj (o':= .loop {rec0 with state:= .exhausted,pending:=some c})).drop
   exact wpIn_wide.2 (hstop _ c pre _ hpre (h11.perm (.cons _ (.swap _ _ _))))
def Ah (P:Program) (fn:Func) (R:Ending→World→Prop):Exit→Act→World→Prop
 | .normal,a,w| .ret,a,w=>LeavesInM Fence.wide 0 P fn a.tmps R a.defers .returning w
 |_,_,_=>False
theorem ku {P:Program} {f:FuncId} {fn:Func} {c:Code} {args:Array Value} {w:World} {R:Ending→World→Prop}
 (hf:P.funcs[f]? =some fn) (hb:fn.body=some c)
 (h:c.wp P (Ah P fn R) {tmps:=args++Array.replicate (fn.ntmps-args.size) undef,defers:= []} w):Calls P f args w R:=
 (callsIn_wide (n:=0)).1 (callsIn_of_wp_marks hf hb trivial (wpIn_wide.2 (wp_mono h fun e a w q=>by cases e<;>first|exact q|exact q.elim)))
theorem yH {P:Program} {fn:Func} {R:Ending→World→Prop} {a:Act} {w:World} {v:Value} (hd:a.defers= []) (hr:(results fn a.tmps).run P w= .ok v w) (h:R (.returned v) w) (e:Exit) (he:e= .ret∨e= .normal):
 Ah P fn R e a w:=by
 rcases he with rfl|rfl<;>(show LeavesInM _ _ _ _ _ _ a.defers _ _;rw[hd];exact⟨v,hr,h⟩)
theorem fP {P:Program} {fn:Func} {R:Ending→World→Prop} {a:Act} {w0 w:World} {v:Value} {D:Nat} {L:List SL} (hin:In w0 w (pts D (.deferred (some []))::L)) (hd:a.defers=[⟨.collected D,#[]⟩])
 (hr:∀w',(results fn a.tmps).run P w'= .ok v w') (h:∀w',In w0 w' L→R (.returned v) w') (e:Exit) (he:e= .ret∨e= .normal):
 Ah P fn R e a w:=by
 rcases he with rfl|rfl<;>(show LeavesInM _ _ _ _ _ _ a.defers _ _;rw[hd];exact⟨by simp,.inl ⟨D,_,rfl,run_takeDeferred hin.block,v,hr _,h _ (hin.putObj (o':= .deferred none)).drop⟩⟩)
theorem pY {P:Program} {α:Type} {g:Operand} {ps d:Tmp} {rid:Nat} {ty:TypeId} {pos:String} {body:Code} {Q:Exit→Act→World→Prop} {a:Act} {w0 w:World} {L:List SL}
 {gf:FuncId} {lb:Array Value} {enc:α→Value} {xs:List α} {A:SL} (I:List α→SL) (Ix:Code→List α→SL)
 (hit:Iter P gf lb enc xs A) (h:In w0 w (A::I []::L))
 (hm:P.follows .mixedOrders=true) (hg:a.eval g= .func (.func gf) #[] lb) (hen:∀args w,(callFunc gf args).run P w= .ok (.enter gf args) w)
 (hp:gy body=true) (hps:ps<a.tmps.size)
 (hB:∀pre x w' R,pre++ [x]<+:xs→In w0 w' (I pre::R)→
   Ey P body (GZ w0 R (I (pre++ [x])) (fun c=>Ix c (pre++ [x]))) {tmps:=(a.tmps.setIfInBounds ps (enc x)).setIfInBounds d (enc x),defers:= []} w')
 (hdone:∀D w',In w0 w' (pts D (.deferred (some []))::A::I xs::L)→Q .normal {a with defers:=⟨.collected D,#[]⟩::a.defers} w')
 (hstop:∀D c pre w',pre<+:xs→In w0 w' (pts D (.deferred (some []))::A::Ix c pre::L)→c.wp P Q {a with defers:=⟨.collected D,#[]⟩::a.defers} w'):
 (Code.rangeFunc g #[ps] (.region rid #[⟨some d,.assign (.tmp ps),ty,pos,#[],none⟩] false) body).wp P Q a w:=by
 refine Nc I Ix (fun pre x Y a₁=>Y=I pre∧a₁= {tmps:=(a.tmps.setIfInBounds ps (enc x)).setIfInBounds d (enc x),defers:= []}) hm hg hen (by rw[hp,Bool.and_true];simp[gy,lQ]) hit h ?_ ?_ hdone hstop
 ·intro pre x w' R hpre hin
  refine sJ (ops:=[⟨some d,.assign (.tmp ps),ty,pos,#[],none⟩]) ?_
  refine wpList_plain rfl fun K hK=>?_
  unfold Oper.wp execOp
  simp only[Sem.run_bind,Sem.run_pure,Result.andThen_ok,Oper.upon]
  refine hK _ _ ?_
  have e:({tmps:=a.tmps.setIfInBounds ps (enc x),defers:= []}:Act).eval (.tmp ps)=enc x:=by simp[Act.eval,hps]
  refine⟨I pre,hin,rfl,?_⟩
  rw[e]
  rfl
 ·rintro pre x Y a₁ w' R hpre ⟨rfl,rfl⟩ hin
  exact hB pre x w' R hpre hin
theorem Ve {P:Program} {ops:Array Oper} {Q:Exit→Act→World→Prop} {id:Nat} {a:Act} {w:World} (S:World→Prop) (sd:qZ) (pl:List St) (hQ:∀c a w,¬Q (.panic c) a w)
 (hb:(Region.noSelect ops&&(pl.length==ops.size)&&yE ops sd pl (Array.replicate ops.size false))=true)
 (h:∀w1,w1=w.drew→fD P ops Q S sd pl a w1):Ey P (.region id ops true) Q a w:=by
 simp only[Bool.and_eq_true,beq_iff_eq]at hb
 obtain⟨⟨h1,h2⟩,h3⟩:=hb
 show wpAny P .any ops Q ops.size (Array.replicate ops.size false) a w.drew
 have h4:=qR (S:=S) (Region.noSelect_spec h1) (fun c a w h=>absurd h (hQ _ _ _)) pl _ _ _ h3 (h _ rfl)
 rw[h2]at h4
 exact yl _ _ _ _ h4
theorem rgR {P:Program} {ops:Array Oper} {Q:Exit→Act→World→Prop} {id:Nat} {a:Act} {w:World} (sd:qZ) (pl:List St) (h:fD P ops Q (fun _=>True) sd pl a w.drew) (hQ:∀c a w,¬Q (.panic c) a w:=by exact fun _ _ _ h=>h)
 (hb:(Region.noSelect ops&&(pl.length==ops.size)&&yE ops sd pl (Array.replicate ops.size false))=true:=by kernel_rfl):Ey P (.region id ops true) Q a w:=
 Ve _ sd pl hQ hb fun _ e=>e▸h
theorem TY {P:Program} {ops:Array Oper} {Q:Exit→Act→World→Prop} {a:Act} {w:World} {S:World→Prop} {sd:qZ} (h:Q .normal a w):fD P ops Q S sd [] a w:=by
 unfold fD;exact h
end Go.Proofs.YtajgpcnlehinbaaGreat
