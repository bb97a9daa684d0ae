/- Part of a proof. -/
import Derived.Test.YtajgpcnlehinbaaGreatA27
namespace Go.Proofs.YtajgpcnlehinbaaGreat
open Tryz Go.RowKit
set_option maxRecDepth 100000
set_option maxHeartbeats 60000000
set_option linter.all false
section
variable {w0 w:World} {l:List SL} {r:Nat} {T:ah} {k:aB} {G:Value→Prop}
theorem Y9 (h:In w0 w (eF G r T k::l)) (f:aK) (hf:k.errors.items.length<k.errors.room):
 aW 233 #[.pointer (some ⟨r,16,none⟩),cO f] w w0 (.tuple #[]) (eF G r T {k with errors:={k.errors with items:=k.errors.items++ [f]}}::l):=by
 obtain⟨B,x,a,h0⟩:=dD h
 rcases f with⟨kd,id,st,sv,pa⟩
 unfold cO
 simp only
 have h1:=h0.alloc (qo kd id st sv pa)
 clear h0 h
 go_enter func233,ntmps233
 go_upto_region 1 with(fail)
 refine In.abs h1 ?_
 clear h1
 generalize w.heap.size=z
 intro w2 h2
 have bC:=(h2.ae p1).cells
 have fZ:=h2.cells
 refine rg ⟨[],[4]⟩ [.c 0 0,.c 0 1,.c 1 2,.c 1 3,.e 4,.c 0 5] ?_
 refine rG ?_;intro K hK
 have hla:=abY ⟨kd,id,st,sv,pa⟩ (h2.drew.ae p6) hf
 simp only at hla
 go_wp2_with (go_at_call 331;refine bF hla ?_;intro w3 h3)
 go_wp2_with fail
 refine lK ?_
 go_wp2_with fail
 refine bodyPost_ret (results_none rfl _ _ _) rfl ?_
 refine⟨rfl,bZ (k:={k with errors:={k.errors with items:=k.errors.items++ [⟨kd,id,st,sv,pa⟩]}}) (x:=x) ⟨a.tab,a.chk,a.num,a.len,a.gh⟩ ?_⟩
 have h4:=h3.pr [2,2,2,2,2,0,1,1,1,1] 1
 exact h4
theorem Z8 (h:In w0 w (eF G r T k::l)) (i:Int) (hf:k.calls.items.length<k.calls.room):
 aW 240 #[.pointer (some ⟨r,17,none⟩),.int .i64 i] w w0 (.tuple #[]) (eF G r T {k with calls:={k.calls with items:=k.calls.items++ [i]}}::l):=by
 obtain⟨B,x,a,h0⟩:=dD h
 clear h
 have bC:=h0.cells
 go_enter func240,ntmps240
 have hla:=VT i (h0.ae p6) hf
 go_wp2_with (go_at_call 341;refine bF hla ?_;intro w3 h3)
 refine bodyPost_ret (results_none rfl _ _ _) rfl ?_
 refine⟨rfl,bZ (k:={k with calls:={k.calls with items:=k.calls.items++ [i]}}) (x:=x) ⟨a.tab,a.chk,a.num,a.len,a.gh⟩ ?_⟩
 have h4:=h3.pr [1,1,1,1,1,1,0,0,0,0]
 exact h4
theorem IP {P:Program} {α:Type} {g:Operand} {ps d:Tmp} {assign body:Code} {Q:Exit→Act→World→Prop} {a:Act} {w0 w:World} {L:List SL}
 {gf:FuncId} {lb:Array Value} {enc:α→Value} {xs:List α} {A:SL} (I:List α→SL) (Ix:Code→List α→SL) (obj:α→Obj)
 (hit:Iter P gf lb enc xs A) (h:In w0 w (A::I []::L))
 (hm:P.follows .mixedOrders=true) (hg:a.eval g= .func (.func gf) #[] lb) (hen:∀args w,(callFunc gf args).run P w= .ok (.enter gf args) w)
 (hp:(gy assign&&gy body)=true)
 (hA:∀pre x w' R,pre++ [x]<+:xs→In w0 w' (I pre::R)→
   Ey P assign (Exit.then (fun a₁ w₁=>∃Y,In w0 w₁ (Y::R)∧∃b,Y=star (pts b (obj x)) (I pre)∧a₁= {tmps:=(a.tmps.setIfInBounds ps (enc x)).setIfInBounds d (.pointer (some ⟨b,0,none⟩)),defers:= []}) (fun _ _ _=>False)) {tmps:=a.tmps.setIfInBounds ps (enc x),defers:= []} w')
 (hB:∀pre x b w' R,pre++ [x]<+:xs→In w0 w' (pts b (obj x)::I pre::R)→
   Ey P body (GZ w0 R (I (pre++ [x])) (fun c=>Ix c (pre++ [x]))) {tmps:=(a.tmps.setIfInBounds ps (enc x)).setIfInBounds d (.pointer (some ⟨b,0,none⟩)),defers:= []} w')
 (hdone:∀D w',In w0 w' (pts D (.deferred (some []))::A::I xs::L)→Q .normal {a with defers:=⟨.collected D,#[]⟩::a.defers} w')
 (hstop:∀D c pre w',pre<+:xs→In w0 w' (pts D (.deferred (some []))::A::Ix c pre::L)→c.wp P Q {a with defers:=⟨.collected D,#[]⟩::a.defers} w'):
 (Code.rangeFunc g #[ps] assign body).wp P Q a w:=by
 refine Nc I Ix (fun pre x Y a₁=>∃b,Y=star (pts b (obj x)) (I pre)∧a₁= {tmps:=(a.tmps.setIfInBounds ps (enc x)).setIfInBounds d (.pointer (some ⟨b,0,none⟩)),defers:= []}) hm hg hen hp hit h hA ?_ hdone hstop
 ·rintro pre x Y a₁ w' R hpre ⟨b,rfl,rfl⟩ hin
  exact hB pre x b w' R hpre (In.dP.1 hin)
theorem rf (h:In w0 w (eF G r T k::l)) (st sv pa:Int) (hf:k.eH=false→k.errors.items.length<k.errors.room):
 aW 87 #[r,.int .i64 st,.int .i64 sv,.int .u32 pa] w w0 (.tuple #[]) (eF G r T (k.fail T st sv pa)::l):=by
 obtain⟨B,x,a,h0⟩:=dD h
 clear h
 have bC:=h0.cells
 have hf0:k.eH=false→k.fail T st sv pa=aB.mark T {k with errors:={k.errors with items:=k.errors.items++ [⟨4,0,st,sv,pa⟩]}}:=fun hie=>by unfold aB.fail;rw[hie];rfl
 have hf1:k.eH=true→k.fail T st sv pa=k:=fun hie=>by unfold aB.fail;rw[hie];rfl
 generalize k.fail T st sv pa=kf at*
 refine ku func87 rfl ?_
 simp only[ntmps87,List.size_toArray,List.length_cons,List.length_nil,Nat.reduceAdd,Nat.reduceSub,Array.replicate_succ,Array.replicate_zero,List.push_toArray,List.append_toArray,List.nil_append,List.cons_append]
 go_wp2_with (go_at_call 46;refine(WZ _ h0).mono ?_;rintro _ w4 ⟨d,rfl,h4⟩)
 have h5:In w0 w4 (star (gG x.pf k.frames) (pts d (.cells #[.pointer (some ⟨x.pf,0,none⟩)] 86 (0,0)))::AQ (∀c∈([]:List oV),c.frame.kind≠4)::pts r (aX T k x)::bJ B::Core x.pc T k.core::je x.pb T.aV k.board::dV x.pe k.errors::dG x.pq k.calls::Ints x.vk k.marks.rings::gQ x.vb k.begun::Ints x.vx k.aO::l):=by
  have h6:=h4.pr [5,0,0,0,0,0,0,0,0,0,0]
  exact(In.dw.2 ⟨by simp,In.dP.2 h6⟩).ae p1
 clear h4 bC
 refine IP (d:=8) (fun pre=>AQ (∀c∈pre,c.frame.kind≠4)) (fun c pre=>AQ (c= .ret∧∃c∈pre,c.frame.kind=4)) (fun c=>EG c.frame.kind c.frame.id c.frame.status c.frame.service c.frame.jC c.gate.shut c.gate.all c.gate.os) (Rt k.frames x.pf d) h5 (by rfl) rfl (fun _ _=>rfl) (by simp[gy,lQ]) ?_ ?_ ?_ ?_
 ·intro pre c w5 R hpre h6
  have h7:=h6.alloc (EG c.frame.kind c.frame.id c.frame.status c.frame.service c.frame.jC c.gate.shut c.gate.all c.gate.os)
  refine sJ ?_
  simp only[List.setIfInBounds_toArray,List.set_cons_zero,List.set_cons_succ]
  go_wp2_with fail
  exact⟨_,In.dP.2 h7,_,rfl,rfl⟩
 ·intro pre c b w5 R hpre h6
  obtain⟨hq,h7⟩:=In.dw.1 (h6.ae p1)
  have kT:=h7.cells
  refine qf (Ry (sJ ?_))
  simp only[List.setIfInBounds_toArray,List.set_cons_zero,List.set_cons_succ]
  rcases Decidable.em (c.frame.kind=4)with hk|hk
  ·rw[hk]at kT
   go_wp2_with fail
   refine MC (by simp[go_sem,Act.eval]) ?_
   exact In.dw.2 ⟨⟨rfl,c,by simp,hk⟩,h7.drop⟩
  ·have hk2:(c.frame.kind==4)=false:=by simpa using hk
   go_wp2_with fail
   refine Ju (by simp[go_sem,Act.eval]) ?_
   exact In.dw.2 ⟨fun c' hc'=>by rcases List.mem_append.1 hc' with h|h;exact hq c' h;rw[List.mem_singleton.1 h];exact hk,h7.drop⟩
 ·intro D w5 h6
  obtain⟨hq,h7⟩:=In.dw.1 (h6.ae p2)
  have hie:k.eH=false:=by
   unfold aB.eH
   rw[List.any_eq_false]
   intro c hc
   have:=hq c (List.mem_reverse.2 hc)
   simpa using this
  obtain rfl:=hf0 hie
  have hf2:=hf hie
  clear hie hq hf hf0 hf1
  have h8:=bZ (l:=pts D (.deferred (some []))::l) a (by
   have h9:=In.dP.1 (h7.ae p1)
   exact h9.s)
  have hpu:=Y9 h8 ⟨4,0,st,sv,pa⟩ hf2
  unfold cO at hpu
  simp only at hpu
  have bC:=(h7.ae p2).cells
  go_wp2_with (go_at_call 233;refine bF hpu ?_;intro w6 h9)
  have hmk:=uD h9
  go_wp2_with (go_at_call 38;refine bF hmk ?_;intro w7 h10)
  refine fP (h10.ae p1) (by rfl) (fun w'=>results_none rfl _ _ _) (fun w' hw'=>⟨rfl,hw'⟩) .normal (.inr rfl)
 ·intro D c pre w5 hpre h6
  obtain⟨⟨rfl,c,hc,hk⟩,h7⟩:=In.dw.1 (h6.ae p2)
  have hie:k.eH=true:=by
   unfold aB.eH
   rw[List.any_eq_true]
   exact⟨c,List.mem_reverse.1 (hpre.subset hc),by simpa using hk⟩
  obtain rfl:=hf1 hie
  go_wp2_with fail
  have h8:=bZ (l:=l) a (by
   have h9:=In.dP.1 (h7.ae p1)
   exact h9.s)
  refine fP (In.ae (h7) p0) (by rfl) (fun w'=>results_none rfl _ _ _) (fun w' hw'=>⟨rfl,?_⟩) .ret (.inl rfl)
  exact bZ (l:=l) a (by
   have h9:=In.dP.1 hw'
   exact h9.s)
end
section
variable {w0 w:World} {l:List SL} {r:Nat} {T:ah} {k:aB} {G:Value→Prop}
theorem Y0 (h:In w0 w (eF G r T k::l)) (tk mk id:Int) (hf:k.eH=false→k.errors.items.length<k.errors.room):
 aW 94 #[r,.agg #[.int .i64 1,.int .i64 tk,.int .u32 mk],.int .i64 id] w w0 (.tuple #[]) (eF G r T (k.act T ⟨1,tk,mk⟩ id)::l):=by
 obtain⟨B,x,ao,h0⟩:=fK h
 have h1:=h0.alloc2 (CO 1 tk mk) (wC id)
 have hka:k.act T ⟨1,tk,mk⟩ id=if(k.core.dB T tk).2=0 then {k with core:=(k.core.dB T tk).1} else({k with core:=(k.core.dB T tk).1}:aB).fail T (k.core.dB T tk).2 4 (lD tk):=rfl
 rw[hka]
 clear hka h0 h
 have hac:∀ {w':World} {l':List SL},In w0 w' (Core x.pc T k.core::l')→_:=fun h=>tX h tk
 generalize k.core.dB T tk=p at*
 rcases p with⟨c,st⟩
 simp only at hac⊢
 rcases Decidable.em (st=0)with hs|hs
 all_goals
  simp only[hs,if_true,if_false]
  go_enter func94,ntmps94
  go_upto_region 1 with(fail)
  refine In.abs h1 ?_
  clear h1
  generalize w.heap.size=z
  intro w2 h2
  have fZ:=(h2.ae p1).cells
  have bC:=(h2.ae p3).cells
  have hcI:=h2.cells
  go_upto_region 3 with(fail)
  refine rg ⟨[],[6]⟩ [.c 0 0,.c 0 1,.c 0 2,.c 1 3,.c 0 4,.c 1 5,.e 6,.c 0 7] ?_
  refine rG ?_;intro K hK
  have hp:=hac (h2.drew.ae p2)
  go_wp2_with (go_at_call 77;refine bF hp ?_;intro w3 h3)
  go_wp2_with fail
  refine lK ?_
  clear hp hac bC hcI fZ h2
 ·go_wp2_with fail
  go_end0
  exact⟨rfl,bY ao (h3.s)⟩
 ·have h4:=bY (l:=pts z (CO 1 tk mk)::l) ao (h3.s)
  have fZ:=(h4.ae p1).cells
  have hs2:(st != 0)=true:=by simpa using hs
  have hfa:=rf h4 st 4 (lD tk) hf
  unfold lD at hfa
  go_wp2_with (go_at_call 87;refine bF hfa ?_;intro w5 h5)
  go_end0
  exact⟨rfl,(h5.ae p1).drop⟩
theorem Zv (h:In w0 w (eF G r T k::l)) (tk mk id:Int) (hf:k.eH=false→k.errors.items.length<k.errors.room):
 aW 94 #[r,.agg #[.int .i64 2,.int .i64 tk,.int .u32 mk],.int .i64 id] w w0 (.tuple #[]) (eF G r T (k.act T ⟨2,tk,mk⟩ id)::l):=by
 obtain⟨B,x,ao,h0⟩:=fK h
 have h1:=h0.alloc2 (CO 2 tk mk) (wC id)
 have hka:k.act T ⟨2,tk,mk⟩ id=if(k.core.fA T tk mk).2=0 then {k with core:=(k.core.fA T tk mk).1} else({k with core:=(k.core.fA T tk mk).1}:aB).fail T (k.core.fA T tk mk).2 18 (lD tk):=rfl
 rw[hka]
 clear hka h0 h
 have hac:∀ {w':World} {l':List SL},In w0 w' (Core x.pc T k.core::l')→_:=fun h=>EL h tk mk
 generalize k.core.fA T tk mk=p at*
 rcases p with⟨c,st⟩
 simp only at hac⊢
 rcases Decidable.em (st=0)with hs|hs
 all_goals
  simp only[hs,if_true,if_false]
  go_enter func94,ntmps94
  go_upto_region 1 with(fail)
  refine In.abs h1 ?_
  clear h1
  generalize w.heap.size=z
  intro w2 h2
  have fZ:=(h2.ae p1).cells
  have bC:=(h2.ae p3).cells
  have hcI:=h2.cells
  go_upto_region 7 with(fail)
  refine rg ⟨[],[8]⟩ [.c 0 0,.c 0 1,.c 0 2,.c 1 3,.c 0 4,.c 1 5,.c 0 6,.c 1 7,.e 8,.c 0 9] ?_
  refine rG ?_;intro K hK
  have hp:=hac (h2.drew.ae p2)
  go_wp2_with (go_at_call 238;refine bF hp ?_;intro w3 h3)
  go_wp2_with fail
  refine lK ?_
  clear hp hac bC hcI fZ h2
 ·go_wp2_with fail
  go_end0
  exact⟨rfl,bY ao (h3.s)⟩
 ·have h4:=bY (l:=pts z (CO 2 tk mk)::l) ao (h3.s)
  have fZ:=(h4.ae p1).cells
  have hs2:(st != 0)=true:=by simpa using hs
  have hfa:=rf h4 st 18 (lD tk) hf
  unfold lD at hfa
  go_wp2_with (go_at_call 87;refine bF hfa ?_;intro w5 h5)
  go_end0
  exact⟨rfl,(h5.ae p1).drop⟩
theorem ZU (h:In w0 w (eF G r T k::l)) (tk mk id:Int) (hf:k.calls.items.contains id=false→k.calls.items.length<k.calls.room):
 aW 94 #[r,.agg #[.int .i64 3,.int .i64 tk,.int .u32 mk],.int .i64 id] w w0 (.tuple #[]) (eF G r T (k.act T ⟨3,tk,mk⟩ id)::l):=by
 obtain⟨B,x,ao,h0⟩:=dD h
 have h1:=h0.alloc2 (CO 3 tk mk) (wC id)
 have hf0:k.calls.items.contains id=false→k.act T ⟨3,tk,mk⟩ id= {k with calls:={k.calls with items:=k.calls.items++ [id]}}:=fun hie=>by unfold aB.act;simp only[hie];rfl
 have hf1:k.calls.items.contains id=true→k.act T ⟨3,tk,mk⟩ id=k:=fun hie=>by unfold aB.act;simp only[hie];rfl
 generalize k.act T ⟨3,tk,mk⟩ id=kf at*
 clear h0 h
 refine ku func94 rfl ?_
 simp only[ntmps94,List.size_toArray,List.length_cons,List.length_nil,Nat.reduceAdd,Nat.reduceSub,Array.replicate_succ,Array.replicate_zero,List.push_toArray,List.append_toArray,List.nil_append,List.cons_append]
 go_upto_region 1 with(fail)
 refine In.abs h1 ?_
 clear h1
 generalize w.heap.size=z
 intro w2 h2
 have fZ:=(h2.ae p1).cells
 have bC:=(h2.ae p2).cells
 have hcI:=h2.cells
 go_wp2_with (go_at_call 239;refine(aat _ h2).mono ?_;rintro _ w4 ⟨d,rfl,h4⟩)
 have h5:In w0 w4 (star (dG x.pq k.calls) (pts d (.cells #[.pointer (some ⟨x.pq,0,none⟩)] 88 (0,0)))::star (AQ (∀c∈([]:List Int),c≠id)) (pts (z+1) (wC id))::pts r (aX T k x)::bJ B::Core x.pc T k.core::je x.pb T.aV k.board::gG x.pf k.frames::dV x.pe k.errors::Ints x.vk k.marks.rings::gQ x.vb k.begun::Ints x.vx k.aO::l):=by
  have h6:=h4.pr [9,0,0,1,1,1,1,1,1,1,1,1] 1
  have h7:=(In.dP.2 h6).ae p1
  exact(In.dP.2 (In.dw.2 ⟨by simp,h7⟩)).ae p1
 clear h4 bC hcI fZ h2
 refine pY (fun pre=>star (AQ (∀c∈pre,c≠id)) (pts (z+1) (wC id))) (fun c pre=>AQ (c= .ret∧∃c∈pre,c=id)) (Vb k.calls x.pq d) h5 (by rfl) rfl (fun _ _=>rfl) (by simp[gy,lQ]) (by simp) ?_ ?_ ?_
 ·intro pre c w5 R hpre h6
  obtain⟨hq,h7⟩:=In.dw.1 (In.dP.1 h6)
  have kT:=h7.cells
  refine qf (Ry (sJ ?_))
  simp only[List.setIfInBounds_toArray,List.set_cons_zero,List.set_cons_succ]
  rcases Decidable.em (c=id)with hk|hk
  ·subst hk
   go_wp2_with fail
   refine MC (by simp[go_sem,Act.eval]) ?_
   exact In.dw.2 ⟨⟨rfl,c,by simp,rfl⟩,h7.drop⟩
  ·have hk2:(c==id)=false:=by simpa using hk
   go_wp2_with fail
   refine Ju (by simp[go_sem,Act.eval]) ?_
   exact In.dP.2 (In.dw.2 ⟨fun c' hc'=>by rcases List.mem_append.1 hc' with h|h;exact hq c' h;rw[List.mem_singleton.1 h];exact hk,h7⟩)
 ·intro D w5 h6
  obtain⟨hq,h7⟩:=In.dw.1 (In.dP.1 (h6.ae p2))
  have hie:k.calls.items.contains id=false:=by
   cases hh:k.calls.items.contains id with
   |false=>rfl
   |true=>exact absurd rfl (hq id (List.contains_iff_mem.1 hh))
  obtain rfl:=hf0 hie
  have hf2:=hf hie
  clear hie hq hf hf0 hf1
  have h8:=bZ (l:=pts (z+1) (wC id)::pts D (.deferred (some []))::l) ao (by
   have h9:=In.dP.1 (h7.ae p2)
   exact h9.s)
  have hpu:=Z8 h8.drew id hf2
  have bC:=(h7.ae p3).cells
  have hcI:=h7.cells
  go_upto_region 14 with(fail)
  refine rg ⟨[],[4]⟩ [.c 0 0,.c 0 1,.c 0 2,.c 1 3,.e 4] ?_
  refine rG ?_;intro K hK
  try refine aS ?_
  go_wp2_with (go_at_call 240;refine bF hpu ?_;intro w6 h9)
  go_wp2_with fail
  try refine aS ?_
  go_wp2_with fail
  refine fP (h9.ae p2) (by rfl) (fun w'=>results_none rfl _ _ _) (fun w' hw'=>⟨rfl,(hw'.ae p1).drop⟩) .normal (.inr rfl)
 ·intro D c pre w5 hpre h6
  obtain⟨⟨rfl,c,hc,rfl⟩,h7⟩:=In.dw.1 (h6.ae p2)
  have hie:k.calls.items.contains c=true:=List.contains_iff_mem.2 (hpre.subset hc)
  obtain rfl:=hf1 hie
  go_wp2_with fail
  refine fP (In.ae (h7) p0) (by rfl) (fun w'=>results_none rfl _ _ _) (fun w' hw'=>⟨rfl,?_⟩) .ret (.inl rfl)
  exact bZ (l:=l) ao (by
   have h9:=In.dP.1 hw'
   exact h9.s)
theorem acb (h:In w0 w (eF G r T k::l)) (a:zx) (id:Int) (hf:k.eH=false→k.errors.items.length<k.errors.room) (hc:a.kind=3→k.calls.items.contains id=false→k.calls.items.length<k.calls.room) (ha:a.kind=1∨a.kind=2∨a.kind=3):
 aW 94 #[r,.agg #[.int .i64 a.kind,.int .i64 a.lL,.int .u32 a.mask],.int .i64 id] w w0 (.tuple #[]) (eF G r T (k.act T a id)::l):=by
 rcases a with⟨kd,tk,mk⟩
 rcases ha with h1|h1|h1
 ·obtain rfl:kd=1:=h1
  exact Y0 h tk mk id hf
 ·obtain rfl:kd=2:=h1
  exact Zv h tk mk id hf
 ·obtain rfl:kd=3:=h1
  exact ZU h tk mk id (hc rfl)
end
structure Ri (k:aB) (a:zx) (id:Int):Prop where
 err:k.eH=false→k.errors.items.length<k.errors.room
 calls:a.kind=3→k.calls.items.contains id=false→k.calls.items.length<k.calls.room
 kind:a.kind=1∨a.kind=2∨a.kind=3
section
variable {w0 w:World} {l:List SL} {r:Nat} {T:ah} {k:aB} {G:Value→Prop}
theorem FT:∀(pre:List Int) (k:aB) (i:Int),aB.nI T k (pre++ [i])=aB.mark T ((aB.nI T k pre).act T (T.deed i) i)
 | [],_,_=>rfl
 |x::pre,k,i=>FT pre _ i
theorem CZ {st sv pa:Int}:(k.fail T st sv pa).aO=k.aO:=by
 unfold aB.fail
 split<;>rfl
theorem MX {a:zx} {id:Int}:(k.act T a id).aO=k.aO:=by
 unfold aB.act
 split
 ·simp only
  split
  ·rfl
  ·rw[CZ]
 ·split
  ·simp only
   split
   ·rfl
   ·rw[CZ]
  ·split
   ·split<;>rfl
   ·rfl
theorem zF:∀(pre:List Int) (k:aB),(aB.nI T k pre).aO=k.aO
 | [],_=>rfl
 |x::pre,k=>by
  show(aB.nI T _ pre).aO=_
  rw[zF pre]
  show(k.act T (T.deed x) x).aO=_
  rw[MX]
theorem ML {G':Value→Prop} (h:In w0 w (eF G r T k::l)) (hG:∀v,G v→G' v):In w0 w (eF G' r T k::l):=by
 obtain⟨B,x,a,h1⟩:=dD h
 exact bZ ⟨a.tab,a.chk,a.num,a.len,hG _ a.gh⟩ h1
theorem aab (h:In w0 w (eF G r T k::l)) {c:Nat} {y:dS} (hy:k.board.clocks[c]? =some y) (hfl:(T.aV.fired c y).length≤64)
 (aaT:∀(pre:List Int) (i:Int) (post:List Int),T.aV.fired c y=pre++i::post→∃(n:Nat) (a:zx),i=((n:Nat):Int)∧(∃b,T.ag[n]? =some b∧b.act=a)∧Ri (aB.nI T {k with board:=k.board.dA c y.tick,aO:=T.aV.fired c y} pre) a i):
 aW 37 #[r,.int .i64 c] w w0 (.int .i64 0) (eF (fun _=>True) r T (aB.nI T {k with board:=k.board.dA c y.tick,aO:=T.aV.fired c y} (T.aV.fired c y))::l):=by
 obtain⟨B,x,a,h0⟩:=dD h
 clear h
 rcases x with⟨vt,vr,vs,vc,va,vi,vm,pc,pb,pf,pe,pq,vk,vb,vx⟩
 simp only at h0
 have bC:=h0.cells
 have hti:=Zg (h0.ae p3) hy
 generalize hfe:T.aV.fired c y=fl at*
 generalize hk1:({k with board:=k.board.dA c y.tick,aO:=fl}:aB)=k1 at aaT⊢
 replace hk1:∃_:Unit,({k with board:=k.board.dA c y.tick,aO:=fl}:aB)=k1:=⟨(),hk1⟩
 go_enter func37,ntmps37
 go_upto_region 2 with(go_at_call 93;refine Calls.mono hti ?_;rintro _ w3 ⟨v,rfl,h3⟩)
 obtain⟨ao,cap,rfl⟩:=In.aG (E:=3) (size:=1) h3
 clear hti bC h0 hy hfe
 have bC:=(h3.ae p2).cells
 have jb:=(h3.ae p2).free
 go_upto_region 5 with(fail)
 have h4:In w0 _ (pts r (aX T {k with board:=k.board.dA c y.tick,aO:=fl} ⟨vt,vr,vs,vc,va,vi,vm,pc,pb,pf,pe,pq,vk,vb,.slice ao fl.length cap⟩)::_):=(h3.ae p2).setCell (off:=29) (.slice ao fl.length cap)
 refine In.abs h4 ?_
 clear h4 h3 bC jb
 intro w4 h4
 have H8:=h4.pr [0,2,2,1,1,1,1,1,1,0] 1
 have h5:=bZ (G:=fun v=>v= .slice ao fl.length cap) (k:={k with board:=k.board.dA c y.tick,aO:=fl}) (x:=⟨vt,vr,vs,vc,va,vi,vm,pc,pb,pf,pe,pq,vk,vb,.slice ao fl.length cap⟩) ⟨a.tab,a.chk,a.num,a.len,rfl⟩ H8
 clear H8 h4 a
 obtain⟨_,hk1⟩:=hk1
 have hexp:=fun pre=>zF (T:=T) pre {k with board:=k.board.dA c y.tick,aO:=fl}
 simp only at hexp
 rw[hk1]at h5 hexp
 clear hk1
 go_upto_region 6 with(fail)
 go_loopw [8,26] (fun _ c wr=>∃j:Nat,j≤fl.length∧c= .int .i64 j∧In w0 wr (eF (fun v=>v= .slice ao fl.length cap) r T (aB.nI T k1 (fl.take j))::l))
  (fun _ c _=>fl.length-(intOf c).toNat)
 case atStart=>exact⟨0,Nat.zero_le _,rfl,by rw[List.take_zero];exact h5⟩
 case round=>
  obtain⟨j,hj,rfl,hw⟩:=hrel
  clear h5
  by_cases hlt:j<fl.length
  ·have e1:fl=fl.take j++fl[j]::fl.drop (j+1):=by rw[List.getElem_cons_drop,List.take_append_drop]
   obtain⟨n,ac,hn,⟨b,hb,hba⟩,hnd⟩:=aaT _ _ _ e1
   have hget:fl[j]? =some fl[j]:=List.getElem?_eq_getElem hlt
   have hnx:aB.nI T k1 (fl.take (j+1))=aB.mark T ((aB.nI T k1 (fl.take j)).act T ac n):=by
    rw[List.take_succ_eq_append_getElem hlt,FT,hn]
    congr 1
    unfold ah.deed
    rw[Int.toNat_natCast,hb,←hba]
   have hex:=hexp (fl.take j)
   rw[hn]at hget hnd
   clear e1 hn hexp
   generalize aB.nI T k1 (fl.take j)=kj at*
   generalize fl[j]=fj at*
   obtain⟨B,x,a,h6⟩:=dD hw
   rcases x with⟨vt,vr,vs,vc,va,vi,vm,pc,pb,pf,pe,pq,vk,vb,vx⟩
   simp only at h6
   have hgh:vx=_:=a.gh
   subst hgh
   rw[hex]at h6
   obtain⟨g0,o0,cap0,e0,hcl⟩:=iw (slot:=dR) (size:=7) (fun _=>rfl) a.tab.ag hb
   simp only at e0
   subst e0
   have bC:=h6.cells
   rcases(h6.ae p9).aU with⟨_,e,_⟩|⟨g,cap2,ext,e,_⟩
   ·omega
   cases e
   have hcM:wr.cell? ⟨g,j,none⟩=some (.int .i64 n):=by
    have:=(h6.ae p9).bT (sl:=fl.map jf) (size:=1) (i:=j) (x:=jf n) (by intro y hy;obtain⟨q,_,rfl⟩:=List.mem_map.1 hy;rfl) (by rw[List.getElem?_map,hget];rfl) 0 (u:= .int .i64 n) rfl
    simpa using this
   have hd1:=hcl (h6.ae p1) 1 _ rfl (by decide)
   have hd2:=hcl (h6.ae p1) 2 _ rfl (by decide)
   have hd3:=hcl (h6.ae p1) 3 _ rfl (by decide)
   simp only[mG,hba]at hd1 hd2 hd3
   have n1:(j:Int)<fl.length:=by omega
   have n2:(0:Int)≤(j:Int):=by omega
   have hnA:=(List.getElem?_eq_some_iff.1 hb).1
   have n3:(n:Int)<T.ag.length:=by omega
   have n4:(0:Int)≤(n:Int):=by omega
   clear hcl hb hba hget hnA
   have hac:=acb hw ac n hnd.err hnd.calls hnd.kind
   clear hnd h6 hex a
   generalize kj.act T ac n=k2 at*
   rcases ac with⟨kd,tk,mk⟩
   simp only at hd1 hd2 hd3 hac
   go_upto_region 9 with(go_at_call 94;refine bF hac ?_;intro w7 h7)
   clear bC hcM hd1 hd2 hd3 hac hw
   have hmk:=uD h7
   go_wp2_with (go_at_call 38;refine bF hmk ?_;intro w8 h8)
   go_roundw
   case rel=>exact⟨j+1,hlt,by go_num,by rw[hnx];exact h8⟩
   case measure=>simp[intOf]<;>omega
  ·have hje:j=fl.length:=by omega
   rw[hje,List.take_length]at hw
   have n1:¬((j:Int)<fl.length):=by omega
   go_wp2_with fail
   go_ret
   exact⟨rfl,ML hw fun _ _=>trivial⟩
end
section
variable {w0 w:World} {l:List SL} {r:Nat} {T:ah} {k:aB} {G:Value→Prop}
theorem kC {st sv pa:Int}:(k.fail T st sv pa).frames=k.frames:=by unfold aB.fail;split<;>rfl
theorem pV {st sv pa:Int}:(k.fail T st sv pa).begun=k.begun:=by unfold aB.fail;split<;>rfl
theorem JQ {st sv pa:Int}:(k.fail T st sv pa).eH=k.eH:=by unfold aB.eH;rw[kC]
theorem TW {st sv pa:Int}:(k.fail T st sv pa).errors.room=k.errors.room:=by unfold aB.fail;split<;>rfl
theorem Vp {st sv pa:Int}:(k.fail T st sv pa).errors.items.length≤k.errors.items.length+1:=by
 unfold aB.fail
 split
 ·omega
 ·simp[aB.mark]
theorem Gi {xs:List oV} {c:oV} (h:k.frames.items=xs++ [c]):k.ctx=c:=by
 unfold aB.ctx
 rw[h]
 simp
theorem Xv (h:In w0 w (eF G r T k::l)) {xs:List oV} {c:oV} (hx:k.frames.items=xs++ [c]) (hk:c.frame.kind=1) (hf:k.eH=false→k.errors.items.length<k.errors.room) (hp:T.use 16=true→k.frames.items.length<k.frames.depth) (hb:k.begun.length≤100000):
 aW 35 #[r] w w0 (.int .i64 (k.back T).2) (eF G r T (k.back T).1::l):=by
 obtain⟨B,x,a,h0⟩:=dD h
 have hbk:k.back T=((({({k with gate:= .wide}:aB).fail T 9 5 0 with core:=(({k with gate:= .wide}:aB).fail T 9 5 0).core.oQ.1}:aB).leave T),9):=by
  unfold aB.back
  rw[Gi hx]
  simp only[hk,if_true]
 rw[hbk]
 simp only
 clear hbk h
 have adF:∀w',In w0 w' (eF G r T {k with gate:= .wide}::l)→_:=fun w' h=>rf h 9 5 0 hf
 have hfr:(({k with gate:= .wide}:aB).fail T 9 5 0).frames=k.frames:=kC
 have hbg:(({k with gate:= .wide}:aB).fail T 9 5 0).begun=k.begun:=pV
 generalize ({k with gate:= .wide}:aB).fail T 9 5 0=k2 at*
 have hto:=F6 (h0.ae p4) hx
 rcases c with⟨⟨kd,id,st,sv,pa⟩,⟨gs,ga,go⟩⟩
 obtain rfl:kd=1:=hk
 simp only at hto
 clear hx
 have bC:=h0.cells
 go_enter func35,ntmps35
 go_upto_region 2 with(go_at_call 81;refine bF hto ?_;intro w3 h3)
 have h4:=h3.alloc (EG 1 id st sv pa gs ga go)
 refine In.abs h4 ?_
 clear h4 h3 bC hto h0
 generalize w3.heap.size=z
 intro w4 h4
 have fZ:=h4.cells
 have H8:=h4.pr [2,2,2,2,1,1,1,1,1,1] 1
 clear h4
 have bC:=H8.cells
 have jb:=H8.free
 go_upto_region 5 with(fail)
 have h6:In w0 _ (pts r (aX T {k with gate:= .wide} x)::_):=((H8.setCell (off:=18) (.bool false)).setCell (off:=19) (.int .i64 0)).setCell (off:=20) (.int .i64 0)
 refine In.abs h6 ?_
 clear h6 H8 bC jb fZ
 intro w6 h6
 have h7:=bZ (k:={k with gate:= .wide}) (x:=x) ⟨a.tab,a.chk,a.num,a.len,a.gh⟩ h6
 clear h6 a
 have hfa:=adF _ h7
 clear adF
 go_upto_region 6 with(go_at_call 87;refine bF hfa ?_;intro w8 h8)
 clear hfa h7
 obtain⟨B,x,a,h9⟩:=fK h8
 have hab:=WR h9
 have bC:=(h9.ae p1).cells
 go_upto_region 7 with(go_at_call 88;refine bF hab ?_;intro w10 h10)
 have h11:=bY a h10
 clear hab h10 h9 h8 a bC
 have hlv:=GU h11 (by intro hu;show k2.frames.items.length<k2.frames.depth;rw[hfr];exact hp hu) (by show k2.begun.length≤_;rw[hbg];exact hb)
 go_wp2_with (go_at_call 89;refine bF hlv ?_;intro w12 h12)
 go_ret
 exact⟨rfl,h12⟩
theorem We (h:In w0 w (eF G r T k::l)) {xs:List oV} {c:oV} (hx:k.frames.items=xs++ [c]) (hk1:c.frame.kind≠1) (hk2:c.frame.kind≠2):
 aW 35 #[r] w w0 (.int .i64 (k.back T).2) (eF G r T (k.back T).1::l):=by
 obtain⟨B,x,a,h0⟩:=dD h
 have hbk:k.back T=({k with gate:=c.gate,frames:={k.frames with items:=xs}},0):=by
  unfold aB.back
  rw[Gi hx]
  simp only[if_neg hk1,if_neg hk2]
  rw[hx,List.dropLast_concat]
 rw[hbk]
 simp only
 clear hbk h
 have hto:=F6 (h0.ae p4) hx
 rcases c with⟨⟨kd,id,st,sv,pa⟩,⟨gs,ga,go⟩⟩
 have hd1:(kd==1)=false:=by simpa using hk1
 have hd2:(kd==2)=false:=by simpa using hk2
 simp only at hto
 clear hk1 hk2
 have bC:=h0.cells
 go_enter func35,ntmps35
 go_upto_region 2 with(go_at_call 81;refine bF hto ?_;intro w3 h3)
 have h4:=h3.alloc (EG kd id st sv pa gs ga go)
 refine In.abs h4 ?_
 clear h4 h3 bC hto h0
 generalize w3.heap.size=z
 intro w4 h4
 have fZ:=h4.cells
 have H8:=h4.pr [2,2,2,2,1,1,1,1,1,1] 1
 clear h4
 have bC:=H8.cells
 have jb:=H8.free
 go_upto_region 16 with(fail)
 have h6:In w0 _ (pts r (aX T {k with gate:=⟨gs,ga,go⟩} x)::_):=((H8.setCell (off:=18) (.bool gs)).setCell (off:=19) (.int .i64 ga)).setCell (off:=20) (.int .i64 go)
 refine In.abs h6 ?_
 clear h6 H8 bC jb fZ
 intro w6 h6
 have bC:=h6.cells
 have hpo:=Bq (h6.ae p4) hx
 clear hx
 go_wp2_with (go_at_call 91;refine bF hpo ?_;intro w7 h7)
 go_ret
 have h8:=h7.pr [1,1,1,1,0,0,0,0,0,0]
 exact⟨rfl,bZ (k:={k with gate:=⟨gs,ga,go⟩,frames:={k.frames with items:=xs}}) (x:=x) ⟨a.tab,a.chk,a.num,a.len,a.gh⟩ h8⟩
theorem WN (h:In w0 w (eF G r T k::l)) {xs:List oV} {c:oV} (hx:k.frames.items=xs++ [c]) (hk:c.frame.kind=2) {y:mD} (hy:T.eU.rows (eQ c.frame.id)=some y) (hf:k.eH=false→k.errors.items.length+2≤k.errors.room):
 aW 35 #[r] w w0 (.int .i64 (k.back T).2) (eF G r T (k.back T).1::l):=by
 obtain⟨B,x,a,h0⟩:=fK h
 clear h
 have hdr:∀w' l',In w0 w' (Core x.pc T k.core::l')→_:=fun w' l' h=>ZI (l:=l') h (k.core.CW c.frame.id) hy
 have hbk:k.back T=(let k2:aB:={k with core:={k.core with lock:=k.core.lock.iC (eQ c.frame.id)}}
  let k3:=match (k.core.lock.held (eQ c.frame.id)).getLast? with|some r=>k2.fail T 6 17 (lD r)|none=>k2
  let k4:=if k3.gate.same c.gate then k3 else k3.fail T 10 0 0
  ({k4 with gate:=c.gate,frames:={k4.frames with items:=k4.frames.items.dropLast}},0)):=by
  unfold aB.back
  rw[Gi hx]
  simp only[hk,if_true,if_neg (show ¬(2:Int)=1 by decide)]
  rfl
 have hdl:EJ (k.core.lock.held ⟨true,c.frame.id⟩)=match (k.core.lock.held (eQ c.frame.id)).getLast? with|some t=> .tuple #[.int .i64 t,.bool true]|none=> .tuple #[.int .i64 (-1),.bool false]:=rfl
 rw[hdl]at hdr
 clear hdl
 rw[hbk]
 clear hbk
 have e2:(⟨true,c.frame.id⟩:bK)=eQ c.frame.id:=rfl
 rw[e2]at hdr
 simp only
 have hi2:({k with core:={k.core with lock:=k.core.lock.iC (eQ c.frame.id)}}:aB).eH=false→({k with core:={k.core with lock:=k.core.lock.iC (eQ c.frame.id)}}:aB).errors.items.length+2≤({k with core:={k.core with lock:=k.core.lock.iC (eQ c.frame.id)}}:aB).errors.room:=hf
 have hf2:({k with core:={k.core with lock:=k.core.lock.iC (eQ c.frame.id)}}:aB).frames=k.frames:=rfl
 have hsh:∀w' l',In w0 w' (Core x.pc T {k.core with lock:=k.core.lock.iC (eQ c.frame.id)}::pts r (aX T k x)::bJ B::je x.pb T.aV k.board::gG x.pf k.frames::dV x.pe k.errors::dG x.pq k.calls::Ints x.vk k.marks.rings::gQ x.vb k.begun::Ints x.vx k.aO::l')→In w0 w' (eF G r T {k with core:={k.core with lock:=k.core.lock.iC (eQ c.frame.id)}}::l'):=fun w' l' h=>bY a h
 generalize ({k with core:={k.core with lock:=k.core.lock.iC (eQ c.frame.id)}}:aB)=k2 at*
 clear hf a
 generalize (k.core.lock.held (eQ c.frame.id)).getLast?=go1 at*
 have hto:=F6 (h0.ae p4) hx
 rcases c with⟨⟨kd,id,st,sv,pa⟩,⟨gs,ga,go⟩⟩
 obtain rfl:kd=2:=hk
 simp only at hto hdr hsh⊢
 unfold dJ at hdr
 unfold eQ at hdr hsh
 simp only at hdr
 clear hy e2
 cases go1 with
 |some t=>
  simp only at hdr⊢
  have hfD:∀w' l',In w0 w' (eF G r T k2::l')→_:=fun w' l' h=>rf (l:=l') h 6 17 (lD t) (fun h=>by have:=hi2 h;omega)
  have hi3:(k2.fail T 6 17 (lD t)).eH=false→(k2.fail T 6 17 (lD t)).errors.items.length+1≤(k2.fail T 6 17 (lD t)).errors.room:=fun h=>by
   rw[JQ]at h
   have:=hi2 h
   have h3:=Vp (T:=T) (k:=k2) (st:=6) (sv:=17) (pa:=lD t)
   rw[TW]
   omega
  have hf3:(k2.fail T 6 17 (lD t)).frames=k.frames:=by rw[kC];exact hf2
  generalize k2.fail T 6 17 (lD t)=k3 at*
  unfold lD at hfD
  have hx3:k3.frames.items=xs++ [⟨⟨2,id,st,sv,pa⟩,⟨gs,ga,go⟩⟩]:=by rw[hf3];exact hx
  clear hx hi2 hf2
  cases hgs:k3.gate.same ⟨gs,ga,go⟩with
  |true=>
   simp only[if_true]
   have hx4:=hx3
   rw[hx3,List.dropLast_concat]
   clear hi3 hf3
   have bC:=(h0.ae p1).cells
   go_enter func35,ntmps35
   go_upto_region 2 with(go_at_call 81;refine bF hto ?_;intro w3 h3)
   have h4:=h3.alloc (EG 2 id st sv pa gs ga go)
   refine In.abs h4 ?_
   clear h4 h3 hto h0 bC
   generalize w3.heap.size=z
   intro w4 h4
   have fZ:=h4.cells
   have bC:=(h4.ae p3).cells
   go_upto_region 10 with(fail)
   have h5:=h4.pr [2,2,0,1,1,0,0,0,0,0,0]
   clear h4
   have hS0:=(h5.drew).ps [1,1]
   refine nK hS0 ⟨[7],[8]⟩ [.c 0 0,.c 0 1,.c 0 2,.c 2 3,.c 0 4,.c 0 5,.c 1 6,.e 7,.e 8,.c 0 9,.c 0 10,.c 0 11,.c 0 12,.c 0 13] ?_
   refine nD ?_;intro K hK
   go_wp2_with (go_at_call 45;refine bF (tJ h5.drew id) ?_;intro w6 h6)
   go_wp2_with fail
   refine df hK ((h6).s) fun hS0=>?_
   refine bG rfl rfl fun K hK=>?_
   have hd:=hdr _ _ h6
   go_wp2_with (go_at_call 90;refine bF hd ?_;intro w7 h7)
   go_wp2_with fail
   refine wM ?_
   clear hd bC fZ h5 h6 hdr
   have h8:=hsh _ (pts z (EG 2 id st sv pa gs ga go)::l) (h7.s)
   clear h7 hsh
   go_upto_region 13 with(go_at_call 87;refine bF (hfD _ _ h8) ?_;intro w9 h9)
   clear h8 hfD
   obtain⟨B3,x3,a3,h10⟩:=dD h9
   have bC:=h10.cells
   have fZ:=(h10.ae p10).cells
   have hgn:=FZ k3.gate.shut gs k3.gate.all ga k3.gate.os go
   have H6:lg.same ⟨k3.gate.shut,k3.gate.all,k3.gate.os⟩ ⟨gs,ga,go⟩=true:=hgs
   rw[H6]at hgn
   clear H6
   refine rg ⟨[], []⟩ [.c 0 0,.c 0 1,.c 0 2,.c 1 3,.c 0 4,.c 1 5,.c 0 6] ?_
   refine lK ?_
   have Yb:=h9.drew
   clear h10 bC fZ hgn
   go_upto_region 15 with(fail)
   refine In.abs Yb ?_
   clear Yb h9
   intro w11 h11
   obtain⟨B4,x4,a4,h12⟩:=dD h11
   have bC:=h12.cells
   have jb:=h12.free
   have fZ:=(h12.ae p10).cells
   go_upto_region 16 with(fail)
   have h13:In w0 _ (pts r (aX T {k3 with gate:=⟨gs,ga,go⟩} x4)::_):=((h12.setCell (off:=18) (.bool gs)).setCell (off:=19) (.int .i64 ga)).setCell (off:=20) (.int .i64 go)
   refine In.abs h13 ?_
   clear h13 h12 bC jb fZ
   intro w13 h13
   have bC:=h13.cells
   have hpo:=Bq (h13.ae p4) hx4
   clear hx4
   go_wp2_with (go_at_call 91;refine bF hpo ?_;intro w14 lM)
   go_ret
   have h15:=lM.pr [1,1,1,1,0,0,0,0,0,0] 1
   exact⟨rfl,bZ (k:={k3 with gate:=⟨gs,ga,go⟩,frames:={k3.frames with items:=xs}}) (x:=x4) ⟨a4.tab,a4.chk,a4.num,a4.len,a4.gh⟩ h15⟩
  |false=>
   simp only[Bool.false_eq_true,if_false]
   have hfG:∀w' l',In w0 w' (eF G r T k3::l')→_:=fun w' l' h=>rf (l:=l') h 10 0 0 (fun h=>by have:=hi3 h;omega)
   have hx4:(k3.fail T 10 0 0).frames.items=xs++ [⟨⟨2,id,st,sv,pa⟩,⟨gs,ga,go⟩⟩]:=by rw[kC];exact hx3
   rw[hx4,List.dropLast_concat]
   generalize k3.fail T 10 0 0=k4 at*
   clear hi3 hf3
   have bC:=(h0.ae p1).cells
   go_enter func35,ntmps35
   go_upto_region 2 with(go_at_call 81;refine bF hto ?_;intro w3 h3)
   have h4:=h3.alloc (EG 2 id st sv pa gs ga go)
   refine In.abs h4 ?_
   clear h4 h3 hto h0 bC
   generalize w3.heap.size=z
   intro w4 h4
   have fZ:=h4.cells
   have bC:=(h4.ae p3).cells
   go_upto_region 10 with(fail)
   have h5:=h4.pr [2,2,0,1,1,0,0,0,0,0,0]
   clear h4
   have hS0:=(h5.drew).ps [1,1]
   refine nK hS0 ⟨[7],[8]⟩ [.c 0 0,.c 0 1,.c 0 2,.c 2 3,.c 0 4,.c 0 5,.c 1 6,.e 7,.e 8,.c 0 9,.c 0 10,.c 0 11,.c 0 12,.c 0 13] ?_
   refine nD ?_;intro K hK
   go_wp2_with (go_at_call 45;refine bF (tJ h5.drew id) ?_;intro w6 h6)
   go_wp2_with fail
   refine df hK ((h6).s) fun hS0=>?_
   refine bG rfl rfl fun K hK=>?_
   have hd:=hdr _ _ h6
   go_wp2_with (go_at_call 90;refine bF hd ?_;intro w7 h7)
   go_wp2_with fail
   refine wM ?_
   clear hd bC fZ h5 h6 hdr
   have h8:=hsh _ (pts z (EG 2 id st sv pa gs ga go)::l) (h7.s)
   clear h7 hsh
   go_upto_region 13 with(go_at_call 87;refine bF (hfD _ _ h8) ?_;intro w9 h9)
   clear h8 hfD
   obtain⟨B3,x3,a3,h10⟩:=dD h9
   have bC:=h10.cells
   have fZ:=(h10.ae p10).cells
   have hgn:=FZ k3.gate.shut gs k3.gate.all ga k3.gate.os go
   have H6:lg.same ⟨k3.gate.shut,k3.gate.all,k3.gate.os⟩ ⟨gs,ga,go⟩=false:=hgs
   rw[H6]at hgn
   clear H6
   refine rg ⟨[], []⟩ [.c 0 0,.c 0 1,.c 0 2,.c 1 3,.c 0 4,.c 1 5,.c 0 6] ?_
   refine lK ?_
   have hg:=hfG _ _ h9.drew
   clear bC
   go_upto_region 15 with(go_at_call 87;refine bF hg ?_;intro w11 h11)
   clear h9 h10 fZ hgn hg hfG
   obtain⟨B4,x4,a4,h12⟩:=dD h11
   have bC:=h12.cells
   have jb:=h12.free
   have fZ:=(h12.ae p10).cells
   go_upto_region 16 with(fail)
   have h13:In w0 _ (pts r (aX T {k4 with gate:=⟨gs,ga,go⟩} x4)::_):=((h12.setCell (off:=18) (.bool gs)).setCell (off:=19) (.int .i64 ga)).setCell (off:=20) (.int .i64 go)
   refine In.abs h13 ?_
   clear h13 h12 bC jb fZ
   intro w13 h13
   have bC:=h13.cells
   have hpo:=Bq (h13.ae p4) hx4
   clear hx4
   go_wp2_with (go_at_call 91;refine bF hpo ?_;intro w14 lM)
   go_ret
   have h15:=lM.pr [1,1,1,1,0,0,0,0,0,0] 1
   exact⟨rfl,bZ (k:={k4 with gate:=⟨gs,ga,go⟩,frames:={k4.frames with items:=xs}}) (x:=x4) ⟨a4.tab,a4.chk,a4.num,a4.len,a4.gh⟩ h15⟩
 |none=>
  simp only at hdr⊢
  have hi3:k2.eH=false→k2.errors.items.length+1≤k2.errors.room:=fun h=>by have:=hi2 h;omega
  have hf3:=hf2
  generalize k2=k3 at*
  have hx3:k3.frames.items=xs++ [⟨⟨2,id,st,sv,pa⟩,⟨gs,ga,go⟩⟩]:=by rw[hf3];exact hx
  clear hx hi2 hf2
  cases hgs:k3.gate.same ⟨gs,ga,go⟩with
  |true=>
   simp only[if_true]
   have hx4:=hx3
   rw[hx3,List.dropLast_concat]
   clear hi3 hf3
   have bC:=(h0.ae p1).cells
   go_enter func35,ntmps35
   go_upto_region 2 with(go_at_call 81;refine bF hto ?_;intro w3 h3)
   have h4:=h3.alloc (EG 2 id st sv pa gs ga go)
   refine In.abs h4 ?_
   clear h4 h3 hto h0 bC
   generalize w3.heap.size=z
   intro w4 h4
   have fZ:=h4.cells
   have bC:=(h4.ae p3).cells
   go_upto_region 10 with(fail)
   have h5:=h4.pr [2,2,0,1,1,0,0,0,0,0,0]
   clear h4
   have hS0:=(h5.drew).ps [1,1]
   refine nK hS0 ⟨[7],[8]⟩ [.c 0 0,.c 0 1,.c 0 2,.c 2 3,.c 0 4,.c 0 5,.c 1 6,.e 7,.e 8,.c 0 9,.c 0 10,.c 0 11,.c 0 12,.c 0 13] ?_
   refine nD ?_;intro K hK
   go_wp2_with (go_at_call 45;refine bF (tJ h5.drew id) ?_;intro w6 h6)
   go_wp2_with fail
   refine df hK ((h6).s) fun hS0=>?_
   refine bG rfl rfl fun K hK=>?_
   have hd:=hdr _ _ h6
   go_wp2_with (go_at_call 90;refine bF hd ?_;intro w7 h7)
   go_wp2_with fail
   refine wM ?_
   clear hd bC fZ h5 h6 hdr
   have h8:=hsh _ (pts z (EG 2 id st sv pa gs ga go)::l) (h7.s)
   clear h7 hsh
   go_upto_region 13 with(fail)
   have h9:=h8
   clear h8
   obtain⟨B3,x3,a3,h10⟩:=dD h9
   have bC:=h10.cells
   have fZ:=(h10.ae p10).cells
   have hgn:=FZ k3.gate.shut gs k3.gate.all ga k3.gate.os go
   have H6:lg.same ⟨k3.gate.shut,k3.gate.all,k3.gate.os⟩ ⟨gs,ga,go⟩=true:=hgs
   rw[H6]at hgn
   clear H6
   refine rg ⟨[], []⟩ [.c 0 0,.c 0 1,.c 0 2,.c 1 3,.c 0 4,.c 1 5,.c 0 6] ?_
   refine lK ?_
   have Yb:=h9.drew
   clear h10 bC fZ hgn
   go_upto_region 15 with(fail)
   refine In.abs Yb ?_
   clear Yb h9
   intro w11 h11
   obtain⟨B4,x4,a4,h12⟩:=dD h11
   have bC:=h12.cells
   have jb:=h12.free
   have fZ:=(h12.ae p10).cells
   go_upto_region 16 with(fail)
   have h13:In w0 _ (pts r (aX T {k3 with gate:=⟨gs,ga,go⟩} x4)::_):=((h12.setCell (off:=18) (.bool gs)).setCell (off:=19) (.int .i64 ga)).setCell (off:=20) (.int .i64 go)
   refine In.abs h13 ?_
   clear h13 h12 bC jb fZ
   intro w13 h13
   have bC:=h13.cells
   have hpo:=Bq (h13.ae p4) hx4
   clear hx4
   go_wp2_with (go_at_call 91;refine bF hpo ?_;intro w14 lM)
   go_ret
   have h15:=lM.pr [1,1,1,1,0,0,0,0,0,0] 1
   exact⟨rfl,bZ (k:={k3 with gate:=⟨gs,ga,go⟩,frames:={k3.frames with items:=xs}}) (x:=x4) ⟨a4.tab,a4.chk,a4.num,a4.len,a4.gh⟩ h15⟩
  |false=>
   simp only[Bool.false_eq_true,if_false]
   have hfG:∀w' l',In w0 w' (eF G r T k3::l')→_:=fun w' l' h=>rf (l:=l') h 10 0 0 (fun h=>by have:=hi3 h;omega)
   have hx4:(k3.fail T 10 0 0).frames.items=xs++ [⟨⟨2,id,st,sv,pa⟩,⟨gs,ga,go⟩⟩]:=by rw[kC];exact hx3
   rw[hx4,List.dropLast_concat]
   generalize k3.fail T 10 0 0=k4 at*
   clear hi3 hf3
   have bC:=(h0.ae p1).cells
   go_enter func35,ntmps35
   go_upto_region 2 with(go_at_call 81;refine bF hto ?_;intro w3 h3)
   have h4:=h3.alloc (EG 2 id st sv pa gs ga go)
   refine In.abs h4 ?_
   clear h4 h3 hto h0 bC
   generalize w3.heap.size=z
   intro w4 h4
   have fZ:=h4.cells
   have bC:=(h4.ae p3).cells
   go_upto_region 10 with(fail)
   have h5:=h4.pr [2,2,0,1,1,0,0,0,0,0,0]
   clear h4
   have hS0:=(h5.drew).ps [1,1]
   refine nK hS0 ⟨[7],[8]⟩ [.c 0 0,.c 0 1,.c 0 2,.c 2 3,.c 0 4,.c 0 5,.c 1 6,.e 7,.e 8,.c 0 9,.c 0 10,.c 0 11,.c 0 12,.c 0 13] ?_
   refine nD ?_;intro K hK
   go_wp2_with (go_at_call 45;refine bF (tJ h5.drew id) ?_;intro w6 h6)
   go_wp2_with fail
   refine df hK ((h6).s) fun hS0=>?_
   refine bG rfl rfl fun K hK=>?_
   have hd:=hdr _ _ h6
   go_wp2_with (go_at_call 90;refine bF hd ?_;intro w7 h7)
   go_wp2_with fail
   refine wM ?_
   clear hd bC fZ h5 h6 hdr
   have h8:=hsh _ (pts z (EG 2 id st sv pa gs ga go)::l) (h7.s)
   clear h7 hsh
   go_upto_region 13 with(fail)
   have h9:=h8
   clear h8
   obtain⟨B3,x3,a3,h10⟩:=dD h9
   have bC:=h10.cells
   have fZ:=(h10.ae p10).cells
   have hgn:=FZ k3.gate.shut gs k3.gate.all ga k3.gate.os go
   have H6:lg.same ⟨k3.gate.shut,k3.gate.all,k3.gate.os⟩ ⟨gs,ga,go⟩=false:=hgs
   rw[H6]at hgn
   clear H6
   refine rg ⟨[], []⟩ [.c 0 0,.c 0 1,.c 0 2,.c 1 3,.c 0 4,.c 1 5,.c 0 6] ?_
   refine lK ?_
   have hg:=hfG _ _ h9.drew
   clear bC
   go_upto_region 15 with(go_at_call 87;refine bF hg ?_;intro w11 h11)
   clear h9 h10 fZ hgn hg hfG
   obtain⟨B4,x4,a4,h12⟩:=dD h11
   have bC:=h12.cells
   have jb:=h12.free
   have fZ:=(h12.ae p10).cells
   go_upto_region 16 with(fail)
   have h13:In w0 _ (pts r (aX T {k4 with gate:=⟨gs,ga,go⟩} x4)::_):=((h12.setCell (off:=18) (.bool gs)).setCell (off:=19) (.int .i64 ga)).setCell (off:=20) (.int .i64 go)
   refine In.abs h13 ?_
   clear h13 h12 bC jb fZ
   intro w13 h13
   have bC:=h13.cells
   have hpo:=Bq (h13.ae p4) hx4
   clear hx4
   go_wp2_with (go_at_call 91;refine bF hpo ?_;intro w14 lM)
   go_ret
   have h15:=lM.pr [1,1,1,1,0,0,0,0,0,0] 1
   exact⟨rfl,bZ (k:={k4 with gate:=⟨gs,ga,go⟩,frames:={k4.frames with items:=xs}}) (x:=x4) ⟨a4.tab,a4.chk,a4.num,a4.len,a4.gh⟩ h15⟩
end
section
variable {w0 w:World} {l:List SL} {r:Nat} {T:ah} {k:aB} {G:Value→Prop}
theorem KU (h:In w0 w (eF G r T k::l)) {m:Int} (hm:m<0∨T.modes≤m):Calls prog 31 #[r,.int .i64 m] w fun e w'=>e= .returned (.int .i64 3)∧w=w':=by
 obtain⟨B,x,a,h0⟩:=dD h
 have bC:=h0.cells
 clear h0 h
 go_enter func31,ntmps31
 by_cases h0:m<0
 ·go_wp2_with fail
  go_ret
  exact⟨rfl,rfl⟩
 ·have h2:T.modes≤m:=hm.resolve_left h0
  go_wp2_with fail
  go_ret
  exact⟨rfl,rfl⟩
theorem VM (h:In w0 w (eF G r T k::l)) {m:Nat} (hm:(m:Int)<T.modes) (hf:T.use 1=true→k.frames.items.length<k.frames.depth) (hb:k.begun.length≤100000):
 aW 31 #[r,.int .i64 m] w w0 (.int .i64 0) (eF G r T (k.start T m).1::l):=by
 obtain⟨B,x,a,h0⟩:=dD h
 have hm8:m≤7:=by have:=a.fine.modes;omega
 have hst:k.start T m=(if T.use 1 then({k with phase:=1,mode:=m,core:=k.core.jX T m T.ay.length,board:=(aJ.kZ T.aV k.board m T.ag.length).1}:aB).begin T (.of 3 0) else {k with phase:=1,mode:=m,core:=k.core.jX T m T.ay.length,board:=(aJ.kZ T.aV k.board m T.ag.length).1},0):=by
  unfold aB.start
  rw[if_neg (by omega)]
  simp only[Int.toNat_natCast]
 rw[hst]
 clear hst h
 simp only
 rcases x with⟨vt,vr,vs,vc,va,vi,vm,pc,pb,pf,pe,pq,vk,vb,vx⟩
 obtain⟨tl,t1,t2,t3⟩:=a.tab.ay
 have hl:T.ay.length=tl.length:=by rw[←t1,List.length_map]
 rw[hl]at t2
 obtain⟨at_,ct,e⟩:=t2.form
 simp only at e h0
 subst e
 have htl:tl.length≤256:=by rw[←hl];exact a.fine.ok.n2
 have bC:=h0.cells
 have jb:=h0.free
 have nm:¬((m:Int)<0):=by omega
 cases hu:T.use 1 with
 |false=>
  simp only[Bool.false_eq_true,if_false]
  go_enter func31,ntmps31
  go_upto_region 4 with(fail)
  have h1:In w0 _ (pts r (aX T {k with phase:=1,mode:=m} ⟨.slice at_ tl.length ct,vr,vs,vc,va,vi,vm,pc,pb,pf,pe,pq,vk,vb,vx⟩)::_):=(h0.setCell (off:=21) (.int .i64 1)).setCell (off:=22) (.int .i64 m)
  refine In.abs h1 ?_
  clear h1 h0 bC jb
  intro w2 h2
  have bC:=h2.cells
  go_upto_region 5 with(fail)
  clear bC
  go_loopw [5,6,31] (fun _ _ c wr=>∃j:Nat,j≤tl.length∧c= .int .i64 j∧In w0 wr (pts r (aX T {k with phase:=1,mode:=m} ⟨.slice at_ tl.length ct,vr,vs,vc,va,vi,vm,pc,pb,pf,pe,pq,vk,vb,vx⟩)::bJ B::Core pc T (k.core.jX T m j)::je pb T.aV k.board::gG pf k.frames::dV pe k.errors::dG pq k.calls::Ints vk k.marks.rings::gQ vb k.begun::Ints vx k.aO::l))
   (fun _ _ c _=>tl.length-(intOf c).toNat)
  case atStart=>exact⟨0,Nat.zero_le _,rfl,h2⟩
  case round=>
   obtain⟨j,hj,rfl,hw⟩:=hrel
   clear h2
   by_cases hlt:j<tl.length
   ·have hget:=List.getElem?_eq_getElem hlt
    have hwk:T.wakes m j= !decide (bits .and .u32 tl[j].1.dX (2 ^ m)=0):=by
     unfold ah.wakes
     rw[←t1,List.getElem?_map,hget]
     rfl
    have hnx:k.core.jX T m (j+1)=if T.wakes m j then((k.core.jX T m j).dB T j).1 else k.core.jX T m j:=rfl
    rw[hwk]at hnx
    have hro:=t3 _ (List.getElem_mem (l:=tl) hlt)
    have UI:=a.num.ay tl[j].1 (by rw[←t1];exact List.mem_map_of_mem (List.getElem_mem (l:=tl) hlt))
    obtain⟨g0,o0,cap0,e0,hcl⟩:=iw (slot:=dM) (size:=8) (fun _=>rfl) t2 hget
    cases e0
    generalize tl[j]=p at*
    rcases p with⟨⟨aI,ring,full,limit,mask,internal,own,dX⟩,vo⟩
    simp only at hnx hro hcl UI
    obtain⟨ao,co,rfl⟩:=hro.form
    simp only[dM]at hcl
    have hd0:=hcl (hw.ae p1) 0 _ rfl (by decide)
    have hd1:=hcl (hw.ae p1) 1 _ rfl (by decide)
    have hd2:=hcl (hw.ae p1) 2 _ rfl (by decide)
    have hd3:=hcl (hw.ae p1) 3 _ rfl (by decide)
    have hd4:=hcl (hw.ae p1) 4 _ rfl (by decide)
    have hd5:=hcl (hw.ae p1) 5 _ rfl (by decide)
    have hd6:=hcl (hw.ae p1) 6 _ rfl (by decide)
    have hd7:=hcl (hw.ae p1) 7 _ rfl (by decide)
    rw[Nat.add_zero]at hd0
    have n1:(j:Int)<tl.length:=by omega
    have n2:(0:Int)≤(j:Int):=by omega
    have h3:=hw.alloc (BB aI ring full limit mask internal (.slice ao own.length co) dX)
    clear hcl hwk hget hro t3
    go_upto_region 7 with(fail)
    refine In.abs h3 ?_
    clear h3 hw hd0 hd1 hd2 hd3 hd4 hd5 hd6 hd7
    generalize wr.heap.size=z
    intro w3 h3
    have fZ:=h3.cells
    have bC:=(h3.ae p1).cells
    have Yc:∀i,i<8→IntKind.u32.wrap ((2:Int) ^ i)=2 ^ i:=by decide
    have hsh:=Yc m (by omega)
    clear Yc
    by_cases hb:bits .and .u32 dX (2 ^ m)=0
    ·have hnx2:k.core.jX T m (j+1)=k.core.jX T m j:=by rw[hnx];simp[hb]
     clear hnx
     refine rg ⟨[], []⟩ [.c 0 0,.c 1 1,.c 0 2,.c 0 3,.c 0 4,.c 0 5] ?_
     refine lK ?_
     have h4:=h3.drop.drew
     go_upto_region 9 with(fail)
     refine In.abs h4 ?_
     clear h4 h3 fZ bC
     intro w9 h9
     go_wp2_with fail
     go_roundw
     case rel=>
      refine⟨j+1,hlt,by go_num,?_⟩
      rw[hnx2]
      exact h9
     case measure=>simp[intOf]<;>omega
    ·have hnx2:k.core.jX T m (j+1)=((k.core.jX T m j).dB T j).1:=by rw[hnx];simp[hb]
     clear hnx
     refine rg ⟨[], []⟩ [.c 0 0,.c 1 1,.c 0 2,.c 0 3,.c 0 4,.c 0 5] ?_
     refine lK ?_
     have h4:=(h3.drew.ae p3)
     have hac:=tX h4 j
     go_upto_region 9 with(go_at_call 77;refine bF hac ?_;intro w9 h5)
     clear hac h4 h3 fZ bC
     have h9:In w0 w9 (pts r (aX T {k with phase:=1,mode:=m} ⟨.slice (some ⟨g0,o0,none⟩) tl.length ct,vr,vs,vc,va,vi,vm,pc,pb,pf,pe,pq,vk,vb,vx⟩)::bJ B::Core pc T (k.core.jX T m (j+1))::je pb T.aV k.board::gG pf k.frames::dV pe k.errors::dG pq k.calls::Ints vk k.marks.rings::gQ vb k.begun::Ints vx k.aO::l):=by rw[hnx2];exact h5.s
     clear h5
     go_wp2_with fail
     go_roundw
     case rel=>exact⟨j+1,hlt,by go_num,h9⟩
     case measure=>simp[intOf]<;>omega
   ·have hje:j=tl.length:=by omega
    subst hje
    have n1:¬((tl.length:Int)<tl.length):=by omega
    have bC:=hw.cells
    have UI:=QM (hw.ae p3) (m:=m) hm (by omega)
    have hal:T.aV.ag.length=T.ag.length:=rfl
    rw[hal]at UI
    clear hal
    go_upto_region 11 with(go_at_call 78;refine bF UI ?_;intro w7 h7)
    have Lu:In w0 w7 (pts r (aX T {k with phase:=1,mode:=m} ⟨.slice at_ tl.length ct,vr,vs,vc,va,vi,vm,pc,pb,pf,pe,pq,vk,vb,vx⟩)::bJ B::Core pc T (k.core.jX T m T.ay.length)::je pb T.aV (aJ.kZ T.aV k.board m T.ag.length).1::gG pf k.frames::dV pe k.errors::dG pq k.calls::Ints vk k.marks.rings::gQ vb k.begun::Ints vx k.aO::l):=by rw[hl];exact h7.s
    have h8:=bZ (k:={k with phase:=1,mode:=m,core:=k.core.jX T m T.ay.length,board:=(aJ.kZ T.aV k.board m T.ag.length).1}) (x:=⟨.slice at_ tl.length ct,vr,vs,vc,va,vi,vm,pc,pb,pf,pe,pq,vk,vb,vx⟩) ⟨a.tab,a.chk,a.num,a.len,a.gh⟩ Lu
    clear Lu h7 UI bC hw
    have hus:=uy h8 1
    rw[hu]at hus
    go_wp2_with (go_at_call 79;refine bW hus ?_)
    go_ret
    exact⟨rfl,h8⟩
 |true=>
  simp only[if_true]
  go_enter func31,ntmps31
  go_upto_region 4 with(fail)
  have h1:In w0 _ (pts r (aX T {k with phase:=1,mode:=m} ⟨.slice at_ tl.length ct,vr,vs,vc,va,vi,vm,pc,pb,pf,pe,pq,vk,vb,vx⟩)::_):=(h0.setCell (off:=21) (.int .i64 1)).setCell (off:=22) (.int .i64 m)
  refine In.abs h1 ?_
  clear h1 h0 bC jb
  intro w2 h2
  have bC:=h2.cells
  go_upto_region 5 with(fail)
  clear bC
  go_loopw [5,6,31] (fun _ _ c wr=>∃j:Nat,j≤tl.length∧c= .int .i64 j∧In w0 wr (pts r (aX T {k with phase:=1,mode:=m} ⟨.slice at_ tl.length ct,vr,vs,vc,va,vi,vm,pc,pb,pf,pe,pq,vk,vb,vx⟩)::bJ B::Core pc T (k.core.jX T m j)::je pb T.aV k.board::gG pf k.frames::dV pe k.errors::dG pq k.calls::Ints vk k.marks.rings::gQ vb k.begun::Ints vx k.aO::l))
   (fun _ _ c _=>tl.length-(intOf c).toNat)
  case atStart=>exact⟨0,Nat.zero_le _,rfl,h2⟩
  case round=>
   obtain⟨j,hj,rfl,hw⟩:=hrel
   clear h2
   by_cases hlt:j<tl.length
   ·have hget:=List.getElem?_eq_getElem hlt
    have hwk:T.wakes m j= !decide (bits .and .u32 tl[j].1.dX (2 ^ m)=0):=by
     unfold ah.wakes
     rw[←t1,List.getElem?_map,hget]
     rfl
    have hnx:k.core.jX T m (j+1)=if T.wakes m j then((k.core.jX T m j).dB T j).1 else k.core.jX T m j:=rfl
    rw[hwk]at hnx
    have hro:=t3 _ (List.getElem_mem (l:=tl) hlt)
    have UI:=a.num.ay tl[j].1 (by rw[←t1];exact List.mem_map_of_mem (List.getElem_mem (l:=tl) hlt))
    obtain⟨g0,o0,cap0,e0,hcl⟩:=iw (slot:=dM) (size:=8) (fun _=>rfl) t2 hget
    cases e0
    generalize tl[j]=p at*
    rcases p with⟨⟨aI,ring,full,limit,mask,internal,own,dX⟩,vo⟩
    simp only at hnx hro hcl UI
    obtain⟨ao,co,rfl⟩:=hro.form
    simp only[dM]at hcl
    have hd0:=hcl (hw.ae p1) 0 _ rfl (by decide)
    have hd1:=hcl (hw.ae p1) 1 _ rfl (by decide)
    have hd2:=hcl (hw.ae p1) 2 _ rfl (by decide)
    have hd3:=hcl (hw.ae p1) 3 _ rfl (by decide)
    have hd4:=hcl (hw.ae p1) 4 _ rfl (by decide)
    have hd5:=hcl (hw.ae p1) 5 _ rfl (by decide)
    have hd6:=hcl (hw.ae p1) 6 _ rfl (by decide)
    have hd7:=hcl (hw.ae p1) 7 _ rfl (by decide)
    rw[Nat.add_zero]at hd0
    have n1:(j:Int)<tl.length:=by omega
    have n2:(0:Int)≤(j:Int):=by omega
    have h3:=hw.alloc (BB aI ring full limit mask internal (.slice ao own.length co) dX)
    clear hcl hwk hget hro t3
    go_upto_region 7 with(fail)
    refine In.abs h3 ?_
    clear h3 hw hd0 hd1 hd2 hd3 hd4 hd5 hd6 hd7
    generalize wr.heap.size=z
    intro w3 h3
    have fZ:=h3.cells
    have bC:=(h3.ae p1).cells
    have Yc:∀i,i<8→IntKind.u32.wrap ((2:Int) ^ i)=2 ^ i:=by decide
    have hsh:=Yc m (by omega)
    clear Yc
    by_cases hb:bits .and .u32 dX (2 ^ m)=0
    ·have hnx2:k.core.jX T m (j+1)=k.core.jX T m j:=by rw[hnx];simp[hb]
     clear hnx
     refine rg ⟨[], []⟩ [.c 0 0,.c 1 1,.c 0 2,.c 0 3,.c 0 4,.c 0 5] ?_
     refine lK ?_
     have h4:=h3.drop.drew
     go_upto_region 9 with(fail)
     refine In.abs h4 ?_
     clear h4 h3 fZ bC
     intro w9 h9
     go_wp2_with fail
     go_roundw
     case rel=>
      refine⟨j+1,hlt,by go_num,?_⟩
      rw[hnx2]
      exact h9
     case measure=>simp[intOf]<;>omega
    ·have hnx2:k.core.jX T m (j+1)=((k.core.jX T m j).dB T j).1:=by rw[hnx];simp[hb]
     clear hnx
     refine rg ⟨[], []⟩ [.c 0 0,.c 1 1,.c 0 2,.c 0 3,.c 0 4,.c 0 5] ?_
     refine lK ?_
     have h4:=(h3.drew.ae p3)
     have hac:=tX h4 j
     go_upto_region 9 with(go_at_call 77;refine bF hac ?_;intro w9 h5)
     clear hac h4 h3 fZ bC
     have h9:In w0 w9 (pts r (aX T {k with phase:=1,mode:=m} ⟨.slice (some ⟨g0,o0,none⟩) tl.length ct,vr,vs,vc,va,vi,vm,pc,pb,pf,pe,pq,vk,vb,vx⟩)::bJ B::Core pc T (k.core.jX T m (j+1))::je pb T.aV k.board::gG pf k.frames::dV pe k.errors::dG pq k.calls::Ints vk k.marks.rings::gQ vb k.begun::Ints vx k.aO::l):=by rw[hnx2];exact h5.s
     clear h5
     go_wp2_with fail
     go_roundw
     case rel=>exact⟨j+1,hlt,by go_num,h9⟩
     case measure=>simp[intOf]<;>omega
   ·have hje:j=tl.length:=by omega
    subst hje
    have n1:¬((tl.length:Int)<tl.length):=by omega
    have bC:=hw.cells
    have UI:=QM (hw.ae p3) (m:=m) hm (by omega)
    have hal:T.aV.ag.length=T.ag.length:=rfl
    rw[hal]at UI
    clear hal
    go_upto_region 11 with(go_at_call 78;refine bF UI ?_;intro w7 h7)
    have Lu:In w0 w7 (pts r (aX T {k with phase:=1,mode:=m} ⟨.slice at_ tl.length ct,vr,vs,vc,va,vi,vm,pc,pb,pf,pe,pq,vk,vb,vx⟩)::bJ B::Core pc T (k.core.jX T m T.ay.length)::je pb T.aV (aJ.kZ T.aV k.board m T.ag.length).1::gG pf k.frames::dV pe k.errors::dG pq k.calls::Ints vk k.marks.rings::gQ vb k.begun::Ints vx k.aO::l):=by rw[hl];exact h7.s
    have h8:=bZ (k:={k with phase:=1,mode:=m,core:=k.core.jX T m T.ay.length,board:=(aJ.kZ T.aV k.board m T.ag.length).1}) (x:=⟨.slice at_ tl.length ct,vr,vs,vc,va,vi,vm,pc,pb,pf,pe,pq,vk,vb,vx⟩) ⟨a.tab,a.chk,a.num,a.len,a.gh⟩ Lu
    clear Lu h7 UI bC hw
    have hus:=uy h8 1
    rw[hu]at hus
    have hbg:=nR h8 (.of 3 0) (hf hu) hb
    unfold cO aK.of at hbg
    simp only at hbg
    go_wp2_with (first|(go_at_call 79;refine bW hus ?_)|(go_at_call 80;refine bF hbg ?_;intro w9 h9))
    go_ret
    exact⟨rfl,h9⟩
end
def iL (s:iH):Value:= .agg #[.int .i64 s.kind,.int .i64 s.id,.int .i64 s.service,.int .u32 s.a,.int .u32 s.b,.int .u32 s.c]
def kz (v:Int × Int × Int):Value:= .agg #[.int .u32 v.1,.int .u32 v.2.1,.int .u32 v.2.2]
def qH (w0:World) (G:Value→Prop) (r:Nat) (T:ah) (l:List SL) (p:aB × (Int × Int × Int) × Int) (e:Ending) (w':World):Prop:=
 e= .returned (.tuple #[kz p.2.1,.int .i64 p.2.2])∧In w0 w' (eF G r T p.1::l)
section
variable {w0 w:World} {l:List SL} {r:Nat} {T:ah} {k:aB} {G:Value→Prop}
theorem jT (p:Int) (n:Nat) (h0:0≤p) (h1:p<4294967296) (hn:n≤65536) (w:World):Calls prog 312 #[.int .u32 p,.int .i64 n] w fun e w'=>e= .returned (.int .i64 (jL p n))∧w=w':=by
 have e1:IntKind.u64.wrap p=p:=by simp[IntKind.wrap,IntKind.bits,IntKind.signed];omega
 have e2:IntKind.u64.wrap (n:Int)=n:=by simp[IntKind.wrap,IntKind.bits,IntKind.signed];omega
 have e3:IntKind.i64.wrap p=p:=by simp[IntKind.wrap,IntKind.bits,IntKind.signed];omega
 unfold jL
 by_cases hp:(n:Int)≤p
 ·rw[if_pos hp]
  go_enter func312,ntmps312
  go_wp2_with fail
  go_ret
  exact⟨rfl,rfl⟩
 ·rw[if_neg hp]
  go_enter func312,ntmps312
  go_wp2_with fail
  go_ret
  exact⟨rfl,rfl⟩
theorem jD (h:In w0 w l) (v:Int):aW 306 #[.int .u32 v] w w0 (.agg #[.int .u32 v,.int .u32 0,.int .u32 0]) l:=by
 have h1:=h.alloc wL
 go_enter func306,ntmps306
 go_upto_region 1 with(fail)
 refine In.abs h1 ?_
 clear h1 h
 generalize w.heap.size=z
 intro w2 h2
 have fc_:=h2.facts
 have h3:=h2.fill [.int .u32 v,.int .u32 0,.int .u32 0] rfl
 simp only[dm]at h3
 go_wp2_with fail
 refine In.abs h3 ?_
 clear h3 h2
 intro w3 h3
 have hc:=h3.cells
 refine bodyPost_ret (v:= .agg #[.int .u32 v,.int .u32 0,.int .u32 0]) (by simp[results,results306,go_sem,hc]) rfl ?_
 exact⟨rfl,h3.drop⟩
theorem Aa (h:In w0 w (eF G r T k::l)):∃B x,yG G B T k x∧In w0 w (je x.pb T.aV k.board::pts r (aX T k x)::bJ B::Core x.pc T k.core::gG x.pf k.frames::dV x.pe k.errors::dG x.pq k.calls::Ints x.vk k.marks.rings::gQ x.vb k.begun::Ints x.vx k.aO::l):=by
 obtain⟨B,x,a,h1⟩:=dD h
 exact⟨B,x,a,h1.ae p3⟩
theorem qP {B:List (Nat × Obj)} {x:Ip} {c:aJ} (a:yG G B T k x) (h:In w0 w (je x.pb T.aV c::pts r (aX T k x)::bJ B::Core x.pc T k.core::gG x.pf k.frames::dV x.pe k.errors::dG x.pq k.calls::Ints x.vk k.marks.rings::gQ x.vb k.begun::Ints x.vx k.aO::l)):In w0 w (eF G r T {k with board:=c}::l):=
 bZ (k:={k with board:=c}) (x:=x) ⟨a.tab,a.chk,a.num,a.len,a.gh⟩ (h.s:In w0 w (pts r (aX T k x)::bJ B::Core x.pc T k.core::je x.pb T.aV c::gG x.pf k.frames::dV x.pe k.errors::dG x.pq k.calls::Ints x.vk k.marks.rings::gQ x.vb k.begun::Ints x.vx k.aO::l))
section
variable {t:fV} {s:aJ} {i tk cy:Int}
theorem JP (h:In w0 w (je r t s::l)):t.Ok∧s.Ok t:=by
 obtain⟨B,lV,vr,va,vp,vc,vi,hp,hs,h1⟩:=iM h
 exact⟨hp.ok,hs⟩
theorem G6 (h:In w0 w (je r t s::l)) (i:Int):(i<0∨(t.ag.length:Int)≤i)∨∃(n:Nat) (ar:gq) (x:dS) (a:eX),i=((n:Nat):Int)∧t.ag[n]? =some ar∧s.clocks[t.oZ n]? =some x∧x.ag[t.place n]? =some a:=by
 by_cases h0:i<0∨(t.ag.length:Int)≤i
 ·exact .inl h0
 ·right
  obtain⟨n,rfl⟩:∃n:Nat,i=n:=⟨i.toNat,by omega⟩
  have hn:n<t.ag.length:=by omega
  have ha:=List.getElem?_eq_getElem hn
  obtain⟨h1,h2⟩:=JP h
  obtain⟨x,hx,hp⟩:=h2.at h1 ha
  exact⟨n,_,x,_,rfl,ha,hx,List.getElem?_eq_getElem hp⟩
theorem YR (h:In w0 w (je r t s::l)) (t0:0≤tk) (t1:tk≤4294967295) (c0:0≤cy):
 aW 327 #[r,.int .i64 i,.int .u32 tk,.int .u32 cy] w w0 (.int .i64 (s.yR t i tk cy).2) (je r t (s.yR t i tk cy).1::l):=by
 rcases G6 h i with hi|⟨n,ar,x,a,rfl,ha,hx,hal⟩
 ·have e:s.yR t i tk cy=(s,3):=by
   unfold aJ.yR
   split
   ·rfl
   ·rw[List.getElem?_eq_none (by omega)]
  rw[e]
  refine(O7 h hi).mono ?_
  rintro _ _ ⟨rfl,rfl⟩
  exact⟨rfl,h⟩
 ·have e:s.yR t n tk cy=(s.dA (t.oZ n) (x.L9 (t.place n) a tk cy),x.Si a tk cy):=by
   unfold aJ.yR
   rw[if_neg (by omega),Int.toNat_natCast,ha,hx]
   simp only[List.getD_eq_getElem?_getD,hal,Option.getD_some]
  rw[e]
  exact abH h ha hx hal t0 t1 c0
theorem Zu (h:In w0 w (je r t s::l)) (t0:0≤tk) (t1:tk≤4294967295) (c0:0≤cy):
 aW 328 #[r,.int .i64 i,.int .u32 tk,.int .u32 cy] w w0 (.int .i64 (s.yS t i tk cy).2) (je r t (s.yS t i tk cy).1::l):=by
 rcases G6 h i with hi|⟨n,ar,x,a,rfl,ha,hx,hal⟩
 ·have e:s.yS t i tk cy=(s,3):=by
   unfold aJ.yS
   split
   ·rfl
   ·rw[List.getElem?_eq_none (by omega)]
  rw[e]
  refine(Qo h hi).mono ?_
  rintro _ _ ⟨rfl,rfl⟩
  exact⟨rfl,h⟩
 ·have e:s.yS t n tk cy=(s.dA (t.oZ n) (x.OA (t.place n) a tk cy),x.Ue a tk cy):=by
   unfold aJ.yS
   rw[if_neg (by omega),Int.toNat_natCast,ha,hx]
   simp only[List.getD_eq_getElem?_getD,hal,Option.getD_some]
  rw[e]
  exact abS h ha hx hal t0 t1 c0
theorem O5 (h:In w0 w (je r t s::l)):
 aW 329 #[r,.int .i64 i] w w0 (.int .i64 (s.kV t i).2) (je r t (s.kV t i).1::l):=by
 rcases G6 h i with hi|⟨n,ar,x,a,rfl,ha,hx,hal⟩
 ·have e:s.kV t i=(s,3):=by
   unfold aJ.kV
   split
   ·rfl
   ·rw[List.getElem?_eq_none (by omega)]
  rw[e]
  refine(H9 h hi).mono ?_
  rintro _ _ ⟨rfl,rfl⟩
  exact⟨rfl,h⟩
 ·have e:s.kV t n=(s.dA (t.oZ n) {x with ag:=x.ag.set (t.place n) a.cancel},if a.set then 0 else 5):=by
   unfold aJ.kV
   rw[if_neg (by omega),Int.toNat_natCast,ha,hx]
   simp only[List.getD_eq_getElem?_getD,hal,Option.getD_some]
  rw[e]
  exact I7 h ha hx hal
def aJ.Jv (s:aJ):Prop:=∀x∈s.clocks,∀a∈x.ag,0≤a.left∧a.left≤4294967295
theorem WT (h:In w0 w (je r t s::l)) (hb:s.Jv):
 aW 326 #[r,.int .i64 i] w w0 (.tuple #[.int .u32 (s.yM t i).1,.int .i64 (s.yM t i).2]) (je r t s::l):=by
 rcases G6 h i with hi|⟨n,ar,x,a,rfl,ha,hx,hal⟩
 ·have e:s.yM t i=(0,3):=by unfold aJ.yM;rw[if_pos hi]
  rw[e]
  refine(NI h hi).mono ?_
  rintro _ _ ⟨rfl,rfl⟩
  exact⟨rfl,h⟩
 ·have hn:=(List.getElem?_eq_some_iff.1 ha).1
  have ea:s.wI t n=a:=by unfold aJ.wI;rw[hx];simp only[List.getD_eq_getElem?_getD,hal,Option.getD_some]
  have e:s.yM t n=(if a.set then a.left else 0,if a.set then 0 else 5):=by
   unfold aJ.yM
   rw[if_neg (by omega),Int.toNat_natCast,ea]
  rw[e]
  have hb1:=hb x (List.mem_of_getElem? hx) a (List.mem_of_getElem? hal)
  exact Zj h ha hx hal hb1.1 hb1.2
theorem Vj (h:In w0 w (je r t s::l)):
 aW 325 #[r,.int .i64 i] w w0 (.tuple #[kz (t.yK i).1,.int .i64 (t.yK i).2]) (je r t s::l):=by
 rcases G6 h i with hi|⟨n,ar,x,a,rfl,ha,hx,hal⟩
 ·have e:t.yK i=((0,0,0),3):=by unfold fV.yK;rw[if_pos hi]
  rw[e]
  exact OE h hi
 ·have hn:=(List.getElem?_eq_some_iff.1 ha).1
  obtain⟨h1,h2⟩:=JP h
  have hc:t.oZ n<t.bi.length:=by rw[←h2.len];exact(List.getElem?_eq_some_iff.1 hx).1
  have hcx:=List.getElem?_eq_getElem hc
  have e:t.yK n=((t.bi[t.oZ n].max,t.bi[t.oZ n].base,t.bi[t.oZ n].min),0):=by
   unfold fV.yK
   rw[if_neg (by omega),Int.toNat_natCast,hcx]
  rw[e]
  exact Y6 h ha hcx
end
end
section
variable {w0 w:World} {l:List SL} {r:Nat} {T:ah} {k:aB} {G:Value→Prop}
theorem Nj (h:In w0 w (eF G r T k::l)) (s:iH) (f:aK) (ha:0≤s.a∧s.a<4294967296):
 Calls prog 215 #[r,iL s,cO f] w (qH w0 G r T l ({k with core:=(k.core.dB T (jL s.a T.ay.length)).1},(0,0,0),(k.core.dB T (jL s.a T.ay.length)).2)):=by
 rcases s with⟨sk,si,sv,sa,sb,sc⟩
 rcases f with⟨kd,id,st,fv,pa⟩
 unfold iL cO qH kz
 simp only at*
 obtain⟨B,x,a,h0⟩:=fK h
 rcases x with⟨vt,vr,vs,vc,va,vi,vm,pc,pb,pf,pe,pq,vk,vb,vx⟩
 obtain⟨at_,ct,e⟩:∃ao cap,vt= .slice ao T.ay.length cap:=by obtain⟨tl,t1,t2,t3⟩:=a.tab.ay;exact t2.form
 subst e
 simp only at h0
 have h1:=h0.iQ (uf sk si sv sa sb sc) (qo kd id st fv pa) wL
 have hnum:=jT sa T.ay.length ha.1 ha.2 (by have:=a.fine.ok.n2;omega)
 generalize jL sa T.ay.length=n at*
 have hcall:∀w' l',In w0 w' (Core pc T k.core::l')→_:=fun w' l' h=>tX (l:=l') h n
 have hsh:∀w' l',In w0 w' (Core pc T ((k.core.dB T (n)).1)::pts r (aX T k ⟨.slice at_ T.ay.length ct,vr,vs,vc,va,vi,vm,pc,pb,pf,pe,pq,vk,vb,vx⟩)::bJ B::je pb T.aV k.board::gG pf k.frames::dV pe k.errors::dG pq k.calls::Ints vk k.marks.rings::gQ vb k.begun::Ints vx k.aO::l')→In w0 w' (eF G r T {k with core:=(k.core.dB T (n)).1}::l'):=fun w' l' h=>bY a h
 generalize (k.core.dB T (n)).1=c1 at*
 generalize (k.core.dB T (n)).2=st1 at*
 clear h h0 a ha
 go_enter func215,ntmps215
 go_upto_region 1 with(fail)
 refine In.abs h1 ?_
 clear h1
 generalize w.heap.size=z
 intro w2 h2
 have h3:=h2.pr [3,3,3,3,3,3,3,3,3,3,2,1,0]
 clear h2
 have bC:=(h3.ae p1).cells
 have fZ:=(h3.ae p10).cells
 have hS0:=(h3.drew).ps [1,9]
 refine nK hS0 ⟨[0,13],[14,15]⟩ [.c 0 1,.c 0 2,.c 0 3,.c 2 4,.c 0 5,.c 2 6,.c 0 7,.c 0 8,.c 0 9,.c 0 10,.c 2 11,.c 0 12,.e 0,.e 13,.e 14,.e 15,.c 0 16] ?_
 refine nD ?_;intro K hK
 go_wp2_with (go_at_call 306;refine bF (jD h3.drew 0) ?_;intro w4 h4)
 go_wp2_with fail
 refine df hK ((h4).s) fun hS0=>?_
 refine gz rfl rfl fun K hK=>?_
 go_wp2_with (go_at_call 312;refine bW (hnum _) ?_)
 go_wp2_with fail
 refine df hK ((h4).s) fun hS0=>?_
 refine bG rfl rfl fun K hK=>?_
 have hca:=hcall _ _ h4
 go_wp2_with (go_at_call 77;refine bF hca ?_;intro w5 h5)
 clear bC fZ
 have jO:=(h5.ae p12).cells
 have jb:=(h5.ae p12).free
 go_wp2_with fail
 refine bG rfl rfl fun K hK=>?_
 go_wp2_with fail
 refine wM ?_
 go_wp2_with fail
 have h6:=(h5.ae p12).fill [.int .u32 0,.int .u32 0,.int .u32 0] rfl
 simp only[dm]at h6
 refine In.abs h6 ?_
 clear h6 h5 h3 jO jb
 intro w6 h6
 have hc:=h6.cells
 refine bodyPost_ret (v:= .tuple #[.agg #[.int .u32 0,.int .u32 0,.int .u32 0],.int .i64 st1]) (by simp[results,results215,go_sem,hc]) rfl ?_
 exact⟨rfl,hsh _ _ (h6.s)⟩
theorem NZ (h:In w0 w (eF G r T k::l)) (s:iH) (f:aK) (ha:0≤s.a∧s.a<4294967296):
 Calls prog 223 #[r,iL s,cO f] w (qH w0 G r T l ({k with core:=(k.core.fA T (jL s.a T.ay.length) s.b).1},(0,0,0),(k.core.fA T (jL s.a T.ay.length) s.b).2)):=by
 rcases s with⟨sk,si,sv,sa,sb,sc⟩
 rcases f with⟨kd,id,st,fv,pa⟩
 unfold iL cO qH kz
 simp only at*
 obtain⟨B,x,a,h0⟩:=fK h
 rcases x with⟨vt,vr,vs,vc,va,vi,vm,pc,pb,pf,pe,pq,vk,vb,vx⟩
 obtain⟨at_,ct,e⟩:∃ao cap,vt= .slice ao T.ay.length cap:=by obtain⟨tl,t1,t2,t3⟩:=a.tab.ay;exact t2.form
 subst e
 simp only at h0
 have h1:=h0.iQ (uf sk si sv sa sb sc) (qo kd id st fv pa) wL
 have hnum:=jT sa T.ay.length ha.1 ha.2 (by have:=a.fine.ok.n2;omega)
 generalize jL sa T.ay.length=n at*
 have hcall:∀w' l',In w0 w' (Core pc T k.core::l')→_:=fun w' l' h=>EL (l:=l') h n sb
 have hsh:∀w' l',In w0 w' (Core pc T ((k.core.fA T (n) sb).1)::pts r (aX T k ⟨.slice at_ T.ay.length ct,vr,vs,vc,va,vi,vm,pc,pb,pf,pe,pq,vk,vb,vx⟩)::bJ B::je pb T.aV k.board::gG pf k.frames::dV pe k.errors::dG pq k.calls::Ints vk k.marks.rings::gQ vb k.begun::Ints vx k.aO::l')→In w0 w' (eF G r T {k with core:=(k.core.fA T (n) sb).1}::l'):=fun w' l' h=>bY a h
 generalize (k.core.fA T (n) sb).1=c1 at*
 generalize (k.core.fA T (n) sb).2=st1 at*
 clear h h0 a ha
 go_enter func223,ntmps223
 go_upto_region 1 with(fail)
 refine In.abs h1 ?_
 clear h1
 generalize w.heap.size=z
 intro w2 h2
 have h3:=h2.pr [3,3,3,3,3,3,3,3,3,3,2,1,0]
 clear h2
 have bC:=(h3.ae p1).cells
 have fZ:=(h3.ae p10).cells
 have hS0:=(h3.drew).ps [1,9]
 refine nK hS0 ⟨[0,13],[16,17]⟩ [.c 0 1,.c 0 2,.c 0 3,.c 2 4,.c 0 5,.c 2 6,.c 0 7,.c 0 8,.c 0 9,.c 0 10,.c 2 11,.c 0 12,.c 0 14,.c 2 15,.e 0,.e 13,.e 16,.e 17,.c 0 18] ?_
 refine nD ?_;intro K hK
 go_wp2_with (go_at_call 306;refine bF (jD h3.drew 0) ?_;intro w4 h4)
 go_wp2_with fail
 refine df hK ((h4).s) fun hS0=>?_
 refine gz rfl rfl fun K hK=>?_
 go_wp2_with (go_at_call 312;refine bW (hnum _) ?_)
 go_wp2_with fail
 refine df hK ((h4).s) fun hS0=>?_
 refine bG rfl rfl fun K hK=>?_
 have hca:=hcall _ _ h4
 go_wp2_with (go_at_call 238;refine bF hca ?_;intro w5 h5)
 clear bC fZ
 have jO:=(h5.ae p12).cells
 have jb:=(h5.ae p12).free
 go_wp2_with fail
 refine bG rfl rfl fun K hK=>?_
 go_wp2_with fail
 refine wM ?_
 go_wp2_with fail
 have h6:=(h5.ae p12).fill [.int .u32 0,.int .u32 0,.int .u32 0] rfl
 simp only[dm]at h6
 refine In.abs h6 ?_
 clear h6 h5 h3 jO jb
 intro w6 h6
 have hc:=h6.cells
 refine bodyPost_ret (v:= .tuple #[.agg #[.int .u32 0,.int .u32 0,.int .u32 0],.int .i64 st1]) (by simp[results,results223,go_sem,hc]) rfl ?_
 exact⟨rfl,hsh _ _ (h6.s)⟩
theorem IC (h:In w0 w (eF G r T k::l)) (s:iH) (f:aK) (ha:0≤s.a∧s.a<4294967296):
 Calls prog 224 #[r,iL s,cO f] w (qH w0 G r T l ({k with core:=(k.core.fF s.a).1},(0,0,0),(k.core.fF s.a).2)):=by
 rcases s with⟨sk,si,sv,sa,sb,sc⟩
 rcases f with⟨kd,id,st,fv,pa⟩
 unfold iL cO qH kz
 simp only at*
 obtain⟨B,x,a,h0⟩:=fK h
 rcases x with⟨vt,vr,vs,vc,va,vi,vm,pc,pb,pf,pe,pq,vk,vb,vx⟩
 simp only at h0
 have h1:=h0.iQ (uf sk si sv sa sb sc) (qo kd id st fv pa) wL
 have hcall:∀w' l',In w0 w' (Core pc T k.core::l')→_:=fun w' l' h=>Iu (l:=l') h sa
 have hsh:∀w' l',In w0 w' (Core pc T ((k.core.fF sa).1)::pts r (aX T k ⟨vt,vr,vs,vc,va,vi,vm,pc,pb,pf,pe,pq,vk,vb,vx⟩)::bJ B::je pb T.aV k.board::gG pf k.frames::dV pe k.errors::dG pq k.calls::Ints vk k.marks.rings::gQ vb k.begun::Ints vx k.aO::l')→In w0 w' (eF G r T {k with core:=(k.core.fF sa).1}::l'):=fun w' l' h=>bY a h
 generalize (k.core.fF sa).1=c1 at*
 generalize (k.core.fF sa).2=st1 at*
 clear h h0 a ha
 go_enter func224,ntmps224
 go_upto_region 1 with(fail)
 refine In.abs h1 ?_
 clear h1
 generalize w.heap.size=z
 intro w2 h2
 have h3:=h2.pr [3,3,3,3,3,3,3,3,3,3,2,1,0]
 clear h2
 have bC:=(h3.ae p1).cells
 have fZ:=(h3.ae p10).cells
 have hS0:=(h3.drew).ps [1,9]
 refine nK hS0 ⟨[0],[7,8]⟩ [.c 0 1,.c 0 2,.c 0 3,.c 2 4,.c 0 5,.c 2 6,.e 0,.e 7,.e 8,.c 0 9] ?_
 refine nD ?_;intro K hK
 go_wp2_with (go_at_call 306;refine bF (jD h3.drew 0) ?_;intro w4 h4)
 go_wp2_with fail
 refine df hK ((h4).s) fun hS0=>?_
 refine bG rfl rfl fun K hK=>?_
 have hca:=hcall _ _ h4
 go_wp2_with (go_at_call 322;refine bF hca ?_;intro w5 h5)
 clear bC fZ
 have jO:=(h5.ae p12).cells
 have jb:=(h5.ae p12).free
 go_wp2_with fail
 refine bG rfl rfl fun K hK=>?_
 go_wp2_with fail
 refine wM ?_
 go_wp2_with fail
 have h6:=(h5.ae p12).fill [.int .u32 0,.int .u32 0,.int .u32 0] rfl
 simp only[dm]at h6
 refine In.abs h6 ?_
 clear h6 h5 h3 jO jb
 intro w6 h6
 have hc:=h6.cells
 refine bodyPost_ret (v:= .tuple #[.agg #[.int .u32 0,.int .u32 0,.int .u32 0],.int .i64 st1]) (by simp[results,results224,go_sem,hc]) rfl ?_
 exact⟨rfl,hsh _ _ (h6.s)⟩
theorem Oy (h:In w0 w (eF G r T k::l)) (s:iH) (f:aK) (ha:0≤s.a∧s.a<4294967296) (hb:0≤s.b∧s.b≤4294967295) (hc:0≤s.c):
 Calls prog 229 #[r,iL s,cO f] w (qH w0 G r T l ({k with board:=(k.board.yR T.aV (jL s.a T.ag.length) s.b s.c).1},(0,0,0),(k.board.yR T.aV (jL s.a T.ag.length) s.b s.c).2)):=by
 rcases s with⟨sk,si,sv,sa,sb,sc⟩
 rcases f with⟨kd,id,st,fv,pa⟩
 unfold iL cO qH kz
 simp only at*
 obtain⟨B,x,a,h0⟩:=Aa h
 rcases x with⟨vt,vr,vs,vc,va,vi,vm,pc,pb,pf,pe,pq,vk,vb,vx⟩
 obtain⟨at_,ct,e⟩:∃ao cap,va= .slice ao T.ag.length cap:=by exact a.tab.ag.form
 subst e
 simp only at h0
 have h1:=h0.iQ (uf sk si sv sa sb sc) (qo kd id st fv pa) wL
 have hnum:=jT sa T.ag.length ha.1 ha.2 (by have:=a.fine.mF;omega)
 generalize jL sa T.ag.length=n at*
 have hcall:∀w' l',In w0 w' (je pb T.aV k.board::l')→_:=fun w' l' h=>YR (l:=l') (i:=n) h hb.1 hb.2 hc
 have hsh:∀w' l',In w0 w' (je pb T.aV ((k.board.yR T.aV (n) sb sc).1)::pts r (aX T k ⟨vt,vr,vs,vc,.slice at_ T.ag.length ct,vi,vm,pc,pb,pf,pe,pq,vk,vb,vx⟩)::bJ B::Core pc T k.core::gG pf k.frames::dV pe k.errors::dG pq k.calls::Ints vk k.marks.rings::gQ vb k.begun::Ints vx k.aO::l')→In w0 w' (eF G r T {k with board:=(k.board.yR T.aV (n) sb sc).1}::l'):=fun w' l' h=>qP a h
 generalize (k.board.yR T.aV (n) sb sc).1=c1 at*
 generalize (k.board.yR T.aV (n) sb sc).2=st1 at*
 clear h h0 a ha
 go_enter func229,ntmps229
 go_upto_region 1 with(fail)
 refine In.abs h1 ?_
 clear h1
 generalize w.heap.size=z
 intro w2 h2
 have h3:=h2.pr [3,3,3,3,3,3,3,3,3,3,2,1,0]
 clear h2
 have bC:=(h3.ae p1).cells
 have fZ:=(h3.ae p10).cells
 have hS0:=(h3.drew).ps [1,9]
 refine nK hS0 ⟨[0,13],[18,19]⟩ [.c 0 1,.c 0 2,.c 0 3,.c 2 4,.c 0 5,.c 2 6,.c 0 7,.c 0 8,.c 0 9,.c 0 10,.c 2 11,.c 0 12,.c 0 14,.c 2 15,.c 0 16,.c 2 17,.e 0,.e 13,.e 18,.e 19,.c 0 20] ?_
 refine nD ?_;intro K hK
 go_wp2_with (go_at_call 306;refine bF (jD h3.drew 0) ?_;intro w4 h4)
 go_wp2_with fail
 refine df hK ((h4).s) fun hS0=>?_
 refine gz rfl rfl fun K hK=>?_
 go_wp2_with (go_at_call 312;refine bW (hnum _) ?_)
 go_wp2_with fail
 refine df hK ((h4).s) fun hS0=>?_
 refine bG rfl rfl fun K hK=>?_
 have hca:=hcall _ _ h4
 go_wp2_with (go_at_call 327;refine bF hca ?_;intro w5 h5)
 clear bC fZ
 have jO:=(h5.ae p12).cells
 have jb:=(h5.ae p12).free
 go_wp2_with fail
 refine bG rfl rfl fun K hK=>?_
 go_wp2_with fail
 refine wM ?_
 go_wp2_with fail
 have h6:=(h5.ae p12).fill [.int .u32 0,.int .u32 0,.int .u32 0] rfl
 simp only[dm]at h6
 refine In.abs h6 ?_
 clear h6 h5 h3 jO jb
 intro w6 h6
 have hc:=h6.cells
 refine bodyPost_ret (v:= .tuple #[.agg #[.int .u32 0,.int .u32 0,.int .u32 0],.int .i64 st1]) (by simp[results,results229,go_sem,hc]) rfl ?_
 exact⟨rfl,hsh _ _ (h6.s)⟩
theorem NF (h:In w0 w (eF G r T k::l)) (s:iH) (f:aK) (ha:0≤s.a∧s.a<4294967296) (hb:0≤s.b∧s.b≤4294967295) (hc:0≤s.c):
 Calls prog 230 #[r,iL s,cO f] w (qH w0 G r T l ({k with board:=(k.board.yS T.aV (jL s.a T.ag.length) s.b s.c).1},(0,0,0),(k.board.yS T.aV (jL s.a T.ag.length) s.b s.c).2)):=by
 rcases s with⟨sk,si,sv,sa,sb,sc⟩
 rcases f with⟨kd,id,st,fv,pa⟩
 unfold iL cO qH kz
 simp only at*
 obtain⟨B,x,a,h0⟩:=Aa h
 rcases x with⟨vt,vr,vs,vc,va,vi,vm,pc,pb,pf,pe,pq,vk,vb,vx⟩
 obtain⟨at_,ct,e⟩:∃ao cap,va= .slice ao T.ag.length cap:=by exact a.tab.ag.form
 subst e
 simp only at h0
 have h1:=h0.iQ (uf sk si sv sa sb sc) (qo kd id st fv pa) wL
 have hnum:=jT sa T.ag.length ha.1 ha.2 (by have:=a.fine.mF;omega)
 generalize jL sa T.ag.length=n at*
 have hcall:∀w' l',In w0 w' (je pb T.aV k.board::l')→_:=fun w' l' h=>Zu (l:=l') (i:=n) h hb.1 hb.2 hc
 have hsh:∀w' l',In w0 w' (je pb T.aV ((k.board.yS T.aV (n) sb sc).1)::pts r (aX T k ⟨vt,vr,vs,vc,.slice at_ T.ag.length ct,vi,vm,pc,pb,pf,pe,pq,vk,vb,vx⟩)::bJ B::Core pc T k.core::gG pf k.frames::dV pe k.errors::dG pq k.calls::Ints vk k.marks.rings::gQ vb k.begun::Ints vx k.aO::l')→In w0 w' (eF G r T {k with board:=(k.board.yS T.aV (n) sb sc).1}::l'):=fun w' l' h=>qP a h
 generalize (k.board.yS T.aV (n) sb sc).1=c1 at*
 generalize (k.board.yS T.aV (n) sb sc).2=st1 at*
 clear h h0 a ha
 go_enter func230,ntmps230
 go_upto_region 1 with(fail)
 refine In.abs h1 ?_
 clear h1
 generalize w.heap.size=z
 intro w2 h2
 have h3:=h2.pr [3,3,3,3,3,3,3,3,3,3,2,1,0]
 clear h2
 have bC:=(h3.ae p1).cells
 have fZ:=(h3.ae p10).cells
 have hS0:=(h3.drew).ps [1,9]
 refine nK hS0 ⟨[0,13],[18,19]⟩ [.c 0 1,.c 0 2,.c 0 3,.c 2 4,.c 0 5,.c 2 6,.c 0 7,.c 0 8,.c 0 9,.c 0 10,.c 2 11,.c 0 12,.c 0 14,.c 2 15,.c 0 16,.c 2 17,.e 0,.e 13,.e 18,.e 19,.c 0 20] ?_
 refine nD ?_;intro K hK
 go_wp2_with (go_at_call 306;refine bF (jD h3.drew 0) ?_;intro w4 h4)
 go_wp2_with fail
 refine df hK ((h4).s) fun hS0=>?_
 refine gz rfl rfl fun K hK=>?_
 go_wp2_with (go_at_call 312;refine bW (hnum _) ?_)
 go_wp2_with fail
 refine df hK ((h4).s) fun hS0=>?_
 refine bG rfl rfl fun K hK=>?_
 have hca:=hcall _ _ h4
 go_wp2_with (go_at_call 328;refine bF hca ?_;intro w5 h5)
 clear bC fZ
 have jO:=(h5.ae p12).cells
 have jb:=(h5.ae p12).free
 go_wp2_with fail
 refine bG rfl rfl fun K hK=>?_
 go_wp2_with fail
 refine wM ?_
 go_wp2_with fail
 have h6:=(h5.ae p12).fill [.int .u32 0,.int .u32 0,.int .u32 0] rfl
 simp only[dm]at h6
 refine In.abs h6 ?_
 clear h6 h5 h3 jO jb
 intro w6 h6
 have hc:=h6.cells
 refine bodyPost_ret (v:= .tuple #[.agg #[.int .u32 0,.int .u32 0,.int .u32 0],.int .i64 st1]) (by simp[results,results230,go_sem,hc]) rfl ?_
 exact⟨rfl,hsh _ _ (h6.s)⟩
theorem Gq (h:In w0 w (eF G r T k::l)) (s:iH) (f:aK) (ha:0≤s.a∧s.a<4294967296):
 Calls prog 231 #[r,iL s,cO f] w (qH w0 G r T l ({k with board:=(k.board.kV T.aV (jL s.a T.ag.length)).1},(0,0,0),(k.board.kV T.aV (jL s.a T.ag.length)).2)):=by
 rcases s with⟨sk,si,sv,sa,sb,sc⟩
 rcases f with⟨kd,id,st,fv,pa⟩
 unfold iL cO qH kz
 simp only at*
 obtain⟨B,x,a,h0⟩:=Aa h
 rcases x with⟨vt,vr,vs,vc,va,vi,vm,pc,pb,pf,pe,pq,vk,vb,vx⟩
 obtain⟨at_,ct,e⟩:∃ao cap,va= .slice ao T.ag.length cap:=by exact a.tab.ag.form
 subst e
 simp only at h0
 have h1:=h0.iQ (uf sk si sv sa sb sc) (qo kd id st fv pa) wL
 have hnum:=jT sa T.ag.length ha.1 ha.2 (by have:=a.fine.mF;omega)
 generalize jL sa T.ag.length=n at*
 have hcall:∀w' l',In w0 w' (je pb T.aV k.board::l')→_:=fun w' l' h=>O5 (l:=l') (i:=n) h
 have hsh:∀w' l',In w0 w' (je pb T.aV ((k.board.kV T.aV (n)).1)::pts r (aX T k ⟨vt,vr,vs,vc,.slice at_ T.ag.length ct,vi,vm,pc,pb,pf,pe,pq,vk,vb,vx⟩)::bJ B::Core pc T k.core::gG pf k.frames::dV pe k.errors::dG pq k.calls::Ints vk k.marks.rings::gQ vb k.begun::Ints vx k.aO::l')→In w0 w' (eF G r T {k with board:=(k.board.kV T.aV (n)).1}::l'):=fun w' l' h=>qP a h
 generalize (k.board.kV T.aV (n)).1=c1 at*
 generalize (k.board.kV T.aV (n)).2=st1 at*
 clear h h0 a ha
 go_enter func231,ntmps231
 go_upto_region 1 with(fail)
 refine In.abs h1 ?_
 clear h1
 generalize w.heap.size=z
 intro w2 h2
 have h3:=h2.pr [3,3,3,3,3,3,3,3,3,3,2,1,0]
 clear h2
 have bC:=(h3.ae p1).cells
 have fZ:=(h3.ae p10).cells
 have hS0:=(h3.drew).ps [1,9]
 refine nK hS0 ⟨[0,13],[14,15]⟩ [.c 0 1,.c 0 2,.c 0 3,.c 2 4,.c 0 5,.c 2 6,.c 0 7,.c 0 8,.c 0 9,.c 0 10,.c 2 11,.c 0 12,.e 0,.e 13,.e 14,.e 15,.c 0 16] ?_
 refine nD ?_;intro K hK
 go_wp2_with (go_at_call 306;refine bF (jD h3.drew 0) ?_;intro w4 h4)
 go_wp2_with fail
 refine df hK ((h4).s) fun hS0=>?_
 refine gz rfl rfl fun K hK=>?_
 go_wp2_with (go_at_call 312;refine bW (hnum _) ?_)
 go_wp2_with fail
 refine df hK ((h4).s) fun hS0=>?_
 refine bG rfl rfl fun K hK=>?_
 have hca:=hcall _ _ h4
 go_wp2_with (go_at_call 329;refine bF hca ?_;intro w5 h5)
 clear bC fZ
 have jO:=(h5.ae p12).cells
 have jb:=(h5.ae p12).free
 go_wp2_with fail
 refine bG rfl rfl fun K hK=>?_
 go_wp2_with fail
 refine wM ?_
 go_wp2_with fail
 have h6:=(h5.ae p12).fill [.int .u32 0,.int .u32 0,.int .u32 0] rfl
 simp only[dm]at h6
 refine In.abs h6 ?_
 clear h6 h5 h3 jO jb
 intro w6 h6
 have hc:=h6.cells
 refine bodyPost_ret (v:= .tuple #[.agg #[.int .u32 0,.int .u32 0,.int .u32 0],.int .i64 st1]) (by simp[results,results231,go_sem,hc]) rfl ?_
 exact⟨rfl,hsh _ _ (h6.s)⟩
theorem NQ (h:In w0 w (eF G r T k::l)) (s:iH) (f:aK) (ha:0≤s.a∧s.a<4294967296):
 Calls prog 225 #[r,iL s,cO f] w (qH w0 G r T l (k,((k.core.mO T (jL s.a T.ay.length)).1,0,0),(k.core.mO T (jL s.a T.ay.length)).2)):=by
 rcases s with⟨sk,si,sv,sa,sb,sc⟩
 rcases f with⟨kd,id,st,fv,pa⟩
 unfold iL cO qH kz
 simp only at*
 obtain⟨B,x,a,h0⟩:=fK h
 rcases x with⟨vt,vr,vs,vc,va,vi,vm,pc,pb,pf,pe,pq,vk,vb,vx⟩
 obtain⟨at_,ct,e⟩:∃ao cap,vt= .slice ao T.ay.length cap:=by obtain⟨tl,t1,t2,t3⟩:=a.tab.ay;exact t2.form
 subst e
 simp only at h0
 have h1:=h0.iQ (uf sk si sv sa sb sc) (qo kd id st fv pa) wL
 have hnum:=jT sa T.ay.length ha.1 ha.2 (by have:=a.fine.ok.n2;omega)
 generalize jL sa T.ay.length=n at*
 have hcall:∀w' l',In w0 w' (Core pc T k.core::l')→_:=fun w' l' h=>Na (l:=l') h n
 have hsh:∀w' l',In w0 w' (Core pc T k.core::pts r (aX T k ⟨.slice at_ T.ay.length ct,vr,vs,vc,va,vi,vm,pc,pb,pf,pe,pq,vk,vb,vx⟩)::bJ B::je pb T.aV k.board::gG pf k.frames::dV pe k.errors::dG pq k.calls::Ints vk k.marks.rings::gQ vb k.begun::Ints vx k.aO::l')→In w0 w' (eF G r T k::l'):=fun w' l' h=>bY a h
 generalize (k.core.mO T (n)).1=v1 at*
 generalize (k.core.mO T (n)).2=st1 at*
 clear h h0 a ha
 go_enter func225,ntmps225
 go_upto_region 1 with(fail)
 refine In.abs h1 ?_
 clear h1
 generalize w.heap.size=z
 intro w2 h2
 have h3:=h2.pr [3,3,3,3,3,3,3,3,3,3,2,1,0]
 clear h2
 have bC:=(h3.ae p1).cells
 have fZ:=(h3.ae p10).cells
 have hS0:=(h3.drew).ps [1,9]
 refine nK hS0 ⟨[12],[13]⟩ [.c 0 0,.c 0 1,.c 0 2,.c 2 3,.c 0 4,.c 1 5,.c 0 6,.c 0 7,.c 0 8,.c 0 9,.c 1 10,.c 0 11,.e 12,.e 13,.c 0 14,.c 0 15,.c 0 16,.c 0 17,.c 0 18] ?_
 refine nD ?_;intro K hK
 go_wp2_with (go_at_call 312;refine bW (hnum _) ?_)
 go_wp2_with fail
 refine df hK ((h3.drew).s) fun hS0=>?_
 refine bG rfl rfl fun K hK=>?_
 have hca:=hcall _ _ h3.drew
 go_wp2_with (go_at_call 323;refine bF hca ?_;intro w5 h5)
 clear bC fZ
 have jO:=(h5.ae p12).cells
 have jb:=(h5.ae p12).free
 go_wp2_with fail
 refine wM ?_
 go_wp2_with (go_at_call 306;refine bF (jD h5 _) ?_;intro w6 h6;have jO:=(h6.ae p12).cells;have jb:=(h6.ae p12).free)
 have h7:=(h6.ae p12).fill [.int .u32 v1,.int .u32 0,.int .u32 0] rfl
 simp only[dm]at h7
 refine In.abs h7 ?_
 clear h7 h6 h5 h3 jO jb
 intro w6 h6
 have hc:=h6.cells
 refine bodyPost_ret (v:= .tuple #[.agg #[.int .u32 v1,.int .u32 0,.int .u32 0],.int .i64 st1]) (by simp[results,results225,go_sem,hc]) rfl ?_
 exact⟨rfl,hsh _ _ (h6.s)⟩
theorem NR (h:In w0 w (eF G r T k::l)) (s:iH) (f:aK) (ha:0≤s.a∧s.a<4294967296) (hl:k.board.Jv):
 Calls prog 228 #[r,iL s,cO f] w (qH w0 G r T l (k,((k.board.yM T.aV (jL s.a T.ag.length)).1,0,0),(k.board.yM T.aV (jL s.a T.ag.length)).2)):=by
 rcases s with⟨sk,si,sv,sa,sb,sc⟩
 rcases f with⟨kd,id,st,fv,pa⟩
 unfold iL cO qH kz
 simp only at*
 obtain⟨B,x,a,h0⟩:=Aa h
 rcases x with⟨vt,vr,vs,vc,va,vi,vm,pc,pb,pf,pe,pq,vk,vb,vx⟩
 obtain⟨at_,ct,e⟩:∃ao cap,va= .slice ao T.ag.length cap:=by exact a.tab.ag.form
 subst e
 simp only at h0
 have h1:=h0.iQ (uf sk si sv sa sb sc) (qo kd id st fv pa) wL
 have hnum:=jT sa T.ag.length ha.1 ha.2 (by have:=a.fine.mF;omega)
 generalize jL sa T.ag.length=n at*
 have hcall:∀w' l',In w0 w' (je pb T.aV k.board::l')→_:=fun w' l' h=>WT (l:=l') (i:=n) h hl
 have hsh:∀w' l',In w0 w' (je pb T.aV k.board::pts r (aX T k ⟨vt,vr,vs,vc,.slice at_ T.ag.length ct,vi,vm,pc,pb,pf,pe,pq,vk,vb,vx⟩)::bJ B::Core pc T k.core::gG pf k.frames::dV pe k.errors::dG pq k.calls::Ints vk k.marks.rings::gQ vb k.begun::Ints vx k.aO::l')→In w0 w' (eF G r T k::l'):=fun w' l' h=>qP a h
 generalize (k.board.yM T.aV (n)).1=v1 at*
 generalize (k.board.yM T.aV (n)).2=st1 at*
 clear h h0 a ha
 go_enter func228,ntmps228
 go_upto_region 1 with(fail)
 refine In.abs h1 ?_
 clear h1
 generalize w.heap.size=z
 intro w2 h2
 have h3:=h2.pr [3,3,3,3,3,3,3,3,3,3,2,1,0]
 clear h2
 have bC:=(h3.ae p1).cells
 have fZ:=(h3.ae p10).cells
 have hS0:=(h3.drew).ps [1,9]
 refine nK hS0 ⟨[12],[13]⟩ [.c 0 0,.c 0 1,.c 0 2,.c 2 3,.c 0 4,.c 1 5,.c 0 6,.c 0 7,.c 0 8,.c 0 9,.c 1 10,.c 0 11,.e 12,.e 13,.c 0 14,.c 0 15,.c 0 16,.c 0 17,.c 0 18] ?_
 refine nD ?_;intro K hK
 go_wp2_with (go_at_call 312;refine bW (hnum _) ?_)
 go_wp2_with fail
 refine df hK ((h3.drew).s) fun hS0=>?_
 refine bG rfl rfl fun K hK=>?_
 have hca:=hcall _ _ h3.drew
 go_wp2_with (go_at_call 326;refine bF hca ?_;intro w5 h5)
 clear bC fZ
 have jO:=(h5.ae p12).cells
 have jb:=(h5.ae p12).free
 go_wp2_with fail
 refine wM ?_
 go_wp2_with (go_at_call 306;refine bF (jD h5 _) ?_;intro w6 h6;have jO:=(h6.ae p12).cells;have jb:=(h6.ae p12).free)
 have h7:=(h6.ae p12).fill [.int .u32 v1,.int .u32 0,.int .u32 0] rfl
 simp only[dm]at h7
 refine In.abs h7 ?_
 clear h7 h6 h5 h3 jO jb
 intro w6 h6
 have hc:=h6.cells
 refine bodyPost_ret (v:= .tuple #[.agg #[.int .u32 v1,.int .u32 0,.int .u32 0],.int .i64 st1]) (by simp[results,results228,go_sem,hc]) rfl ?_
 exact⟨rfl,hsh _ _ (h6.s)⟩
theorem JW (h:In w0 w (eF G r T k::l)) (s:iH) (f:aK) (ha:0≤s.a∧s.a<4294967296):
 Calls prog 227 #[r,iL s,cO f] w (qH w0 G r T l (k,(T.aV.yK (jL s.a T.ag.length)).1,(T.aV.yK (jL s.a T.ag.length)).2)):=by
 rcases s with⟨sk,si,sv,sa,sb,sc⟩
 rcases f with⟨kd,id,st,fv,pa⟩
 unfold iL cO qH
 simp only at*
 obtain⟨B,x,a,h0⟩:=Aa h
 rcases x with⟨vt,vr,vs,vc,va,vi,vm,pc,pb,pf,pe,pq,vk,vb,vx⟩
 obtain⟨at_,ct,e⟩:∃ao cap,va= .slice ao T.ag.length cap:=by exact a.tab.ag.form
 subst e
 simp only at h0
 have h1:=h0.iQ (uf sk si sv sa sb sc) (qo kd id st fv pa) wL
 have hnum:=jT sa T.ag.length ha.1 ha.2 (by have:=a.fine.mF;omega)
 generalize jL sa T.ag.length=n at*
 have hcall:∀w' l',In w0 w' (je pb T.aV k.board::l')→_:=fun w' l' h=>Vj (l:=l') (i:=n) h
 have hsh:∀w' l',In w0 w' (je pb T.aV k.board::pts r (aX T k ⟨vt,vr,vs,vc,.slice at_ T.ag.length ct,vi,vm,pc,pb,pf,pe,pq,vk,vb,vx⟩)::bJ B::Core pc T k.core::gG pf k.frames::dV pe k.errors::dG pq k.calls::Ints vk k.marks.rings::gQ vb k.begun::Ints vx k.aO::l')→In w0 w' (eF G r T k::l'):=fun w' l' h=>qP a h
 generalize (T.aV.yK n).1=v1 at*
 generalize (T.aV.yK n).2=st1 at*
 rcases v1 with⟨v11,v12,v13⟩
 unfold kz at*
 simp only at*
 clear h h0 a ha
 go_enter func227,ntmps227
 go_upto_region 1 with(fail)
 refine In.abs h1 ?_
 clear h1
 generalize w.heap.size=z
 intro w2 h2
 have h3:=h2.pr [3,3,3,3,3,3,3,3,3,3,2,1,0]
 clear h2
 have bC:=(h3.ae p1).cells
 have fZ:=(h3.ae p10).cells
 have hS0:=(h3.drew).ps [1,9]
 refine nK hS0 ⟨[12],[13,16]⟩ [.c 0 0,.c 0 1,.c 0 2,.c 2 3,.c 0 4,.c 1 5,.c 0 6,.c 0 7,.c 0 8,.c 0 9,.c 1 10,.c 0 11,.e 12,.e 13,.c 0 14,.c 0 15,.e 16,.c 0 17] ?_
 refine nD ?_;intro K hK
 go_wp2_with (go_at_call 312;refine bW (hnum _) ?_)
 go_wp2_with fail
 refine df hK ((h3.drew).s) fun hS0=>?_
 refine bG rfl rfl fun K hK=>?_
 have hca:=hcall _ _ h3.drew
 go_wp2_with (go_at_call 325;refine bF hca ?_;intro w5 h5)
 clear bC fZ
 have jO:=(h5.ae p12).cells
 have jb:=(h5.ae p12).free
 go_wp2_with fail
 refine uw ?_;intro K hK
 go_wp2_with fail
 refine wM ?_
 go_wp2_with fail
 have h6:=(h5.ae p12).fill [.int .u32 v11,.int .u32 v12,.int .u32 v13] rfl
 simp only[dm]at h6
 refine In.abs h6 ?_
 clear h6 h5 h3 jO jb
 intro w6 h6
 have hc:=h6.cells
 refine bodyPost_ret (v:= .tuple #[.agg #[.int .u32 v11,.int .u32 v12,.int .u32 v13],.int .i64 st1]) (by simp[results,results227,go_sem,hc]) rfl ?_
 exact⟨rfl,hsh _ _ (h6.s)⟩
end
end Go.Proofs.YtajgpcnlehinbaaGreat
