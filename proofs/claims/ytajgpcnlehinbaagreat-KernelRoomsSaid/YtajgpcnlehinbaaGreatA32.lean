/- Part of a proof. -/
import Derived.Test.YtajgpcnlehinbaaGreatA31
namespace Go.Proofs.YtajgpcnlehinbaaGreat
open Tryz Go.RowKit
set_option maxRecDepth 100000
set_option maxHeartbeats 60000000
set_option linter.all false
def stepT (r q z:Nat) (sk si sv sa sb sc:Int):List Value:=[.pointer (some ⟨r,0,none⟩),.agg #[.int .i64 sk,.int .i64 si,.int .i64 sv,.int .u32 sa,.int .u32 sb,.int .u32 sc],undef,.pointer (some ⟨z,0,none⟩),.pointer (some ⟨z+1,0,none⟩),.pointer (some ⟨q,0,none⟩)]
section
variable {w0 w:World} {l:List SL} {r:Nat} {T:ah} {k:aB} {G:Value→Prop}
theorem Y5 {x:Ip} (h0:In w0 w (pts r (aX T k x)::gG x.pf k.frames::l)):aW 33 #[r] w w0 (cO k.top) (pts r (aX T k x)::gG x.pf k.frames::l):=by
 rcases x with⟨vt,vr,vs,vc,va,vi,vm,pc,pb,pf,pe,pq,vk,vb,vx⟩
 simp only at h0⊢
 have h1:=h0.alloc (qo 0 0 0 0 0)
 clear h0
 have hgo:∃c:oV,k.top=c.frame∧∀ {w':World} {l':List SL},In w0 w' (gG pf k.frames::l')→Calls prog 81 #[pf] w' fun e w''=>(∃b,e= .returned (.tuple #[.agg #[.int .i64 c.frame.kind,.int .i64 c.frame.id,.int .i64 c.frame.status,.int .i64 c.frame.service,.int .u32 c.frame.jC,.bool c.gate.shut,.int .i64 c.gate.all,.int .i64 c.gate.os],b]))∧In w0 w'' (gG pf k.frames::l'):=by
  rcases List.eq_nil_or_concat k.frames.items with hn|⟨xs,c,hn⟩
  ·exact⟨⟨⟨0,0,0,0,0⟩,⟨false,0,0⟩⟩,by unfold aB.top aB.ctx;rw[hn];rfl,fun h=>(EC h hn).mono fun e w' q=>⟨⟨_,q.1⟩,q.2⟩⟩
  ·rw[List.concat_eq_append]at hn
   exact⟨c,by unfold aB.top aB.ctx;rw[hn];simp,fun h=>(F6 h hn).mono fun e w' q=>⟨⟨_,q.1⟩,q.2⟩⟩
 obtain⟨⟨⟨kd,id,st,sv,pa⟩,⟨sh,al,os⟩⟩,htop,Eo⟩:=hgo
 rw[htop]
 clear htop
 simp only at Eo⊢
 unfold cO
 go_enter func33,ntmps33
 go_upto_region 1 with(fail)
 refine In.abs h1 ?_
 clear h1
 generalize w.heap.size=z
 intro w2 h2
 have bC:=(h2.ae p1).cells
 have htp:=Eo (h2.ae p2)
 go_upto_region 2 with(go_at_call 81;refine Calls.mono htp ?_;rintro _ w3 ⟨⟨bt,rfl⟩,h3⟩)
 have h4:=h3.alloc (EG kd id st sv pa sh al os)
 refine In.abs h4 ?_
 clear h4 h3 h2 htp bC Eo
 generalize w3.heap.size=y
 intro w4 h4
 have Dw:=h4.cells
 have fZ:=(h4.ae p2).cells
 have jb:=(h4.ae p2).free
 have h5:=(h4.ae p2).fill [.int .i64 kd,.int .i64 id,.int .i64 st,.int .i64 sv,.int .u32 pa] rfl
 simp only[dm]at h5
 go_wp2_with fail
 refine In.abs h5 ?_
 clear h5 h4 Dw fZ jb
 intro w5 h5
 have hc:=h5.cells
 refine bodyPost_ret (v:= .agg #[.int .i64 kd,.int .i64 id,.int .i64 st,.int .i64 sv,.int .u32 pa]) (by simp[results,results33,go_sem,hc]) rfl ?_
 exact⟨rfl,h5.s⟩
def VK (w0:World) (r:Nat) (T:ah) (k:aB) (s:iH) (l:List SL) (e:Ending) (w':World):Prop:=
 ∃k' a vb vx,aB.Step T k s k' a∧Rest T k'∧e= .returned (Qh a.status a.idle a.v a.run vb vx)∧In w0 w' (eF (fun _=>True) r T k'::gQ vb a.begun::Ints vx a.aO::l)
theorem QI (h:In w0 w (eF G r T k::l)) (hr:Rest T k) {s:iH} (hs:Bo s):Calls prog 11 #[r,iL s] w (VK w0 r T k s l):=by
 obtain⟨hf,hbt,Yl,_⟩:=DY h
 have hrc:=hr.clean
 have hset:=fun k1 v st (hd:k.clean.deed T s=some (k1,v,st))=>Pq hf hrc Yl hd
 have hsi:=YS hf
 have hcall:=fun w' (l':List SL) (h':In w0 w' (eF (fun _=>True) r T k.clean::l'))=>Xj h' hrc hs
 have hback:=fun w' (l':List SL) (h':In w0 w' (eF (fun _=>True) r T k.clean::l'))=>XB h' hrc
 have hstart:=fun w' (l':List SL) (h':In w0 w' (eF (fun _=>True) r T k.clean::l'))=>Td h' hrc
 have Dy:=fun w' (l':List SL) (h':In w0 w' (eF (fun _=>True) r T k.clean::l'))=>XF h' hrc
 have hidle:=fun(hd:k.clean.deed T s=none)=>aB.Step.idle (T:=T) (k:=k) (s:=s) hd
 have RV:=fun k1 k2 v st (hd:k.clean.deed T s=some (k1,v,st)) hse=>aB.Step.makes (T:=T) (k:=k) (s:=s) (k1:=k1) (k2:=k2) (v:=v) (st:=st) hd hse
 have BM:k.clean.frames=k.frames:=rfl
 unfold VK
 rcases s with⟨sk,si,sv,sa,sb,sc⟩
 unfold iL Qh at*
 simp only at*
 have h1:=h.alloc2 (uf sk si sv sa sb sc) Ir
 have OZ:=fun w' (l':List SL) (h':In w0 w' (eF G r T k::l'))=>KQ h'
 go_enter func11,ntmps11
 go_upto_region 1 with(fail)
 refine In.abs h1 ?_
 clear h1 h
 generalize w.heap.size=z
 intro w2 h2
 have hmd:=OZ _ _ (h2.ae p2)
 go_upto_region 3 with(go_at_call 29;refine bW hmd ?_)
 clear hmd OZ
 obtain⟨B,x,a,h3⟩:=dD (h2.ae p2)
 rcases x with⟨vt,vr,vs,vc,va,vi,vm,pc,pb,pf,pe,pq,vk,vb,vx⟩
 simp only at h3
 have bC:=h3.cells
 have jb:=h3.free
 have h4:In w0 _ (pts r (aX T k.clean ⟨vt,vr,vs,vc,va,vi,vm,pc,pb,pf,pe,pq,vk,.slice none 0 0,.slice none 0 0⟩)::_):=(h3.setCell (off:=28) (.slice none 0 0)).setCell (off:=29) (.slice none 0 0)
 go_upto_region 4 with(fail)
 refine In.abs h4 ?_
 clear h4 bC jb h2 h3
 intro w3 h3
 have H8:In w0 w3 (pts r (aX T k.clean ⟨vt,vr,vs,vc,va,vi,vm,pc,pb,pf,pe,pq,vk,.slice none 0 0,.slice none 0 0⟩)::bJ B::Core pc T k.core::je pb T.aV k.board::gG pf k.frames::dV pe k.errors::dG pq k.calls::Ints vk k.marks.rings::gQ (.slice none 0 0) []::Ints (.slice none 0 0) []::pts (z+1) Ir::pts z (uf sk si sv sa sb sc)::l):=by
  have hn:In w0 w3 (gQ (.slice none 0 0) []::Ints (.slice none 0 0) []::_):=(h3.dh 3 1).dh 42 5
  exact hn.s
 have h5:In w0 w3 (eF (fun _=>True) r T k.clean::pts (z+1) Ir::pts z (uf sk si sv sa sb sc)::l):=bZ (k:=k.clean) (x:=⟨vt,vr,vs,vc,va,vi,vm,pc,pb,pf,pe,pq,vk,.slice none 0 0,.slice none 0 0⟩) ⟨a.tab,a.chk,a.num,a.len,trivial⟩ H8
 clear H8 h3 a
 have h6:=h5.alloc (UF 0 true 0 0 0 0 0 0 0 0)
 go_upto_region 5 with(fail)
 refine In.abs h6 ?_
 clear h6 h5
 generalize w3.heap.size=q
 intro w4 QA
 have h4:=QA.pr [1,0,0,0]
 clear QA
 obtain⟨up,hup⟩:∃up,(k.phase==1)=up:=⟨_,rfl⟩
 obtain⟨bz,hbz⟩:∃bz,decide (0<k.frames.items.length)=bz:=⟨_,rfl⟩
 obtain⟨B,x,a,h5⟩:=dD h4
 rcases x with⟨vt,vr,vs,vc,va,vi,vm,pc,pb,pf,pe,pq,vk,vb,vx⟩
 simp only at h5
 have LC:k.clean.phase=k.phase:=rfl
 have bC:=h5.cells
 rw[LC]at bC
 have hln:=Xu (h5.ae p4)
 rw[BM]at hln
 go_upto_region 7 with(go_at_call 30;refine bW hln ?_)
 have fZ:=(h4.ae p3).cells
 go_upto_region 8 with(fail)
 rename_i K23 acH Kc hKc
 have iD:∀(k1:aB) (st v1 v2 v3:Int) (idle:Bool) a w',Tm (stepT r q z sk si sv sa sb sc) 77 27 a→In w0 w' (eF (fun _=>True) r T k1::pts q (UF st idle v1 v2 v3 0 0 0 0 0)::pts (z+1) Ir::pts z (uf sk si sv sa sb sc)::l)→
  (idle=true→k1=k.clean∧k.clean.deed T ⟨sk,si,sv,sa,sb,sc⟩=none∧st=0∧v1=0∧v2=0∧v3=0)→(idle=false→k.clean.deed T ⟨sk,si,sv,sa,sb,sc⟩=some (k1,(v1,v2,v3),st))→K23 a w':=by
  clear hKc hcall hback hstart Dy hln bC fZ h5 a h4 hbz hup LC BM
  intro k1 st v1 v2 v3 idle a w1 ha h1 hi hn
  obtain⟨f,rfl⟩:=ha.open
  simp only[vals,List.replicate,stepT,List.cons_append,List.nil_append]
  refine acH _ _ ?_
  clear acH
  have RU:=(h1.ae p1).cells
  go_upto_region 23 with(fail)
  rename_i K26 adM Kd hKd
  have RX:∀(k2:aB) a w',Tm (stepT r q z sk si sv sa sb sc) 84 20 a→In w0 w' (eF (fun _=>True) r T k2::pts q (UF st idle v1 v2 v3 0 0 0 0 0)::pts (z+1) Ir::pts z (uf sk si sv sa sb sc)::l)→aB.Step T k ⟨sk,si,sv,sa,sb,sc⟩ k2.clean ⟨st,idle,(v1,v2,v3),k2.top,k2.begun,k2.aO⟩→Rest T k2.clean→K26 a w':=by
   clear hKd h1 RU hi hn hidle RV hset hsi
   intro k2 a w1 ha h1 hstep hre
   obtain⟨f,rfl⟩:=ha.open
   simp only[vals,List.replicate,stepT,List.cons_append,List.nil_append]
   refine adM _ _ ?_
   clear adM
   obtain⟨B,x,a,h2⟩:=dD h1
   rcases x with⟨vt,vr,vs,vc,va,vi,vm,pc,pb,pf,pe,pq,vk,vb,vx⟩
   simp only at h2
   have h3:=h2.pr [0,3,8,8,0,0,0,0,0,0,0,0] 1
   clear h2 h1
   obtain⟨ab,cb,rfl⟩:=In.aG (E:=42) (size:=5) (h3.ae p10)
   obtain⟨ax,cx,rfl⟩:=In.aG (E:=3) (size:=1) (h3.ae p11)
   have htp:=Y5 (k:=k2) (x:=⟨vt,vr,vs,vc,va,vi,vm,pc,pb,pf,pe,pq,vk,.slice ab k2.begun.length cb,.slice ax k2.aO.length cx⟩) h3.drew
   rcases hkt:k2.top with⟨kd,id,fst,fv,pa⟩
   rw[hkt]at htp hstep
   unfold cO at htp
   simp only at htp
   clear hkt
   go_upto_region 26 with(fail)
   have bC:=h3.cells
   have hS0:=(h3.drew).ps [0]
   refine nK hS0 ⟨[1,11,13],[15]⟩ [.c 0 0,.c 0 2,.c 0 3,.c 0 4,.c 2 5,.c 0 6,.c 0 7,.c 0 8,.c 2 9,.e 1,.c 0 10,.e 11,.c 0 12,.e 13,.c 0 14,.e 15] ?_
   refine nD ?_;intro K hK
   go_wp2_with (go_at_call 33;refine bF htp ?_;intro w4 h4)
   clear htp bC h3
   have bC:=h4.cells
   have RU:=(h4.ae p2).cells
   have Ym:=(h4.ae p2).free
   go_wp2_with fail
   refine df hK ((h4).s) fun hS0=>?_
   refine nD ?_;intro K hK
   have h5:In w0 _ (pts q (UF st idle v1 v2 v3 kd id fst fv pa)::_):=In.VP [.int .i64 kd,.int .i64 id,.int .i64 fst,.int .i64 fv,.int .u32 pa] 5 w4 _ (h4.ae p2) (by show 10≤12;decide)
   simp only[dm]at h5
   go_wp2_with fail
   refine df hK ((h5).s) fun hS0=>?_
   refine nD ?_;intro K hK
   have h6:In w0 _ (pts q (.cells #[.int .i64 st,.bool idle,.int .u32 v1,.int .u32 v2,.int .u32 v3,.int .i64 kd,.int .i64 id,.int .i64 fst,.int .i64 fv,.int .u32 pa,.slice ab k2.begun.length cb,.slice none 0 0] 46)::_):=h5.setCell (off:=10) (.slice ab k2.begun.length cb)
   go_wp2_with fail
   refine df hK ((h6).s) fun hS0=>?_
   refine uw ?_;intro K hK
   try refine aS ?_
   have h7:In w0 _ (pts q (Ua st idle v1 v2 v3 kd id fst fv pa (.slice ab k2.begun.length cb) (.slice ax k2.aO.length cx))::_):=h6.setCell (off:=11) (.slice ax k2.aO.length cx)
   go_wp2_with fail
   try refine aS ?_
   go_upto_region 27 with(fail)
   refine In.abs h7 ?_
   clear h7 h6 h5 h4 bC RU Ym
   intro w7 h7
   have bC:=(h7.ae p1).cells
   have hfA:=(h7.ae p1).free
   have h8:In w0 _ (pts r (aX T k2.clean ⟨vt,vr,vs,vc,va,vi,vm,pc,pb,pf,pe,pq,vk,.slice none 0 0,.slice none 0 0⟩)::_):=((h7.ae p1).setCell (off:=28) (.slice none 0 0)).setCell (off:=29) (.slice none 0 0)
   go_upto_region 28 with(fail)
   refine In.abs h8 ?_
   clear h8 h7 bC hfA
   intro w8 h8
   have RU:=(h8.ae p1).cells
   have jO:=(h8.ae p3).cells
   have hfR:=(h8.ae p3).free
   have h9:=(h8.ae p3).fill [.int .i64 st,.bool idle,.int .u32 v1,.int .u32 v2,.int .u32 v3,.int .i64 kd,.int .i64 id,.int .i64 fst,.int .i64 fv,.int .u32 pa,.slice ab k2.begun.length cb,.slice ax k2.aO.length cx] rfl
   simp only[dm]at h9
   go_wp2_with fail
   refine In.abs h9 ?_
   clear h9 h8 RU jO hfR
   intro w9 h9
   have hc:=h9.cells
   refine bodyPost_ret (v:= .agg #[.int .i64 st,.bool idle,.int .u32 v1,.int .u32 v2,.int .u32 v3,.int .i64 kd,.int .i64 id,.int .i64 fst,.int .i64 fv,.int .u32 pa,.slice ab k2.begun.length cb,.slice ax k2.aO.length cx]) (by simp[results,results11,go_sem,hc]) rfl ?_
   refine⟨k2.clean,⟨st,idle,(v1,v2,v3),⟨kd,id,fst,fv,pa⟩,k2.begun,k2.aO⟩,_,_,hstep,hre,rfl,?_⟩
   have hn:In w0 w9 (gQ (.slice none 0 0) []::Ints (.slice none 0 0) []::_):=(h9.dh 3 1).dh 42 5
   have h10:=hn.pr [3,5,5,5,4,4,4,4,0,0,2,2] 2
   exact bZ (k:=k2.clean) (x:=⟨vt,vr,vs,vc,va,vi,vm,pc,pb,pf,pe,pq,vk,.slice none 0 0,.slice none 0 0⟩) ⟨a.tab,a.chk,a.num,a.len,trivial⟩ h10
  cases idle with
  |true=>
   obtain⟨rfl,hd,rfl,rfl,rfl,rfl⟩:=hi rfl
   go_wp2_with fail
   exact RX k.clean _ w1 ⟨rfl,rfl,rfl,rfl⟩ h1 (hidle hd) hrc
  |false=>
   have hd:=hn rfl
   have hI:=hset _ _ _ hd
   have hmk:=uD h1
   have acI:=fun k2 hse=>RV k1 k2 _ _ hd hse
   clear hset hidle RV hi hn hd
   go_upto_region 25 with(go_at_call 38;refine bF hmk ?_;intro w2 h2)
   have hst:=Us h2 hsi hI
   go_wp2_with (go_at_call 39;refine Calls.mono hst ?_;rintro _ w3 ⟨rfl,k2,hse,hend,h3⟩)
   exact RX k2 _ w3 ⟨rfl,rfl,rfl,rfl⟩ h3 (acI k2 hse) (Xm hend)
 clear acH hset hsi RV hidle
 have xI:decide (k.clean.phase=1)=up:=by rw[←hup];by_cases e:k.phase=1<;>simp[e,LC]
 have xJ:(!k.clean.frames.items.isEmpty)=bz:=by rw[←hbz,BM];cases k.frames.items<;>simp
 clear hbz hup hln BM
 by_cases h1:sk=1
 ·subst h1
  clear hcall hback Dy xI xJ
  by_cases hp:k.phase=0
  ·have hc:=hstart _ _ h4 hp si
   have hd:k.clean.deed T ⟨1,si,sv,sa,sb,sc⟩=some ((k.clean.start T si).1,(0,0,0),(k.clean.start T si).2):=by unfold aB.deed;simp[show k.clean.phase=0 from hp]
   generalize k.clean.start T si=pp at hc hd
   rcases pp with⟨ks,st⟩
   simp only at hc hd
   have Ep:∀a w',Tm (stepT r q z 1 si sv sa sb sc) 77 27 a→In w0 w' (eF (fun _=>True) r T ks::pts q (UF st false 0 0 0 0 0 0 0 0)::pts (z+1) Ir::pts z (uf 1 si sv sa sb sc)::l)→K23 a w':=fun a w' ha h'=>iD ks st 0 0 0 false a w' ha h' (fun e=>by cases e) (fun _=>hd)
   have hpb:(k.phase==0)=true:=by simpa using hp
   clear iD hd hp LC hstart h5 a
   go_wp2_with (go_at_call 31;refine bF hc ?_;intro w5 hy;have RU:=(hy.ae p1).cells;have Ym:=(hy.ae p1).free)
   have hz:=(hy.ae p1).fill [.int .i64 st,.bool false,.int .u32 0,.int .u32 0,.int .u32 0,.int .i64 0,.int .i64 0,.int .i64 0,.int .i64 0,.int .u32 0,.slice none 0 0,.slice none 0 0] rfl
   simp only[dm]at hz
   first|exact hz.s|exact Ep _ _ ⟨rfl,rfl,rfl,rfl⟩ (hz.s)
  ·have hd:k.clean.deed T ⟨1,si,sv,sa,sb,sc⟩=none:=by unfold aB.deed;simp[show ¬k.clean.phase=0 from hp]
   have hpb:(k.phase==0)=false:=by simpa using hp
   have hKi:∀a,Tm (stepT r q z 1 si sv sa sb sc) 77 27 a→K23 a w4:=fun a ha=>iD k.clean 0 0 0 0 true a w4 ha h4 (fun _=>⟨rfl,hd,rfl,rfl,rfl,rfl⟩) (fun e=>by cases e)
   clear iD hd hp LC hstart h5 a
   go_wp2_with fail
   exact⟨rfl,rfl,rfl,rfl⟩
 by_cases h2:sk=2
 ·subst h2
  clear hstart hback Dy
  cases bz with
  |false=>
   have hd:k.clean.deed T ⟨2,si,sv,sa,sb,sc⟩=none:=by unfold aB.deed;simp[xJ]
   have hKi:∀a,Tm (stepT r q z 2 si sv sa sb sc) 77 27 a→K23 a w4:=fun a ha=>iD k.clean 0 0 0 0 true a w4 ha h4 (fun _=>⟨rfl,hd,rfl,rfl,rfl,rfl⟩) (fun e=>by cases e)
   clear iD hd LC hcall h5 a xI xJ
   go_wp2_with fail
   first|done|exact⟨rfl,rfl,rfl,rfl⟩
  |true=>
   cases up with
   |true=>
    have hc:=hcall _ _ h4
    have hd:k.clean.deed T ⟨2,si,sv,sa,sb,sc⟩=some (k.clean.call T ⟨2,si,sv,sa,sb,sc⟩):=by unfold aB.deed;simp[xJ,xI]
    generalize k.clean.call T ⟨2,si,sv,sa,sb,sc⟩=pp at hc hd
    rcases pp with⟨ks,⟨v1,v2,v3⟩,st⟩
    unfold aK.zero at hc
    simp only at hc
    have Ep:∀a w',Tm (stepT r q z 2 si sv sa sb sc) 77 27 a→In w0 w' (eF (fun _=>True) r T ks::pts q (UF st false v1 v2 v3 0 0 0 0 0)::pts (z+1) Ir::pts z (uf 2 si sv sa sb sc)::l)→K23 a w':=fun a w' ha h'=>iD ks st v1 v2 v3 false a w' ha h' (fun e=>by cases e) (fun _=>hd)
    clear iD hd LC hcall h5 a xI xJ
    go_wp2_with (go_at_call 34;refine bF hc ?_;intro w5 hy;have RU:=(hy.ae p1).cells;have Ym:=(hy.ae p1).free)
    have hz:=(hy.ae p1).fill [.int .i64 st,.bool false,.int .u32 v1,.int .u32 v2,.int .u32 v3,.int .i64 0,.int .i64 0,.int .i64 0,.int .i64 0,.int .u32 0,.slice none 0 0,.slice none 0 0] rfl
    simp only[dm]at hz
    first|exact hz.s|exact Ep _ _ ⟨rfl,rfl,rfl,rfl⟩ (hz.s)
   |false=>
    have htp:=Fj h4
    have hro:∀w',In w0 w' (eF (fun _=>True) r T k.clean::pts q (UF 0 true 0 0 0 0 0 0 0 0)::pts (z+1) Ir::pts z (uf 2 si sv sa sb sc)::l)→_:=fun w' h'=>xW k.clean.top h'
    by_cases h3:3≤k.clean.top.kind
    ·have hd:k.clean.deed T ⟨2,si,sv,sa,sb,sc⟩=some (k.clean.call T ⟨2,si,sv,sa,sb,sc⟩):=by unfold aB.deed;simp[xJ,h3]
     have h3b:decide (3≤k.clean.top.kind)=true:=decide_eq_true h3
     rw[h3b]at hro
     clear h3 h3b
     generalize k.clean.top=f at htp hro
     generalize k.clean.call T ⟨2,si,sv,sa,sb,sc⟩=pp at hcall hd
     rcases pp with⟨ks,⟨v1,v2,v3⟩,st⟩
     rcases f with⟨kd,id,fst,fv,pa⟩
     unfold aK.zero at hcall
     unfold cO at htp
     simp only at hcall htp hro
     have Ep:∀a w',Tm (stepT r q z 2 si sv sa sb sc) 77 27 a→In w0 w' (eF (fun _=>True) r T ks::pts q (UF st false v1 v2 v3 0 0 0 0 0)::pts (z+1) Ir::pts z (uf 2 si sv sa sb sc)::l)→K23 a w':=fun a w' ha h'=>iD ks st v1 v2 v3 false a w' ha h' (fun e=>by cases e) (fun _=>hd)
     clear iD hd LC h5 a xI xJ
     go_upto_region 13 with(first|(go_at_call 33;refine bF htp ?_;intro w5 h5)|(go_at_call 32;refine bF (hro _ h5) ?_;intro w6 h6))
     have hc:=hcall _ _ h6
     clear fZ bC
     have fZ:=(h6.ae p3).cells
     go_wp2_with (go_at_call 34;refine bF hc ?_;intro w7 hy;have RU:=(hy.ae p1).cells;have Ym:=(hy.ae p1).free)
     have hz:=(hy.ae p1).fill [.int .i64 st,.bool false,.int .u32 v1,.int .u32 v2,.int .u32 v3,.int .i64 0,.int .i64 0,.int .i64 0,.int .i64 0,.int .u32 0,.slice none 0 0,.slice none 0 0] rfl
     simp only[dm]at hz
     first|exact hz.s|exact Ep _ _ ⟨rfl,rfl,rfl,rfl⟩ (hz.s)
    ·have hd:k.clean.deed T ⟨2,si,sv,sa,sb,sc⟩=none:=by unfold aB.deed;simp[xJ,xI,h3]
     have h3b:decide (3≤k.clean.top.kind)=false:=decide_eq_false h3
     rw[h3b]at hro
     clear h3 h3b
     generalize k.clean.top=f at htp hro
     rcases f with⟨kd,id,fst,fv,pa⟩
     unfold cO at htp
     simp only at htp hro
     have hKi:∀a w',Tm (stepT r q z 2 si sv sa sb sc) 77 27 a→In w0 w' (eF (fun _=>True) r T k.clean::pts q (UF 0 true 0 0 0 0 0 0 0 0)::pts (z+1) Ir::pts z (uf 2 si sv sa sb sc)::l)→K23 a w':=fun a w' ha h'=>iD k.clean 0 0 0 0 true a w' ha h' (fun _=>⟨rfl,hd,rfl,rfl,rfl,rfl⟩) (fun e=>by cases e)
     clear iD hd LC h5 a xI xJ hcall
     go_wp2_with (first|(go_at_call 33;refine bF htp ?_;intro w5 h5)|(go_at_call 32;refine bF (hro _ h5) ?_;intro w6 h6))
     first|exact h6|exact hKi _ _ ⟨rfl,rfl,rfl,rfl⟩ h6
 by_cases h3:sk=3
 ·subst h3
  clear hstart hcall Dy
  cases bz with
  |true=>
   have hne:k.clean.frames.items≠ []:=fun e=>by rw[e]at xJ;cases xJ
   have hc:=hback _ _ h4 hne
   have hd:k.clean.deed T ⟨3,si,sv,sa,sb,sc⟩=some ((k.clean.back T).1,(0,0,0),(k.clean.back T).2):=by unfold aB.deed;simp[xJ]
   generalize k.clean.back T=pp at hc hd
   rcases pp with⟨ks,st⟩
   simp only at hc hd
   have Ep:∀a w',Tm (stepT r q z 3 si sv sa sb sc) 77 27 a→In w0 w' (eF (fun _=>True) r T ks::pts q (UF st false 0 0 0 0 0 0 0 0)::pts (z+1) Ir::pts z (uf 3 si sv sa sb sc)::l)→K23 a w':=fun a w' ha h'=>iD ks st 0 0 0 false a w' ha h' (fun e=>by cases e) (fun _=>hd)
   clear iD hd LC hback h5 a xI xJ hne
   go_wp2_with (go_at_call 35;refine bF hc ?_;intro w5 hy;have RU:=(hy.ae p1).cells;have Ym:=(hy.ae p1).free)
   have hz:=(hy.ae p1).fill [.int .i64 st,.bool false,.int .u32 0,.int .u32 0,.int .u32 0,.int .i64 0,.int .i64 0,.int .i64 0,.int .i64 0,.int .u32 0,.slice none 0 0,.slice none 0 0] rfl
   simp only[dm]at hz
   first|exact hz.s|exact Ep _ _ ⟨rfl,rfl,rfl,rfl⟩ (hz.s)
  |false=>
   have hd:k.clean.deed T ⟨3,si,sv,sa,sb,sc⟩=none:=by unfold aB.deed;simp[xJ]
   have hKi:∀a,Tm (stepT r q z 3 si sv sa sb sc) 77 27 a→K23 a w4:=fun a ha=>iD k.clean 0 0 0 0 true a w4 ha h4 (fun _=>⟨rfl,hd,rfl,rfl,rfl,rfl⟩) (fun e=>by cases e)
   clear iD hd LC hback h5 a xI xJ
   go_wp2_with fail
   exact⟨rfl,rfl,rfl,rfl⟩
 by_cases h4k:sk=4
 ·subst h4k
  clear hstart hcall Dy hback
  cases up with
  |false=>
   have hd:k.clean.deed T ⟨4,si,sv,sa,sb,sc⟩=none:=by unfold aB.deed;simp[xI]
   have hKi:∀a,Tm (stepT r q z 4 si sv sa sb sc) 77 27 a→K23 a w4:=fun a ha=>iD k.clean 0 0 0 0 true a w4 ha h4 (fun _=>⟨rfl,hd,rfl,rfl,rfl,rfl⟩) (fun e=>by cases e)
   clear iD hd LC h5 a xI xJ
   go_wp2_with fail
   first|done|exact⟨rfl,rfl,rfl,rfl⟩
  |true=>
   have hil:T.aV.bf.length=T.bf.length:=List.length_map ..
   by_cases hi:si<0∨(T.bf.length:Int)≤si
   ·have hd:k.clean.deed T ⟨4,si,sv,sa,sb,sc⟩=some (k.clean,(0,0,0),3):=by unfold aB.deed;simp[xI,hi]
    have Ep:∀a w',Tm (stepT r q z 4 si sv sa sb sc) 77 27 a→In w0 w' (eF (fun _=>True) r T k.clean::pts q (UF 3 false 0 0 0 0 0 0 0 0)::pts (z+1) Ir::pts z (uf 4 si sv sa sb sc)::l)→K23 a w':=fun a w' ha h'=>iD k.clean 3 0 0 0 false a w' ha h' (fun e=>by cases e) (fun _=>hd)
    have hrq:=(Ha (h5.drew.ae p3) (by rw[hil];exact hi)).mono (R':=fun e w'=>e= .returned (.int .i64 3)∧In w0 w' _) (by rintro _ _ ⟨rfl,rfl⟩;exact⟨rfl,h5.drew.ae p3⟩)
    clear iD hd LC xI xJ hi hil
    go_upto_region 19 with(fail)
    have hS0:=(h5.drew).ps [0,11]
    refine nK hS0 ⟨[],[6,8]⟩ [.c 0 0,.c 0 1,.c 0 2,.c 1 3,.c 0 4,.c 1 5,.e 6,.c 0 7,.e 8] ?_
    refine uw ?_;intro K hK
    go_wp2_with (go_at_call 36;refine bF hrq ?_;intro w6 h6)
    clear bC fZ
    have RU:=(h6.ae p10).cells
    have Ym:=(h6.ae p10).free
    go_wp2_with fail
    refine uw ?_;intro K hK
    go_wp2_with fail
    try refine aS ?_
    have hz:=(h6.ae p10).fill [.int .i64 3,.bool false,.int .u32 0,.int .u32 0,.int .u32 0,.int .i64 0,.int .i64 0,.int .i64 0,.int .i64 0,.int .u32 0,.slice none 0 0,.slice none 0 0] rfl
    simp only[dm]at hz
    have hz2:=hz.pr [2,2,2,1,1,1,1,1,1,1,0,0,0]
    have hz3:=bZ (G:=fun _=>True) (k:=k.clean) (x:=⟨vt,vr,vs,vc,va,vi,vm,pc,pb,pf,pe,pq,vk,vb,vx⟩) ⟨a.tab,a.chk,a.num,a.len,trivial⟩ hz2
    first|exact hz3|exact Ep _ _ ⟨rfl,rfl,rfl,rfl⟩ hz3
   ·obtain⟨n,rfl⟩:∃n:Nat,si=n:=⟨si.toNat,by omega⟩
    have hd:k.clean.deed T ⟨4,n,sv,sa,sb,sc⟩=some ({k.clean with board:={k.clean.board with req:=k.clean.board.req.set n true}},(0,0,0),0):=by unfold aB.deed;simp only[xI];rw[if_neg (by decide),if_neg (by decide),if_neg (by decide),if_pos (by decide),if_pos (by decide),if_neg (by omega),Int.toNat_natCast]
    have Ep:∀a w',Tm (stepT r q z 4 n sv sa sb sc) 77 27 a→In w0 w' (eF (fun _=>True) r T {k.clean with board:={k.clean.board with req:=k.clean.board.req.set n true}}::pts q Ir::pts (z+1) Ir::pts z (uf 4 n sv sa sb sc)::l)→K23 a w':=fun a w' ha h'=>iD _ 0 0 0 0 false a w' ha h' (fun e=>by cases e) (fun _=>hd)
    have hrq:=Qg (h5.drew.ae p3) (show n<T.aV.bf.length by rw[hil];omega)
    clear iD hd LC xI xJ hi hil
    go_upto_region 19 with(fail)
    have hS0:=(h5.drew).ps [0,11]
    refine nK hS0 ⟨[],[6,8]⟩ [.c 0 0,.c 0 1,.c 0 2,.c 1 3,.c 0 4,.c 1 5,.e 6,.c 0 7,.e 8] ?_
    refine uw ?_;intro K hK
    go_wp2_with (go_at_call 36;refine bF hrq ?_;intro w6 h6)
    clear bC fZ
    have RU:=(h6.ae p10).cells
    have Ym:=(h6.ae p10).free
    go_wp2_with fail
    refine uw ?_;intro K hK
    go_wp2_with fail
    try refine aS ?_
    have hz:=(h6.ae p10).fill [.int .i64 0,.bool false,.int .u32 0,.int .u32 0,.int .u32 0,.int .i64 0,.int .i64 0,.int .i64 0,.int .i64 0,.int .u32 0,.slice none 0 0,.slice none 0 0] rfl
    simp only[dm]at hz
    have hz2:=hz.pr [2,2,2,1,1,1,1,1,1,1,0,0,0]
    have hz3:=bZ (G:=fun _=>True) (k:={k.clean with board:={k.clean.board with req:=k.clean.board.req.set n true}}) (x:=⟨vt,vr,vs,vc,va,vi,vm,pc,pb,pf,pe,pq,vk,vb,vx⟩) ⟨a.tab,a.chk,a.num,a.len,trivial⟩ (by exact hz2)
    first|exact hz3|exact Ep _ _ ⟨rfl,rfl,rfl,rfl⟩ hz3
 by_cases h5k:sk=5
 ·subst h5k
  clear hstart hcall hback xJ
  cases up with
  |true=>
   have hp1:k.clean.phase=1:=of_decide_eq_true xI
   have hc:=Dy _ _ h4 (by rw[hp1];decide) si
   have hd:k.clean.deed T ⟨5,si,sv,sa,sb,sc⟩=some ((k.clean.tick T si).1,(0,0,0),(k.clean.tick T si).2):=by unfold aB.deed;simp[hp1]
   generalize k.clean.tick T si=pp at hc hd
   rcases pp with⟨ks,st⟩
   simp only at hc hd
   have Ep:∀a w',Tm (stepT r q z 5 si sv sa sb sc) 77 27 a→In w0 w' (eF (fun _=>True) r T ks::pts q (UF st false 0 0 0 0 0 0 0 0)::pts (z+1) Ir::pts z (uf 5 si sv sa sb sc)::l)→K23 a w':=fun a w' ha h'=>iD ks st 0 0 0 false a w' ha h' (fun e=>by cases e) (fun _=>hd)
   clear iD hd LC Dy h5 a xI hp1
   go_wp2_with (go_at_call 37;refine bF hc ?_;intro w5 hy;have RU:=(hy.ae p1).cells;have Ym:=(hy.ae p1).free)
   have hz:=(hy.ae p1).fill [.int .i64 st,.bool false,.int .u32 0,.int .u32 0,.int .u32 0,.int .i64 0,.int .i64 0,.int .i64 0,.int .i64 0,.int .u32 0,.slice none 0 0,.slice none 0 0] rfl
   simp only[dm]at hz
   first|exact hz.s|exact Ep _ _ ⟨rfl,rfl,rfl,rfl⟩ (hz.s)
  |false=>
   have hd:k.clean.deed T ⟨5,si,sv,sa,sb,sc⟩=none:=by unfold aB.deed;simp[xI]
   have hKi:∀a,Tm (stepT r q z 5 si sv sa sb sc) 77 27 a→K23 a w4:=fun a ha=>iD k.clean 0 0 0 0 true a w4 ha h4 (fun _=>⟨rfl,hd,rfl,rfl,rfl,rfl⟩) (fun e=>by cases e)
   clear iD hd LC Dy h5 a xI
   go_wp2_with fail
   exact⟨rfl,rfl,rfl,rfl⟩
 have hd:k.clean.deed T ⟨sk,si,sv,sa,sb,sc⟩=none:=by unfold aB.deed;simp[h1,h2,h3,h4k,h5k]
 have b1:(sk==1)=false:=by simpa using h1
 have b2:(sk==2)=false:=by simpa using h2
 have b3:(sk==3)=false:=by simpa using h3
 have b4:(sk==4)=false:=by simpa using h4k
 have b5:(sk==5)=false:=by simpa using h5k
 have hKi:∀a,Tm (stepT r q z sk si sv sa sb sc) 77 27 a→K23 a w4:=fun a ha=>iD k.clean 0 0 0 0 true a w4 ha h4 (fun _=>⟨rfl,hd,rfl,rfl,rfl,rfl⟩) (fun e=>by cases e)
 clear iD hd h1 h2 h3 h4k h5k LC hstart hcall hback Dy h5 a xI xJ
 go_wp2_with fail
 exact⟨rfl,rfl,rfl,rfl⟩
end
theorem Jf {T:ah}:∀n,oN T n≤max (max 2 T.ag.length) T.cZ.length
 |0=>Nat.le_trans (JF _) (Nat.le_max_left ..)
 |n+1=>by
  have:=Jf (T:=T) n
  unfold oN
  split
  ·split
   ·exact this
   ·refine Nat.max_le.2 ⟨this,Nat.le_trans ?_ (Nat.le_max_right ..)⟩
    unfold gY
    refine Nat.le_trans (List.length_filter_le ..) ?_
    rw[List.length_take]
    omega
  ·exact this
theorem ZX {T:ah} (hF:T.Fine) (hn:T.Num):T.aV.Ok:=by
 refine⟨fun a ha=>(hF.ag a ha).oZ,?_,hF.mF,fun a ha=>?_⟩
 ·show(T.bf.map _).length≤32
  rw[List.length_map]
  exact hF.CJ
 ·obtain⟨_,h2,h3,h4⟩:=hn.ag a ha
  exact⟨h2.1,by omega,h3.1,by omega,h4.1,by omega⟩
section
variable {w0 w:World} {l:List SL} {r:Nat} {T:ah} {B:List (Nat × Obj)} {v:Value} {x:jM}
theorem abj {c0 c1 c2 c3 c4 c5 c6 c7 c8 c9 c10 c11 c12 c13 c14 c15 c16 c17 c18 c19 c20 c21 c22 c23 c24 c25 c26 c27 c28 c29:Value} (h:In w0 w (pts r (.cells #[c0,c1,c2,c3,c4,c5,c6,c7,c8,c9,c10,c11,c12,c13,c14,c15,c16,c17,c18,c19,c20,c21,c22,c23,c24,c25,c26,c27,c28,c29] 92)::bJ B::l)) (ht:rF B v T x) (hT:T.check=true) (hn:T.Num):
 aW 25 #[r,v] w w0 (.bool true) (eF (fun _=>True) r T T.zy::bJ B::l):=by
 have hF:=ah.fine hT
 have hok:=ZX hF hn
 obtain⟨tl,t1,t2,t3⟩:=ht.ay
 obtain⟨il,i1,i2,i3⟩:=ht.bf
 have H5:tl.length=T.ay.length:=by rw[←t1,List.length_map]
 have II:il.length=T.bf.length:=by rw[←i1,List.length_map]
 have fit:=fits hT hn t1 i1 t3 i3
 rw[←H5]at t2
 rw[←II]at i2
 have henc:=fun w' (l':List SL) (h':In w0 w' (bJ B::l'))=>JC h' ht (checks ht hT) t2 i2 fit.small fit.six fit.bytes fit.counts fit.some
 have hdec:=fun w' (l':List SL) C (v:Value) (h':In w0 w' (bJ C::l')) hu=>IZ (v:=v) h' hu fit.small t1 i1 fit.six fit.bytes fit.counts hT fit.ay fit.bf
 clear t2 i2 fit H5 II t1 i1 t3 i3
 generalize iG T tl il=ib at henc hdec
 obtain rfl:=kY ht
 have h1:=h.alloc (dO T x.vt x.vr x.vs x.vc x.va x.vi x.vm)
 have hfr:((T.frames.toNat:Nat):Int)=T.frames:=by have:=hF.room.2.1;omega
 have her:((T.errors.toNat:Nat):Int)=T.errors:=by have:=hF.room.2.2.1;omega
 have hcb:((T.dU.toNat:Nat):Int)=T.dU:=by have:=hF.room.2.2.2;omega
 have adN:T.frames.toNat≤1024:=by have:=hF.room.2.1;have:=hF.CJ;omega
 have adO:T.errors.toNat≤65536:=by
  have h1:=hF.room.2.2.1
  have h2:=Jf (T:=T) T.cZ.length
  have h3:=hF.mF
  have h4:=hF.Gt
  unfold ah.most at h1
  omega
 have acl:T.dU.toNat≤65536:=by
  have h1:=hF.room.2.2.2
  have h3:=hF.mF
  have h4:=hF.Gt
  unfold ah.zk gY at h1
  have h5:=List.length_filter_le (fun a:gq=>decide (a.act.kind=3)) T.ag
  have h6:=List.length_filter_le (fun m:qF=>decide (m.act.kind=3)) T.cZ
  omega
 have hrg:T.rings.length≤64:=hF.rings
 have hst:∀w' (l':List SL),In w0 w' l'→_:=fun w' l' h'=>aa6 h' T.frames.toNat adN
 have hre:∀w' (l':List SL),In w0 w' l'→_:=fun w' l' h'=>acY h' T.errors.toNat adO
 have hrc:∀w' (l':List SL),In w0 w' l'→_:=fun w' l' h'=>aar h' T.dU.toNat acl
 rw[hfr]at hst
 rw[her]at hre
 rw[hcb]at hrc
 clear hfr her hcb adN adO acl h
 go_enter func25,ntmps25
 go_upto_region 1 with(fail)
 refine In.abs h1 ?_
 clear h1
 generalize w.heap.size=z
 intro w2 h2
 have bC:=h2.cells
 have hen:=henc _ _ (h2.ae p2)
 go_upto_region 4 with(go_at_call 26;refine Calls.mono hen ?_;rintro _ w3 ⟨u,rfl,h3⟩)
 clear hen henc bC h2
 obtain⟨au,cu,rfl⟩:=h3.aG
 have h4:=((h3.ae p1).xO).pr [2,0,0,0,0]
 obtain⟨C,IE,hu,h5⟩:=h4.dY
 have hde:=hdec _ _ C _ h5 hu
 clear hdec h4 h3
 go_upto_region 5 with(go_at_call 65;refine Calls.mono hde ?_;rintro _ w4 ⟨u2,C2,x2,rfl,ht2,h6⟩;obtain rfl:=kY ht2;obtain⟨at2,atc2,ar2,arc2,as2,asc2,ac2,acc2,aa2,aac2,ai2,aic2,am2,amc2,e1,e2,e3,e4,e5,e6,e7⟩:=wQ ht2;rcases x2 with⟨vt2,vr2,vs2,vc2,va2,vi2,vm2,q1,q2,q3,q4,q5⟩;simp only at e1 e2 e3 e4 e5 e6 e7;subst e1 e2 e3 e4 e5 e6 e7)
 have h7:=h6.alloc (dO T (.slice at2 T.ay.length atc2) (.slice ar2 T.rings.length arc2) (.slice as2 T.bP.length asc2) (.slice ac2 T.bi.length acc2) (.slice aa2 T.ag.length aac2) (.slice ai2 T.bf.length aic2) (.slice am2 T.cZ.length amc2))
 refine In.abs h7 ?_
 clear h7 hde h5
 generalize w4.heap.size=t
 intro w5 h7
 have yB:=h7.cells
 have hco:=abh (h7.ae p1) ht2 hT
 go_upto_region 6 with(go_at_call 66;refine Calls.mono hco ?_;rintro _ w6 ⟨pc,rfl,h8⟩)
 clear hco yB h7 h6
 have yB:=(h8.ae p2).cells
 have Yl:=aca (h8.ae p1) ht2 hT hok
 go_upto_region 7 with(go_at_call 67;refine Calls.mono Yl ?_;rintro _ w7 ⟨pb,rfl,h9⟩)
 clear Yl yB h8
 have yB:=(h9.ae p3).cells
 have hsn:=hst _ _ h9
 go_upto_region 8 with(go_at_call 68;refine Calls.mono hsn ?_;rintro _ w8 ⟨pf,rfl,h10⟩)
 clear hsn hst yB h9
 have yB:=(h10.ae p4).cells
 have hrn:=hre _ _ h10
 go_upto_region 9 with(go_at_call 69;refine Calls.mono hrn ?_;rintro _ w9 ⟨pe,rfl,h11⟩)
 clear hrn hre yB h10
 have yB:=(h11.ae p5).cells
 have hrm:=hrc _ _ h11
 go_upto_region 12 with(go_at_call 70;refine Calls.mono hrm ?_;rintro _ w10 ⟨pq,rfl,h12⟩)
 clear hrm hrc yB h11
 have h13:=h12.pr [10,6,0,0,0,0,1,0,1] 2
 clear h12
 have yB:=(h13.ae p1).cells
 have jO:=h13.cells
 have hfR:=h13.free
 go_wp2_with (with_reducible apply EK 92)
 unfold Stop
 refine xh h13 (cs:=#[.int .i64 T.uses,.int .i64 T.modes,.slice at2 T.ay.length atc2,.slice ar2 T.rings.length arc2,.slice as2 T.bP.length asc2,.slice ac2 T.bi.length acc2,.slice aa2 T.ag.length aac2,.slice ai2 T.bf.length aic2,.slice am2 T.cZ.length amc2,.int .i64 T.depth,.int .i64 T.frames,.int .i64 T.errors,.int .i64 T.dU,pc,pb,pf,pe,pq,.bool false,.int .i64 0,.int .i64 0,.int .i64 0,.int .i64 0,.slice none 0 0,.int .i64 0,.int .i64 0,.int .i64 0,.int .i64 0,.slice none 0 0,.slice none 0 0]) (by rfl) (by rfl) (by simp[Value.oneCell']) (by rfl) (by rfl) ?_
 clear jO hfR yB h13
 intro w11 lM
 go_upto_region 13 with(fail)
 have yB:=(lM.ae p1).cells
 have jO:=lM.cells
 have hfR:=lM.free
 have n0:((T.rings.length:Nat):Int)≤64:=by omega
 go_wp2_with (first|(with_reducible apply wZ))
 unfold Stop
 refine lX Es lM (c:=T.rings.length) (by rfl) (by omega) (by unfold maxLen;omega) ?_
 intro g w12 h15
 clear yB jO hfR lM
 have jO:=(h15.ae p1).cells
 have hfR:=(h15.ae p1).free
 have h16:In w0 _ (pts r (aX T T.zy ⟨.slice at2 T.ay.length atc2,.slice ar2 T.rings.length arc2,.slice as2 T.bP.length asc2,.slice ac2 T.bi.length acc2,.slice aa2 T.ag.length aac2,.slice ai2 T.bf.length aic2,.slice am2 T.cZ.length amc2,pc,pb,pf,pe,pq,.slice (some ⟨g,0,none⟩) T.rings.length T.rings.length,.slice none 0 0,.slice none 0 0⟩)::_):=(h15.ae p1).setCell (off:=23) (.slice (some ⟨g,0,none⟩) T.rings.length T.rings.length)
 go_wp2_with fail
 go_ret
 refine⟨rfl,?_⟩
 have hz0:Row 3 1 (.slice (some ⟨g,0,none⟩) T.rings.length T.rings.length) T.rings.length (zeros (.int .i64 0) T.rings.length)=Ints (.slice (some ⟨g,0,none⟩) T.rings.length T.rings.length) (List.replicate T.rings.length 0):=by
  unfold Ints
  rw[List.length_replicate,Ag,DK]
 rw[hz0]at h16
 have hn2:In w0 _ (gQ (.slice none 0 0) []::Ints (.slice none 0 0) []::_):=(h16.dh 3 1).dh 42 5
 have h18:=hn2.pr [2,9,8,7,6,5,4,2,0,0,1] 1
 exact bZ (k:=T.zy) (x:=⟨.slice at2 T.ay.length atc2,.slice ar2 T.rings.length arc2,.slice as2 T.bP.length asc2,.slice ac2 T.bi.length acc2,.slice aa2 T.ag.length aac2,.slice ai2 T.bf.length aic2,.slice am2 T.cZ.length amc2,pc,pb,pf,pe,pq,.slice (some ⟨g,0,none⟩) T.rings.length T.rings.length,.slice none 0 0,.slice none 0 0⟩) ⟨ht2,hT,hn,by show(List.replicate T.rings.length (0:Int)).length=T.rings.length;rw[List.length_replicate],trivial⟩ h18
theorem UK (h:In w0 w (bJ B::l)) (ht:rF B v T x) (hn:T.check=true→T.Num):
 Calls prog 8 #[v] w fun e w'=>(T.check=true∧∃r,e= .returned (.tuple #[.pointer (some ⟨r,0,none⟩),.int .i64 0])∧In w0 w' (eF (fun _=>True) r T T.zy::bJ B::l))∨
  (T.check=false∧e= .returned (.tuple #[.pointer none,.int .i64 220])∧In w0 w' (bJ B::l)):=by
 have hck:=fun w' (l':List SL) (h':In w0 w' (bJ B::l'))=>Gz h' ht
 have hla:=fun(hT:T.check=true) r w' (l':List SL) c0 c1 c2 c3 c4 c5 c6 c7 c8 c9 c10 c11 c12 c13 c14 c15 c16 c17 c18 c19 c20 c21 c22 c23 c24 c25 c26 c27 c28 c29 h'=>abj (w0:=w0) (w:=w') (l:=l') (r:=r) (c0:=c0) (c1:=c1) (c2:=c2) (c3:=c3) (c4:=c4) (c5:=c5) (c6:=c6) (c7:=c7) (c8:=c8) (c9:=c9) (c10:=c10) (c11:=c11) (c12:=c12) (c13:=c13) (c14:=c14) (c15:=c15) (c16:=c16) (c17:=c17) (c18:=c18) (c19:=c19) (c20:=c20) (c21:=c21) (c22:=c22) (c23:=c23) (c24:=c24) (c25:=c25) (c26:=c26) (c27:=c27) (c28:=c28) (c29:=c29) h' ht hT (hn hT)
 obtain rfl:=kY ht
 have h1:=h.alloc2 (dO T x.vt x.vr x.vs x.vc x.va x.vi x.vm) (.cells #[.int .i64 0,.int .i64 0,.slice none 0 0,.slice none 0 0,.slice none 0 0,.slice none 0 0,.slice none 0 0,.slice none 0 0,.slice none 0 0,.int .i64 0,.int .i64 0,.int .i64 0,.int .i64 0,.pointer none,.pointer none,.pointer none,.pointer none,.pointer none,.bool false,.int .i64 0,.int .i64 0,.int .i64 0,.int .i64 0,.slice none 0 0,.int .i64 0,.int .i64 0,.int .i64 0,.int .i64 0,.slice none 0 0,.slice none 0 0] 92)
 cases hT:T.check with
 |false=>
  rw[hT]at hck
  clear hla hn ht
  go_enter func8,ntmps8
  go_upto_region 2 with(fail)
  refine In.abs h1 ?_
  clear h1 h
  generalize w.heap.size=z
  intro w2 h2
  have bC:=(h2.ae p1).cells
  have hcc:=hck _ _ (h2.ae p2)
  go_wp2_with (go_at_call 24;refine bF hcc ?_;intro w3 h3)
  go_ret2
  exact .inr ⟨by trivial,rfl,h3.s⟩
 |true=>
  rw[hT]at hck
  have acu:=hla hT
  clear hla hn
  go_enter func8,ntmps8
  go_upto_region 2 with(fail)
  refine In.abs h1 ?_
  clear h1 h
  generalize w.heap.size=z
  intro w2 h2
  have bC:=(h2.ae p1).cells
  have hcc:=hck _ _ (h2.ae p2)
  go_upto_region 4 with(first|(go_at_call 24;refine bF hcc ?_;intro w3 h3;clear bC;have bC:=(h3.ae p2).cells;have h4:In w0 w3 (pts (z+1) (.cells #[.int .i64 0,.int .i64 0,.slice none 0 0,.slice none 0 0,.slice none 0 0,.slice none 0 0,.slice none 0 0,.slice none 0 0,.slice none 0 0,.int .i64 0,.int .i64 0,.int .i64 0,.int .i64 0,.pointer none,.pointer none,.pointer none,.pointer none,.pointer none,.bool false,.int .i64 0,.int .i64 0,.int .i64 0,.int .i64 0,.slice none 0 0,.int .i64 0,.int .i64 0,.int .i64 0,.int .i64 0,.slice none 0 0,.slice none 0 0] 92)::bJ B::pts z (dO T x.vt x.vr x.vs x.vc x.va x.vi x.vm)::l):=h3.s;have hly:=acu (z+1) w3 _ (.int .i64 0) (.int .i64 0) (.slice none 0 0) (.slice none 0 0) (.slice none 0 0) (.slice none 0 0) (.slice none 0 0) (.slice none 0 0) (.slice none 0 0) (.int .i64 0) (.int .i64 0) (.int .i64 0) (.int .i64 0) (.pointer none) (.pointer none) (.pointer none) (.pointer none) (.pointer none) (.bool false) (.int .i64 0) (.int .i64 0) (.int .i64 0) (.int .i64 0) (.slice none 0 0) (.int .i64 0) (.int .i64 0) (.int .i64 0) (.int .i64 0) (.slice none 0 0) (.slice none 0 0) h4)|(go_at_call 25;refine bF hly ?_;intro w5 h5))
  go_wp2_with fail
  go_ret2
  exact .inl ⟨by trivial,_,rfl,h5.s⟩
end
section
variable {w0 w:World} {l:List SL} {r:Nat} {T:ah} {B:List (Nat × Obj)} {v:Value} {k:aB} {G:Value→Prop}
theorem ZL (h:In w0 w (bJ B::l)) (hdec:∀w' (l':List SL),In w0 w' (bJ B::l')→Calls prog 65 #[v] w' fun e w'=>∃u C x2,e= .returned (.tuple #[u,.int .i64 0])∧rF C u T x2∧In w0 w' (bJ C::bJ B::l')) (hT:T.check=true) (hn:T.Num):
 Calls prog 28 #[v] w fun e w'=>∃r,e= .returned (.tuple #[.pointer (some ⟨r,0,none⟩),.int .i64 0])∧In w0 w' (eF (fun _=>True) r T T.zy::bJ B::l):=by
 have hde:=hdec _ _ h
 clear hdec
 have hne:=fun C u x w' (l':List SL) (h':In w0 w' (bJ C::l')) (ht:rF C u T x)=>(UK h' ht (fun _=>hn)).mono (R':=fun e w''=>∃r,e= .returned (.tuple #[.pointer (some ⟨r,0,none⟩),.int .i64 0])∧In w0 w'' (eF (fun _=>True) r T T.zy::bJ C::l')) (by
  rintro e w'' (⟨_,q⟩|⟨hno,_⟩)
  ·exact q
  ·rw[hT]at hno;cases hno)
 go_enter func28,ntmps28
 go_upto_region 2 with(go_at_call 65;refine Calls.mono hde ?_;rintro _ w4 ⟨u2,C2,x2,rfl,ht2,h6⟩;obtain rfl:=kY ht2;obtain⟨at2,atc2,ar2,arc2,as2,asc2,ac2,acc2,aa2,aac2,ai2,aic2,am2,amc2,e1,e2,e3,e4,e5,e6,e7⟩:=wQ ht2;rcases x2 with⟨vt2,vr2,vs2,vc2,va2,vi2,vm2,q1,q2,q3,q4,q5⟩;simp only at e1 e2 e3 e4 e5 e6 e7;subst e1 e2 e3 e4 e5 e6 e7)
 have h7:=h6.alloc (dO T (.slice at2 T.ay.length atc2) (.slice ar2 T.rings.length arc2) (.slice as2 T.bP.length asc2) (.slice ac2 T.bi.length acc2) (.slice aa2 T.ag.length aac2) (.slice ai2 T.bf.length aic2) (.slice am2 T.cZ.length amc2))
 refine In.abs h7 ?_
 clear h7 hde h h6
 generalize w4.heap.size=t
 intro w5 h7
 have yB:=h7.cells
 have hnw:=hne _ _ _ _ _ (h7.ae p1) ht2
 go_wp2_with (go_at_call 8;refine Calls.mono hnw ?_;rintro _ w6 ⟨r6,rfl,h8⟩)
 go_ret2
 exact⟨_,rfl,h8.s⟩
theorem Oi (h:In w0 w (eF G r T k::l)):Calls prog 12 #[r] w fun e w'=>
 ∃u,e= .returned (.agg #[u,.int .i64 k.marks.pre,.int .i64 k.marks.frames,.int .i64 k.marks.errors,.int .i64 k.marks.calls])∧In w0 w' (Ints u k.marks.rings::eF G r T k::l):=by
 have OZ:=fun w' (l':List SL) (h':In w0 w' (eF G r T k::l'))=>KQ h'
 have h1:=h.alloc (.cells #[.slice none 0 0,.int .i64 0,.int .i64 0,.int .i64 0,.int .i64 0] 56)
 go_enter func12,ntmps12
 go_upto_region 1 with(fail)
 refine In.abs h1 ?_
 clear h1 h
 generalize w.heap.size=z
 intro w2 h2
 have hmd:=OZ _ _ (h2.ae p1)
 clear OZ
 obtain⟨B,x,a,h3⟩:=dD (h2.ae p1)
 have hrl:k.marks.rings.length≤64:=by rw[a.len];exact a.fine.rings
 rcases x with⟨vt,vr,vs,vc,va,vi,vm,pc,pb,pf,pe,pq,vk,vb,vx⟩
 simp only at h3
 obtain⟨ak,ck,rfl⟩:=In.aG (E:=3) (size:=1) (h3.ae p7)
 have bC:=h3.cells
 have h4:=h3.alloc (Xq (.slice ak k.marks.rings.length ck) k.marks.pre k.marks.frames k.marks.errors k.marks.calls)
 go_upto_region 4 with(go_at_call 29;refine bW hmd ?_)
 refine In.abs h4 ?_
 clear h4 hmd h3 h2 bC
 generalize w2.heap.size=y
 intro w4 h4
 have Dw:=h4.cells
 have h5:In w0 w4 (Row 3 1 (.slice none 0 0) 0 []::Row 3 1 (.slice ak k.marks.rings.length ck) k.marks.rings.length (k.marks.rings.map jf).flatten::_):=(h4.ae p8).dh 3 1
 go_wp2_with (first|(with_reducible apply bH))
 unfold Stop
 refine pU Es h5 (by rfl) (by rfl) (by omega) ?_
 intro u w6 h6
 clear h5 h4 Dw
 rw[Nat.zero_add,List.nil_append]at h6
 obtain⟨au,cu,rfl⟩:=h6.aG
 have Dw:=(h6.ae p2).cells
 have hfY:=(h6.ae p2).free
 have h7:In w0 _ (pts y (Xq (.slice au k.marks.rings.length cu) k.marks.pre k.marks.frames k.marks.errors k.marks.calls)::_):=(h6.ae p2).setCell (off:=0) (.slice au k.marks.rings.length cu)
 go_upto_region 5 with(fail)
 refine In.abs h7 ?_
 clear h7 h6 Dw hfY
 intro w7 h7
 have Dw:=h7.cells
 have fZ:=(h7.ae p12).cells
 have hfZ:=(h7.ae p12).free
 have h8:=(h7.ae p12).fill [.slice au k.marks.rings.length cu,.int .i64 k.marks.pre,.int .i64 k.marks.frames,.int .i64 k.marks.errors,.int .i64 k.marks.calls] rfl
 simp only[dm]at h8
 go_wp2_with fail
 refine In.abs h8 ?_
 clear h8 h7 Dw fZ hfZ
 intro w8 h8
 have hc:=h8.cells
 refine bodyPost_ret (v:= .agg #[.slice au k.marks.rings.length cu,.int .i64 k.marks.pre,.int .i64 k.marks.frames,.int .i64 k.marks.errors,.int .i64 k.marks.calls]) (by simp[results,results12,go_sem,hc]) rfl ?_
 refine⟨_,rfl,?_⟩
 have h9:In w0 w8 (Ints (.slice au k.marks.rings.length cu) k.marks.rings::pts r (aX T k ⟨vt,vr,vs,vc,va,vi,vm,pc,pb,pf,pe,pq,.slice ak k.marks.rings.length ck,vb,vx⟩)::bJ B::Core pc T k.core::je pb T.aV k.board::gG pf k.frames::dV pe k.errors::dG pq k.calls::Ints (.slice ak k.marks.rings.length ck) k.marks.rings::gQ vb k.begun::Ints vx k.aO::l):=by
  unfold Ints at h8⊢
  exact h8.s
 have h10:=bZ a ((h9.ae p1).s:In w0 w8 (pts r (aX T k ⟨vt,vr,vs,vc,va,vi,vm,pc,pb,pf,pe,pq,.slice ak k.marks.rings.length ck,vb,vx⟩)::bJ B::Core pc T k.core::je pb T.aV k.board::gG pf k.frames::dV pe k.errors::dG pq k.calls::Ints (.slice ak k.marks.rings.length ck) k.marks.rings::gQ vb k.begun::Ints vx k.aO::Ints (.slice au k.marks.rings.length cu) k.marks.rings::l))
 exact h10.s
end
def aB.AU (T:ah) (k:aB):List (List Int):=(List.range T.bf.length).map fun(i:Nat)=>k.core.lock.held (eQ (i:Int))
def ZN (b:Nat) (l:List oV):SL:=ex fun v=>bQ [pts b (.cells #[v] 43),gQ v (l.map (·.frame))]
theorem Jq {w0 w:World} {l:List SL} {b:Nat} {xs:List oV} (h:In w0 w (ZN b xs::l)):∃v,In w0 w (pts b (.cells #[v] 43)::gQ v (xs.map (·.frame))::l):=by
 obtain⟨v,h⟩:=In.aY.1 h
 exact⟨v,In.bn.1 h⟩
theorem JB {w0 w:World} {l:List SL} {b:Nat} {v:Value} {xs:List oV} (h:In w0 w (pts b (.cells #[v] 43)::gQ v (xs.map (·.frame))::l)):In w0 w (ZN b xs::l):=
 In.aY.2 ⟨v,In.bn.2 h⟩
theorem aee {Pre:Nat→Option Addr→Nat→Option Addr→Nat→Option Addr→Nat→World→Prop} {K:Act→World→Prop} {G:Prop} (A:Nat→Option Addr→Nat→Option Addr→Nat→Option Addr→Nat→Act)
 (main:(∀z a b c d e f w,Pre z a b c d e f w→K (A z a b c d e f) w)→G) (rest:∀z a b c d e f w,Pre z a b c d e f w→K (A z a b c d e f) w):G:=main rest
section
variable {w0 w:World} {l:List SL} {r:Nat} {T:ah} {k:aB} {G:Value→Prop}
theorem PY {v:Value} {tl:List jh} (h:In w0 w (oM v tl::l)):∃a c,v= .slice a tl.length c:=by
 obtain⟨B,h⟩:=In.aY.1 h
 obtain⟨pl,h⟩:=In.aY.1 h
 obtain⟨⟨e,_⟩,h⟩:=In.dw.1 (In.bn.1 h)
 obtain⟨a,c,e2⟩:=In.aG (h.ae p1)
 exact⟨a,c,by rw[e2,←e,List.length_map]⟩
theorem Ql {v:Value} {ll:List (List Int)} (h:In w0 w (lJ v ll::l)):∃a c,v= .slice a ll.length c:=by
 obtain⟨B,h⟩:=In.aY.1 h
 obtain⟨pl,h⟩:=In.aY.1 h
 obtain⟨⟨e,_⟩,h⟩:=In.dw.1 (In.bn.1 h)
 obtain⟨a,c,e2⟩:=In.aG (h.ae p1)
 exact⟨a,c,by rw[e2,←e,List.length_map]⟩
theorem Zq (h:In w0 w (eF G r T k::l)):Calls prog 13 #[r] w fun e w'=>
 ∃vT vF vQ vH vC vA vR vP,e= .returned (.agg #[.int .i64 k.phase,.int .i64 k.mode,vT,vF,vQ,vH,.bool k.gate.shut,.int .i64 k.gate.all,.int .i64 k.gate.os,vC,vA,vR,vP])∧
  In w0 w' (oM vT (k.core.look T).ay::gQ vF (k.frames.items.map (·.frame))::Ints vQ k.board.wanted::lJ vH (k.AU T)::Row 38 1 vC k.board.clocks.length (yt (k.board.clocks.map (·.value)))::Row 125 3 vA T.aV.ag.length ((k.board.looks T.aV).map ji).flatten::lJ vR (k.core.look T).rings::Ints vP k.core.before::eF G r T k::l):=by
 have OZ:=fun w' (l':List SL) (h':In w0 w' (eF G r T k::l'))=>KQ h'
 have h1:=h.alloc (Rl 0 0 false 0 0)
 refine ku func13 rfl ?_
 simp only[ntmps13,List.size_toArray,List.length_cons,List.length_nil,Nat.reduceAdd,Nat.reduceSub,Array.replicate_succ,Array.replicate_zero,List.push_toArray,List.append_toArray,List.nil_append,List.cons_append]
 go_upto_region 1 with(fail)
 refine In.abs h1 ?_
 clear h1 h
 generalize w.heap.size=z
 intro w2 h2
 have hmd:=OZ _ _ (h2.ae p1)
 clear OZ
 obtain⟨B,x,a,h3⟩:=dD (h2.ae p1)
 rcases x with⟨vt,vr,vs,vc,va,vi,vm,pc,pb,pf,pe,pq,vk,vb,vx⟩
 simp only at h3
 have bC:=h3.cells
 have hlk:=QF (h3.ae p2)
 go_upto_region 3 with(go_at_call 29;refine bW hmd ?_)
 clear hmd h2
 go_upto_region 4 with(go_at_call 40;refine Calls.mono hlk ?_;rintro _ w4 ⟨vT,vR,vP,rfl,h4⟩;obtain⟨aT,cT,rfl⟩:=PY h4;obtain⟨aR,cR,rfl⟩:=Ql (h4.ae p1);obtain⟨aP,cP,rfl⟩:=In.aG (E:=3) (size:=1) (h4.ae p2))
 have h5:=h4.alloc (EP (.slice aT (k.core.look T).ay.length cT) (.slice aR (k.core.look T).rings.length cR) (.slice aP k.core.before.length cP) k.core.leaving)
 refine In.abs h5 ?_
 clear h5 h4 hlk bC h3
 generalize w4.heap.size=y
 intro w5 h5
 have hpu:In w0 w5 (pts r (aX T k ⟨vt,vr,vs,vc,va,vi,vm,pc,pb,pf,pe,pq,vk,vb,vx⟩)::bJ B::Core pc T k.core::je pb T.aV k.board::gG pf k.frames::dV pe k.errors::dG pq k.calls::Ints vk k.marks.rings::gQ vb k.begun::Ints vx k.aO::pts y (EP (.slice aT (k.core.look T).ay.length cT) (.slice aR (k.core.look T).rings.length cR) (.slice aP k.core.before.length cP) k.core.leaving)::oM (.slice aT (k.core.look T).ay.length cT) (k.core.look T).ay::lJ (.slice aR (k.core.look T).rings.length cR) (k.core.look T).rings::Ints (.slice aP k.core.before.length cP) k.core.before::pts z (Rl 0 0 false 0 0)::l):=h5.s
 clear h5
 have XU:T.aV.bi.length≤16:=a.fine.Ja
 rename_i K0 hK0
 apply aee (K:=K0) (Pre:=fun zz aQ cQ aC cC aA cA wz=>In w0 wz (pts zz (.cells #[.int .i64 k.phase,.int .i64 k.mode,.slice aT (k.core.look T).ay.length cT,.slice none 0 0,.slice aQ k.board.wanted.length cQ,.slice none 0 0,.bool k.gate.shut,.int .i64 k.gate.all,.int .i64 k.gate.os,.slice aC k.board.clocks.length cC,.slice aA T.aV.ag.length cA,.slice aR (k.core.look T).rings.length cR,.slice aP k.core.before.length cP] 66)::Row 125 3 (.slice aA T.aV.ag.length cA) T.aV.ag.length ((k.board.looks T.aV).map ji).flatten::je pb T.aV k.board::Row 38 1 (.slice aC k.board.clocks.length cC) k.board.clocks.length (yt (k.board.clocks.map (·.value)))::Ints (.slice aQ k.board.wanted.length cQ) k.board.wanted::pts r (aX T k ⟨vt,vr,vs,vc,va,vi,vm,pc,pb,pf,pe,pq,vk,vb,vx⟩)::bJ B::Core pc T k.core::gG pf k.frames::dV pe k.errors::dG pq k.calls::Ints vk k.marks.rings::gQ vb k.begun::Ints vx k.aO::pts y (EP (.slice aT (k.core.look T).ay.length cT) (.slice aR (k.core.look T).rings.length cR) (.slice aP k.core.before.length cP) k.core.leaving)::oM (.slice aT (k.core.look T).ay.length cT) (k.core.look T).ay::lJ (.slice aR (k.core.look T).rings.length cR) (k.core.look T).rings::Ints (.slice aP k.core.before.length cP) k.core.before::pts z (Rl 0 0 false 0 0)::l))
 case main=>
  intro rest
  refine qi (fun w'=>In w0 w' [pts r (aX T k ⟨vt,vr,vs,vc,va,vi,vm,pc,pb,pf,pe,pq,vk,vb,vx⟩),pts y (EP (.slice aT (k.core.look T).ay.length cT) (.slice aR (k.core.look T).rings.length cR) (.slice aP k.core.before.length cP) k.core.leaving)]) ⟨[18,38,43,45,46], []⟩ (by kernel_rfl) ?_
  rintro _ rfl
  refine In.abs (hpu.drew) ?_
  intro wq hpu
  have hS0:In w0 _ [pts r (aX T k ⟨vt,vr,vs,vc,va,vi,vm,pc,pb,pf,pe,pq,vk,vb,vx⟩),pts y (EP (.slice aT (k.core.look T).ay.length cT) (.slice aR (k.core.look T).rings.length cR) (.slice aP k.core.before.length cP) k.core.leaving)]:=hpu.s
  all_goals(first|refine jk 6 [.c 0 0,.c 0 1,.c 0 2,.c 2 3,.c 0 4,.c 0 5,.c 0 6,.c 2 7,.c 0 8,.c 2 9,.c 0 10,.c 2 11,.c 0 12,.c 2 13,.c 0 14,.c 0 15,.c 0 16,.c 2 17,.c 0 19,.c 0 20,.c 0 21,.c 0 22,.c 2 23,.c 0 24,.c 0 25,.c 0 26,.c 0 27,.c 2 28,.c 0 29,.c 0 30,.c 0 31,.c 0 32,.c 2 33,.c 0 34,.c 0 35,.c 0 36,.c 2 37,.c 0 39,.c 0 40,.c 0 41,.c 2 42] (by kernel_rfl) (by decide+kernel) (by kernel_rfl) ?_ |refine jk 5 [.c 0 0,.c 0 1,.c 0 2,.c 2 3,.c 0 4,.c 0 5,.c 0 6,.c 2 7,.c 0 8,.c 2 9,.c 0 10,.c 2 11,.c 0 12,.c 2 13,.c 0 14,.c 0 15,.c 0 16,.c 2 17,.c 0 19,.c 0 20,.c 0 21,.c 0 22,.c 2 23,.c 0 24,.c 0 25,.c 0 26,.c 0 27,.c 2 28,.c 0 29,.c 0 30,.c 0 31,.c 0 32,.c 2 33,.c 0 34,.c 0 35,.c 0 36,.c 2 37,.c 0 39,.c 0 40,.c 0 41,.c 2 42] (by kernel_rfl) (by decide+kernel) (by kernel_rfl) ?_)
  all_goals(refine uu ?_)
  all_goals(refine lu ?_)
  all_goals(first|(refine dH (c:=18) (by decide+kernel) rfl rfl ?_;intro K hK)|(refine jR (c:=18) (j:=45) (by decide+kernel) rfl rfl rfl rfl ?_ ?_;rotate_left;(intro K hK);rotate_left;(intro K hK;go_wp2_with fail;refine df hK ((hS0.alloc _).drop) fun hS0=>?_;have hpu:=hpu.jK (Rl 0 0 false 0 0) p15;generalize Array.size (World.heap _)=zz at*;refine dH (c:=18) (by decide+kernel) rfl rfl ?_;intro K hK)))
  all_goals(go_wp2_with (go_at_call 41;refine Calls.mono (CQ (hpu.ae p3)) ?_;rintro _ w7 ⟨vQ,rfl,h7⟩;obtain⟨aQ,cQ,rfl⟩:=In.aG (E:=3) (size:=1) h7))
  all_goals(refine df hK (h7.s) fun hS0=>?_)
  all_goals(first|(refine dH (c:=38) (by decide+kernel) rfl rfl ?_;intro K hK)|(refine jR (c:=38) (j:=45) (by decide+kernel) rfl rfl rfl rfl ?_ ?_;rotate_left;(intro K hK);rotate_left;(intro K hK;go_wp2_with fail;refine df hK ((hS0.alloc _).drop) fun hS0=>?_;have h7:=h7.jK (Rl 0 0 false 0 0) p16;generalize Array.size (World.heap _)=zz at*;refine dH (c:=38) (by decide+kernel) rfl rfl ?_;intro K hK)))
  all_goals(go_wp2_with (go_at_call 42;refine Calls.mono (LG (h7.ae p1) XU) ?_;rintro _ w8 ⟨vC,rfl,h8⟩;obtain⟨aC,cC,rfl⟩:=In.aG h8))
  all_goals(refine df hK (h8.s) fun hS0=>?_)
  all_goals(first|(refine dH (c:=43) (by decide+kernel) rfl rfl ?_;intro K hK)|(refine jR (c:=43) (j:=45) (by decide+kernel) rfl rfl rfl rfl ?_ ?_;rotate_left;(intro K hK);rotate_left;(intro K hK;go_wp2_with fail;refine df hK ((hS0.alloc _).drop) fun hS0=>?_;have h8:=h8.jK (Rl 0 0 false 0 0) p17;generalize Array.size (World.heap _)=zz at*;refine dH (c:=43) (by decide+kernel) rfl rfl ?_;intro K hK)))
  all_goals(go_wp2_with (go_at_call 43;refine Calls.mono (TT (h8.ae p1)) ?_;rintro _ w9 ⟨vA,rfl,h9⟩;obtain⟨aA,cA,rfl⟩:=In.aG h9))
  all_goals(refine df hK (h9.s) fun hS0=>?_)
  all_goals(first|refine jk 2 [.c 0 44] (by kernel_rfl) (by decide+kernel) (by kernel_rfl) ?_ |refine jk 1 [.c 0 44] (by kernel_rfl) (by decide+kernel) (by kernel_rfl) ?_)
  all_goals(refine uu ?_)
  all_goals(refine lu ?_)
  all_goals(try(refine dH (c:=45) (by decide+kernel) rfl rfl ?_;intro K hK;go_wp2_with fail;refine df hK ((hS0.alloc _).drop) fun hS0=>?_;have h9:=h9.jK (Rl 0 0 false 0 0) p18;generalize Array.size (World.heap _)=zz at*))
  all_goals(refine dH (c:=46) (by decide+kernel) rfl rfl ?_;intro K hK)
  all_goals(have hz:=h9.ae p18;have hzc:=hz.cells;have Hr:=hz.free;have hz2:=hz.fill [.int .i64 k.phase,.int .i64 k.mode,.slice aT (k.core.look T).ay.length cT,.slice none 0 0,.slice aQ k.board.wanted.length cQ,.slice none 0 0,.bool k.gate.shut,.int .i64 k.gate.all,.int .i64 k.gate.os,.slice aC k.board.clocks.length cC,.slice aA T.aV.ag.length cA,.slice aR (k.core.look T).rings.length cR,.slice aP k.core.before.length cP] rfl;simp only[dm]at hz2;go_wp2_with fail)
  all_goals(refine df hK (hz2.s) fun hS0=>?_)
  all_goals(refine any_nil (by kernel_rfl) ?_)
  all_goals exact rest _ _ _ _ _ _ _ _ hz2
 case rest=>
  intro zz aQ cQ aC cC aA cA wz hz
  refine hK0 _ _ ?_
  clear hK0
  have hn32:=a.fine.CJ
  have hz1:In w0 wz (Row 44 1 (.slice none 0 0) 0 []::pts zz (.cells #[.int .i64 k.phase,.int .i64 k.mode,.slice aT (k.core.look T).ay.length cT,.slice none 0 0,.slice aQ k.board.wanted.length cQ,.slice none 0 0,.bool k.gate.shut,.int .i64 k.gate.all,.int .i64 k.gate.os,.slice aC k.board.clocks.length cC,.slice aA T.aV.ag.length cA,.slice aR (k.core.look T).rings.length cR,.slice aP k.core.before.length cP] 66)::pts r (aX T k ⟨vt,vr,vs,vc,va,vi,vm,pc,pb,pf,pe,pq,vk,vb,vx⟩)::bJ B::Core pc T k.core::je pb T.aV k.board::gG pf k.frames::dV pe k.errors::dG pq k.calls::Ints vk k.marks.rings::gQ vb k.begun::Ints vx k.aO::bJ []::Row 125 3 (.slice aA T.aV.ag.length cA) T.aV.ag.length ((k.board.looks T.aV).map ji).flatten::Row 38 1 (.slice aC k.board.clocks.length cC) k.board.clocks.length (yt (k.board.clocks.map (·.value)))::Ints (.slice aQ k.board.wanted.length cQ) k.board.wanted::oM (.slice aT (k.core.look T).ay.length cT) (k.core.look T).ay::lJ (.slice aR (k.core.look T).rings.length cR) (k.core.look T).rings::Ints (.slice aP k.core.before.length cP) k.core.before::pts z (Rl 0 0 false 0 0)::l):=((hz.sW).dh 44 1).s
  clear hz hpu
  have bC:=(hz1.ae p2).cells
  obtain⟨a1,c1,a2,c2,a3,c3,a4,c4,a5,c5,a6,c6,a7,c7,e1,e2,e3,e4,e5,e6,e7⟩:=wQ (x:=⟨vt,vr,vs,vc,va,vi,vm,0,0,0,0,0⟩) a.tab
  simp only at e1 e2 e3 e4 e5 e6 e7
  subst e6
  clear e1 e2 e3 e4 e5 e7
  go_upto_region 6 with(fail)
  clear bC
  go_loopw [5,69] (fun _ c wr=>∃(j:Nat) (C:List (Nat × Obj)) (pm:List (List Int × Value)) (v:Value),j≤T.bf.length∧c= .int .i64 j∧pm.length=j∧pm.map (·.1)=(List.range j).map (fun(i:Nat)=>k.core.lock.held (eQ (i:Int)))∧(∀p∈pm,dQ C p.2 p.1.length (ints p.1))∧
   In w0 wr (Row 44 1 v j (pm.map fun p=>p.2)::pts zz (SG k.phase k.mode (.slice aT (k.core.look T).ay.length cT) (.slice aQ k.board.wanted.length cQ) v k.gate.shut k.gate.all k.gate.os (.slice aC k.board.clocks.length cC) (.slice aA T.aV.ag.length cA) (.slice aR (k.core.look T).rings.length cR) (.slice aP k.core.before.length cP))::pts r (aX T k ⟨vt,vr,vs,vc,va,.slice a6 T.bf.length c6,vm,pc,pb,pf,pe,pq,vk,vb,vx⟩)::bJ B::Core pc T k.core::je pb T.aV k.board::gG pf k.frames::dV pe k.errors::dG pq k.calls::Ints vk k.marks.rings::gQ vb k.begun::Ints vx k.aO::bJ C::Row 125 3 (.slice aA T.aV.ag.length cA) T.aV.ag.length ((k.board.looks T.aV).map ji).flatten::Row 38 1 (.slice aC k.board.clocks.length cC) k.board.clocks.length (yt (k.board.clocks.map (·.value)))::Ints (.slice aQ k.board.wanted.length cQ) k.board.wanted::oM (.slice aT (k.core.look T).ay.length cT) (k.core.look T).ay::lJ (.slice aR (k.core.look T).rings.length cR) (k.core.look T).rings::Ints (.slice aP k.core.before.length cP) k.core.before::pts z (Rl 0 0 false 0 0)::l))
   (fun _ c _=>T.bf.length-(intOf c).toNat)
  case atStart=>exact⟨0, [], [],_,Nat.zero_le _,rfl,rfl,rfl,fun p hp=>by simp at hp,hz1⟩
  case round=>
   obtain⟨j,C,pm,v,hj,rfl,hpm,hmap,hlo,hw⟩:=hrel
   clear hz1
   by_cases hlt:j<T.bf.length
   ·have hnx:=List.range_succ (n:=j)
    have hrow:=ah.CU (List.getElem?_eq_getElem hlt)
    have hfew:(k.core.lock.held ⟨true,(j:Int)⟩).length≤65:=by
     have hinv:=(jY (hw.ae p4)).2
     exact Nat.le_trans (hinv.lk.few hrow) (a.fine.row hrow).1
    obtain⟨aov,acn,rfl⟩:=hw.aG
    have n1:(j:Int)<T.bf.length:=by omega
    have Hq:=fun w' (l':List SL) (h':In w0 w' (Core pc T k.core::l'))=>WM h' hrow
    have adP:=fun w' (l':List SL) (h':In w0 w' l')=>tJ h' (j:Int)
    unfold dJ eQ at Hq
    simp only at Hq
    have hgh:k.core.lock.held (eQ (j:Int))=k.core.lock.held ⟨true,(j:Int)⟩:=rfl
    generalize k.core.lock.held ⟨true,(j:Int)⟩=hj2 at hgh Hq hfew
    replace hgh:∃_:Unit,_:=⟨(),hgh⟩
    go_upto_region 8 with(fail)
    have bC:=(hw.ae p2).cells
    have fZ:=(hw.ae p1).cells
    have hS0:In w0 _ [pts r (aX T k ⟨vt,vr,vs,vc,va,.slice a6 T.bf.length c6,vm,pc,pb,pf,pe,pq,vk,vb,vx⟩),pts zz (SG k.phase k.mode (.slice aT (k.core.look T).ay.length cT) (.slice aQ k.board.wanted.length cQ) (.slice aov j acn) k.gate.shut k.gate.all k.gate.os (.slice aC k.board.clocks.length cC) (.slice aA T.aV.ag.length cA) (.slice aR (k.core.look T).rings.length cR) (.slice aP k.core.before.length cP))]:=(hw.drew).s
    refine nK hS0 ⟨[7,8,9],[10,12]⟩ [.c 0 0,.c 2 1,.c 0 2,.c 0 3,.c 0 4,.c 2 5,.c 0 6,.e 7,.e 8,.e 9,.e 10,.c 0 11,.e 12] ?_
    refine nD ?_;intro K hK
    go_wp2_with (go_at_call 45;refine bF (adP _ _ hw.drew) ?_;intro w6 h6)
    clear bC fZ
    have bC:=(h6.ae p2).cells
    have fZ:=(h6.ae p1).cells
    go_wp2_with fail
    refine df hK ((h6).s) fun hS0=>?_
    refine gz rfl rfl fun K hK=>?_
    go_wp2_with (go_at_call 44;refine Calls.mono (Hq _ _ (h6.ae p4)) ?_;rintro _ w7 ⟨v7,rfl,h7⟩;obtain⟨Lm,yA,rfl⟩:=In.aG (E:=3) (size:=1) h7)
    clear bC fZ adP
    have bC:=(h7.ae p4).cells
    have fZ:=(h7.ae p3).cells
    go_wp2_with fail
    refine df hK ((h7).s) fun hS0=>?_
    refine gz rfl rfl fun K hK=>?_
    go_wp2_with fail
    refine df hK ((hS0.alloc _).drop) fun hS0=>?_
    refine bG rfl rfl fun K hK=>?_
    refine aZ ac9 ((h7.ae p2).alloc (.cells #[.slice Lm hj2.length yA] 44)) rfl (by rfl) (by rfl) (by simp[Value.oneCell']) (by omega) ?_
    intro u9 w9 h9
    obtain⟨Du,rC,rfl⟩:=h9.aG
    clear bC fZ
    have hz3:=(h9.ae p3).cells
    have Ll:=(h9.ae p3).free
    go_wp2_with fail
    refine uw ?_;intro K hK
    go_wp2_with fail
    try refine aS ?_
    go_wp2_with fail
    have h11:In w0 _ (pts zz (SG k.phase k.mode (.slice aT (k.core.look T).ay.length cT) (.slice aQ k.board.wanted.length cQ) (.slice Du (j+1) rC) k.gate.shut k.gate.all k.gate.os (.slice aC k.board.clocks.length cC) (.slice aA T.aV.ag.length cA) (.slice aR (k.core.look T).rings.length cR) (.slice aP k.core.before.length cP))::_):=(h9.ae p3).setCell (off:=5) (.slice Du (j+1) rC)
    obtain⟨C2,Lt,hro,h12⟩:=((h11.ae p13).ae p3).nZ
    go_roundw
    case rel=>
     refine⟨j+1,C2,pm++ [(hj2,.slice Lm hj2.length yA)],.slice Du (j+1) rC,hlt,by go_num,by simp[hpm],?_,?_,?_⟩
     ·obtain⟨_,hgh⟩:=hgh
      rw[List.map_append,hmap,hnx,List.map_append]
      simp[hgh]
     ·intro p hp
      rcases List.mem_append.1 hp with hp|hp
      ·exact(hlo p hp).mono Lt
      ·simp at hp;subst hp;exact hro
     ·simp only[List.map_append,List.map_cons,List.map_nil]
      exact h12.s
    case measure=>simp[intOf]<;>omega
   ·have hje:j=T.bf.length:=by omega
    subst hje
    have hw1:In w0 wr (Row 44 1 v pm.length (pm.map fun p=>p.2)::pts zz (SG k.phase k.mode (.slice aT (k.core.look T).ay.length cT) (.slice aQ k.board.wanted.length cQ) v k.gate.shut k.gate.all k.gate.os (.slice aC k.board.clocks.length cC) (.slice aA T.aV.ag.length cA) (.slice aR (k.core.look T).rings.length cR) (.slice aP k.core.before.length cP))::pts r (aX T k ⟨vt,vr,vs,vc,va,.slice a6 T.bf.length c6,vm,pc,pb,pf,pe,pq,vk,vb,vx⟩)::bJ B::Core pc T k.core::je pb T.aV k.board::gG pf k.frames::dV pe k.errors::dG pq k.calls::Ints vk k.marks.rings::gQ vb k.begun::Ints vx k.aO::bJ C::Row 125 3 (.slice aA T.aV.ag.length cA) T.aV.ag.length ((k.board.looks T.aV).map ji).flatten::Row 38 1 (.slice aC k.board.clocks.length cC) k.board.clocks.length (yt (k.board.clocks.map (·.value)))::Ints (.slice aQ k.board.wanted.length cQ) k.board.wanted::oM (.slice aT (k.core.look T).ay.length cT) (k.core.look T).ay::lJ (.slice aR (k.core.look T).rings.length cR) (k.core.look T).rings::Ints (.slice aP k.core.before.length cP) k.core.before::pts z (Rl 0 0 false 0 0)::l):=by rw[hpm];exact hw
    obtain⟨av,cv,rfl⟩:=hw1.aG
    have hw2:=Gu hlo (hw1.ae p12)
    have hT2:pm.map (·.1)=k.AU T:=hmap
    rw[hT2]at hw2
    generalize hqv:Value.slice av pm.length cv=qh at*
    have hqh:∃a b c,qh= .slice a b c:=⟨_,_,_,hqv.symm⟩
    have n1:¬(pm.length:Int)<T.bf.length:=by omega
    clear hqv hlo hmap hT2 hw hw1
    have bC:=(hw2.ae p2).cells
    have h13:=hw2.alloc (.cells #[.slice none 0 0] 43)
    go_upto_region 11 with(fail)
    refine In.abs h13 ?_
    clear h13 hw2 bC
    generalize wr.heap.size=zd
    intro w13 h13
    have bC:=(h13.ae p3).cells
    have hal:=WZ (some ⟨pf,0,none⟩) h13
    go_wp2_with (go_at_call 46;refine Calls.mono hal ?_;rintro _ w14 ⟨d,rfl,lM⟩)
    clear hal
    have h15:In w0 w14 (star (gG pf k.frames) (pts d (.cells #[pf] 86 (0,0)))::ZN zd []::lJ qh (k.AU T)::pts zz (SG k.phase k.mode (.slice aT (k.core.look T).ay.length cT) (.slice aQ k.board.wanted.length cQ) qh k.gate.shut k.gate.all k.gate.os (.slice aC k.board.clocks.length cC) (.slice aA T.aV.ag.length cA) (.slice aR (k.core.look T).rings.length cR) (.slice aP k.core.before.length cP))::pts r (aX T k ⟨vt,vr,vs,vc,va,.slice a6 T.bf.length c6,vm,pc,pb,pf,pe,pq,vk,vb,vx⟩)::bJ B::Core pc T k.core::je pb T.aV k.board::dV pe k.errors::dG pq k.calls::Ints vk k.marks.rings::gQ vb k.begun::Ints vx k.aO::Row 125 3 (.slice aA T.aV.ag.length cA) T.aV.ag.length ((k.board.looks T.aV).map ji).flatten::Row 38 1 (.slice aC k.board.clocks.length cC) k.board.clocks.length (yt (k.board.clocks.map (·.value)))::Ints (.slice aQ k.board.wanted.length cQ) k.board.wanted::oM (.slice aT (k.core.look T).ay.length cT) (k.core.look T).ay::lJ (.slice aR (k.core.look T).rings.length cR) (k.core.look T).rings::Ints (.slice aP k.core.before.length cP) k.core.before::pts z (Rl 0 0 false 0 0)::l):=by
     refine In.dP.2 ?_
     have h16:=JB (xs:= []) (((lM.ae p1).dh 42 5).ae p1)
     exact h16.s
    clear lM h13 bC
    have hfl:k.frames.items.length≤1024:=by
     obtain⟨_,_,hp,_⟩:=ng (In.dP.1 h15)
     omega
    refine IP (d:=7) (fun pre=>ZN zd pre) (fun _ _=>AQ False) (fun c=>EG c.frame.kind c.frame.id c.frame.status c.frame.service c.frame.jC c.gate.shut c.gate.all c.gate.os) (Rt k.frames pf d) h15 (by rfl) rfl (fun _ _=>rfl) (by simp[gy,lQ]) ?_ ?_ ?_ ?_
    ·intro pre c w5 R hpre h6
     have h7:=h6.alloc (EG c.frame.kind c.frame.id c.frame.status c.frame.service c.frame.jC c.gate.shut c.gate.all c.gate.os)
     refine sJ ?_
     simp only[List.setIfInBounds_toArray,List.set_cons_zero,List.set_cons_succ]
     go_wp2_with fail
     exact⟨_,In.dP.2 h7,_,rfl,rfl⟩
    ·intro pre c b w5 R hpre h6
     have hpl:pre.length+1≤k.frames.items.length:=by
      have:=hpre.length_le
      rw[List.length_append,List.length_singleton,List.length_reverse]at this
      exact this
     have kT:=h6.cells
     obtain⟨v2,h7⟩:=Jq (h6.ae p1)
     have hml:(pre.map (·.frame)).length=pre.length:=List.length_map ..
     unfold gQ at h7
     have hcD:=h7.cells
     refine qf (sJ ?_)
     simp only[List.setIfInBounds_toArray,List.set_cons_zero,List.set_cons_succ]
     clear hml
     have hpl2:(pre.map (·.frame)).length+1≤1024:=by rw[List.length_map];omega
     go_wp2_with (with_reducible apply bH)
     unfold Stop
     refine aZ Yi ((h7.ae p1).alloc (.cells (jc c.frame).toArray 42)) rfl (by rfl) rfl (xk c.frame) (by omega) ?_
     intro u w6 h11
     simp only[List.length_map]at h11
     obtain⟨rE,cap2,rfl⟩:=h11.aG
     have UH:=(h11.ae p1).cells
     have hfE:=(h11.ae p1).free
     go_wp2_with fail
     have h12:In w0 _ (pts zd (.cells #[.slice rE (pre.length+1) cap2] 43)::_):=(h11.ae p1).setCell (off:=0) (.slice rE (pre.length+1) cap2)
     have e:Row 42 5 (.slice rE (pre.length+1) cap2) (pre.length+1) (((pre.map (·.frame)).map jc).flatten++jc c.frame)=gQ (.slice rE (pre.length+1) cap2) ((pre++ [c]).map (·.frame)):=by unfold gQ;simp
     rw[e]at h12
     have h13:=JB (xs:=pre++ [c]) h12
     exact(h13.ae p1).drop
    ·intro D w5 h6
     obtain⟨v2,h7⟩:=Jq (h6.ae p2)
     have h8:=In.dP.1 (h7.ae p3)
     have e0:gQ v2 (k.frames.items.reverse.map (·.frame))=Row 42 5 v2 k.frames.items.length ((k.frames.items.reverse.map (·.frame)).map jc).flatten:=by unfold gQ;simp
     rw[e0]at h8
     clear e0 h7 h6
     obtain⟨rE,cap2,rfl⟩:=(h8.ae p3).aG
     have hcD:=(h8.ae p2).cells
     have hgi:∀j,j<k.frames.items.length→(k.frames.items.reverse.map (·.frame))[k.frames.items.length-1-j]? =(k.frames.items.map (·.frame))[j]? :=fun j hj=>by
      rw[List.getElem?_map,List.getElem?_map,List.getElem?_reverse (by omega),show k.frames.items.length-1-(k.frames.items.length-1-j)=j by omega]
     have hlr:(k.frames.items.reverse.map (·.frame)).length≤k.frames.items.length:=by simp
     have hlf:(k.frames.items.map (·.frame)).length=k.frames.items.length:=List.length_map ..
     generalize hfs:k.frames.items.map (·.frame)=fs at*
     generalize k.frames.items.reverse.map (·.frame)=rs at*
     generalize hn:k.frames.items.length=n at*
     replace hn:∃_:Unit,_:=⟨(),hn⟩
     replace hfs:∃_:Unit,_:=⟨(),hfs⟩
     replace hlf:∃_:Unit,_:=⟨(),hlf⟩
     go_upto_region 15 with(fail)
     have h20:In w0 w5 (Row 42 5 (.slice none 0 0) 0 []::pts zz (SG k.phase k.mode (.slice aT (k.core.look T).ay.length cT) (.slice aQ k.board.wanted.length cQ) qh k.gate.shut k.gate.all k.gate.os (.slice aC k.board.clocks.length cC) (.slice aA T.aV.ag.length cA) (.slice aR (k.core.look T).rings.length cR) (.slice aP k.core.before.length cP))::pts zd (.cells #[.slice rE n cap2] 43)::Row 42 5 (.slice rE n cap2) n (rs.map jc).flatten::pts D (.deferred (some []))::gG pf k.frames::lJ qh (k.AU T)::pts r (aX T k ⟨vt,vr,vs,vc,va,.slice a6 T.bf.length c6,vm,pc,pb,pf,pe,pq,vk,vb,vx⟩)::bJ B::Core pc T k.core::je pb T.aV k.board::dV pe k.errors::dG pq k.calls::Ints vk k.marks.rings::gQ vb k.begun::Ints vx k.aO::Row 125 3 (.slice aA T.aV.ag.length cA) T.aV.ag.length ((k.board.looks T.aV).map ji).flatten::Row 38 1 (.slice aC k.board.clocks.length cC) k.board.clocks.length (yt (k.board.clocks.map (·.value)))::Ints (.slice aQ k.board.wanted.length cQ) k.board.wanted::oM (.slice aT (k.core.look T).ay.length cT) (k.core.look T).ay::lJ (.slice aR (k.core.look T).rings.length cR) (k.core.look T).rings::Ints (.slice aP k.core.before.length cP) k.core.before::pts z (Rl 0 0 false 0 0)::l):=(h8.dh 42 5).s
     clear h8 hcD
     go_loopw [8] (fun c wr=>∃(j:Nat) (u:Value),j≤n∧c= .int .i64 ((n:Int)-1-j)∧
      In w0 wr (Row 42 5 u j ((fs.take j).map jc).flatten::pts zz (NV k.phase k.mode (.slice aT (k.core.look T).ay.length cT) u (.slice aQ k.board.wanted.length cQ) qh k.gate.shut k.gate.all k.gate.os (.slice aC k.board.clocks.length cC) (.slice aA T.aV.ag.length cA) (.slice aR (k.core.look T).rings.length cR) (.slice aP k.core.before.length cP))::pts zd (.cells #[.slice rE n cap2] 43)::Row 42 5 (.slice rE n cap2) n (rs.map jc).flatten::pts D (.deferred (some []))::gG pf k.frames::lJ qh (k.AU T)::pts r (aX T k ⟨vt,vr,vs,vc,va,.slice a6 T.bf.length c6,vm,pc,pb,pf,pe,pq,vk,vb,vx⟩)::bJ B::Core pc T k.core::je pb T.aV k.board::dV pe k.errors::dG pq k.calls::Ints vk k.marks.rings::gQ vb k.begun::Ints vx k.aO::Row 125 3 (.slice aA T.aV.ag.length cA) T.aV.ag.length ((k.board.looks T.aV).map ji).flatten::Row 38 1 (.slice aC k.board.clocks.length cC) k.board.clocks.length (yt (k.board.clocks.map (·.value)))::Ints (.slice aQ k.board.wanted.length cQ) k.board.wanted::oM (.slice aT (k.core.look T).ay.length cT) (k.core.look T).ay::lJ (.slice aR (k.core.look T).rings.length cR) (k.core.look T).rings::Ints (.slice aP k.core.before.length cP) k.core.before::pts z (Rl 0 0 false 0 0)::l))
      (fun c _=>(intOf c+1).toNat)
     case atStart=>exact⟨0,_,Nat.zero_le _,by simp,h20⟩
     case round=>
      obtain⟨j,u,hj,rfl,hw⟩:=hrel
      clear h20
      by_cases hlt:j<n
      ·obtain⟨m,hm⟩:∃m:Nat,(n:Int)-1-j=m:=⟨n-1-j,by omega⟩
       rw[hm]
       have hml:m<n:=by omega
       have hmj:n-1-j=m:=by omega
       obtain⟨_,ae7⟩:=hlf
       obtain⟨fj,hb1,hnx⟩:∃fj,fs[j]? =some fj∧fs.take (j+1)=fs.take j++ [fj]:=⟨fs[j],List.getElem?_eq_getElem (by omega),List.take_succ_eq_append_getElem (by omega)⟩
       have hrv:=hgi j hlt
       rw[hmj,hb1]at hrv
       clear hmj hgi ae7 hb1
       rcases(hw.ae p3).aU with⟨_,e,_⟩|⟨ga,lN,exta,ea,_⟩
       ·omega
       cases ea
       obtain⟨Dz,rH,rfl⟩:=hw.aG
       have hce:∀(i:Nat) (c:Value),(jc fj)[i]? =some c→i<5→((rs.map jc).flatten)[m*5+i]? =some c:=fun i c hi h5=>(flat_get (dL (slot:=jc) (size:=5) (fun _=>rfl) rs) (i:=m) (x:=jc fj) (by rw[List.getElem?_map,hrv];rfl) i h5).trans hi
       have g0:=hce 0 _ rfl (by decide)
       have g1:=hce 1 _ rfl (by decide)
       have g2:=hce 2 _ rfl (by decide)
       have g3:=hce 3 _ rfl (by decide)
       have g4:=hce 4 _ rfl (by decide)
       rw[Nat.add_zero]at g0
       clear hce hrv
       rcases fj with⟨kd,id,fst,fv,pa⟩
       simp only[jc]at g0 g1 g2 g3 g4
       have hLk:∀w',In w0 w' [pts zz (NV k.phase k.mode (.slice aT (k.core.look T).ay.length cT) (.slice Dz j rH) (.slice aQ k.board.wanted.length cQ) qh k.gate.shut k.gate.all k.gate.os (.slice aC k.board.clocks.length cC) (.slice aA T.aV.ag.length cA) (.slice aR (k.core.look T).rings.length cR) (.slice aP k.core.before.length cP)),pts zd (.cells #[.slice (some ⟨ga,0,none⟩) n cap2] 43),Row 42 5 (.slice (some ⟨ga,0,none⟩) n cap2) n (rs.map jc).flatten]→w'.cell? ⟨ga,m*5,none⟩=some (.int .i64 kd)∧w'.cell? ⟨ga,m*5+1,none⟩=some (.int .i64 id)∧w'.cell? ⟨ga,m*5+2,none⟩=some (.int .i64 fst)∧w'.cell? ⟨ga,m*5+3,none⟩=some (.int .i64 fv)∧w'.cell? ⟨ga,m*5+4,none⟩=some (.int .u32 pa):=
        fun w' h=>⟨(h.ae p2).gI g0,(h.ae p2).gI g1,(h.ae p2).gI g2,(h.ae p2).gI g3,(h.ae p2).gI g4⟩
       clear g0 g1 g2 g3 g4
       have n1:(m:Int)<n:=by omega
       have hcD:=(hw.ae p2).cells
       have fZ:=(hw.ae p1).cells
       obtain⟨f0,f1,f2,f3,f4⟩:=hLk wr (hw.s)
       go_upto_region 17 with(fail)
       have hS0:In w0 _ [pts zz (NV k.phase k.mode (.slice aT (k.core.look T).ay.length cT) (.slice Dz j rH) (.slice aQ k.board.wanted.length cQ) qh k.gate.shut k.gate.all k.gate.os (.slice aC k.board.clocks.length cC) (.slice aA T.aV.ag.length cA) (.slice aR (k.core.look T).rings.length cR) (.slice aP k.core.before.length cP)),pts zd (.cells #[.slice (some ⟨ga,0,none⟩) n cap2] 43),Row 42 5 (.slice (some ⟨ga,0,none⟩) n cap2) n (rs.map jc).flatten]:=(hw.drew).s
       refine nK hS0 ⟨[6],[7,9]⟩ [.c 0 0,.c 2 1,.c 1 2,.c 0 3,.c 0 4,.c 1 5,.e 6,.e 7,.c 0 8,.e 9] ?_
       refine nD ?_;intro K hK
       go_wp2_with fail
       refine df hK ((hS0.alloc _).drop) fun hS0=>?_
       refine bG rfl rfl fun K hK=>?_
       refine aZ Yi ((hw.alloc (.cells (jc ⟨kd,id,fst,fv,pa⟩).toArray 42)).drew) rfl (by rfl) (by rfl) (xk _) (by omega) ?_
       intro u9 w9 h9
       obtain⟨Du,rC,rfl⟩:=h9.aG
       clear hcD fZ f0 f1 f2 f3 f4
       have hz3:=(h9.ae p1).cells
       have Ll:=(h9.ae p1).free
       go_wp2_with fail
       refine uw ?_;intro K hK
       go_wp2_with fail
       try refine aS ?_
       go_wp2_with fail
       have h11:In w0 _ (pts zz (NV k.phase k.mode (.slice aT (k.core.look T).ay.length cT) (.slice Du (j+1) rC) (.slice aQ k.board.wanted.length cQ) qh k.gate.shut k.gate.all k.gate.os (.slice aC k.board.clocks.length cC) (.slice aA T.aV.ag.length cA) (.slice aR (k.core.look T).rings.length cR) (.slice aP k.core.before.length cP))::_):=(h9.ae p1).setCell (off:=3) (.slice Du (j+1) rC)
       go_roundw
       case rel=>
        refine⟨j+1,.slice Du (j+1) rC,hlt,by go_num,?_⟩
        have e1:((fs.take (j+1)).map jc).flatten=((fs.take j).map jc).flatten++jc ⟨kd,id,fst,fv,pa⟩:=by rw[hnx];simp
        rw[e1]
        exact h11.s
       case measure=>simp[intOf]<;>omega
      ·have hje:j=n:=by omega
       subst hje
       obtain⟨_,hlf⟩:=hlf
       obtain⟨_,hfs⟩:=hfs
       obtain⟨_,hn⟩:=hn
       have ht:fs.take j=fs:=List.take_of_length_le (by omega)
       rw[ht]at hw
       have e1:Row 42 5 u j (fs.map jc).flatten=gQ u fs:=by unfold gQ;rw[hlf]
       rw[e1]at hw
       obtain⟨Dz,rH,hu⟩:=In.aG (E:=42) (size:=5) (by unfold gQ at hw;exact hw)
       rw[hlf]at hu
       subst hu
       clear e1 ht hgi hlr hlf
       replace hn:∃_:Unit,_:=⟨(),hn⟩
       replace hfs:∃_:Unit,_:=⟨(),hfs⟩
       have e9:(j:Int)-1-j= -1:=by omega
       rw[e9]
       clear e9
       obtain⟨b1,b2,b3,rfl⟩:=hqh
       have hw9:In w0 wr (pts z (Rl 0 0 false 0 0)::pts zz (NV k.phase k.mode (.slice aT (k.core.look T).ay.length cT) (.slice Dz j rH) (.slice aQ k.board.wanted.length cQ) (.slice b1 b2 b3) k.gate.shut k.gate.all k.gate.os (.slice aC k.board.clocks.length cC) (.slice aA T.aV.ag.length cA) (.slice aR (k.core.look T).rings.length cR) (.slice aP k.core.before.length cP))::gQ (.slice Dz j rH) fs::pts D (.deferred (some []))::gG pf k.frames::lJ (.slice b1 b2 b3) (k.AU T)::pts r (aX T k ⟨vt,vr,vs,vc,va,.slice a6 T.bf.length c6,vm,pc,pb,pf,pe,pq,vk,vb,vx⟩)::bJ B::Core pc T k.core::je pb T.aV k.board::dV pe k.errors::dG pq k.calls::Ints vk k.marks.rings::gQ vb k.begun::Ints vx k.aO::Row 125 3 (.slice aA T.aV.ag.length cA) T.aV.ag.length ((k.board.looks T.aV).map ji).flatten::Row 38 1 (.slice aC k.board.clocks.length cC) k.board.clocks.length (yt (k.board.clocks.map (·.value)))::Ints (.slice aQ k.board.wanted.length cQ) k.board.wanted::oM (.slice aT (k.core.look T).ay.length cT) (k.core.look T).ay::lJ (.slice aR (k.core.look T).rings.length cR) (k.core.look T).rings::Ints (.slice aP k.core.before.length cP) k.core.before::l):=hw.s
       clear hw
       have hzc:=(hw9.ae p1).cells
       have hz2:=hw9.cells
       have aev:=hw9.free
       have h30:=hw9.fill [.int .i64 k.phase,.int .i64 k.mode,.slice aT (k.core.look T).ay.length cT,.slice Dz j rH,.slice aQ k.board.wanted.length cQ,.slice b1 b2 b3,.bool k.gate.shut,.int .i64 k.gate.all,.int .i64 k.gate.os,.slice aC k.board.clocks.length cC,.slice aA T.aV.ag.length cA,.slice aR (k.core.look T).rings.length cR,.slice aP k.core.before.length cP] rfl
       simp only[dm]at h30
       go_wp2_with fail
       obtain⟨_,hfs⟩:=hfs
       refine yL (v:= .agg #[.int .i64 k.phase,.int .i64 k.mode,.slice aT (k.core.look T).ay.length cT,.slice Dz j rH,.slice aQ k.board.wanted.length cQ,.slice b1 b2 b3,.bool k.gate.shut,.int .i64 k.gate.all,.int .i64 k.gate.os,.slice aC k.board.clocks.length cC,.slice aA T.aV.ag.length cA,.slice aR (k.core.look T).rings.length cR,.slice aP k.core.before.length cP]) (L:=pts z (NV k.phase k.mode (.slice aT (k.core.look T).ay.length cT) (.slice Dz j rH) (.slice aQ k.board.wanted.length cQ) (.slice b1 b2 b3) k.gate.shut k.gate.all k.gate.os (.slice aC k.board.clocks.length cC) (.slice aA T.aV.ag.length cA) (.slice aR (k.core.look T).rings.length cR) (.slice aP k.core.before.length cP))::gQ (.slice Dz j rH) fs::gG pf k.frames::lJ (.slice b1 b2 b3) (k.AU T)::pts r (aX T k ⟨vt,vr,vs,vc,va,.slice a6 T.bf.length c6,vm,pc,pb,pf,pe,pq,vk,vb,vx⟩)::bJ B::Core pc T k.core::je pb T.aV k.board::dV pe k.errors::dG pq k.calls::Ints vk k.marks.rings::gQ vb k.begun::Ints vx k.aO::Row 125 3 (.slice aA T.aV.ag.length cA) T.aV.ag.length ((k.board.looks T.aV).map ji).flatten::Row 38 1 (.slice aC k.board.clocks.length cC) k.board.clocks.length (yt (k.board.clocks.map (·.value)))::Ints (.slice aQ k.board.wanted.length cQ) k.board.wanted::oM (.slice aT (k.core.look T).ay.length cT) (k.core.look T).ay::lJ (.slice aR (k.core.look T).rings.length cR) (k.core.look T).rings::Ints (.slice aP k.core.before.length cP) k.core.before::l) (h30.s) (by rfl) (fun w' hw'=>?_) (fun w' hw'=>?_) .ret (.inl rfl)
       ·have hcc:=hw'.cells
        simp[results,results13,go_sem,hcc]
       ·refine⟨_,_,_,_,_,_,_,_,rfl,?_⟩
        have h40:In w0 w' (pts r (aX T k ⟨vt,vr,vs,vc,va,.slice a6 T.bf.length c6,vm,pc,pb,pf,pe,pq,vk,vb,vx⟩)::bJ B::Core pc T k.core::je pb T.aV k.board::gG pf k.frames::dV pe k.errors::dG pq k.calls::Ints vk k.marks.rings::gQ vb k.begun::Ints vx k.aO::oM (.slice aT (k.core.look T).ay.length cT) (k.core.look T).ay::gQ (.slice Dz j rH) fs::Ints (.slice aQ k.board.wanted.length cQ) k.board.wanted::lJ (.slice b1 b2 b3) (k.AU T)::Row 38 1 (.slice aC k.board.clocks.length cC) k.board.clocks.length (yt (k.board.clocks.map (·.value)))::Row 125 3 (.slice aA T.aV.ag.length cA) T.aV.ag.length ((k.board.looks T.aV).map ji).flatten::lJ (.slice aR (k.core.look T).rings.length cR) (k.core.look T).rings::Ints (.slice aP k.core.before.length cP) k.core.before::l):=hw'.s
        have h41:=bZ a h40
        rw[←hfs]at h41
        exact h41.s
    ·intro D c' pre w5 hpre h6
     exact(In.dw.1 (h6.ae p2)).1.elim
end
section
variable {w0 w:World} {l:List SL} {B:List (Nat × Obj)} {va vb:Value}
end
theorem acS (a b c d e a' b' c' d' e':Int) (w:World):(Op.equal 42 (.agg #[.int .i64 a,.int .i64 b,.int .i64 c,.int .i64 d,.int .u32 e]) (.agg #[.int .i64 a',.int .i64 b',.int .i64 c',.int .i64 d',.int .u32 e'])).run prog w= .ok (a==a'&&(b==b'&&(c==c'&&(d==d'&&e==e')))) w:=by
 unfold Op.equal Op.maxDepth
 rw[show(10000:Nat)=9999+1 from rfl,run_equalIn_struct (P:=prog) (d:=9999) (t:=42) (ht:=by kernel_rfl) (hp:=by kernel_rfl)]
 have e0:(prog.fieldsOf 42).toList=[⟨ "Kind",40,0,false,"","",0⟩,⟨ "ID",3,1,false,"","",8⟩,⟨ "Status",37,2,false,"","",16⟩,⟨ "Service",3,3,false,"","",24⟩,⟨ "Param",38,4,false,"","",32⟩]:=by kernel_rfl
 rw[e0]
 simp[Op.eqFields,part,go_sem]
 by_cases h1:a=a'<;>by_cases h2:b=b'<;>by_cases h3:c=c'<;>by_cases h4:d=d'<;>by_cases h5:e=e'<;>simp[h1,h2,h3,h4,h5]
theorem aej (a b c d e a' b' c' d' e':Int) (w:World):(binOp .neq 42 (.agg #[.int .i64 a,.int .i64 b,.int .i64 c,.int .i64 d,.int .u32 e]) (.agg #[.int .i64 a',.int .i64 b',.int .i64 c',.int .i64 d',.int .u32 e'])).run prog w= .ok (.bool (!(a==a'&&(b==b'&&(c==c'&&(d==d'&&e==e')))))) w:=by
 have h:=acS a b c d e a' b' c' d' e' w
 simp[binOp,h,go_sem]
section
variable {w0 w:World} {l:List SL} {B:List (Nat × Obj)} {va vb:Value}
end
end Go.Proofs.YtajgpcnlehinbaaGreat
