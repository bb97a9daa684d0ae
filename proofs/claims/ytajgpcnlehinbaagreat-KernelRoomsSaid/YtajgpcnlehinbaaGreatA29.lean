/- Part of a proof. -/
import Derived.Test.YtajgpcnlehinbaaGreatA28
namespace Go.Proofs.YtajgpcnlehinbaaGreat
open Tryz Go.RowKit
set_option maxRecDepth 100000
set_option maxHeartbeats 60000000
set_option linter.all false
section
variable {w0 w:World} {l:List SL} {r:Nat} {T:ah} {k:aB} {G:Value→Prop}
def uV (T:ah) (k:aB) (p:az × Int):Prop:=(p.2=0→p.1.leaving≠0→T.use 16=true→k.frames.items.length<k.frames.depth)∧k.begun.length≤100000
theorem EX {p:az × Int} (h:In w0 w (eF G r T {k with core:=p.1}::l)) (hn:uV T k p):
 aW 313 #[r,.int .i64 p.2] w w0 (.tuple #[.agg #[.int .u32 0,.int .u32 0,.int .u32 0],.int .i64 (k.left T p).2]) (eF G r T (k.left T p).1::l):=by
 rcases p with⟨c,st⟩
 have hl:(k.left T (c,st))=if st=0∧c.leaving≠0 then(((({k with core:=c}:aB).mark T).leave T),st) else({k with core:=c},st):=rfl
 have hfr:(({k with core:=c}:aB).mark T).frames=k.frames:=rfl
 have hbg:(({k with core:=c}:aB).mark T).begun=k.begun:=rfl
 rw[hl]
 clear hl
 unfold uV at hn
 simp only at h hn⊢
 have hfin:∀ {w':World} {k':aB} {z:Nat},In w0 w' (eF G r T k'::pts z wL::l)→In w0 w' (eF G r T k'::l):=fun h=>(h.ae p1).drop
 have h1:=h.alloc wL
 have aan:∀w' l',In w0 w' (eF G r T {k with core:=c}::l')→_:=fun w' l' h=>uD (l:=l') h
 have aao:st=0→c.leaving≠0→∀w' l',In w0 w' (eF G r T (({k with core:=c}:aB).mark T)::l')→_:=fun h1 h2 w' l' h=>GU (l:=l') h (fun hu=>by rw[hfr];exact hn.1 h1 h2 hu) (by rw[hbg];exact hn.2)
 clear hn hfr hbg
 by_cases hs:st=0
 ·subst hs
  by_cases hv:c.leaving=0
  ·rw[if_neg (fun h=>h.2 hv)]
   clear aao aan
   go_enter func313,ntmps313
   go_upto_region 1 with(fail)
   refine In.abs h1 ?_
   clear h1 h
   generalize w.heap.size=z
   intro w2 h2
   have h3:In w0 w2 (eF G r T {k with core:=c}::pts z wL::l):=h2.ae p1
   clear h2
   obtain⟨B,x,a,h4⟩:=fK h3
   have bC:=(h4.ae p1).cells
   have hle:=GH h4
   simp only[hv]at hle
   go_upto_region 4 with(go_at_call 381;refine bW hle ?_)
   clear hle bC a h4
   go_wp2_with (go_at_call 306;refine bF (jD h3 0) ?_;intro w7 h7;have jO:=(h7.ae p1).cells;have jb:=(h7.ae p1).free)
   have h8:=(h7.ae p1).fill [.int .u32 0,.int .u32 0,.int .u32 0] rfl
   simp only[dm]at h8
   refine In.abs h8 ?_
   clear h8 h7 h3 jO jb
   intro w8 h8
   have hc:=h8.cells
   refine bodyPost_ret (v:= .tuple #[.agg #[.int .u32 0,.int .u32 0,.int .u32 0],.int .i64 0]) (by simp[results,results313,go_sem,hc]) rfl ?_
   exact⟨rfl,h8.drop⟩
  ·rw[if_pos ⟨rfl,hv⟩]
   have hlv1:=aao rfl hv
   clear aao
   generalize hk3:aB.leave T (({k with core:=c}:aB).mark T)=k3 at*
   clear hk3
   go_enter func313,ntmps313
   go_upto_region 1 with(fail)
   refine In.abs h1 ?_
   clear h1 h
   generalize w.heap.size=z
   intro w2 h2
   have h3:In w0 w2 (eF G r T {k with core:=c}::pts z wL::l):=h2.ae p1
   clear h2
   obtain⟨B,x,a,h4⟩:=fK h3
   have bC:=(h4.ae p1).cells
   have hle:=GH h4
   have hv2:(c.leaving != 0)=true:=by simpa using hv
   simp only at hle
   generalize c.leaving=lv at*
   go_upto_region 2 with(go_at_call 381;refine bW hle ?_)
   clear hle bC a h4 hv2 hv
   have hmk:=aan _ _ h3
   clear aan
   go_upto_region 3 with(go_at_call 38;refine bF hmk ?_;intro w5 h5)
   clear hmk h3
   have hlv:=hlv1 _ _ h5
   clear hlv1
   go_upto_region 4 with(go_at_call 89;refine bF hlv ?_;intro w6 h3)
   clear hlv h5
   go_wp2_with (go_at_call 306;refine bF (jD h3 0) ?_;intro w7 h7;have jO:=(h7.ae p1).cells;have jb:=(h7.ae p1).free)
   have h8:=(h7.ae p1).fill [.int .u32 0,.int .u32 0,.int .u32 0] rfl
   simp only[dm]at h8
   refine In.abs h8 ?_
   clear h8 h7 h3 jO jb
   intro w8 h8
   have hc:=h8.cells
   refine bodyPost_ret (v:= .tuple #[.agg #[.int .u32 0,.int .u32 0,.int .u32 0],.int .i64 0]) (by simp[results,results313,go_sem,hc]) rfl ?_
   exact⟨rfl,h8.drop⟩
 ·rw[if_neg (fun h=>hs h.1)]
  clear aao aan
  have hs2:(st==0)=false:=by simpa using hs
  go_enter func313,ntmps313
  go_upto_region 1 with(fail)
  refine In.abs h1 ?_
  clear h1 h
  generalize w.heap.size=z
  intro w2 h2
  have h3:In w0 w2 (eF G r T {k with core:=c}::pts z wL::l):=h2.ae p1
  clear h2
  go_upto_region 4 with(fail)
  go_wp2_with (go_at_call 306;refine bF (jD h3 0) ?_;intro w7 h7;have jO:=(h7.ae p1).cells;have jb:=(h7.ae p1).free)
  have h8:=(h7.ae p1).fill [.int .u32 0,.int .u32 0,.int .u32 0] rfl
  simp only[dm]at h8
  refine In.abs h8 ?_
  clear h8 h7 h3 jO jb
  intro w8 h8
  have hc:=h8.cells
  refine bodyPost_ret (v:= .tuple #[.agg #[.int .u32 0,.int .u32 0,.int .u32 0],.int .i64 st]) (by simp[results,results313,go_sem,hc]) rfl ?_
  exact⟨rfl,h8.drop⟩
theorem KH (h:In w0 w (eF G r T k::l)) (s:iH) (f:aK) (hn:uV T k (k.core.gK)):
 Calls prog 216 #[r,iL s,cO f] w (qH w0 G r T l ((k.left T (k.core.gK)).1,(0,0,0),(k.left T (k.core.gK)).2)):=by
 rcases s with⟨sk,si,sv,sa,sb,sc⟩
 rcases f with⟨kd,id,st,fv,pa⟩
 unfold iL cO qH kz
 simp only at*
 obtain⟨B,x,a,h0⟩:=fK h
 rcases x with⟨vt,vr,vs,vc,va,vi,vm,pc,pb,pf,pe,pq,vk,vb,vx⟩
 simp only at h0
 have h1:=h0.iQ (uf sk si sv sa sb sc) (qo kd id st fv pa) wL
 have hcall:∀w' l',In w0 w' (Core pc T k.core::l')→_:=fun w' l' h=>Kq (l:=l') h
 generalize k.core.gK=p at*
 have hsh:∀w' l',In w0 w' (Core pc T p.1::pts r (aX T k ⟨vt,vr,vs,vc,va,vi,vm,pc,pb,pf,pe,pq,vk,vb,vx⟩)::bJ B::je pb T.aV k.board::gG pf k.frames::dV pe k.errors::dG pq k.calls::Ints vk k.marks.rings::gQ vb k.begun::Ints vx k.aO::l')→In w0 w' (eF G r T {k with core:=p.1}::l'):=fun w' l' h=>bY a h
 have hleft:∀w' l',In w0 w' (eF G r T {k with core:=p.1}::l')→_:=fun w' l' h=>EX (l:=l') h hn
 generalize (k.left T p).1=k2 at*
 generalize (k.left T p).2=st2 at*
 rcases p with⟨c1,st1⟩
 simp only at hcall hsh hleft
 clear h h0 a hn
 go_enter func216,ntmps216
 go_upto_region 1 with(fail)
 refine In.abs h1 ?_
 clear h1
 generalize w.heap.size=z
 intro w2 h2
 have h3:=h2.pr [3,3,3,3,3,3,3,3,3,3,2,1,0]
 clear h2
 have bC:=(h3.ae p1).cells
 have fZ:=(h3.ae p10).cells
 have hca:=hcall _ _ h3
 go_wp2_with (first|(go_at_call 314;refine bF hca ?_;intro w5 h5;have h6:=hsh _ (pts z (uf sk si sv sa sb sc)::pts (z+1) (qo kd id st fv pa)::pts (z+2) wL::l) h5;have hlf:=hleft _ _ h6)|(go_at_call 313;refine bF hlf ?_;intro w7 h7;have jO:=(h7.ae p3).cells;have jb:=(h7.ae p3).free))
 have h8:=(h7.ae p3).fill [.int .u32 0,.int .u32 0,.int .u32 0] rfl
 simp only[dm]at h8
 refine In.abs h8 ?_
 clear h8 h7 h6 h5 h3 jO jb
 intro w8 h8
 have hc:=h8.cells
 refine bodyPost_ret (v:= .tuple #[.agg #[.int .u32 0,.int .u32 0,.int .u32 0],.int .i64 st2]) (by simp[results,results216,go_sem,hc]) rfl ?_
 exact⟨rfl,h8.s⟩
theorem Nw (h:In w0 w (eF G r T k::l)) (s:iH) (f:aK) (hn:uV T k (k.core.schedule T)):
 Calls prog 218 #[r,iL s,cO f] w (qH w0 G r T l ((k.left T (k.core.schedule T)).1,(0,0,0),(k.left T (k.core.schedule T)).2)):=by
 rcases s with⟨sk,si,sv,sa,sb,sc⟩
 rcases f with⟨kd,id,st,fv,pa⟩
 unfold iL cO qH kz
 simp only at*
 obtain⟨B,x,a,h0⟩:=fK h
 rcases x with⟨vt,vr,vs,vc,va,vi,vm,pc,pb,pf,pe,pq,vk,vb,vx⟩
 simp only at h0
 have h1:=h0.iQ (uf sk si sv sa sb sc) (qo kd id st fv pa) wL
 have hcall:∀w' l',In w0 w' (Core pc T k.core::l')→_:=fun w' l' h=>LX (l:=l') h
 generalize k.core.schedule T=p at*
 have hsh:∀w' l',In w0 w' (Core pc T p.1::pts r (aX T k ⟨vt,vr,vs,vc,va,vi,vm,pc,pb,pf,pe,pq,vk,vb,vx⟩)::bJ B::je pb T.aV k.board::gG pf k.frames::dV pe k.errors::dG pq k.calls::Ints vk k.marks.rings::gQ vb k.begun::Ints vx k.aO::l')→In w0 w' (eF G r T {k with core:=p.1}::l'):=fun w' l' h=>bY a h
 have hleft:∀w' l',In w0 w' (eF G r T {k with core:=p.1}::l')→_:=fun w' l' h=>EX (l:=l') h hn
 generalize (k.left T p).1=k2 at*
 generalize (k.left T p).2=st2 at*
 rcases p with⟨c1,st1⟩
 simp only at hcall hsh hleft
 clear h h0 a hn
 go_enter func218,ntmps218
 go_upto_region 1 with(fail)
 refine In.abs h1 ?_
 clear h1
 generalize w.heap.size=z
 intro w2 h2
 have h3:=h2.pr [3,3,3,3,3,3,3,3,3,3,2,1,0]
 clear h2
 have bC:=(h3.ae p1).cells
 have fZ:=(h3.ae p10).cells
 have hca:=hcall _ _ h3
 go_wp2_with (first|(go_at_call 316;refine bF hca ?_;intro w5 h5;have h6:=hsh _ (pts z (uf sk si sv sa sb sc)::pts (z+1) (qo kd id st fv pa)::pts (z+2) wL::l) h5;have hlf:=hleft _ _ h6)|(go_at_call 313;refine bF hlf ?_;intro w7 h7;have jO:=(h7.ae p3).cells;have jb:=(h7.ae p3).free))
 have h8:=(h7.ae p3).fill [.int .u32 0,.int .u32 0,.int .u32 0] rfl
 simp only[dm]at h8
 refine In.abs h8 ?_
 clear h8 h7 h6 h5 h3 jO jb
 intro w8 h8
 have hc:=h8.cells
 refine bodyPost_ret (v:= .tuple #[.agg #[.int .u32 0,.int .u32 0,.int .u32 0],.int .i64 st2]) (by simp[results,results218,go_sem,hc]) rfl ?_
 exact⟨rfl,h8.s⟩
theorem Xt (h:In w0 w (eF G r T k::l)) (s:iH) (f:aK) (ha:0≤s.a∧s.a<4294967296) (hn:uV T k (k.core.chain T (jL s.a T.ay.length))):
 Calls prog 217 #[r,iL s,cO f] w (qH w0 G r T l ((k.left T (k.core.chain T (jL s.a T.ay.length))).1,(0,0,0),(k.left T (k.core.chain T (jL s.a T.ay.length))).2)):=by
 rcases s with⟨sk,si,sv,sa,sb,sc⟩
 rcases f with⟨kd,id,st,fv,pa⟩
 unfold iL cO qH kz
 simp only at*
 obtain⟨B,x,a,h0⟩:=fK h
 rcases x with⟨vt,vr,vs,vc,va,vi,vm,pc,pb,pf,pe,pq,vk,vb,vx⟩
 obtain⟨at_,ct,e⟩:∃ao cap,vt= .slice ao T.ay.length cap:=by obtain⟨tl,t1,t2,t3⟩:=a.tab.ay;exact t2.form
 subst e
 simp only at h0
 have h1:=h0.iQ (uf sk si sv sa sb sc) (qo kd id st fv pa) wL
 have hnum:=jT sa T.ay.length ha.1 ha.2 (by have:=a.fine.ok.n2;omega)
 generalize jL sa T.ay.length=n at*
 have hcall:∀w' l',In w0 w' (Core pc T k.core::l')→_:=fun w' l' h=>Xh (l:=l') h n
 generalize k.core.chain T (n)=p at*
 have hsh:∀w' l',In w0 w' (Core pc T p.1::pts r (aX T k ⟨.slice at_ T.ay.length ct,vr,vs,vc,va,vi,vm,pc,pb,pf,pe,pq,vk,vb,vx⟩)::bJ B::je pb T.aV k.board::gG pf k.frames::dV pe k.errors::dG pq k.calls::Ints vk k.marks.rings::gQ vb k.begun::Ints vx k.aO::l')→In w0 w' (eF G r T {k with core:=p.1}::l'):=fun w' l' h=>bY a h
 have hleft:∀w' l',In w0 w' (eF G r T {k with core:=p.1}::l')→_:=fun w' l' h=>EX (l:=l') h hn
 generalize (k.left T p).1=k2 at*
 generalize (k.left T p).2=st2 at*
 rcases p with⟨c1,st1⟩
 simp only at hcall hsh hleft
 clear h h0 a ha hn
 go_enter func217,ntmps217
 go_upto_region 1 with(fail)
 refine In.abs h1 ?_
 clear h1
 generalize w.heap.size=z
 intro w2 h2
 have h3:=h2.pr [3,3,3,3,3,3,3,3,3,3,2,1,0]
 clear h2
 have bC:=(h3.ae p1).cells
 have fZ:=(h3.ae p10).cells
 have hS0:=(h3.drew).ps [1,9]
 refine nK hS0 ⟨[13],[14,15,18]⟩ [.c 0 0,.c 0 1,.c 0 2,.c 0 3,.c 2 4,.c 0 5,.c 1 6,.c 0 7,.c 0 8,.c 0 9,.c 0 10,.c 1 11,.c 0 12,.e 13,.e 14,.e 15,.c 0 16,.c 0 17,.e 18,.c 0 19] ?_
 refine nD ?_;intro K hK
 go_wp2_with (go_at_call 312;refine bW (hnum _) ?_)
 go_wp2_with fail
 refine df hK ((h3.drew).s) fun hS0=>?_
 refine bG rfl rfl fun K hK=>?_
 have hca:=hcall _ _ h3.drew
 go_wp2_with (go_at_call 315;refine bF hca ?_;intro w5 h5)
 clear bC fZ
 have h6:=hsh _ (pts z (uf sk si sv sa sb sc)::pts (z+1) (qo kd id st fv pa)::pts (z+2) wL::l) h5
 have hlf:=hleft _ _ h6
 go_wp2_with fail
 refine bG rfl rfl fun K hK=>?_
 go_wp2_with (go_at_call 313;refine bF hlf ?_;intro w7 h7)
 have jO:=(h7.ae p3).cells
 have jb:=(h7.ae p3).free
 go_wp2_with fail
 refine uw ?_;intro K hK
 go_wp2_with fail
 refine wM ?_
 go_wp2_with fail
 have h8:=(h7.ae p3).fill [.int .u32 0,.int .u32 0,.int .u32 0] rfl
 simp only[dm]at h8
 refine In.abs h8 ?_
 clear h8 h7 h6 h5 h3 jO jb
 intro w8 h8
 have hc:=h8.cells
 refine bodyPost_ret (v:= .tuple #[.agg #[.int .u32 0,.int .u32 0,.int .u32 0],.int .i64 st2]) (by simp[results,results217,go_sem,hc]) rfl ?_
 exact⟨rfl,h8.s⟩
theorem KL (h:In w0 w (eF G r T k::l)) (s:iH) (f:aK) (hn:uV T k (k.core.fM T s.a)):
 Calls prog 226 #[r,iL s,cO f] w (qH w0 G r T l ((k.left T (k.core.fM T s.a)).1,(0,0,0),(k.left T (k.core.fM T s.a)).2)):=by
 rcases s with⟨sk,si,sv,sa,sb,sc⟩
 rcases f with⟨kd,id,st,fv,pa⟩
 unfold iL cO qH kz
 simp only at*
 obtain⟨B,x,a,h0⟩:=fK h
 rcases x with⟨vt,vr,vs,vc,va,vi,vm,pc,pb,pf,pe,pq,vk,vb,vx⟩
 simp only at h0
 have h1:=h0.iQ (uf sk si sv sa sb sc) (qo kd id st fv pa) wL
 have hcall:∀w' l',In w0 w' (Core pc T k.core::l')→_:=fun w' l' h=>KZ (l:=l') h sa
 generalize k.core.fM T sa=p at*
 have hsh:∀w' l',In w0 w' (Core pc T p.1::pts r (aX T k ⟨vt,vr,vs,vc,va,vi,vm,pc,pb,pf,pe,pq,vk,vb,vx⟩)::bJ B::je pb T.aV k.board::gG pf k.frames::dV pe k.errors::dG pq k.calls::Ints vk k.marks.rings::gQ vb k.begun::Ints vx k.aO::l')→In w0 w' (eF G r T {k with core:=p.1}::l'):=fun w' l' h=>bY a h
 have hleft:∀w' l',In w0 w' (eF G r T {k with core:=p.1}::l')→_:=fun w' l' h=>EX (l:=l') h hn
 generalize (k.left T p).1=k2 at*
 generalize (k.left T p).2=st2 at*
 rcases p with⟨c1,st1⟩
 simp only at hcall hsh hleft
 clear h h0 a hn
 go_enter func226,ntmps226
 go_upto_region 1 with(fail)
 refine In.abs h1 ?_
 clear h1
 generalize w.heap.size=z
 intro w2 h2
 have h3:=h2.pr [3,3,3,3,3,3,3,3,3,3,2,1,0]
 clear h2
 have bC:=(h3.ae p1).cells
 have fZ:=(h3.ae p10).cells
 have hS0:=(h3.drew).ps [1,9]
 refine nK hS0 ⟨[],[7,8,11]⟩ [.c 0 0,.c 0 1,.c 0 2,.c 0 3,.c 1 4,.c 0 5,.c 1 6,.e 7,.e 8,.c 0 9,.c 0 10,.e 11,.c 0 12] ?_
 refine uw ?_;intro K hK
 have hca:=hcall _ _ h3.drew
 go_wp2_with (go_at_call 324;refine bF hca ?_;intro w5 h5)
 clear bC fZ
 have h6:=hsh _ (pts z (uf sk si sv sa sb sc)::pts (z+1) (qo kd id st fv pa)::pts (z+2) wL::l) h5
 have hlf:=hleft _ _ h6
 go_wp2_with fail
 refine bG rfl rfl fun K hK=>?_
 go_wp2_with (go_at_call 313;refine bF hlf ?_;intro w7 h7)
 have jO:=(h7.ae p3).cells
 have jb:=(h7.ae p3).free
 go_wp2_with fail
 refine uw ?_;intro K hK
 go_wp2_with fail
 refine wM ?_
 go_wp2_with fail
 have h8:=(h7.ae p3).fill [.int .u32 0,.int .u32 0,.int .u32 0] rfl
 simp only[dm]at h8
 refine In.abs h8 ?_
 clear h8 h7 h6 h5 h3 jO jb
 intro w8 h8
 have hc:=h8.cells
 refine bodyPost_ret (v:= .tuple #[.agg #[.int .u32 0,.int .u32 0,.int .u32 0],.int .i64 st2]) (by simp[results,results226,go_sem,hc]) rfl ?_
 exact⟨rfl,h8.s⟩
end
section
variable {w0 w:World} {l:List SL} {r:Nat} {T:ah} {k:aB} {G:Value→Prop}
theorem TI {s:az} {i:Int} (h:In w0 w (Core r T s::l)):aW 317 #[r,.int .i64 i] w w0 (.tuple #[.int .i64 (s.uk T i).1,.int .i64 (s.uk T i).2]) (Core r T s::l):=by
 by_cases hi:i<0∨(T.ay.length:Int)≤i
 ·have e:s.uk T i=(0,3):=by unfold az.uk;rw[if_pos hi]
  rw[e]
  exact J6 h hi
 ·obtain⟨n,rfl⟩:∃n:Nat,i=n:=⟨i.toNat,by omega⟩
  obtain⟨B,x,a,_⟩:=dE h
  have hn:n<T.ay.length:=by omega
  obtain⟨y,hy⟩:=a.inv.t.one (List.getElem?_eq_getElem hn)
  have e:s.uk T n=(y.state,0):=by unfold az.uk;rw[if_neg hi,Int.toNat_natCast,hy]
  rw[e]
  exact Vs h hy
theorem Ld (h:In w0 w (eF G r T k::l)) (s:iH) (f:aK) (ha:0≤s.a∧s.a<4294967296):
 Calls prog 220 #[r,iL s,cO f] w (qH w0 G r T l (k,(lD (k.core.uk T (jL s.a T.ay.length)).1,0,0),(k.core.uk T (jL s.a T.ay.length)).2)):=by
 rcases s with⟨sk,si,sv,sa,sb,sc⟩
 rcases f with⟨kd,id,st,fv,pa⟩
 unfold iL cO qH kz lD
 simp only at*
 obtain⟨B,x,a,h0⟩:=fK h
 rcases x with⟨vt,vr,vs,vc,va,vi,vm,pc,pb,pf,pe,pq,vk,vb,vx⟩
 obtain⟨at_,ct,e⟩:∃ao cap,vt= .slice ao T.ay.length cap:=by obtain⟨tl,t1,t2,t3⟩:=a.tab.ay;exact t2.form
 subst e
 simp only at h0
 have h1:=h0.iQ (uf sk si sv sa sb sc) (qo kd id st fv pa) wL
 have hnum:=jT sa T.ay.length ha.1 ha.2 (by have:=a.fine.ok.n2;omega)
 generalize jL sa T.ay.length=n at*
 have hcall:∀w' l',In w0 w' (Core pc T k.core::l')→_:=fun w' l' h=>TI (l:=l') (i:=n) h
 have hsh:∀w' l',In w0 w' (Core pc T k.core::pts r (aX T k ⟨.slice at_ T.ay.length ct,vr,vs,vc,va,vi,vm,pc,pb,pf,pe,pq,vk,vb,vx⟩)::bJ B::je pb T.aV k.board::gG pf k.frames::dV pe k.errors::dG pq k.calls::Ints vk k.marks.rings::gQ vb k.begun::Ints vx k.aO::l')→In w0 w' (eF G r T k::l'):=fun w' l' h=>bY a h
 generalize (k.core.uk T (n)).1=v1 at*
 generalize (k.core.uk T (n)).2=st1 at*
 clear h h0 a ha
 go_enter func220,ntmps220
 go_upto_region 1 with(fail)
 refine In.abs h1 ?_
 clear h1
 generalize w.heap.size=z
 intro w2 h2
 have h3:=h2.pr [3,3,3,3,3,3,3,3,3,3,2,1,0]
 clear h2
 have bC:=(h3.ae p1).cells
 have fZ:=(h3.ae p10).cells
 have hS0:=(h3.drew).ps [1,9]
 refine nK hS0 ⟨[12],[13]⟩ [.c 0 0,.c 0 1,.c 0 2,.c 2 3,.c 0 4,.c 1 5,.c 0 6,.c 0 7,.c 0 8,.c 0 9,.c 1 10,.c 0 11,.e 12,.e 13,.c 0 14,.c 0 15,.c 0 16,.c 0 17,.c 0 18] ?_
 refine nD ?_;intro K hK
 go_wp2_with (go_at_call 312;refine bW (hnum _) ?_)
 go_wp2_with fail
 refine df hK ((h3.drew).s) fun hS0=>?_
 refine bG rfl rfl fun K hK=>?_
 have hca:=hcall _ _ h3.drew
 go_wp2_with (go_at_call 317;refine bF hca ?_;intro w5 h5)
 clear bC fZ
 have jO:=(h5.ae p12).cells
 have jb:=(h5.ae p12).free
 go_wp2_with fail
 refine wM ?_
 go_wp2_with (go_at_call 306;refine bF (jD h5 _) ?_;intro w6 h6;have jO:=(h6.ae p12).cells;have jb:=(h6.ae p12).free)
 have h7:=(h6.ae p12).fill [.int .u32 (IntKind.u32.wrap v1),.int .u32 0,.int .u32 0] rfl
 simp only[dm]at h7
 refine In.abs h7 ?_
 clear h7 h6 h5 h3 jO jb
 intro w6 h6
 have hc:=h6.cells
 refine bodyPost_ret (v:= .tuple #[.agg #[.int .u32 (IntKind.u32.wrap v1),.int .u32 0,.int .u32 0],.int .i64 st1]) (by simp[results,results220,go_sem,hc]) rfl ?_
 exact⟨rfl,hsh _ _ (h6.s)⟩
theorem TV (h:In w0 w (eF G r T k::l)) (s:iH) (f:aK):
 Calls prog 219 #[r,iL s,cO f] w (qH w0 G r T l (k,(lD k.core.tk.running,0,0),0)):=by
 rcases s with⟨sk,si,sv,sa,sb,sc⟩
 rcases f with⟨kd,id,st,fv,pa⟩
 unfold iL cO qH kz
 try unfold lD
 simp only at*
 obtain⟨B,x,a,h0⟩:=fK h
 rcases x with⟨vt,vr,vs,vc,va,vi,vm,pc,pb,pf,pe,pq,vk,vb,vx⟩
 simp only at h0
 have h1:=h0.iQ (uf sk si sv sa sb sc) (qo kd id st fv pa) wL
 have hsh:∀w' l',In w0 w' (Core pc T k.core::pts r (aX T k ⟨vt,vr,vs,vc,va,vi,vm,pc,pb,pf,pe,pq,vk,vb,vx⟩)::bJ B::je pb T.aV k.board::gG pf k.frames::dV pe k.errors::dG pq k.calls::Ints vk k.marks.rings::gQ vb k.begun::Ints vx k.aO::l')→In w0 w' (eF G r T k::l'):=fun w' l' h=>bY a h
 have hrn:∀w' l',In w0 w' (Core pc T k.core::l')→_:=fun w' l' h=>BD (l:=l') h
 generalize k.core.tk.running=rn at*
 clear h h0 a
 go_enter func219,ntmps219
 go_upto_region 1 with(fail)
 refine In.abs h1 ?_
 clear h1
 generalize w.heap.size=z
 intro w2 h2
 have h3:=h2.pr [3,3,3,3,3,3,3,3,3,3,2,1,0]
 clear h2
 have bC:=(h3.ae p1).cells
 have hr:=hrn _ _ h3
 go_wp2_with (first|(go_at_call 236;refine bW hr ?_)|(go_at_call 306;refine bF (jD h3 _) ?_;intro w6 h6;have jO:=(h6.ae p12).cells;have jb:=(h6.ae p12).free))
 have h5:=h3
 have h7:=(h6.ae p12).fill [.int .u32 (IntKind.u32.wrap rn),.int .u32 0,.int .u32 0] rfl
 simp only[dm]at h7
 refine In.abs h7 ?_
 clear h7 h6 h5 h3 jO jb
 intro w6 h6
 have hc:=h6.cells
 refine bodyPost_ret (v:= .tuple #[.agg #[.int .u32 (IntKind.u32.wrap rn),.int .u32 0,.int .u32 0],.int .i64 0]) (by simp[results,results219,go_sem,hc]) rfl ?_
 exact⟨rfl,hsh _ _ (h6.s)⟩
theorem Ii (h:In w0 w (eF G r T k::l)) (s:iH) (f:aK):
 Calls prog 214 #[r,iL s,cO f] w (qH w0 G r T l (k,(lD k.mode,0,0),0)):=by
 rcases s with⟨sk,si,sv,sa,sb,sc⟩
 rcases f with⟨kd,id,st,fv,pa⟩
 unfold iL cO qH kz
 try unfold lD
 simp only at*
 obtain⟨B,x,a,h0⟩:=fK h
 rcases x with⟨vt,vr,vs,vc,va,vi,vm,pc,pb,pf,pe,pq,vk,vb,vx⟩
 simp only at h0
 have h1:=h0.iQ (uf sk si sv sa sb sc) (qo kd id st fv pa) wL
 have hsh:∀w' l',In w0 w' (Core pc T k.core::pts r (aX T k ⟨vt,vr,vs,vc,va,vi,vm,pc,pb,pf,pe,pq,vk,vb,vx⟩)::bJ B::je pb T.aV k.board::gG pf k.frames::dV pe k.errors::dG pq k.calls::Ints vk k.marks.rings::gQ vb k.begun::Ints vx k.aO::l')→In w0 w' (eF G r T k::l'):=fun w' l' h=>bY a h
 clear h h0 a
 go_enter func214,ntmps214
 go_upto_region 1 with(fail)
 refine In.abs h1 ?_
 clear h1
 generalize w.heap.size=z
 intro w2 h2
 have h3:=h2.pr [3,3,3,3,3,3,3,3,3,3,2,1,0]
 clear h2
 have bC:=(h3.ae p1).cells
 go_wp2_with (go_at_call 306;refine bF (jD h3 _) ?_;intro w6 h6;have jO:=(h6.ae p12).cells;have jb:=(h6.ae p12).free)
 have h5:=h3
 have h7:=(h6.ae p12).fill [.int .u32 (IntKind.u32.wrap k.mode),.int .u32 0,.int .u32 0] rfl
 simp only[dm]at h7
 refine In.abs h7 ?_
 clear h7 h6 h5 h3 jO jb
 intro w6 h6
 have hc:=h6.cells
 refine bodyPost_ret (v:= .tuple #[.agg #[.int .u32 (IntKind.u32.wrap k.mode),.int .u32 0,.int .u32 0],.int .i64 0]) (by simp[results,results214,go_sem,hc]) rfl ?_
 exact⟨rfl,hsh _ _ (h6.s)⟩
theorem P9 (h:In w0 w (eF G r T k::l)) (s:iH) (f:aK):
 Calls prog 212 #[r,iL s,cO f] w (qH w0 G r T l (k,(0,0,0),7)):=by
 rcases s with⟨sk,si,sv,sa,sb,sc⟩
 rcases f with⟨kd,id,st,fv,pa⟩
 unfold iL cO qH kz
 try unfold lD
 simp only at*
 obtain⟨B,x,a,h0⟩:=fK h
 rcases x with⟨vt,vr,vs,vc,va,vi,vm,pc,pb,pf,pe,pq,vk,vb,vx⟩
 simp only at h0
 have h1:=h0.iQ (uf sk si sv sa sb sc) (qo kd id st fv pa) wL
 have hsh:∀w' l',In w0 w' (Core pc T k.core::pts r (aX T k ⟨vt,vr,vs,vc,va,vi,vm,pc,pb,pf,pe,pq,vk,vb,vx⟩)::bJ B::je pb T.aV k.board::gG pf k.frames::dV pe k.errors::dG pq k.calls::Ints vk k.marks.rings::gQ vb k.begun::Ints vx k.aO::l')→In w0 w' (eF G r T k::l'):=fun w' l' h=>bY a h
 clear h h0 a
 go_enter func212,ntmps212
 go_upto_region 1 with(fail)
 refine In.abs h1 ?_
 clear h1
 generalize w.heap.size=z
 intro w2 h2
 have h3:=h2.pr [3,3,3,3,3,3,3,3,3,3,2,1,0]
 clear h2
 have bC:=(h3.ae p1).cells
 go_wp2_with (go_at_call 306;refine bF (jD h3 _) ?_;intro w6 h6;have jO:=(h6.ae p12).cells;have jb:=(h6.ae p12).free)
 have h5:=h3
 have h7:=(h6.ae p12).fill [.int .u32 (0),.int .u32 0,.int .u32 0] rfl
 simp only[dm]at h7
 refine In.abs h7 ?_
 clear h7 h6 h5 h3 jO jb
 intro w6 h6
 have hc:=h6.cells
 refine bodyPost_ret (v:= .tuple #[.agg #[.int .u32 (0),.int .u32 0,.int .u32 0],.int .i64 7]) (by simp[results,results212,go_sem,hc]) rfl ?_
 exact⟨rfl,hsh _ _ (h6.s)⟩
theorem Nk (h:In w0 w (eF G r T k::l)) (s:iH) (f:aK) (ha:0≤s.a∧s.a<4294967296) (hb:k.begun.length≤100000) (hd:0<k.frames.depth):
 Calls prog 213 #[r,iL s,cO f] w (qH w0 G r T l (k.shutdown T s.a,(0,0,0),0)):=by
 rcases s with⟨sk,si,sv,sa,sb,sc⟩
 rcases f with⟨kd,id,st,fv,pa⟩
 unfold iL cO qH kz
 simp only at*
 obtain⟨B,x,a,h0⟩:=fK h
 rcases x with⟨vt,vr,vs,vc,va,vi,vm,pc,pb,pf,pe,pq,vk,vb,vx⟩
 simp only at h0
 have h1:=h0.iQ (uf sk si sv sa sb sc) (qo kd id st fv pa) wL
 have hsd:k.shutdown T sa=if T.use 4 then({k with phase:=2,gate:= .wide,core:=T.mP,board:=k.board.calm T.aV,errors:={k.errors with items:= []},calls:={k.calls with items:= []},frames:={k.frames with items:= []}}:aB).begin T ⟨5,0,sa,0,0⟩else {k with phase:=2,gate:= .wide,core:=T.mP,board:=k.board.calm T.aV,errors:={k.errors with items:= []},calls:={k.calls with items:= []},frames:={k.frames with items:= []}}:=rfl
 rw[hsd]
 have hcv:IntKind.i64.wrap sa=sa:=by simp[IntKind.wrap,IntKind.bits,IntKind.signed];omega
 clear h h0 ha hsd
 cases hu:T.use 4 with
 |false=>
  simp only[Bool.false_eq_true,if_false]
  go_enter func213,ntmps213
  go_upto_region 1 with(fail)
  refine In.abs h1 ?_
  clear h1
  generalize w.heap.size=z
  intro w2 h2
  have h3:=h2.pr [4,3,3,3,3,3,3,3,3,3,2,1,0]
  clear h2
  have bC:=h3.cells
  have BN:=h3.free
  go_upto_region 3 with(fail)
  have h4:In w0 _ (pts r (aX T {k with phase:=2,gate:= .wide} ⟨vt,vr,vs,vc,va,vi,vm,pc,pb,pf,pe,pq,vk,vb,vx⟩)::_):=(((h3.setCell (off:=21) (.int .i64 2)).setCell (off:=18) (.bool false)).setCell (off:=19) (.int .i64 0)).setCell (off:=20) (.int .i64 0)
  refine In.abs h4 ?_
  clear h4 h3 bC BN
  intro w4 h4
  have bC:=h4.cells
  have hre:=Ou (h4.ae p1)
  go_upto_region 4 with(go_at_call 307;refine bF hre ?_;intro w5 h5)
  clear hre bC h4
  have bC:=(h5.ae p1).cells
  have hca:=Rq (h5.ae p3)
  go_upto_region 5 with(go_at_call 308;refine bF hca ?_;intro w6 h6)
  clear hca bC h5
  have bC:=(h6.ae p2).cells
  have hcl:=QO (h6.ae p5)
  go_upto_region 6 with(go_at_call 309;refine bF hcl ?_;intro w7 h7)
  clear hcl bC h6
  have bC:=(h7.ae p3).cells
  have hcl:=QS (h7.ae p6)
  go_upto_region 7 with(go_at_call 310;refine bF hcl ?_;intro w7b h7b)
  clear hcl bC h7
  have bC:=(h7b.ae p4).cells
  have hcu:=VD (h7b.ae p6)
  go_upto_region 8 with(go_at_call 311;refine Calls.mono hcu ?_;rintro _ w7c ⟨u7,rfl,h7c⟩)
  clear hcu bC h7b
  have Lu:=h7c.pr [5,5,4,3,0,1,0,0,0,0,0,0,0]
  have h8:=bZ (k:={k with phase:=2,gate:= .wide,core:=T.mP,board:=k.board.calm T.aV,errors:={k.errors with items:= []},calls:={k.calls with items:= []},frames:={k.frames with items:= []}}) (x:=⟨vt,vr,vs,vc,va,vi,vm,pc,pb,pf,pe,pq,vk,vb,vx⟩) ⟨a.tab,a.chk,a.num,a.len,a.gh⟩ Lu
  clear Lu h7c
  have hus:=uy h8 4
  rw[hu]at hus
  go_wp2_with (first|(go_at_call 79;refine bW hus ?_)|(go_at_call 306;refine bF (jD h8 _) ?_;intro w10 h10;have jO:=(h10.ae p3).cells;have jb:=(h10.ae p3).free))
  have h11:=(h10.ae p3).fill [.int .u32 0,.int .u32 0,.int .u32 0] rfl
  simp only[dm]at h11
  refine In.abs h11 ?_
  clear h11 h10 jO jb
  intro w11 h11
  have hc:=h11.cells
  refine bodyPost_ret (v:= .tuple #[.agg #[.int .u32 0,.int .u32 0,.int .u32 0],.int .i64 0]) (by simp[results,results213,go_sem,hc]) rfl ?_
  exact⟨rfl,((h11.drop.ae p1).drop.ae p1).drop⟩
 |true=>
  simp only[if_true]
  go_enter func213,ntmps213
  go_upto_region 1 with(fail)
  refine In.abs h1 ?_
  clear h1
  generalize w.heap.size=z
  intro w2 h2
  have h3:=h2.pr [4,3,3,3,3,3,3,3,3,3,2,1,0]
  clear h2
  have bC:=h3.cells
  have BN:=h3.free
  go_upto_region 3 with(fail)
  have h4:In w0 _ (pts r (aX T {k with phase:=2,gate:= .wide} ⟨vt,vr,vs,vc,va,vi,vm,pc,pb,pf,pe,pq,vk,vb,vx⟩)::_):=(((h3.setCell (off:=21) (.int .i64 2)).setCell (off:=18) (.bool false)).setCell (off:=19) (.int .i64 0)).setCell (off:=20) (.int .i64 0)
  refine In.abs h4 ?_
  clear h4 h3 bC BN
  intro w4 h4
  have bC:=h4.cells
  have hre:=Ou (h4.ae p1)
  go_upto_region 4 with(go_at_call 307;refine bF hre ?_;intro w5 h5)
  clear hre bC h4
  have bC:=(h5.ae p1).cells
  have hca:=Rq (h5.ae p3)
  go_upto_region 5 with(go_at_call 308;refine bF hca ?_;intro w6 h6)
  clear hca bC h5
  have bC:=(h6.ae p2).cells
  have hcl:=QO (h6.ae p5)
  go_upto_region 6 with(go_at_call 309;refine bF hcl ?_;intro w7 h7)
  clear hcl bC h6
  have bC:=(h7.ae p3).cells
  have hcl:=QS (h7.ae p6)
  go_upto_region 7 with(go_at_call 310;refine bF hcl ?_;intro w7b h7b)
  clear hcl bC h7
  have bC:=(h7b.ae p4).cells
  have hcu:=VD (h7b.ae p6)
  go_upto_region 8 with(go_at_call 311;refine Calls.mono hcu ?_;rintro _ w7c ⟨u7,rfl,h7c⟩)
  clear hcu bC h7b
  have Lu:=h7c.pr [5,5,4,3,0,1,0,0,0,0,0,0,0]
  have h8:=bZ (k:={k with phase:=2,gate:= .wide,core:=T.mP,board:=k.board.calm T.aV,errors:={k.errors with items:= []},calls:={k.calls with items:= []},frames:={k.frames with items:= []}}) (x:=⟨vt,vr,vs,vc,va,vi,vm,pc,pb,pf,pe,pq,vk,vb,vx⟩) ⟨a.tab,a.chk,a.num,a.len,a.gh⟩ Lu
  clear Lu h7c
  have hus:=uy h8 4
  rw[hu]at hus
  have fZ:=(h8.ae p1).cells
  have hbg:=nR h8 ⟨5,0,sa,0,0⟩ hd hb
  unfold cO at hbg
  simp only at hbg
  go_wp2_with (first|(go_at_call 79;refine bW hus ?_)|(go_at_call 80;refine bF hbg ?_;intro w9 h9)|(go_at_call 306;refine bF (jD h9 _) ?_;intro w10 h10;have jO:=(h10.ae p3).cells;have jb:=(h10.ae p3).free))
  have h11:=(h10.ae p3).fill [.int .u32 0,.int .u32 0,.int .u32 0] rfl
  simp only[dm]at h11
  refine In.abs h11 ?_
  clear h11 h10 jO jb
  intro w11 h11
  have hc:=h11.cells
  refine bodyPost_ret (v:= .tuple #[.agg #[.int .u32 0,.int .u32 0,.int .u32 0],.int .i64 0]) (by simp[results,results213,go_sem,hc]) rfl ?_
  exact⟨rfl,((h11.drop.ae p1).drop.ae p1).drop⟩
end
section
variable {w0 w:World} {l:List SL} {r:Nat} {T:ah} {k:aB} {G:Value→Prop}
theorem aay (n:Int) (h0:0≤n) (h1:n≤255) (w:World):Calls prog 318 #[.int .i64 n] w fun e w'=>e= .returned (.int .i64 (min (n+1) 255))∧w=w':=by
 by_cases hn:n+1≤255
 ·have e:min (n+1) 255=n+1:=by omega
  rw[e]
  go_enter func318,ntmps318
  go_wp2_with fail
  go_ret
  exact⟨rfl,rfl⟩
 ·have e:min (n+1) 255=255:=by omega
  rw[e]
  go_enter func318,ntmps318
  go_wp2_with fail
  go_ret
  exact⟨rfl,rfl⟩
theorem Q8 (n:Int) (h0:0≤n) (h1:n≤255) (w:World):Calls prog 319 #[.int .i64 n] w fun e w'=>e= .returned (.int .i64 (max (n-1) 0))∧w=w':=by
 by_cases hn:0≤n-1
 ·have e:max (n-1) 0=n-1:=by omega
  rw[e]
  go_enter func319,ntmps319
  go_wp2_with fail
  go_ret
  exact⟨rfl,rfl⟩
 ·have e:max (n-1) 0=0:=by omega
  rw[e]
  go_enter func319,ntmps319
  go_wp2_with fail
  go_ret
  exact⟨rfl,rfl⟩
def lg.Ok (g:lg):Prop:=(0≤g.all∧g.all≤255)∧(0≤g.os∧g.os≤255)
theorem TM (h:In w0 w (eF G r T k::l)) (sk si sa sb sc:Int) (f:aK) (hg:k.gate.Ok):
 Calls prog 221 #[r,.agg #[.int .i64 sk,.int .i64 si,.int .i64 10,.int .u32 sa,.int .u32 sb,.int .u32 sc],cO f] w (qH w0 G r T l ({k with gate:=k.gate.turn 10},(0,0,0),0)):=by
 rcases f with⟨kd,id,st,fv,pa⟩
 have ht:k.gate.turn 10= {k.gate with shut:=false}:=rfl
 rw[ht]
 clear ht
 unfold cO qH kz
 simp only at*
 obtain⟨B,x,a,h0⟩:=dD h
 have h1:=h0.iQ (uf sk si 10 sa sb sc) (qo kd id st fv pa) wL
 have hf:∀(fn:FuncId),∃u,u=fn:=fun fn=>⟨fn,rfl⟩
 clear h h0 hf
 go_enter func221,ntmps221
 go_upto_region 1 with(fail)
 refine In.abs h1 ?_
 clear h1
 generalize w.heap.size=z
 intro w2 h2
 have h3:=h2.pr [3,3,3,3,3,3,3,3,3,3,2,1,0]
 clear h2
 have bC:=h3.cells
 have BN:=h3.free
 have fZ:=(h3.ae p10).cells
 go_upto_region 16 with(fail)
 have h4:In w0 _ (pts r (aX T {k with gate:={k.gate with shut:=false}} x)::_):=h3.setCell (off:=18) (.bool false)
 refine In.abs h4 ?_
 clear h4 h3 bC BN fZ hg
 intro w4 h4
 have h5:=bZ (k:={k with gate:={k.gate with shut:=false}}) (x:=x) ⟨a.tab,a.chk,a.num,a.len,a.gh⟩ h4
 clear h4
 go_wp2_with (go_at_call 306;refine bF (jD h5 _) ?_;intro w10 h10;have jO:=(h10.ae p3).cells;have jb:=(h10.ae p3).free)
 have h11:=(h10.ae p3).fill [.int .u32 0,.int .u32 0,.int .u32 0] rfl
 simp only[dm]at h11
 refine In.abs h11 ?_
 clear h11 h10 jO jb
 intro w11 h11
 have hc:=h11.cells
 refine bodyPost_ret (v:= .tuple #[.agg #[.int .u32 0,.int .u32 0,.int .u32 0],.int .i64 0]) (by simp[results,results221,go_sem,hc]) rfl ?_
 exact⟨rfl,((h11.drop.ae p1).drop.ae p1).drop⟩
theorem Uh (h:In w0 w (eF G r T k::l)) (sk si sa sb sc:Int) (f:aK) (hg:k.gate.Ok):
 Calls prog 221 #[r,.agg #[.int .i64 sk,.int .i64 si,.int .i64 11,.int .u32 sa,.int .u32 sb,.int .u32 sc],cO f] w (qH w0 G r T l ({k with gate:=k.gate.turn 11},(0,0,0),0)):=by
 rcases f with⟨kd,id,st,fv,pa⟩
 have ht:k.gate.turn 11= {k.gate with shut:=true}:=rfl
 rw[ht]
 clear ht
 unfold cO qH kz
 simp only at*
 obtain⟨B,x,a,h0⟩:=dD h
 have h1:=h0.iQ (uf sk si 11 sa sb sc) (qo kd id st fv pa) wL
 have hf:∀(fn:FuncId),∃u,u=fn:=fun fn=>⟨fn,rfl⟩
 clear h h0 hf
 go_enter func221,ntmps221
 go_upto_region 1 with(fail)
 refine In.abs h1 ?_
 clear h1
 generalize w.heap.size=z
 intro w2 h2
 have h3:=h2.pr [3,3,3,3,3,3,3,3,3,3,2,1,0]
 clear h2
 have bC:=h3.cells
 have BN:=h3.free
 have fZ:=(h3.ae p10).cells
 go_upto_region 16 with(fail)
 have h4:In w0 _ (pts r (aX T {k with gate:={k.gate with shut:=true}} x)::_):=h3.setCell (off:=18) (.bool true)
 refine In.abs h4 ?_
 clear h4 h3 bC BN fZ hg
 intro w4 h4
 have h5:=bZ (k:={k with gate:={k.gate with shut:=true}}) (x:=x) ⟨a.tab,a.chk,a.num,a.len,a.gh⟩ h4
 clear h4
 go_wp2_with (go_at_call 306;refine bF (jD h5 _) ?_;intro w10 h10;have jO:=(h10.ae p3).cells;have jb:=(h10.ae p3).free)
 have h11:=(h10.ae p3).fill [.int .u32 0,.int .u32 0,.int .u32 0] rfl
 simp only[dm]at h11
 refine In.abs h11 ?_
 clear h11 h10 jO jb
 intro w11 h11
 have hc:=h11.cells
 refine bodyPost_ret (v:= .tuple #[.agg #[.int .u32 0,.int .u32 0,.int .u32 0],.int .i64 0]) (by simp[results,results221,go_sem,hc]) rfl ?_
 exact⟨rfl,((h11.drop.ae p1).drop.ae p1).drop⟩
theorem Sv (h:In w0 w (eF G r T k::l)) (sk si sa sb sc:Int) (f:aK) (hg:k.gate.Ok):
 Calls prog 221 #[r,.agg #[.int .i64 sk,.int .i64 si,.int .i64 12,.int .u32 sa,.int .u32 sb,.int .u32 sc],cO f] w (qH w0 G r T l ({k with gate:=k.gate.turn 12},(0,0,0),0)):=by
 rcases f with⟨kd,id,st,fv,pa⟩
 have ht:k.gate.turn 12= {k.gate with all:=max (k.gate.all-1) 0}:=rfl
 rw[ht]
 clear ht
 unfold cO qH kz
 simp only at*
 obtain⟨B,x,a,h0⟩:=dD h
 have h1:=h0.iQ (uf sk si 12 sa sb sc) (qo kd id st fv pa) wL
 have hf:∀(fn:FuncId),∃u,u=fn:=fun fn=>⟨fn,rfl⟩
 clear h h0 hf
 go_enter func221,ntmps221
 go_upto_region 1 with(fail)
 refine In.abs h1 ?_
 clear h1
 generalize w.heap.size=z
 intro w2 h2
 have h3:=h2.pr [3,3,3,3,3,3,3,3,3,3,2,1,0]
 clear h2
 have bC:=h3.cells
 have BN:=h3.free
 have fZ:=(h3.ae p10).cells
 go_upto_region 16 with(go_at_call 319;refine bW (Q8 k.gate.all hg.1.1 hg.1.2 _) ?_)
 have h4:In w0 _ (pts r (aX T {k with gate:={k.gate with all:=max (k.gate.all-1) 0}} x)::_):=h3.setCell (off:=19) (.int .i64 (max (k.gate.all-1) 0))
 refine In.abs h4 ?_
 clear h4 h3 bC BN fZ hg
 intro w4 h4
 have h5:=bZ (k:={k with gate:={k.gate with all:=max (k.gate.all-1) 0}}) (x:=x) ⟨a.tab,a.chk,a.num,a.len,a.gh⟩ h4
 clear h4
 go_wp2_with (go_at_call 306;refine bF (jD h5 _) ?_;intro w10 h10;have jO:=(h10.ae p3).cells;have jb:=(h10.ae p3).free)
 have h11:=(h10.ae p3).fill [.int .u32 0,.int .u32 0,.int .u32 0] rfl
 simp only[dm]at h11
 refine In.abs h11 ?_
 clear h11 h10 jO jb
 intro w11 h11
 have hc:=h11.cells
 refine bodyPost_ret (v:= .tuple #[.agg #[.int .u32 0,.int .u32 0,.int .u32 0],.int .i64 0]) (by simp[results,results221,go_sem,hc]) rfl ?_
 exact⟨rfl,((h11.drop.ae p1).drop.ae p1).drop⟩
theorem TP (h:In w0 w (eF G r T k::l)) (sk si sa sb sc:Int) (f:aK) (hg:k.gate.Ok):
 Calls prog 221 #[r,.agg #[.int .i64 sk,.int .i64 si,.int .i64 13,.int .u32 sa,.int .u32 sb,.int .u32 sc],cO f] w (qH w0 G r T l ({k with gate:=k.gate.turn 13},(0,0,0),0)):=by
 rcases f with⟨kd,id,st,fv,pa⟩
 have ht:k.gate.turn 13= {k.gate with all:=min (k.gate.all+1) 255}:=rfl
 rw[ht]
 clear ht
 unfold cO qH kz
 simp only at*
 obtain⟨B,x,a,h0⟩:=dD h
 have h1:=h0.iQ (uf sk si 13 sa sb sc) (qo kd id st fv pa) wL
 have hf:∀(fn:FuncId),∃u,u=fn:=fun fn=>⟨fn,rfl⟩
 clear h h0 hf
 go_enter func221,ntmps221
 go_upto_region 1 with(fail)
 refine In.abs h1 ?_
 clear h1
 generalize w.heap.size=z
 intro w2 h2
 have h3:=h2.pr [3,3,3,3,3,3,3,3,3,3,2,1,0]
 clear h2
 have bC:=h3.cells
 have BN:=h3.free
 have fZ:=(h3.ae p10).cells
 go_upto_region 16 with(go_at_call 318;refine bW (aay k.gate.all hg.1.1 hg.1.2 _) ?_)
 have h4:In w0 _ (pts r (aX T {k with gate:={k.gate with all:=min (k.gate.all+1) 255}} x)::_):=h3.setCell (off:=19) (.int .i64 (min (k.gate.all+1) 255))
 refine In.abs h4 ?_
 clear h4 h3 bC BN fZ hg
 intro w4 h4
 have h5:=bZ (k:={k with gate:={k.gate with all:=min (k.gate.all+1) 255}}) (x:=x) ⟨a.tab,a.chk,a.num,a.len,a.gh⟩ h4
 clear h4
 go_wp2_with (go_at_call 306;refine bF (jD h5 _) ?_;intro w10 h10;have jO:=(h10.ae p3).cells;have jb:=(h10.ae p3).free)
 have h11:=(h10.ae p3).fill [.int .u32 0,.int .u32 0,.int .u32 0] rfl
 simp only[dm]at h11
 refine In.abs h11 ?_
 clear h11 h10 jO jb
 intro w11 h11
 have hc:=h11.cells
 refine bodyPost_ret (v:= .tuple #[.agg #[.int .u32 0,.int .u32 0,.int .u32 0],.int .i64 0]) (by simp[results,results221,go_sem,hc]) rfl ?_
 exact⟨rfl,((h11.drop.ae p1).drop.ae p1).drop⟩
theorem Tu (h:In w0 w (eF G r T k::l)) (sk si sa sb sc:Int) (f:aK) (hg:k.gate.Ok):
 Calls prog 221 #[r,.agg #[.int .i64 sk,.int .i64 si,.int .i64 14,.int .u32 sa,.int .u32 sb,.int .u32 sc],cO f] w (qH w0 G r T l ({k with gate:=k.gate.turn 14},(0,0,0),0)):=by
 rcases f with⟨kd,id,st,fv,pa⟩
 have ht:k.gate.turn 14= {k.gate with os:=max (k.gate.os-1) 0}:=rfl
 rw[ht]
 clear ht
 unfold cO qH kz
 simp only at*
 obtain⟨B,x,a,h0⟩:=dD h
 have h1:=h0.iQ (uf sk si 14 sa sb sc) (qo kd id st fv pa) wL
 have hf:∀(fn:FuncId),∃u,u=fn:=fun fn=>⟨fn,rfl⟩
 clear h h0 hf
 go_enter func221,ntmps221
 go_upto_region 1 with(fail)
 refine In.abs h1 ?_
 clear h1
 generalize w.heap.size=z
 intro w2 h2
 have h3:=h2.pr [3,3,3,3,3,3,3,3,3,3,2,1,0]
 clear h2
 have bC:=h3.cells
 have BN:=h3.free
 have fZ:=(h3.ae p10).cells
 go_upto_region 16 with(go_at_call 319;refine bW (Q8 k.gate.os hg.2.1 hg.2.2 _) ?_)
 have h4:In w0 _ (pts r (aX T {k with gate:={k.gate with os:=max (k.gate.os-1) 0}} x)::_):=h3.setCell (off:=20) (.int .i64 (max (k.gate.os-1) 0))
 refine In.abs h4 ?_
 clear h4 h3 bC BN fZ hg
 intro w4 h4
 have h5:=bZ (k:={k with gate:={k.gate with os:=max (k.gate.os-1) 0}}) (x:=x) ⟨a.tab,a.chk,a.num,a.len,a.gh⟩ h4
 clear h4
 go_wp2_with (go_at_call 306;refine bF (jD h5 _) ?_;intro w10 h10;have jO:=(h10.ae p3).cells;have jb:=(h10.ae p3).free)
 have h11:=(h10.ae p3).fill [.int .u32 0,.int .u32 0,.int .u32 0] rfl
 simp only[dm]at h11
 refine In.abs h11 ?_
 clear h11 h10 jO jb
 intro w11 h11
 have hc:=h11.cells
 refine bodyPost_ret (v:= .tuple #[.agg #[.int .u32 0,.int .u32 0,.int .u32 0],.int .i64 0]) (by simp[results,results221,go_sem,hc]) rfl ?_
 exact⟨rfl,((h11.drop.ae p1).drop.ae p1).drop⟩
theorem TS (h:In w0 w (eF G r T k::l)) (sk si sa sb sc:Int) (f:aK) (hg:k.gate.Ok):
 Calls prog 221 #[r,.agg #[.int .i64 sk,.int .i64 si,.int .i64 15,.int .u32 sa,.int .u32 sb,.int .u32 sc],cO f] w (qH w0 G r T l ({k with gate:=k.gate.turn 15},(0,0,0),0)):=by
 rcases f with⟨kd,id,st,fv,pa⟩
 have ht:k.gate.turn 15= {k.gate with os:=min (k.gate.os+1) 255}:=rfl
 rw[ht]
 clear ht
 unfold cO qH kz
 simp only at*
 obtain⟨B,x,a,h0⟩:=dD h
 have h1:=h0.iQ (uf sk si 15 sa sb sc) (qo kd id st fv pa) wL
 have hf:∀(fn:FuncId),∃u,u=fn:=fun fn=>⟨fn,rfl⟩
 clear h h0 hf
 go_enter func221,ntmps221
 go_upto_region 1 with(fail)
 refine In.abs h1 ?_
 clear h1
 generalize w.heap.size=z
 intro w2 h2
 have h3:=h2.pr [3,3,3,3,3,3,3,3,3,3,2,1,0]
 clear h2
 have bC:=h3.cells
 have BN:=h3.free
 have fZ:=(h3.ae p10).cells
 go_upto_region 16 with(go_at_call 318;refine bW (aay k.gate.os hg.2.1 hg.2.2 _) ?_)
 have h4:In w0 _ (pts r (aX T {k with gate:={k.gate with os:=min (k.gate.os+1) 255}} x)::_):=h3.setCell (off:=20) (.int .i64 (min (k.gate.os+1) 255))
 refine In.abs h4 ?_
 clear h4 h3 bC BN fZ hg
 intro w4 h4
 have h5:=bZ (k:={k with gate:={k.gate with os:=min (k.gate.os+1) 255}}) (x:=x) ⟨a.tab,a.chk,a.num,a.len,a.gh⟩ h4
 clear h4
 go_wp2_with (go_at_call 306;refine bF (jD h5 _) ?_;intro w10 h10;have jO:=(h10.ae p3).cells;have jb:=(h10.ae p3).free)
 have h11:=(h10.ae p3).fill [.int .u32 0,.int .u32 0,.int .u32 0] rfl
 simp only[dm]at h11
 refine In.abs h11 ?_
 clear h11 h10 jO jb
 intro w11 h11
 have hc:=h11.cells
 refine bodyPost_ret (v:= .tuple #[.agg #[.int .u32 0,.int .u32 0,.int .u32 0],.int .i64 0]) (by simp[results,results221,go_sem,hc]) rfl ?_
 exact⟨rfl,((h11.drop.ae p1).drop.ae p1).drop⟩
end
section
def aK.yQ (f:aK):Nat:=if f.kind=1 then 0 else if f.kind=2 then 1 else if f.kind=8 then 3 else if f.kind=4 then 4 else 2
def ah.sQ (T:ah) (i:Int):Int:=match T.bf[i.toNat]? with|some x=>x.aI|none=>0
def U5 (T:ah) (a b:aK):Prop:=a.yQ<b.yQ∨a.kind=2∧b.kind=2∧T.sQ a.id<T.sQ b.id
structure aK.Ok (T:ah) (f:aK):Prop where
 kd:1≤f.kind∧f.kind≤8
 isr:f.kind=2→∃n:Nat,f.id=n∧n<T.bf.length
structure qE (T:ah) (l:List aK):Prop where
 pw:l.Pairwise (U5 T)
 each:∀f∈l,f.Ok T
variable {T:ah} {k:aB}
theorem aK.U0 (f:aK):f.yQ≤4:=by unfold aK.yQ;repeat' split<;>try omega
theorem aK.xQ {f:aK} (h:f.kind=2):f.yQ=1:=by unfold aK.yQ;rw[h];rfl
theorem aK.Ap {f:aK} (h:f.kind=1):f.yQ=0:=by unfold aK.yQ;rw[h];rfl
theorem aK.Ny {f:aK}:f.yQ=4↔f.kind=4:=by
 unfold aK.yQ
 repeat' split
 all_goals omega
theorem aK.SE {f:aK}:f.yQ=3↔f.kind=8:=by
 unfold aK.yQ
 repeat' split
 all_goals omega
theorem aK.Ot {f:aK}:f.yQ=0↔f.kind=1:=by
 unfold aK.yQ
 repeat' split
 all_goals omega
theorem aK.acR {f:aK}:f.yQ=1↔f.kind=2:=by
 unfold aK.yQ
 repeat' split
 all_goals omega
def ah.key (T:ah) (f:aK):Nat:=if f.kind=1 then 0 else if f.kind=2 then 1+f.id.toNat else T.bf.length+f.yQ-1
theorem qE.len {l:List aK} (h:qE T l):l.length≤T.bf.length+4:=by
 have h1:(l.map T.key).Nodup:=by
  rw[List.nodup_iff_pairwise_ne,List.pairwise_map]
  refine List.Pairwise.imp_of_mem ?_ h.pw
  intro a b ha hb hab e
  have oa:=h.each a ha
  have ob:=h.each b hb
  unfold ah.key at e
  rcases hab with hab|⟨h2,h3,hab⟩
  ·by_cases a1:a.kind=1
   ·have b1:b.kind≠1:=fun b1=>by rw[aK.Ap a1,aK.Ap b1]at hab;omega
    rw[if_pos a1,if_neg b1]at e
    split at e
    ·omega
    ·rename_i b2
     have:b.yQ≠1:=fun c=>b2 (aK.acR.1 c)
     have:b.yQ≠0:=fun c=>b1 (aK.Ot.1 c)
     omega
   ·rw[if_neg a1]at e
    have c0:a.yQ≠0:=fun c=>a1 (aK.Ot.1 c)
    have b1:b.kind≠1:=fun b1=>by rw[aK.Ap b1]at hab;omega
    rw[if_neg b1]at e
    have b2:b.kind≠2:=fun b2=>by rw[aK.xQ b2]at hab;omega
    rw[if_neg b2]at e
    split at e
    ·rename_i a2
     obtain⟨n,en,hn⟩:=oa.isr a2
     rw[en,Int.toNat_natCast]at e
     rw[aK.xQ a2]at hab
     omega
    ·omega
  ·rw[if_neg (by omega),if_pos h2,if_neg (by omega),if_pos h3]at e
   obtain⟨n,en,hn⟩:=oa.isr h2
   obtain⟨m,em,hm⟩:=ob.isr h3
   rw[en,em]at e
   simp only[Int.toNat_natCast]at e
   have:n=m:=by omega
   rw[en,em,this]at hab
   omega
 have h2:l.map T.key ⊆ List.range (T.bf.length+4):=by
  intro x hx
  obtain⟨f,hf,rfl⟩:=List.mem_map.1 hx
  rw[List.mem_range]
  have o:=h.each f hf
  have:=f.U0
  unfold ah.key
  split
  ·omega
  ·split
   ·rename_i f2
    obtain⟨n,en,hn⟩:=o.isr f2
    rw[en,Int.toNat_natCast]
    omega
   ·omega
 have:=sG h1 h2
 rw[List.length_map,List.length_range]at this
 exact this
theorem qE.push {l:List aK} {f:aK} (h:qE T l) (hf:f.Ok T) (ha:∀x∈l,U5 T x f):qE T (l++ [f]):=by
 refine⟨List.pairwise_append.2 ⟨h.pw,List.pairwise_singleton ..,fun a h1 b h2=>?_⟩,fun x hx=>?_⟩
 ·rw[List.mem_singleton]at h2;subst h2;exact ha a h1
 ·rcases List.mem_append.1 hx with hx|hx
  ·exact h.each x hx
  ·rw[List.mem_singleton]at hx;subst hx;exact hf
theorem qE.pop {l:List aK} (h:qE T l):qE T l.dropLast:=
 ⟨h.pw.sublist (List.dropLast_sublist l),fun x hx=>h.each x (List.dropLast_subset l hx)⟩
theorem qE.nil:qE T []:=⟨.nil,fun _ h=>by cases h⟩
def BR (l:List aK):aK:=match l.getLast? with|some f=>f|none=> .zero
theorem Jw (l:List aK) (f:aK):BR (l++ [f])=f:=by unfold BR;rw[List.getLast?_concat]
theorem zf {α:Type} (l:List α):l= []∨∃xs x,l=xs++ [x]:=by
 rcases List.eq_nil_or_concat l with h|⟨xs,x,h⟩
 ·exact .inl h
 ·exact .inr ⟨xs,x,by rw[h,List.concat_eq_append]⟩
theorem qE.last {l:List aK} (h:qE T l):∀f∈l,f=BR l∨U5 T f (BR l):=by
 rcases zf l with rfl|⟨xs,x,rfl⟩
 ·intro f hf;cases hf
 ·intro f hf
  rw[Jw]
  rcases List.mem_append.1 hf with hf|hf
  ·exact .inr ((List.pairwise_append.1 h.pw).2.2 f hf x (by simp))
  ·rw[List.mem_singleton]at hf;exact .inl hf
theorem qE.yQ {l:List aK} (h:qE T l):∀f∈l,f.yQ≤(BR l).yQ:=by
 intro f hf
 rcases h.last f hf with e|e|⟨e1,e2,_⟩
 ·rw[←e];exact Nat.le_refl _
 ·omega
 ·rw[aK.xQ e1,aK.xQ e2];exact Nat.le_refl _
theorem Jn {l:List aK} (h:l≠ []):BR l∈l:=by
 rcases zf l with rfl|⟨xs,x,rfl⟩
 ·exact absurd rfl h
 ·rw[Jw];simp
theorem qE.up {l:List aK} {f:aK} (h:qE T l) (hf:f.Ok T) (hc:l= []∨(BR l).yQ<f.yQ):qE T (l++ [f]):=by
 refine h.push hf fun x hx=> .inl ?_
 rcases hc with rfl|hc
 ·cases hx
 ·have:=h.yQ x hx
  omega
def aB.fs (k:aB):List aK:=k.frames.items.map (·.frame)
theorem aB.D8 (k:aB):k.top=BR k.fs:=by
 unfold aB.top aB.ctx aB.fs BR
 rw[List.getLast?_map]
 cases k.frames.items.getLast?<;>rfl
theorem bD.Zn {s:az} (hT:T.Ok) (h:bD T s) {y:kS} (hy:y∈T.rings):((s.q.nP y.aI.toNat).length:Int)≤y.cap:=by
 rw[hT.rs]at hy
 obtain⟨i,hi,_,rfl⟩:=(pK _ _ _).1 hy
 show((s.q.nP ((63:Int)-i).toNat).length:Int)≤kJ T.ay (63-i)
 have e0:((((63:Int)-i).toNat:Nat):Int)=63-i:=by omega
 unfold dC.nP
 split
 ·rename_i g hg
  have h1:=IR (T:=T) (p:=((63:Int)-i).toNat) (l:=g.items) (fun z hz=>h.q.ids _ g hg z hz) (fun k hk=>(hT.pr k hk).1) (fun j k' hk' hp=>by
   obtain⟨z,hz⟩:=h.t.one hk'
   have hc:=h.q.cnt j z k' g hz hk' (by rw[hp];exact hg)
   have hti:=h.t.each j z k' hz hk'
   have:=hti.a1
   rw[hti.lim]at this
   rw[hc]
   unfold eY.out
   split<;>omega) (fun k hk=>by have:=hT.lm k hk;omega)
  rw[e0]at h1
  exact h1
 ·have:(0:Int)<kJ T.ay (63-i):=by assumption
  simp only[List.length_nil]
  omega
structure UL (T:ah) (m:ug):Prop where
 len:m.rings.length=T.rings.length
 rings:∀(i:Nat) x y,m.rings[i]? =some x→T.rings[i]? =some y→x≤y.cap
 pre:m.pre≤T.depth
 frames:m.frames≤T.frames
 errors:m.errors≤T.errors
 calls:m.calls≤T.dU
structure YH (T:ah) (er:iI aK) (m:ug):Prop where
 fine:T.Fine
 el:er.items.length≤er.room
 mo:UL T m
structure bU (T:ah) (k:aB):Prop where
 c:bD T k.core
 fr:qE T k.fs
 tk:∀f∈k.fs,f.kind=1→f.id=k.core.tk.running∧k.core.tk.running≠ -1
 run:k.core.tk.running≠ -1→∃f∈k.fs,f.kind=1
 lv:k.core.leaving≠0→∀f∈k.fs,f.kind≠2
 dp:k.frames.depth=T.bf.length+4
 er:k.errors.room=T.most
 ek:∀f∈k.errors.items,f.kind=4
 cr:k.calls.room=T.zk
 cl:k.calls.items.Nodup∧∀x∈k.calls.items,∃(n:Nat) (a:gq),x=n∧T.ag[n]? =some a∧a.act.kind=3
 rq:k.board.req.length=32∧∀i∈k.board.wanted,∃n:Nat,i=n∧n<T.bf.length
 gt:k.gate.Ok∧∀x∈k.frames.items,x.gate.Ok
 ph:k.phase=0→k.fs= []∧k.errors.items= []∧k.calls.items= []
 x:YH T k.errors k.marks
theorem AO {α:Type} (p:α→Bool):∀(l:List α) (j n:Nat) (a:α),l[n]? =some a→p a=true→j+n∈bV p j l
 | [],_,_,_,h,_=>by simp at h
 |b::l,j,0,a,h,hp=>by
  simp at h
  subst h
  simp[bV,hp]
 |b::l,j,n+1,a,h,hp=>by
  have ih:=AO p l (j+1) n a (by simpa using h) hp
  have e:j+(n+1)=j+1+n:=by omega
  rw[e]
  unfold bV
  split
  ·exact List.mem_cons_of_mem _ ih
  ·exact ih
theorem sN {α:Type} (p:α→Bool) {l:List α} {n:Nat} {a:α} (h:l[n]? =some a) (hp:p a=true):n∈bV p 0 l:=by
 have:=AO p l 0 n a h hp
 rwa[Nat.zero_add]at this
theorem OL (h:bU T k):k.calls.items.length≤gY T.ag (fun a=>decide (a.act.kind=3)):=by
 have hs:k.calls.items ⊆ (bV (fun a:gq=>decide (a.act.kind=3)) 0 T.ag).map fun n:Nat=>(n:Int):=by
  intro x hx
  obtain⟨n,a,rfl,h1,h2⟩:=h.cl.2 x hx
  refine List.mem_map.2 ⟨n,?_,rfl⟩
  exact sN _ h1 (by simp[h2])
 have:=sG h.cl.1 hs
 rw[List.length_map,oq]at this
 exact this
theorem KN:k.fs.length=k.frames.items.length:=List.length_map ..
theorem ug.Vx {m:ug} {rs:List (List Int)} {a b c d:Nat} {i:Nat} {x:Int} (h:(m.up rs a b c d).rings[i]? =some x):∃y l,m.rings[i]? =some y∧rs[i]? =some l∧x=max y (l.length:Int):=by
 unfold ug.up at h
 simp only[List.getElem?_zipWith]at h
 cases h1:m.rings[i]? with
 |none=>rw[h1]at h;cases h
 |some y=>
  cases h2:rs[i]? with
  |none=>rw[h1,h2]at h;cases h
  |some l=>
   rw[h1,h2]at h
   cases h
   exact⟨y,l,rfl,rfl,rfl⟩
theorem A8 {s:az}:(s.look T).rings.length=T.rings.length:=by unfold az.look;rw[List.length_map]
theorem bU.mark (h:bU T k):bU T (k.mark T):=by
 refine⟨h.c,h.fr,h.tk,h.run,h.lv,h.dp,h.er,h.ek,h.cr,h.cl,h.rq,h.gt,h.ph,h.x.fine,h.x.el,?_⟩
 have hm:=h.x.mo
 have hF:=h.x.fine
 have hr:=hF.room
 refine⟨?_,fun i x y hx hy=>?_,?_,?_,?_,?_⟩
 ·show(List.zipWith (fun(x:Int) (l:List Int)=>max x (l.length:Int)) k.marks.rings (k.core.look T).rings).length=_
  rw[List.length_zipWith,hm.len,A8]
  omega
 ·obtain⟨z,l,h1,h2,rfl⟩:=ug.Vx hx
  have h3:=hm.rings i z y h1 hy
  have h4:(T.rings.map fun x=>k.core.q.nP x.aI.toNat)[i]? =some l:=h2
  rw[List.getElem?_map,hy]at h4
  cases h4
  exact Int.max_le.2 ⟨h3,h.c.Zn hF.ok (List.mem_of_getElem? hy)⟩
 ·have h1:=hm.pre
  have h2:=h.c.deep hF.ok
  unfold az.line at h2
  rw[List.length_append]at h2
  show max k.marks.pre (k.core.before.length:Int)≤T.depth
  omega
 ·have h1:=hm.frames
  have h2:=h.fr.len
  rw[KN]at h2
  show max k.marks.frames (k.frames.items.length:Int)≤T.frames
  omega
 ·have h1:=hm.errors
  have h2:=h.x.el
  rw[h.er]at h2
  show max k.marks.errors (k.errors.items.length:Int)≤T.errors
  omega
 ·have h1:=hm.calls
  have h2:=OL h
  have h3:gY T.ag (fun a=>decide (a.act.kind=3))≤T.zk:=Nat.le_add_right ..
  show max k.marks.calls (k.calls.items.length:Int)≤T.dU
  omega
theorem Wi {f:aK}:(k.begin T f).fs=k.fs++ [f]:=by
 unfold aB.begin aB.fs aB.mark
 simp
theorem bU.begin (h:bU T k) {f:aK} (hf:qE T (k.fs++ [f])) (h1:f.kind=1→f.id=k.core.tk.running∧k.core.tk.running≠ -1) (h2:f.kind=2→k.core.leaving=0) (hp:k.phase≠0):bU T (k.begin T f):=by
 have e:({k with frames:={k.frames with items:=k.frames.items++ [⟨f,k.gate⟩]},begun:=if 3≤f.kind then k.begun++ [f] else k.begun}:aB).fs=k.fs++ [f]:=by unfold aB.fs;simp
 unfold aB.begin
 refine bU.mark ⟨h.c,e▸hf,?_,?_,?_,h.dp,h.er,h.ek,h.cr,h.cl,h.rq,?_,fun hp'=>absurd hp' hp,h.x⟩
 ·rw[e]
  intro x hx hk
  rcases List.mem_append.1 hx with hx|hx
  ·exact h.tk x hx hk
  ·rw[List.mem_singleton]at hx;subst hx;exact h1 hk
 ·rw[e]
  intro hr
  obtain⟨x,hx,hk⟩:=h.run hr
  exact⟨x,List.mem_append_left _ hx,hk⟩
 ·rw[e]
  intro hl x hx hk
  rcases List.mem_append.1 hx with hx|hx
  ·exact h.lv hl x hx hk
  ·rw[List.mem_singleton]at hx;subst hx;exact hl (h2 hk)
 ·refine⟨h.gt.1,fun x hx=>?_⟩
  have hx':x∈k.frames.items++ [⟨f,k.gate⟩]:=hx
  rcases List.mem_append.1 hx' with hx'|hx'
  ·exact h.gt.2 x hx'
  ·rw[List.mem_singleton]at hx';subst hx';exact h.gt.1
theorem bU.room (h:bU T k) {f:aK} (hf:qE T (k.fs++ [f])):k.frames.items.length<k.frames.depth:=by
 have:=hf.len
 rw[List.length_append,KN,List.length_singleton]at this
 rw[h.dp]
 omega
theorem bU.fits (h:bU T k) {f:aK} (hf:f.Ok T) (hc:k.fs= []∨k.top.yQ<f.yQ):qE T (k.fs++ [f]):=by
 rw[k.D8]at hc
 exact h.fr.up hf hc
theorem bU.C9 (h:bU T k):k.fs= []∧k.top= .zero∨k.top∈k.fs∧k.top.Ok T:=by
 rw[k.D8]
 by_cases e:k.fs= []
 ·rw[e];exact .inl ⟨rfl,rfl⟩
 ·exact .inr ⟨Jn e,h.fr.each _ (Jn e)⟩
theorem aK.Ok.AB {kd id:Int} (h:1≤kd∧kd≤8) (h2:kd=2→∃n:Nat,id=n∧n<T.bf.length):(aK.of kd id).Ok T:=⟨h,h2⟩
theorem zl {f:aK} (h:f.kind≠4):f.yQ<4:=by
 have:=f.U0
 have:f.yQ≠4:=fun e=>h (aK.Ny.1 e)
 omega
theorem Dp {f:aK} (h:f.kind≠4) (h2:f.kind≠8):f.yQ<3:=by
 have:=zl h
 have:f.yQ≠3:=fun e=>h2 (aK.SE.1 e)
 omega
theorem PI {f:aK} (h0:1≤f.kind) (h:f.kind<3):f.yQ<2:=by
 unfold aK.yQ
 repeat' split
 all_goals omega
theorem bU.alone (h:bU T k) (hk:k.top.kind=1):∃c,k.frames.items=[c]∧k.fs=[c.frame]∧k.top=c.frame∧c.frame.id=k.core.tk.running∧k.core.tk.running≠ -1:=by
 rcases zf k.frames.items with e|⟨xs,c,e⟩
 ·unfold aB.top aB.ctx at hk
  rw[e]at hk
  cases hk
 ·have et:k.top=c.frame:=by unfold aB.top aB.ctx;rw[e,List.getLast?_concat]
  have ef:k.fs=xs.map (·.frame)++ [c.frame]:=by unfold aB.fs;rw[e];simp
  have hx:xs= []:=by
   cases xs with
   |nil=>rfl
   |cons y ys=>
    exfalso
    have:=h.fr.pw
    rw[ef]at this
    have h2:=(List.pairwise_append.1 this).2.2 y.frame (by simp) c.frame (by simp)
    rw[et]at hk
    rcases h2 with h2|⟨_,h2,_⟩
    ·rw[aK.Ap hk]at h2;omega
    ·omega
  subst hx
  have hm:c.frame∈k.fs:=by rw[ef];simp
  rw[et]at hk
  obtain⟨h3,h4⟩:=h.tk _ hm hk
  exact⟨c,e,by rw[ef];rfl,et,h3,h4⟩
theorem bU.PS (h:bU T k) (hr:k.core.tk.running≠ -1) (hk:k.top.kind<3) (h2:k.top.kind≠2):k.top.kind=1:=by
 obtain⟨f,hf,h1⟩:=h.run hr
 rcases h.C9 with⟨e,_⟩|⟨_,o⟩
 ·rw[e]at hf;cases hf
 ·have:=o.kd
  omega
theorem bU.none (h:bU T k) (hr:k.core.tk.running= -1) (hk:k.top.kind<3) (h2:k.top.kind≠2):k.fs= []:=by
 rcases h.C9 with⟨e,_⟩|⟨hm,o⟩
 ·exact e
 ·have h3:=o.kd
  have h4:k.top.kind=1:=by omega
  exact absurd hr (h.tk _ hm h4).2
end
section
variable {T:ah} {k:aB} {s:az}
theorem OU {α:Type} (f:α→Nat):∀(l:List α),(∀x∈l,f x=0)→(l.map f).sum=0
 | [],_=>rfl
 |a::l,h=>by
  rw[List.map_cons,List.sum_cons,h a (by simp),OU f l fun x hx=>h x (List.mem_cons_of_mem _ hx)]
theorem dC.Vw {q:dC} (h:q.Idle):q.len=0:=by
 unfold dC.len
 refine OU _ _ fun x hx=>?_
 obtain⟨i,hi⟩:=List.mem_iff_getElem?.1 hx
 cases x with
 |none=>rfl
 |some g=>
  have:=h i
  unfold dC.busy at this
  rw[hi]at this
  cases e:g.items with
  |nil=>simp[e]
  |cons a b=>simp[e]at this
theorem az.IX (h:bD T s) (hw:s.waiting=true):∃n c,s.runs T=some (n,c):=by
 suffices hp:∃p,s.next T=some p by
  obtain⟨⟨n,c⟩,hp⟩:=hp
  exact⟨n,_,by unfold az.runs;rw[hp];rfl⟩
 unfold az.next
 cases hg:s.l9 T with
 |some n=>exact⟨_,rfl⟩
 |none=>
  cases hq:s.q.high with
  |some p=>
   obtain⟨g,x,xs,e1,e2⟩:=(dC.rZ h.q.len hq).ring
   simp only[e1,e2]
   exact⟨_,rfl⟩
  |none=>
   exfalso
   have hi:=dC.Vw (dC.DF h.q.len hq)
   unfold az.waiting at hw
   rw[hi]at hw
   unfold az.l9 at hg
   rw[hq]at hg
   cases hb:s.before.getLast? with
   |none=>rw[List.getLast?_eq_none_iff]at hb;rw[hb]at hw;cases hw
   |some n=>rw[hb]at hg;cases hg
theorem Fh {lock:di} {j:Nat} {x:dn} (hx:T.ay[j]? =some x) (h0:0≤x.aI):
 T.eU.aI lock (oL j)≤T.eU.aI {lock with entered:=iE lock.entered (j:Int) (decide (0≤x.internal))} (oL j):=by
 have hr:=ah.Af hx
 have hf:=DT (fun r=>T.eU.fE.getD r.toNat 0) (lock.held (oL j)) x.aI
 have e:x.vU.aI=x.aI:=rfl
 have e2:x.vU.internal=x.internal:=rfl
 unfold kR.aI
 rw[hr]
 simp only[oL,iE,if_pos,e,e2,true_and]
 unfold oL at hf
 by_cases hi:0≤x.internal
 ·rw[decide_eq_true hi]
  simp only[if_true]
  split<;>omega
 ·rw[decide_eq_false hi]
  simp only[Bool.false_eq_true,if_false]
  split<;>omega
theorem az.Gl {n:Nat} {x:eY} {y:dn} {c:az} (hx:c.tk.ay[n]? =some x) (hy:T.ay[n]? =some y):
 c.start T n= {c with tk:=⟨c.tk.ay.set n {x with state:=0},n⟩,lock:={c.lock with entered:=iE c.lock.entered (n:Int) (decide (0≤y.internal))}}:=by
 unfold az.start
 simp only[Int.toNat_natCast,hx,hy]
theorem az.VN (hT:T.Ok) (h:bD T s) (hr:s.tk.running= -1) {n:Int} {c:az} (hn:s.runs T=some (n,c)):c.due T=false∧c.leaving=0∧0≤n:=by
 have hlv:s.leaving=0:=Decidable.byContradiction fun e=>h.lv.2.2.1 e hr
 obtain⟨hc,hcr⟩:=h.runs hT hr hn
 have key:c.leaving=0∧0≤n∧∀p',c.q.high=some p'→(p':Int)≤c.aI T n:=by
  unfold az.runs az.next at hn
  split at hn
  ·rename_i m hg
   simp only[Option.map_some,Option.some.injEq,Prod.mk.injEq]at hn
   obtain⟨rfl,rfl⟩:=hn
   have hs:=h.l9 hg
   obtain⟨j,x,rfl,hx,h2⟩:=h.b m (by rw[hs];simp)
   obtain⟨y,hy⟩:=h.t.row hx
   rw[az.Gl (c:={s with before:=s.before.dropLast}) hx hy]
   refine⟨hlv,by omega,fun p' hp'=>?_⟩
   have hp2:s.q.high=some p':=hp'
   unfold az.l9 at hg
   split at hg
   ·cases hg
   rw[hp2]at hg
   simp only at hg
   split at hg
   ·rename_i hle
    cases hg
    exact Int.le_trans hle (Fh (lock:=s.lock) hy (hT.pr y (List.mem_of_getElem? hy)).1)
   ·cases hg
  ·split at hn
   ·cases hn
   rename_i p hp
   have htop:=dC.rZ h.q.len hp
   split at hn
   ·rename_i g hg
    split at hn
    ·rename_i x xs hi
     simp only[Option.map_some,Option.some.injEq,Prod.mk.injEq]at hn
     obtain⟨rfl,rfl⟩:=hn
     obtain⟨j,y,rfl,hy,hyp⟩:=h.q.ids p g hg x (by rw[hi];simp)
     obtain⟨o,ho⟩:=h.t.one hy
     have hlen:=h.q.len
     rw[az.Gl (c:={s with q:=s.q.set p (some {g with items:=xs})}) ho hy]
     refine⟨hlv,by omega,fun p' hp'=>?_⟩
     have hp2:dC.high (s.q.set p (some {g with items:=xs}))=some p':=hp'
     have ht2:=dC.rZ (by rw[List.length_set];exact hlen) hp2
     have hle:p'≤p:=by
      refine Decidable.byContradiction fun hlt=>?_
      have h1:=htop.2 p' (by omega)
      have h2:=ht2.1
      unfold dC.busy at h1 h2
      rw[List.getElem?_set_ne (by omega)]at h2
      rw[h1]at h2
      cases h2
     have h0:=(hT.pr y (List.mem_of_getElem? hy)).1
     have hb:=wV (lock:=s.lock) hy
     rw[T.uX hy]at hb
     exact Int.le_trans (show(p':Int)≤T.eU.aI s.lock (oL j) by omega) (Fh (lock:=s.lock) hy h0)
    ·cases hn
   ·cases hn
 refine⟨?_,key.1,key.2.1⟩
 unfold az.due
 rw[hcr]
 cases hq:c.q.high with
 |none=>simp
 |some p'=>
  have:=key.2.2 p' hq
  have hd:decide (c.aI T n<(p':Int))=false:=decide_eq_false (by omega)
  simp only[hd,Bool.and_false]
theorem az.KY (h:bD T s) (hl:s.leaving≠0):(s.carry T).leaving=0∧(s.carry T).tk.running= -1:=by
 obtain⟨n,x,y,e,hx,hy,_⟩:=h.running (h.lv.2.2.1 hl)
 obtain⟨ev,hev⟩:∃ev,s.ev[n]? =some ev:=by
  have h1:=h.e.len
  have h2:=(List.getElem?_eq_some_iff.1 hy).1
  exact⟨_,List.getElem?_eq_getElem (by omega)⟩
 unfold az.carry
 rw[e,Int.toNat_natCast]
 simp only
 rw[hx]
 simp only
 rw[hev]
 simp only
 repeat' split
 all_goals exact⟨rfl,rfl⟩
theorem G7:∀(l:List Bool) (j n:Nat),l[n]? =some true→(bV (fun b:Bool=>b) j (l.set n false)).length+1=(bV (fun b:Bool=>b) j l).length
 | [],_,_,h=>by simp at h
 |b::l,j,0,h=>by
  simp at h
  subst h
  simp[bV]
 |b::l,j,n+1,h=>by
  have ih:=G7 l (j+1) n (by simpa using h)
  simp only[List.set_cons_succ,bV]
  split
  ·simp only[List.length_cons];omega
  ·exact ih
theorem pM {b:aJ} {i:Int}:i∈b.wanted↔∃n:Nat,i=n∧b.req[n]? =some true:=by
 unfold aJ.wanted
 rw[List.mem_map]
 constructor
 ·rintro⟨n,hn,rfl⟩
  obtain⟨_,a,h1,h2⟩:=qY _ _ _ _ hn
  simp only[Nat.sub_zero]at h1
  exact⟨n,rfl,by rw[h1,h2]⟩
 ·rintro⟨n,rfl,hn⟩
  refine⟨n,?_,rfl⟩
  exact sN _ hn rfl
theorem O6 {b:aJ} {i:Int} (h:i∈b.wanted):({b with req:=b.req.set i.toNat false}:aJ).wanted.length+1=b.wanted.length∧(∀j∈({b with req:=b.req.set i.toNat false}:aJ).wanted,j∈b.wanted):=by
 obtain⟨n,rfl,hn⟩:=pM.1 h
 rw[Int.toNat_natCast]
 constructor
 ·unfold aJ.wanted
  rw[List.length_map,List.length_map]
  exact G7 _ _ _ hn
 ·intro j hj
  obtain⟨m,rfl,hm⟩:=pM.1 hj
  refine pM.2 ⟨m,rfl,?_⟩
  rcases jP hm with⟨_,e,_⟩|⟨_,e⟩
  ·cases e
  ·exact e
theorem foldl_keeps {α β:Type} (P:β→Prop) (f:β→α→β):∀(l:List α) (b:β),P b→(∀b a,a∈l→P b→P (f b a))→P (l.foldl f b)
 | [],_,h,_=>h
 |a::l,b,h,hf=>foldl_keeps P f l (f b a) (hf b a (by simp) h) fun b' a' ha=>hf b' a' (List.mem_cons_of_mem _ ha)
theorem Ur {t:fV} {b:aJ} {lv:Int} {g:lg} (h:0≤t.next b lv g):t.next b lv g∈b.wanted∧∃x,t.bf[(t.next b lv g).toNat]? =some x∧lv<x.2:=by
 have key:=foldl_keeps (fun p:Int × Int=>p.1= -1∧p.2=lv∨p.1∈b.wanted∧lv<p.2∧∃x,t.bf[p.1.toNat]? =some x∧x.2=p.2) (t.jB g) b.wanted (-1,lv) (.inl ⟨rfl,rfl⟩) fun p i hi hp=>by
  unfold fV.jB
  split
  ·rename_i x hx
   split
   ·rename_i hc
    refine .inr ⟨hi,?_,x,hx,rfl⟩
    simp only
    rcases hp with⟨_,hp⟩|⟨_,hp,_⟩<;>omega
   ·exact hp
  ·exact hp
 unfold fV.next at*
 rcases key with⟨hk,_⟩|⟨h1,h2,x,h3,h4⟩
 ·omega
 ·exact⟨h1,x,h3,by omega⟩
theorem ah.UQ {n:Nat} {x:Int × Int} (h:T.aV.bf[n]? =some x):n<T.bf.length∧x.2=T.sQ n:=by
 unfold ah.aV at h
 simp only[List.getElem?_map]at h
 cases e:T.bf[n]? with
 |none=>rw[e]at h;cases h
 |some y=>
  rw[e]at h
  cases h
  refine⟨(List.getElem?_eq_some_iff.1 e).1,?_⟩
  unfold ah.sQ
  rw[Int.toNat_natCast,e]
theorem ah.CU {n:Nat} {x:kG} (h:T.bf[n]? =some x):T.eU.rows (eQ n)=some x.vU:=by
 unfold ah.eU ah.AP eQ
 simp only[Int.toNat_natCast,h]
 rw[if_neg (by omega)]
 rfl
theorem Vl (lock:di) {n:Nat} (h:n<T.bf.length):T.sQ n≤T.eU.aI lock (eQ n):=by
 have e:=List.getElem?_eq_getElem h
 have:=QQ (s:=lock) (ah.CU e)
 unfold ah.sQ
 rw[Int.toNat_natCast,e]
 exact this
end
section
variable {w0 w:World} {l:List SL} {r:Nat} {T:ah} {k:aB} {G:Value→Prop}
theorem TL (h:In w0 w (eF G r T k::l)) (sk si sv sa sb sc kd id st fv pa:Int) (ha:0≤sa∧sa<4294967296) (ho:k.core.acts (eQ id)):
 Calls prog 222 #[r,.agg #[.int .i64 sk,.int .i64 si,.int .i64 16,.int .u32 sa,.int .u32 sb,.int .u32 sc],.agg #[.int .i64 2,.int .i64 id,.int .i64 st,.int .i64 fv,.int .u32 pa]] w (qH w0 G r T l ({k with core:=(k.core.get T (eQ id) (jL sa T.bP.length)).1},(0,0,0),(k.core.get T (eQ id) (jL sa T.bP.length)).2)):=by
 unfold qH kz
 obtain⟨B,x,a,h0⟩:=fK h
 rcases x with⟨vt,vr,vs,vc,va,vi,vm,pc,pb,pf,pe,pq,vk,vb,vx⟩
 obtain⟨at_,ct,e⟩:∃ao cap,vs= .slice ao T.bP.length cap:=a.tab.bP.form
 subst e
 simp only at h0⊢
 have h1:=h0.iQ (uf sk si 16 sa sb sc) (qo 2 id st fv pa) wL
 have hnum:=jT sa T.bP.length ha.1 ha.2 (by have:=a.fine.bP;omega)
 generalize jL sa T.bP.length=n at*
 have hcall:∀w' l',In w0 w' (Core pc T k.core::l')→_:=fun w' l' h=>V8 (l:=l') h ho n
 have hsh:∀w' l',In w0 w' (Core pc T (k.core.get T (eQ id) n).1::pts r (aX T k ⟨vt,vr,.slice at_ T.bP.length ct,vc,va,vi,vm,pc,pb,pf,pe,pq,vk,vb,vx⟩)::bJ B::je pb T.aV k.board::gG pf k.frames::dV pe k.errors::dG pq k.calls::Ints vk k.marks.rings::gQ vb k.begun::Ints vx k.aO::l')→In w0 w' (eF G r T {k with core:=(k.core.get T (eQ id) n).1}::l'):=fun w' l' h=>bY a h
 generalize (k.core.get T (eQ id) n).1=c1 at*
 generalize (k.core.get T (eQ id) n).2=st1 at*
 unfold dJ eQ at hcall
 simp only at hcall
 skip
 clear h h0 a ha ho
 go_enter func222,ntmps222
 go_upto_region 1 with(fail)
 refine In.abs h1 ?_
 clear h1
 generalize w.heap.size=z
 intro w2 h2
 have h3:=h2.pr [3,3,3,3,3,3,3,3,3,3,2,1,0]
 clear h2
 have bC:=(h3.ae p1).cells
 have fZ:=(h3.ae p10).cells
 have Dw:=(h3.ae p11).cells
 have hiT:∀(u:Value) (w:World),(Instr.makeInterface 344 u).run prog w= .ok (.iface 344 u) w:=fun _ _=>rfl
 have hiI:∀(u:Value) (w:World),(Instr.makeInterface 117 u).run prog w= .ok (.iface 117 u) w:=fun _ _=>rfl
 have hme:∀(n:Int) (w:World),(method 588 117 (.int .i64 n) "tappet/kernel.owner").run prog w= .ok (45,.int .i64 n) w:=fun n w=>by kernel_rfl
 go_upto_region 4 with(fail)
 refine rg ⟨[],[8]⟩ [.c 0 0,.c 1 1,.c 0 2,.c 0 3,.c 0 4,.c 0 5,.c 1 6,.c 0 7,.e 8,.c 0 9] ?_
 refine rG ?_;intro K hK
 go_wp2_with (go_at_call 312;refine bW (hnum _) ?_)
 go_wp2_with fail
 refine lK ?_
 have h4:=h3.drew
 go_upto_region 6 with(fail)
 refine In.abs h4 ?_
 clear h4 h3 bC fZ Dw hnum
 intro w4 h4
 have hS0:=(h4.drew).ps [1,9]
 refine nK hS0 ⟨[0,6],[8,9]⟩ [.c 0 1,.c 0 2,.c 0 3,.c 2 4,.c 0 5,.c 0 7,.e 0,.e 6,.e 8,.e 9,.c 0 10] ?_
 refine nD ?_;intro K hK
 go_wp2_with (go_at_call 306;refine bF (jD h4.drew 0) ?_;intro w5 h5)
 go_wp2_with fail
 refine df hK ((h5).s) fun hS0=>?_
 refine gz rfl rfl fun K hK=>?_
 go_wp2_with (go_at_call 45;refine bF (tJ h5 id) ?_;intro w6 h6)
 go_wp2_with fail
 refine df hK ((h6).s) fun hS0=>?_
 refine bG rfl rfl fun K hK=>?_
 have hca:=hcall _ _ h6
 go_wp2_with (go_at_call 320;refine bF hca ?_;intro w7 h7)
 have jO:=(h7.ae p12).cells
 have jb:=(h7.ae p12).free
 go_wp2_with fail
 refine bG rfl rfl fun K hK=>?_
 go_wp2_with fail
 refine wM ?_
 go_wp2_with fail
 have h8:=(h7.ae p12).fill [.int .u32 0,.int .u32 0,.int .u32 0] rfl
 simp only[dm]at h8
 refine In.abs h8 ?_
 clear h8 h7 h6 h5 h4 jO jb hcall
 intro w8 h8
 have hc:=h8.cells
 refine bodyPost_ret (v:= .tuple #[.agg #[.int .u32 0,.int .u32 0,.int .u32 0],.int .i64 st1]) (by simp[results,results222,go_sem,hc]) rfl ?_
 exact⟨rfl,hsh _ _ (h8.s)⟩
theorem SA (h:In w0 w (eF G r T k::l)) (sk si sv sa sb sc kd id st fv pa:Int) (ha:0≤sa∧sa<4294967296) (hs:sv≠16) (ho:k.core.acts (eQ id)):
 Calls prog 222 #[r,.agg #[.int .i64 sk,.int .i64 si,.int .i64 sv,.int .u32 sa,.int .u32 sb,.int .u32 sc],.agg #[.int .i64 2,.int .i64 id,.int .i64 st,.int .i64 fv,.int .u32 pa]] w (qH w0 G r T l ({k with core:=(k.core.release T (eQ id) (jL sa T.bP.length)).1},(0,0,0),(k.core.release T (eQ id) (jL sa T.bP.length)).2)):=by
 unfold qH kz
 obtain⟨B,x,a,h0⟩:=fK h
 rcases x with⟨vt,vr,vs,vc,va,vi,vm,pc,pb,pf,pe,pq,vk,vb,vx⟩
 obtain⟨at_,ct,e⟩:∃ao cap,vs= .slice ao T.bP.length cap:=a.tab.bP.form
 subst e
 simp only at h0⊢
 have h1:=h0.iQ (uf sk si sv sa sb sc) (qo 2 id st fv pa) wL
 have hnum:=jT sa T.bP.length ha.1 ha.2 (by have:=a.fine.bP;omega)
 generalize jL sa T.bP.length=n at*
 have hcall:∀w' l',In w0 w' (Core pc T k.core::l')→_:=fun w' l' h=>GM (l:=l') h ho n
 have hsh:∀w' l',In w0 w' (Core pc T (k.core.release T (eQ id) n).1::pts r (aX T k ⟨vt,vr,.slice at_ T.bP.length ct,vc,va,vi,vm,pc,pb,pf,pe,pq,vk,vb,vx⟩)::bJ B::je pb T.aV k.board::gG pf k.frames::dV pe k.errors::dG pq k.calls::Ints vk k.marks.rings::gQ vb k.begun::Ints vx k.aO::l')→In w0 w' (eF G r T {k with core:=(k.core.release T (eQ id) n).1}::l'):=fun w' l' h=>bY a h
 generalize (k.core.release T (eQ id) n).1=c1 at*
 generalize (k.core.release T (eQ id) n).2=st1 at*
 unfold dJ eQ at hcall
 simp only at hcall
 have hs2:(sv==16)=false:=by simpa using hs
 clear hs
 clear h h0 a ha ho
 go_enter func222,ntmps222
 go_upto_region 1 with(fail)
 refine In.abs h1 ?_
 clear h1
 generalize w.heap.size=z
 intro w2 h2
 have h3:=h2.pr [3,3,3,3,3,3,3,3,3,3,2,1,0]
 clear h2
 have bC:=(h3.ae p1).cells
 have fZ:=(h3.ae p10).cells
 have Dw:=(h3.ae p11).cells
 have hiT:∀(u:Value) (w:World),(Instr.makeInterface 344 u).run prog w= .ok (.iface 344 u) w:=fun _ _=>rfl
 have hiI:∀(u:Value) (w:World),(Instr.makeInterface 117 u).run prog w= .ok (.iface 117 u) w:=fun _ _=>rfl
 have hme:∀(n:Int) (w:World),(method 588 117 (.int .i64 n) "tappet/kernel.owner").run prog w= .ok (45,.int .i64 n) w:=fun n w=>by kernel_rfl
 go_upto_region 4 with(fail)
 refine rg ⟨[],[8]⟩ [.c 0 0,.c 1 1,.c 0 2,.c 0 3,.c 0 4,.c 0 5,.c 1 6,.c 0 7,.e 8,.c 0 9] ?_
 refine rG ?_;intro K hK
 go_wp2_with (go_at_call 312;refine bW (hnum _) ?_)
 go_wp2_with fail
 refine lK ?_
 have h4:=h3.drew
 go_upto_region 7 with(fail)
 refine In.abs h4 ?_
 clear h4 h3 bC fZ Dw hnum
 intro w4 h4
 have hS0:=(h4.drew).ps [1,9]
 refine nK hS0 ⟨[0,6],[8,9]⟩ [.c 0 1,.c 0 2,.c 0 3,.c 2 4,.c 0 5,.c 0 7,.e 0,.e 6,.e 8,.e 9,.c 0 10] ?_
 refine nD ?_;intro K hK
 go_wp2_with (go_at_call 306;refine bF (jD h4.drew 0) ?_;intro w5 h5)
 go_wp2_with fail
 refine df hK ((h5).s) fun hS0=>?_
 refine gz rfl rfl fun K hK=>?_
 go_wp2_with (go_at_call 45;refine bF (tJ h5 id) ?_;intro w6 h6)
 go_wp2_with fail
 refine df hK ((h6).s) fun hS0=>?_
 refine bG rfl rfl fun K hK=>?_
 have hca:=hcall _ _ h6
 go_wp2_with (go_at_call 321;refine bF hca ?_;intro w7 h7)
 have jO:=(h7.ae p12).cells
 have jb:=(h7.ae p12).free
 go_wp2_with fail
 refine bG rfl rfl fun K hK=>?_
 go_wp2_with fail
 refine wM ?_
 go_wp2_with fail
 have h8:=(h7.ae p12).fill [.int .u32 0,.int .u32 0,.int .u32 0] rfl
 simp only[dm]at h8
 refine In.abs h8 ?_
 clear h8 h7 h6 h5 h4 jO jb hcall
 intro w8 h8
 have hc:=h8.cells
 refine bodyPost_ret (v:= .tuple #[.agg #[.int .u32 0,.int .u32 0,.int .u32 0],.int .i64 st1]) (by simp[results,results222,go_sem,hc]) rfl ?_
 exact⟨rfl,hsh _ _ (h8.s)⟩
theorem Pm (h:In w0 w (eF G r T k::l)) (sk si sv sa sb sc kd id st fv pa:Int) (ha:0≤sa∧sa<4294967296) (hk:kd≠2) (ho:k.core.acts (oL id)):
 Calls prog 222 #[r,.agg #[.int .i64 sk,.int .i64 si,.int .i64 16,.int .u32 sa,.int .u32 sb,.int .u32 sc],.agg #[.int .i64 kd,.int .i64 id,.int .i64 st,.int .i64 fv,.int .u32 pa]] w (qH w0 G r T l ({k with core:=(k.core.get T (oL id) (jL sa T.bP.length)).1},(0,0,0),(k.core.get T (oL id) (jL sa T.bP.length)).2)):=by
 unfold qH kz
 obtain⟨B,x,a,h0⟩:=fK h
 rcases x with⟨vt,vr,vs,vc,va,vi,vm,pc,pb,pf,pe,pq,vk,vb,vx⟩
 obtain⟨at_,ct,e⟩:∃ao cap,vs= .slice ao T.bP.length cap:=a.tab.bP.form
 subst e
 simp only at h0⊢
 have h1:=h0.iQ (uf sk si 16 sa sb sc) (qo kd id st fv pa) wL
 have hnum:=jT sa T.bP.length ha.1 ha.2 (by have:=a.fine.bP;omega)
 generalize jL sa T.bP.length=n at*
 have hcall:∀w' l',In w0 w' (Core pc T k.core::l')→_:=fun w' l' h=>V8 (l:=l') h ho n
 have hsh:∀w' l',In w0 w' (Core pc T (k.core.get T (oL id) n).1::pts r (aX T k ⟨vt,vr,.slice at_ T.bP.length ct,vc,va,vi,vm,pc,pb,pf,pe,pq,vk,vb,vx⟩)::bJ B::je pb T.aV k.board::gG pf k.frames::dV pe k.errors::dG pq k.calls::Ints vk k.marks.rings::gQ vb k.begun::Ints vx k.aO::l')→In w0 w' (eF G r T {k with core:=(k.core.get T (oL id) n).1}::l'):=fun w' l' h=>bY a h
 generalize (k.core.get T (oL id) n).1=c1 at*
 generalize (k.core.get T (oL id) n).2=st1 at*
 unfold dJ oL at hcall
 simp only at hcall
 have hk2:(kd==2)=false:=by simpa using hk
 clear hk
 clear h h0 a ha ho
 go_enter func222,ntmps222
 go_upto_region 1 with(fail)
 refine In.abs h1 ?_
 clear h1
 generalize w.heap.size=z
 intro w2 h2
 have h3:=h2.pr [3,3,3,3,3,3,3,3,3,3,2,1,0]
 clear h2
 have bC:=(h3.ae p1).cells
 have fZ:=(h3.ae p10).cells
 have Dw:=(h3.ae p11).cells
 have hiT:∀(u:Value) (w:World),(Instr.makeInterface 344 u).run prog w= .ok (.iface 344 u) w:=fun _ _=>rfl
 have hiI:∀(u:Value) (w:World),(Instr.makeInterface 117 u).run prog w= .ok (.iface 117 u) w:=fun _ _=>rfl
 have hme:∀(n:Int) (w:World),(method 588 344 (.int .i64 n) "tappet/kernel.owner").run prog w= .ok (245,.int .i64 n) w:=fun n w=>by kernel_rfl
 go_upto_region 4 with(fail)
 refine rg ⟨[],[8]⟩ [.c 0 0,.c 1 1,.c 0 2,.c 0 3,.c 0 4,.c 0 5,.c 1 6,.c 0 7,.e 8,.c 0 9] ?_
 refine rG ?_;intro K hK
 go_wp2_with (go_at_call 312;refine bW (hnum _) ?_)
 go_wp2_with fail
 refine lK ?_
 have h4:=h3.drew
 go_upto_region 6 with(fail)
 refine In.abs h4 ?_
 clear h4 h3 bC fZ Dw hnum
 intro w4 h4
 have hS0:=(h4.drew).ps [1,9]
 refine nK hS0 ⟨[0,6],[8,9]⟩ [.c 0 1,.c 0 2,.c 0 3,.c 2 4,.c 0 5,.c 0 7,.e 0,.e 6,.e 8,.e 9,.c 0 10] ?_
 refine nD ?_;intro K hK
 go_wp2_with (go_at_call 306;refine bF (jD h4.drew 0) ?_;intro w5 h5)
 go_wp2_with fail
 refine df hK ((h5).s) fun hS0=>?_
 refine gz rfl rfl fun K hK=>?_
 go_wp2_with (go_at_call 245;refine bF (Ef h5 id) ?_;intro w6 h6)
 go_wp2_with fail
 refine df hK ((h6).s) fun hS0=>?_
 refine bG rfl rfl fun K hK=>?_
 have hca:=hcall _ _ h6
 go_wp2_with (go_at_call 320;refine bF hca ?_;intro w7 h7)
 have jO:=(h7.ae p12).cells
 have jb:=(h7.ae p12).free
 go_wp2_with fail
 refine bG rfl rfl fun K hK=>?_
 go_wp2_with fail
 refine wM ?_
 go_wp2_with fail
 have h8:=(h7.ae p12).fill [.int .u32 0,.int .u32 0,.int .u32 0] rfl
 simp only[dm]at h8
 refine In.abs h8 ?_
 clear h8 h7 h6 h5 h4 jO jb hcall
 intro w8 h8
 have hc:=h8.cells
 refine bodyPost_ret (v:= .tuple #[.agg #[.int .u32 0,.int .u32 0,.int .u32 0],.int .i64 st1]) (by simp[results,results222,go_sem,hc]) rfl ?_
 exact⟨rfl,hsh _ _ (h8.s)⟩
theorem Qc (h:In w0 w (eF G r T k::l)) (sk si sv sa sb sc kd id st fv pa:Int) (ha:0≤sa∧sa<4294967296) (hk:kd≠2) (hs:sv≠16) (ho:k.core.acts (oL id)):
 Calls prog 222 #[r,.agg #[.int .i64 sk,.int .i64 si,.int .i64 sv,.int .u32 sa,.int .u32 sb,.int .u32 sc],.agg #[.int .i64 kd,.int .i64 id,.int .i64 st,.int .i64 fv,.int .u32 pa]] w (qH w0 G r T l ({k with core:=(k.core.release T (oL id) (jL sa T.bP.length)).1},(0,0,0),(k.core.release T (oL id) (jL sa T.bP.length)).2)):=by
 unfold qH kz
 obtain⟨B,x,a,h0⟩:=fK h
 rcases x with⟨vt,vr,vs,vc,va,vi,vm,pc,pb,pf,pe,pq,vk,vb,vx⟩
 obtain⟨at_,ct,e⟩:∃ao cap,vs= .slice ao T.bP.length cap:=a.tab.bP.form
 subst e
 simp only at h0⊢
 have h1:=h0.iQ (uf sk si sv sa sb sc) (qo kd id st fv pa) wL
 have hnum:=jT sa T.bP.length ha.1 ha.2 (by have:=a.fine.bP;omega)
 generalize jL sa T.bP.length=n at*
 have hcall:∀w' l',In w0 w' (Core pc T k.core::l')→_:=fun w' l' h=>GM (l:=l') h ho n
 have hsh:∀w' l',In w0 w' (Core pc T (k.core.release T (oL id) n).1::pts r (aX T k ⟨vt,vr,.slice at_ T.bP.length ct,vc,va,vi,vm,pc,pb,pf,pe,pq,vk,vb,vx⟩)::bJ B::je pb T.aV k.board::gG pf k.frames::dV pe k.errors::dG pq k.calls::Ints vk k.marks.rings::gQ vb k.begun::Ints vx k.aO::l')→In w0 w' (eF G r T {k with core:=(k.core.release T (oL id) n).1}::l'):=fun w' l' h=>bY a h
 generalize (k.core.release T (oL id) n).1=c1 at*
 generalize (k.core.release T (oL id) n).2=st1 at*
 unfold dJ oL at hcall
 simp only at hcall
 have hk2:(kd==2)=false:=by simpa using hk
 clear hk
 have hs2:(sv==16)=false:=by simpa using hs
 clear hs
 clear h h0 a ha ho
 go_enter func222,ntmps222
 go_upto_region 1 with(fail)
 refine In.abs h1 ?_
 clear h1
 generalize w.heap.size=z
 intro w2 h2
 have h3:=h2.pr [3,3,3,3,3,3,3,3,3,3,2,1,0]
 clear h2
 have bC:=(h3.ae p1).cells
 have fZ:=(h3.ae p10).cells
 have Dw:=(h3.ae p11).cells
 have hiT:∀(u:Value) (w:World),(Instr.makeInterface 344 u).run prog w= .ok (.iface 344 u) w:=fun _ _=>rfl
 have hiI:∀(u:Value) (w:World),(Instr.makeInterface 117 u).run prog w= .ok (.iface 117 u) w:=fun _ _=>rfl
 have hme:∀(n:Int) (w:World),(method 588 344 (.int .i64 n) "tappet/kernel.owner").run prog w= .ok (245,.int .i64 n) w:=fun n w=>by kernel_rfl
 go_upto_region 4 with(fail)
 refine rg ⟨[],[8]⟩ [.c 0 0,.c 1 1,.c 0 2,.c 0 3,.c 0 4,.c 0 5,.c 1 6,.c 0 7,.e 8,.c 0 9] ?_
 refine rG ?_;intro K hK
 go_wp2_with (go_at_call 312;refine bW (hnum _) ?_)
 go_wp2_with fail
 refine lK ?_
 have h4:=h3.drew
 go_upto_region 7 with(fail)
 refine In.abs h4 ?_
 clear h4 h3 bC fZ Dw hnum
 intro w4 h4
 have hS0:=(h4.drew).ps [1,9]
 refine nK hS0 ⟨[0,6],[8,9]⟩ [.c 0 1,.c 0 2,.c 0 3,.c 2 4,.c 0 5,.c 0 7,.e 0,.e 6,.e 8,.e 9,.c 0 10] ?_
 refine nD ?_;intro K hK
 go_wp2_with (go_at_call 306;refine bF (jD h4.drew 0) ?_;intro w5 h5)
 go_wp2_with fail
 refine df hK ((h5).s) fun hS0=>?_
 refine gz rfl rfl fun K hK=>?_
 go_wp2_with (go_at_call 245;refine bF (Ef h5 id) ?_;intro w6 h6)
 go_wp2_with fail
 refine df hK ((h6).s) fun hS0=>?_
 refine bG rfl rfl fun K hK=>?_
 have hca:=hcall _ _ h6
 go_wp2_with (go_at_call 321;refine bF hca ?_;intro w7 h7)
 have jO:=(h7.ae p12).cells
 have jb:=(h7.ae p12).free
 go_wp2_with fail
 refine bG rfl rfl fun K hK=>?_
 go_wp2_with fail
 refine wM ?_
 go_wp2_with fail
 have h8:=(h7.ae p12).fill [.int .u32 0,.int .u32 0,.int .u32 0] rfl
 simp only[dm]at h8
 refine In.abs h8 ?_
 clear h8 h7 h6 h5 h4 jO jb hcall
 intro w8 h8
 have hc:=h8.cells
 refine bodyPost_ret (v:= .tuple #[.agg #[.int .u32 0,.int .u32 0,.int .u32 0],.int .i64 st1]) (by simp[results,results222,go_sem,hc]) rfl ?_
 exact⟨rfl,hsh _ _ (h8.s)⟩
end
def UD:Int→Option Nat:=(upd (upd (upd (upd (upd (upd (upd (upd (upd (upd (upd (upd (upd (upd (upd (upd (upd (upd (upd (upd (upd (upd (upd (upd (upd (upd (fun _=>none) 1 (some 212)) 2 (some 213)) 3 (some 214)) 4 (some 215)) 5 (some 216)) 6 (some 217)) 7 (some 218)) 8 (some 219)) 9 (some 220)) 10 (some 221)) 11 (some 221)) 12 (some 221)) 13 (some 221)) 14 (some 221)) 15 (some 221)) 16 (some 222)) 17 (some 222)) 18 (some 223)) 19 (some 224)) 20 (some 225)) 21 (some 226)) 22 (some 227)) 23 (some 228)) 24 (some 229)) 25 (some 230)) 26 (some 231))
section
variable {w0 w:World} {l:List SL}
theorem Nl (h:In w0 w l):Calls prog 82 #[] w fun e w'=>∃g,e= .returned (.map (some g))∧In w0 w' (fC g gZ Io UD::l):=by
 have hmm:=@run_makeMap prog
 have h0:=kH gZ Io (h.alloc (.map #[] 0))
 go_enter func82,ntmps82
 go_wp2_with (with_reducible apply nS)
 unfold Stop
 refine In.abs h0 ?_
 clear h0 h hmm
 generalize w.heap.size=g
 intro w1 h1
 refine aN nG underlying182 h1 1 212 (by rfl) (by rfl) (by rfl) ?_
 clear h1
 intro w2 h2
 refine aN nG underlying182 h2 2 213 (by rfl) (by rfl) (by rfl) ?_
 clear h2
 intro w3 h3
 refine aN nG underlying182 h3 3 214 (by rfl) (by rfl) (by rfl) ?_
 clear h3
 intro w4 h4
 refine aN nG underlying182 h4 4 215 (by rfl) (by rfl) (by rfl) ?_
 clear h4
 intro w5 h5
 refine aN nG underlying182 h5 5 216 (by rfl) (by rfl) (by rfl) ?_
 clear h5
 intro w6 h6
 refine aN nG underlying182 h6 6 217 (by rfl) (by rfl) (by rfl) ?_
 clear h6
 intro w7 h7
 refine aN nG underlying182 h7 7 218 (by rfl) (by rfl) (by rfl) ?_
 clear h7
 intro w8 h8
 refine aN nG underlying182 h8 8 219 (by rfl) (by rfl) (by rfl) ?_
 clear h8
 intro w9 h9
 refine aN nG underlying182 h9 9 220 (by rfl) (by rfl) (by rfl) ?_
 clear h9
 intro w10 h10
 refine aN nG underlying182 h10 10 221 (by rfl) (by rfl) (by rfl) ?_
 clear h10
 intro w11 h11
 refine aN nG underlying182 h11 11 221 (by rfl) (by rfl) (by rfl) ?_
 clear h11
 intro w12 h12
 refine aN nG underlying182 h12 12 221 (by rfl) (by rfl) (by rfl) ?_
 clear h12
 intro w13 h13
 refine aN nG underlying182 h13 13 221 (by rfl) (by rfl) (by rfl) ?_
 clear h13
 intro w14 lM
 refine aN nG underlying182 lM 14 221 (by rfl) (by rfl) (by rfl) ?_
 clear lM
 intro w15 h15
 refine aN nG underlying182 h15 15 221 (by rfl) (by rfl) (by rfl) ?_
 clear h15
 intro w16 h16
 refine aN nG underlying182 h16 16 222 (by rfl) (by rfl) (by rfl) ?_
 clear h16
 intro w17 h17
 refine aN nG underlying182 h17 17 222 (by rfl) (by rfl) (by rfl) ?_
 clear h17
 intro w18 h18
 refine aN nG underlying182 h18 18 223 (by rfl) (by rfl) (by rfl) ?_
 clear h18
 intro w19 h19
 refine aN nG underlying182 h19 19 224 (by rfl) (by rfl) (by rfl) ?_
 clear h19
 intro w20 h20
 refine aN nG underlying182 h20 20 225 (by rfl) (by rfl) (by rfl) ?_
 clear h20
 intro w21 h21
 refine aN nG underlying182 h21 21 226 (by rfl) (by rfl) (by rfl) ?_
 clear h21
 intro w22 h22
 refine aN nG underlying182 h22 22 227 (by rfl) (by rfl) (by rfl) ?_
 clear h22
 intro w23 h23
 refine aN nG underlying182 h23 23 228 (by rfl) (by rfl) (by rfl) ?_
 clear h23
 intro w24 Uz
 refine aN nG underlying182 Uz 24 229 (by rfl) (by rfl) (by rfl) ?_
 clear Uz
 intro w25 UA
 refine aN nG underlying182 UA 25 230 (by rfl) (by rfl) (by rfl) ?_
 clear UA
 intro w26 h26
 refine aN nG underlying182 h26 26 231 (by rfl) (by rfl) (by rfl) ?_
 clear h26
 intro w27 h27
 go_wp2_with fail
 go_ret
 exact⟨g,rfl,h27⟩
end
def LY (f:aK):bK:=if f.kind=2 then eQ f.id else oL f.id
structure GX (T:ah) (k:aB) (s:iH) (f:aK):Prop where
 a0:0≤s.a∧s.a<4294967296
 b0:0≤s.b∧s.b≤4294967295
 c0:0≤s.c
 bg:k.begun.length≤100000
 dp:0<k.frames.depth
 room:s.service=5∨s.service=6∨s.service=7∨s.service=21→T.use 16=true→k.frames.items.length<k.frames.depth
 gt:k.gate.Ok
 lf:k.board.Jv
 ac:s.service=16∨s.service=17→k.core.acts (LY f)
theorem GX.left {T:ah} {k:aB} {s:iH} {f:aK} (n:GX T k s f) (hs:s.service=5∨s.service=6∨s.service=7∨s.service=21) (p:az × Int):uV T k p:=⟨fun _ _ h=>n.room hs h,n.bg⟩
section
variable {w0 w:World} {l:List SL} {r:Nat} {T:ah} {k:aB} {G:Value→Prop}
theorem VO {s:iH} {f:aK} (n:GX T k s f) (h1:1≤s.service∧s.service≤26):∃fn,UD s.service=some fn∧(∀args w,(callFunc fn args).run prog w= .ok (.enter fn args) w)∧
 ∀w' l',In w0 w' (eF G r T k::l')→Calls prog fn #[r,iL s,cO f] w' (qH w0 G r T l' (k.serve T s f)):=by
 rcases s with⟨sk,si,sv,sa,sb,sc⟩
 simp only at h1
 have hc:sv=1∨sv=2∨sv=3∨sv=4∨sv=5∨sv=6∨sv=7∨sv=8∨sv=9∨sv=10∨sv=11∨sv=12∨sv=13∨sv=14∨sv=15∨sv=16∨sv=17∨sv=18∨sv=19∨sv=20∨sv=21∨sv=22∨sv=23∨sv=24∨sv=25∨sv=26:=by omega
 clear h1
 rcases hc with rfl|rfl|rfl|rfl|rfl|rfl|rfl|rfl|rfl|rfl|rfl|rfl|rfl|rfl|rfl|rfl|rfl|rfl|rfl|rfl|rfl|rfl|rfl|rfl|rfl|rfl
 ·exact⟨_,rfl,fun _ _=>rfl,fun w' l' h=>P9 h _ f⟩
 ·exact⟨_,rfl,fun _ _=>rfl,fun w' l' h=>Nk h _ f n.a0 n.bg n.dp⟩
 ·exact⟨_,rfl,fun _ _=>rfl,fun w' l' h=>Ii h _ f⟩
 ·exact⟨_,rfl,fun _ _=>rfl,fun w' l' h=>Nj h _ f n.a0⟩
 ·exact⟨_,rfl,fun _ _=>rfl,fun w' l' h=>KH h _ f (n.left (by simp) _)⟩
 ·exact⟨_,rfl,fun _ _=>rfl,fun w' l' h=>Xt h _ f n.a0 (n.left (by simp) _)⟩
 ·exact⟨_,rfl,fun _ _=>rfl,fun w' l' h=>Nw h _ f (n.left (by simp) _)⟩
 ·exact⟨_,rfl,fun _ _=>rfl,fun w' l' h=>TV h _ f⟩
 ·exact⟨_,rfl,fun _ _=>rfl,fun w' l' h=>Ld h _ f n.a0⟩
 ·exact⟨_,rfl,fun _ _=>rfl,fun w' l' h=>TM h sk si sa sb sc f n.gt⟩
 ·exact⟨_,rfl,fun _ _=>rfl,fun w' l' h=>Uh h sk si sa sb sc f n.gt⟩
 ·exact⟨_,rfl,fun _ _=>rfl,fun w' l' h=>Sv h sk si sa sb sc f n.gt⟩
 ·exact⟨_,rfl,fun _ _=>rfl,fun w' l' h=>TP h sk si sa sb sc f n.gt⟩
 ·exact⟨_,rfl,fun _ _=>rfl,fun w' l' h=>Tu h sk si sa sb sc f n.gt⟩
 ·exact⟨_,rfl,fun _ _=>rfl,fun w' l' h=>TS h sk si sa sb sc f n.gt⟩
 ·rcases f with⟨kd,id,st,fv,pa⟩
  have hac:=n.ac (by simp)
  unfold LY at hac
  simp only at hac
  refine⟨_,rfl,fun _ _=>rfl,fun w' l' h=>?_⟩
  by_cases hk:kd=2
  ·subst hk
   exact TL h sk si 16 sa sb sc 2 id st fv pa n.a0 hac
  ·rw[if_neg hk]at hac
   have e:k.serve T ⟨sk,si,16,sa,sb,sc⟩ ⟨kd,id,st,fv,pa⟩=({k with core:=(k.core.get T (oL id) (jL sa T.bP.length)).1},(0,0,0),(k.core.get T (oL id) (jL sa T.bP.length)).2):=by
    unfold aB.serve
    simp[hk]
   rw[e]
   exact Pm h sk si 16 sa sb sc kd id st fv pa n.a0 hk hac
 ·rcases f with⟨kd,id,st,fv,pa⟩
  have hac:=n.ac (by simp)
  unfold LY at hac
  simp only at hac
  refine⟨_,rfl,fun _ _=>rfl,fun w' l' h=>?_⟩
  by_cases hk:kd=2
  ·subst hk
   exact SA h sk si 17 sa sb sc 2 id st fv pa n.a0 (by decide) hac
  ·rw[if_neg hk]at hac
   have e:k.serve T ⟨sk,si,17,sa,sb,sc⟩ ⟨kd,id,st,fv,pa⟩=({k with core:=(k.core.release T (oL id) (jL sa T.bP.length)).1},(0,0,0),(k.core.release T (oL id) (jL sa T.bP.length)).2):=by
    unfold aB.serve
    simp[hk]
   rw[e]
   exact Qc h sk si 17 sa sb sc kd id st fv pa n.a0 hk (by decide) hac
 ·exact⟨_,rfl,fun _ _=>rfl,fun w' l' h=>NZ h _ f n.a0⟩
 ·exact⟨_,rfl,fun _ _=>rfl,fun w' l' h=>IC h _ f n.a0⟩
 ·exact⟨_,rfl,fun _ _=>rfl,fun w' l' h=>NQ h _ f n.a0⟩
 ·exact⟨_,rfl,fun _ _=>rfl,fun w' l' h=>KL h _ f (n.left (by simp) _)⟩
 ·exact⟨_,rfl,fun _ _=>rfl,fun w' l' h=>JW h _ f n.a0⟩
 ·exact⟨_,rfl,fun _ _=>rfl,fun w' l' h=>NR h _ f n.a0 n.lf⟩
 ·exact⟨_,rfl,fun _ _=>rfl,fun w' l' h=>Oy h _ f n.a0 n.b0 n.c0⟩
 ·exact⟨_,rfl,fun _ _=>rfl,fun w' l' h=>NF h _ f n.a0 n.b0 n.c0⟩
 ·exact⟨_,rfl,fun _ _=>rfl,fun w' l' h=>Gq h _ f n.a0⟩
end
end Go.Proofs.YtajgpcnlehinbaaGreat
