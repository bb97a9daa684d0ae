/- Part of a proof. -/
import Derived.Test.YtajgpcnlehinbaaGreatA19
import Derived.Test.YtajgpcnlehinbaaGreatA20
import Derived.Test.YtajgpcnlehinbaaGreatA21
import Derived.Test.YtajgpcnlehinbaaGreatA22
namespace Go.Proofs.YtajgpcnlehinbaaGreat
open Tryz Go.RowKit
set_option maxRecDepth 100000
set_option maxHeartbeats 60000000
set_option linter.all false
section
variable {α:Type} {xs:List α} {a:α} {p:Int→α→Bool} {q:α→Bool} {n m:Nat}
theorem sD:gY (xs++ [a]) q=gY xs q+(if q a then 1 else 0):=by
 unfold gY
 rw[List.filter_append,List.length_append]
 by_cases h:q a<;>simp[h]
theorem zn:gY xs q≤xs.length:=List.length_filter_le _ _
def cnts (n:Nat) (xs:List α) (p:Int→α→Bool):List Int:=(List.range n).map fun c=>((gY xs (p (c:Nat)):Nat):Int)
theorem Fg:(cnts n xs p).length=n:=by simp[cnts]
theorem MG:cnts n ([]:List α) p=List.replicate n 0:=by
 unfold cnts gY
 apply List.ext_getElem<;>simp
theorem Cf (h:m<n):(cnts n xs p)[m]? =some ((gY xs (p (m:Nat)):Nat):Int):=by
 unfold cnts
 rw[List.getElem?_map,List.getElem?_range h]
 rfl
theorem Jz (h:∀c:Nat,p c a=decide (c=m)) (hm:m<n):cnts n (xs++ [a]) p=(cnts n xs p).set m (((gY xs (p (m:Nat)):Nat):Int)+1):=by
 apply List.ext_getElem?
 intro i
 by_cases hi:i<n
 ·rw[Cf hi,List.getElem?_set,sD,h i]
  by_cases e:m=i
  ·subst e
   simp[Fg,hi]
  ·rw[if_neg e,Cf hi]
   simp[Ne.symm e]
 ·rw[List.getElem?_eq_none (by rw[Fg];omega),List.getElem?_eq_none (by rw[List.length_set,Fg];omega)]
theorem SH (h:∀c:Nat,p c a=false):cnts n (xs++ [a]) p=cnts n xs p:=by
 unfold cnts
 apply List.map_congr_left
 intro c _
 rw[sD,h c]
 rfl
theorem ints_set {ys:List Int} {v:Int}:ints (ys.set m v)=(ints ys).set m (.int .i64 v):=by simp[ints,List.map_set]
theorem DK:ints (List.replicate n 0)=zeros (.int .i64 0) n:=by
 unfold ints
 rw[List.map_replicate,kP _ _ (by decide)]
 exact(List.flatten_replicate_singleton).symm
end
theorem Ky {fn:Func} {t u v s:Tmp} (h:fn.results=#[.tmp t,.tmp u,.tmp v,.tmp s]) (tmps:Array Value) (P:Program) (w:World):
 (results fn tmps).run P w= .ok (.tuple #[tmps.getD t undef,tmps.getD u undef,tmps.getD v undef,tmps.getD s undef]) w:=by
 simp[results,h]
section
variable {w0 w:World} {l:List SL} {T:ah} {B:List (Nat × Obj)} {x:jM} {v:Value}
def IB (c:Int) (b:gq):Bool:=decide (b.counter=c)
def EO (c:Int) (b:qF):Bool:=b.from c
def calls (b:gq):Bool:=decide (b.act.kind=3)
def zh (b:qF):Bool:=decide (b.act.kind=3)
theorem YE (h:In w0 w (bJ B::l)) (ht:rF B v T x) (hnc:T.bi.length≤16) (hna:T.ag.length≤64) (hnm:T.cZ.length≤64)
 (hal:∀a∈T.ag,0≤a.counter∧a.counter<T.bi.length) (hms:∀m∈T.cZ,m.kind≠1→0≤m.src∧m.src<T.cZ.length) (hni:T.bf.length≤32):
 aW 64 #[v] w w0 (.tuple #[.int .i64 T.rings.length,.int .i64 (T.bf.length+4),.int .i64 T.most,.int .i64 T.zk]) (bJ B::l):=by
 obtain rfl:=kY ht
 rcases x with⟨vt,vr,vs,vc,va,vi,vm,q1,q2,q3,q4,q5⟩
 obtain⟨yP,lN,es⟩:=ht.ag.form
 simp only at es
 subst es
 obtain⟨H7,vI,es⟩:=ht.cZ.form
 simp only at es
 subst es
 obtain⟨Az,oD,es⟩:=ht.bi.form
 simp only at es
 subst es
 obtain⟨Dv,qG,es⟩:=ht.rings.form
 simp only at es
 subst es
 obtain⟨il,i1,i2,i3⟩:=ht.bf
 obtain⟨EN,ry,es⟩:=i2.form
 simp only at es
 subst es
 have h1:=h.alloc (dO T vt (.slice Dv T.rings.length qG) vs (.slice Az T.bi.length oD) (.slice yP T.ag.length lN) (.slice EN T.bf.length ry) (.slice H7 T.cZ.length vI))
 have RI:T.most=oN T T.cZ.length:=rfl
 have hback:T.zk=gY T.ag calls+gY T.cZ zh:=rfl
 generalize T.most=mo at RI⊢
 generalize T.zk=ba at hback⊢
 go_enter func64,ntmps64
 go_upto_region 1 with(fail)
 refine In.abs h1 ?_
 clear h1 h
 generalize w.heap.size=z
 intro w2 h2
 have bC:=h2.cells
 go_wp2_with (first|(with_reducible apply wZ))
 unfold Stop
 refine lX Es h2 (c:=T.bi.length) (by rfl) (by omega) (by unfold maxLen;omega) ?_
 intro g w3 h3
 clear bC
 have bC:=(h3.ae p1).cells
 rw[←DK,←MG (p:=IB)]at h3
 go_upto_region 3 with(fail)
 clear bC
 go_loopw [7,8,10,21] (fun u7 u8 _ c wr=>∃k:Nat,k≤T.ag.length∧c= .int .i64 k∧u7= .int .i64 (oU T k)∧u8= .int .i64 (gY (T.ag.take k) calls)∧
  In w0 wr (Row 3 1 (.slice (some ⟨g,0,none⟩) T.bi.length T.bi.length) T.bi.length (ints (cnts T.bi.length (T.ag.take k) IB))::pts z (dO T vt (.slice Dv T.rings.length qG) vs (.slice Az T.bi.length oD) (.slice yP T.ag.length lN) (.slice EN T.bf.length ry) (.slice H7 T.cZ.length vI))::bJ B::l))
  (fun _ _ _ c _=>T.ag.length-(intOf c).toNat)
 case atStart=>exact⟨0,Nat.zero_le _,rfl,rfl,rfl,h3⟩
 case round=>
  obtain⟨k,hk,rfl,rfl,rfl,hw⟩:=hrel
  clear h3 h2
  by_cases hlt:k<T.ag.length
  ·have hkr:=List.getElem?_eq_getElem hlt
   have htk:=List.take_succ_eq_append_getElem hlt
   have hcn:=hal _ (List.getElem_mem hlt)
   have hmk:oU T (k+1)=max (oU T k) (gY (T.ag.take (k+1)) fun b=>decide (b.counter=T.ag[k].counter)):=by rw[oU,hkr]
   generalize T.ag[k]=kr at*
   obtain⟨g0,o0,cap0,e0,hcl⟩:=iw (slot:=dR) (size:=7) (fun _=>rfl) ht.ag hkr
   simp only at e0
   cases e0
   have hd0:=hcl (hw.ae p2) 0 _ rfl (by decide)
   have hd1:=hcl (hw.ae p2) 1 _ rfl (by decide)
   have hd2:=hcl (hw.ae p2) 2 _ rfl (by decide)
   have hd3:=hcl (hw.ae p2) 3 _ rfl (by decide)
   have hd4:=hcl (hw.ae p2) 4 _ rfl (by decide)
   have hd5:=hcl (hw.ae p2) 5 _ rfl (by decide)
   have hd6:=hcl (hw.ae p2) 6 _ rfl (by decide)
   rw[Nat.add_zero]at hd0
   clear hcl
   have n3:(k:Int)<T.ag.length:=by omega
   rcases kr with⟨cn,⟨kd,tk,mk⟩,dX,time,cycle⟩
   simp only at hcn hd0 hd1 hd2 hd3 hd4 hd5 hd6
   obtain⟨m,rfl⟩:∃m:Nat,cn=m:=⟨cn.toNat,by omega⟩
   have hm:m<T.bi.length:=by omega
   have n4:(m:Int)<T.bi.length:=by omega
   have hstep:=Jz (p:=IB) (a:=(⟨(m:Int),⟨kd,tk,mk⟩,dX,time,cycle⟩:gq)) (m:=m) (n:=T.bi.length) (xs:=T.ag.take k) (fun c=>by unfold IB;simp only;congr 1;exact propext ⟨fun e=>by omega,fun e=>by omega⟩) hm
   have hget:=Cf (xs:=T.ag.take k) (p:=IB) hm
   have hle:gY (T.ag.take k) (IB (m:Nat))≤k:=Nat.le_trans zn (by rw[List.length_take];omega)
   have X0:oU T (k+1)=max (oU T k) (gY (T.ag.take k) (IB (m:Nat))+1):=by
    rw[hmk,htk,sD]
    simp only[decide_true,if_true]
    rfl
   have hbk:gY (T.ag.take (k+1)) calls=gY (T.ag.take k) calls+(if kd=3 then 1 else 0):=by
    rw[htk,sD];unfold calls;simp
   have hbl:gY (T.ag.take k) calls≤k:=Nat.le_trans zn (by rw[List.length_take];omega)
   rw[←htk]at hstep
   clear hmk htk
   generalize gY (T.ag.take k) (IB (m:Nat))=ct at*
   generalize gY (T.ag.take k) calls=bk at*
   generalize oU T k=mst at*
   generalize cnts T.bi.length (T.ag.take k) IB=cs at*
   have hil:(ints cs)[m]? =some (.int .i64 ct):=by unfold ints;rw[List.getElem?_map,hget];rfl
   have hml:m<(ints cs).length:=(List.getElem?_eq_some_iff.1 hil).1
   have h6:=hw.alloc (OH m kd tk mk dX time cycle)
   go_upto_region 5 with(fail)
   refine In.abs h6 ?_
   clear h6 hw hd0 hd1 hd2 hd3 hd4 hd5 hd6
   generalize wr.heap.size=y
   intro w6 h6
   have bC:=h6.cells
   have kT:=(h6.ae p1).gI hil
   have wO:=(h6.ae p1).fH (off:=m)
   have hlo: -9223372036854775808≤(ct:Int)+1:=by omega
   have hhi:(ct:Int)+1≤9223372036854775807:=by omega
   have h7:=(h6.ae p1).qU hml (u:= .int .i64 ((ct:Int)+1)) rfl
   go_upto_region 6 with(fail)
   refine In.abs h7 ?_
   clear h7 h6 bC kT wO
   intro w7 h7
   have bC:=(h7.ae p1).cells
   have kT:=h7.gI (off:=m) (u:= .int .i64 ((ct:Int)+1)) (by rw[List.getElem?_set];simp[hml])
   go_upto_region 7 with(fail)
   have hrow:ints (cnts T.bi.length (T.ag.take (k+1)) IB)=(ints cs).set m (.int .i64 ((ct:Int)+1)):=by rw[hstep,ints_set]
   rw[←hrow]at h7
   by_cases k3:kd=3
   ·rw[if_pos k3]at hbk
    have k3b:(kd==3)=true:=by simp[k3]
    go_wp2_with fail
    go_roundw
    case rel=>exact⟨k+1,hlt,by go_num,by rw[X0];congr 1;omega,by rw[hbk];congr 1,h7.s⟩
    case measure=>simp[intOf]<;>omega
   ·rw[if_neg k3,Nat.add_zero]at hbk
    have k3b:(kd==3)=false:=by simpa using k3
    go_wp2_with fail
    go_roundw
    case rel=>exact⟨k+1,hlt,by go_num,by rw[X0];congr 1;omega,by rw[hbk];rfl,h7.s⟩
    case measure=>simp[intOf]<;>omega
  ·have hke:k=T.ag.length:=by omega
   subst hke
   rw[List.take_length]at hw⊢
   have bC:=(hw.ae p1).cells
   have afQ:gY T.ag calls≤64:=Nat.le_trans zn hna
   have acs:oU T T.ag.length=oN T 0:=rfl
   rw[acs]
   generalize gY T.ag calls=b0 at*
   have hnn:¬(T.ag.length:Int)<T.ag.length:=by omega
   go_wp2_with (first|(with_reducible apply wZ))
   unfold Stop
   refine lX Es (hw.ae p1) (c:=T.cZ.length) (by rfl) (by omega) (by unfold maxLen;omega) ?_
   intro g2 w3 h3
   clear bC
   have bC:=(h3.ae p1).cells
   rw[←DK,←MG (p:=EO)]at h3
   have h4:=h3.pr [0,0,1] 1
   clear h3
   go_upto_region 12 with(fail)
   clear bC
   go_loopw [7,8,13,53] (fun u7 u8 _ c wr=>∃k:Nat,k≤T.cZ.length∧c= .int .i64 k∧u7= .int .i64 (oN T k)∧u8= .int .i64 ((b0+gY (T.cZ.take k) zh:Nat):Int)∧
    In w0 wr (Row 3 1 (.slice (some ⟨g2,0,none⟩) T.cZ.length T.cZ.length) T.cZ.length (ints (cnts T.cZ.length (T.cZ.take k) EO))::pts z (dO T vt (.slice Dv T.rings.length qG) vs (.slice Az T.bi.length oD) (.slice yP T.ag.length lN) (.slice EN T.bf.length ry) (.slice H7 T.cZ.length vI))::bJ B::l))
    (fun _ _ _ c _=>T.cZ.length-(intOf c).toNat)
   case atStart=>exact⟨0,Nat.zero_le _,rfl,rfl,rfl,h4⟩
   case round=>
    obtain⟨k,hk,rfl,rfl,rfl,hw⟩:=hrel
    clear h4
    by_cases hlt:k<T.cZ.length
    ·have hkr:=List.getElem?_eq_getElem hlt
     have htk:=List.take_succ_eq_append_getElem hlt
     have hcn:=hms _ (List.getElem_mem hlt)
     have hmk:oN T (k+1)=if T.cZ[k].kind=1 then oN T k else max (oN T k) (gY (T.cZ.take (k+1)) fun b=>b.from T.cZ[k].src):=by rw[oN,hkr]
     generalize T.cZ[k]=kr at*
     obtain⟨g0,o0,cap0,e0,hcl⟩:=iw (slot:=mJ) (size:=8) (fun _=>rfl) ht.cZ hkr
     simp only at e0
     cases e0
     have hd0:=hcl (hw.ae p2) 0 _ rfl (by decide)
     have hd1:=hcl (hw.ae p2) 1 _ rfl (by decide)
     have hd2:=hcl (hw.ae p2) 2 _ rfl (by decide)
     have hd3:=hcl (hw.ae p2) 3 _ rfl (by decide)
     have hd4:=hcl (hw.ae p2) 4 _ rfl (by decide)
     have hd5:=hcl (hw.ae p2) 5 _ rfl (by decide)
     have hd6:=hcl (hw.ae p2) 6 _ rfl (by decide)
     have hd7:=hcl (hw.ae p2) 7 _ rfl (by decide)
     rw[Nat.add_zero]at hd0
     clear hcl
     have n3:(k:Int)<T.cZ.length:=by omega
     rcases kr with⟨kind,length,src,init,queue,⟨kd,tk,mk⟩⟩
     simp only at hcn hmk hd0 hd1 hd2 hd3 hd4 hd5 hd6 hd7
     have hbk:b0+gY (T.cZ.take (k+1)) zh=(b0+gY (T.cZ.take k) zh)+(if kd=3 then 1 else 0):=by
      rw[htk,sD];unfold zh;simp[Nat.add_assoc]
     have hbl:b0+gY (T.cZ.take k) zh≤128:=by
      have:gY (T.cZ.take k) zh≤k:=Nat.le_trans zn (by rw[List.length_take];omega)
      omega
     generalize b0+gY (T.cZ.take k) zh=bk at*
     have h6:=hw.alloc (Nv kind length src init queue kd tk mk)
     go_upto_region 14 with(fail)
     refine In.abs h6 ?_
     clear h6 hw hd0 hd1 hd2 hd3 hd4 hd5 hd6 hd7
     generalize wr.heap.size=y
     intro w6 h6
     have bC:=h6.cells
     by_cases k1:kind=1
     ·have k1b:(kind != 1)=false:=by simp[k1]
      rw[if_pos k1]at hmk
      have hrow:=SH (p:=EO) (a:=(⟨kind,length,src,init,queue,⟨kd,tk,mk⟩⟩:qF)) (n:=T.cZ.length) (xs:=T.cZ.take k) (fun c=>by unfold EO qF.from;simp[k1])
      rw[←htk]at hrow
      rw[←hrow]at h6
      clear hrow htk
      generalize oN T k=mst at*
      by_cases k3:kd=3
      ·rw[if_pos k3]at hbk
       have k3b:(kd==3)=true:=by simp[k3]
       go_wp2_with fail
       go_roundw
       case rel=>exact⟨k+1,hlt,by go_num,by rw[hmk],by rw[hbk];congr 1,h6.drop⟩
       case measure=>simp[intOf]<;>omega
      ·rw[if_neg k3,Nat.add_zero]at hbk
       have k3b:(kd==3)=false:=by simpa using k3
       go_wp2_with fail
       go_roundw
       case rel=>exact⟨k+1,hlt,by go_num,by rw[hmk],by rw[hbk];rfl,h6.drop⟩
       case measure=>simp[intOf]<;>omega
     ·have k1b:(kind != 1)=true:=by simpa using k1
      rw[if_neg k1]at hmk
      obtain⟨hs0,hs1⟩:=hcn k1
      obtain⟨m,rfl⟩:∃m:Nat,src=m:=⟨src.toNat,by omega⟩
      have hm:m<T.cZ.length:=by omega
      have n4:(m:Int)<T.cZ.length:=by omega
      have hstep:=Jz (p:=EO) (a:=(⟨kind,length,(m:Int),init,queue,⟨kd,tk,mk⟩⟩:qF)) (m:=m) (n:=T.cZ.length) (xs:=T.cZ.take k) (fun c=>by unfold EO qF.from;simp[k1];exact⟨fun e=>by omega,fun e=>by omega⟩) hm
      have hget:=Cf (xs:=T.cZ.take k) (p:=EO) hm
      have hle:gY (T.cZ.take k) (EO (m:Nat))≤k:=Nat.le_trans zn (by rw[List.length_take];omega)
      have X0:oN T (k+1)=max (oN T k) (gY (T.cZ.take k) (EO (m:Nat))+1):=by
       rw[hmk,htk,sD]
       simp only[qF.from,k1,decide_true,decide_false,Bool.not_false,Bool.true_and,if_true]
       rfl
      rw[←htk]at hstep
      clear hmk htk
      generalize gY (T.cZ.take k) (EO (m:Nat))=ct at*
      generalize oN T k=mst at*
      generalize cnts T.cZ.length (T.cZ.take k) EO=cs at*
      have hil:(ints cs)[m]? =some (.int .i64 ct):=by unfold ints;rw[List.getElem?_map,hget];rfl
      have hml:m<(ints cs).length:=(List.getElem?_eq_some_iff.1 hil).1
      have kT:=(h6.ae p1).gI hil
      have wO:=(h6.ae p1).fH (off:=m)
      have hlo: -9223372036854775808≤(ct:Int)+1:=by omega
      have hhi:(ct:Int)+1≤9223372036854775807:=by omega
      have h7:=(h6.ae p1).qU hml (u:= .int .i64 ((ct:Int)+1)) rfl
      go_upto_region 16 with(fail)
      refine In.abs h7 ?_
      clear h7 h6 bC kT wO
      intro w7 h7
      have bC:=(h7.ae p1).cells
      have kT:=h7.gI (off:=m) (u:= .int .i64 ((ct:Int)+1)) (by rw[List.getElem?_set];simp[hml])
      have hrow:ints (cnts T.cZ.length (T.cZ.take (k+1)) EO)=(ints cs).set m (.int .i64 ((ct:Int)+1)):=by rw[hstep,ints_set]
      rw[←hrow]at h7
      by_cases k3:kd=3
      ·rw[if_pos k3]at hbk
       have k3b:(kd==3)=true:=by simp[k3]
       go_wp2_with fail
       go_roundw
       case rel=>exact⟨k+1,hlt,by go_num,by rw[X0];congr 1;omega,by rw[hbk];congr 1,h7.s⟩
       case measure=>simp[intOf]<;>omega
      ·rw[if_neg k3,Nat.add_zero]at hbk
       have k3b:(kd==3)=false:=by simpa using k3
       go_wp2_with fail
       go_roundw
       case rel=>exact⟨k+1,hlt,by go_num,by rw[X0];congr 1;omega,by rw[hbk];rfl,h7.s⟩
       case measure=>simp[intOf]<;>omega
    ·have hke:k=T.cZ.length:=by omega
     subst hke
     rw[List.take_length]at hw⊢
     have bC:=(hw.ae p1).cells
     have hnn:¬(T.cZ.length:Int)<T.cZ.length:=by omega
     have hir: -9223372036854775808≤(T.bf.length:Int)+4:=by omega
     have afR:(T.bf.length:Int)+4≤9223372036854775807:=by omega
     go_wp2_with fail
     refine rg ⟨[], []⟩ [.c 0 0,.c 1 1,.c 0 2,.c 0 3,.c 1 4,.c 0 5,.c 0 6,.c 0 7,.c 0 8,.c 0 9,.c 0 10,.c 0 11,.c 0 12] ?_
     refine lK ?_
     go_wp2_with fail
     refine bodyPost_ret (Ky rfl _ _ _) rfl ?_
     exact⟨by rw[RI,hback,Int.natCast_add];rfl,hw.drop.drop.drew⟩
end
section
variable {w0 w:World} {l:List SL} {T:ah} {B:List (Nat × Obj)} {x:jM} {v:Value}
theorem Gz (h:In w0 w (bJ B::l)) (ht:rF B v T x):
 aW 24 #[v] w w0 (.int .i64 (if T.check then 0 else 90)) (bJ B::l):=by
 have Fb:=ht
 obtain rfl:=kY ht
 rcases x with⟨vt,vr,vs,vc,va,vi,vm,q1,q2,q3,q4,q5⟩
 obtain⟨tl,t1,t2,t3⟩:=ht.ay
 obtain⟨Fa,uH,es⟩:=t2.form
 simp only at es
 subst es
 obtain⟨Dv,qG,es⟩:=ht.rings.form
 simp only at es
 subst es
 obtain⟨BK,caps,es⟩:=ht.bP.form
 simp only at es
 subst es
 obtain⟨Az,oD,es⟩:=ht.bi.form
 simp only at es
 subst es
 obtain⟨yP,lN,es⟩:=ht.ag.form
 simp only at es
 subst es
 obtain⟨il,i1,i2,i3⟩:=ht.bf
 obtain⟨EN,ry,es⟩:=i2.form
 simp only at es
 subst es
 obtain⟨H7,vI,es⟩:=ht.cZ.form
 simp only at es
 subst es
 have h1:=h.alloc (dO T (.slice Fa T.ay.length uH) (.slice Dv T.rings.length qG) (.slice BK T.bP.length caps) (.slice Az T.bi.length oD) (.slice yP T.ag.length lN) (.slice EN T.bf.length ry) (.slice H7 T.cZ.length vI))
 obtain⟨c,hc⟩:∃c,T.check=c:=⟨_,rfl⟩
 rw[hc]
 unfold ah.check at hc
 go_enter func24,ntmps24
 go_upto_region 1 with(fail)
 refine In.abs h1 ?_
 clear h1 h t1 t2 t3 i1 i2 i3
 generalize w.heap.size=z
 intro w2 h2
 have bC:=h2.cells
 have hfew:T.few=false→c=false:=fun e=>by rw[←hc,e];rfl
 by_cases c0:T.uses<0
 ·obtain rfl:c=false:=hfew (by unfold ah.few;simp;omega)
  have e0:True:=trivial
  go_wp2_with fail
  go_ret
  exact⟨rfl,h2.drop⟩
 have d0:0≤T.uses:=by omega
 clear c0
 by_cases c1:255<T.uses
 ·obtain rfl:c=false:=hfew (by unfold ah.few;simp;omega)
  have e1:True:=trivial
  go_wp2_with fail
  go_ret
  exact⟨rfl,h2.drop⟩
 have d1:T.uses≤255:=by omega
 clear c1
 by_cases c2:T.modes<1
 ·obtain rfl:c=false:=hfew (by unfold ah.few;simp;omega)
  have e2:True:=trivial
  go_wp2_with fail
  go_ret
  exact⟨rfl,h2.drop⟩
 have d2:1≤T.modes:=by omega
 clear c2
 by_cases c3:8<T.modes
 ·obtain rfl:c=false:=hfew (by unfold ah.few;simp;omega)
  have e3:True:=trivial
  go_wp2_with fail
  go_ret
  exact⟨rfl,h2.drop⟩
 have d3:T.modes≤8:=by omega
 clear c3
 by_cases c4:(T.ay.length:Int)<1
 ·obtain rfl:c=false:=hfew (by unfold ah.few;simp;omega)
  have e4:True:=trivial
  go_wp2_with fail
  go_ret
  exact⟨rfl,h2.drop⟩
 have d4:(1:Int)≤T.ay.length:=by omega
 clear c4
 by_cases c5:(256:Int)<T.ay.length
 ·obtain rfl:c=false:=hfew (by unfold ah.few;simp;omega)
  have e5:True:=trivial
  go_wp2_with fail
  go_ret
  exact⟨rfl,h2.drop⟩
 have d5:(T.ay.length:Int)≤256:=by omega
 clear c5
 by_cases c6:(65:Int)<T.bP.length
 ·obtain rfl:c=false:=hfew (by unfold ah.few;simp;omega)
  have e6:True:=trivial
  go_wp2_with fail
  go_ret
  exact⟨rfl,h2.drop⟩
 have d6:(T.bP.length:Int)≤65:=by omega
 clear c6
 by_cases c7:(16:Int)<T.bi.length
 ·obtain rfl:c=false:=hfew (by unfold ah.few;simp;omega)
  have e7:True:=trivial
  go_wp2_with fail
  go_ret
  exact⟨rfl,h2.drop⟩
 have d7:(T.bi.length:Int)≤16:=by omega
 clear c7
 by_cases c8:(64:Int)<T.ag.length
 ·obtain rfl:c=false:=hfew (by unfold ah.few;simp;omega)
  have e8:True:=trivial
  go_wp2_with fail
  go_ret
  exact⟨rfl,h2.drop⟩
 have d8:(T.ag.length:Int)≤64:=by omega
 clear c8
 by_cases c9:(32:Int)<T.bf.length
 ·obtain rfl:c=false:=hfew (by unfold ah.few;simp;omega)
  have e9:True:=trivial
  go_wp2_with fail
  go_ret
  exact⟨rfl,h2.drop⟩
 have d9:(T.bf.length:Int)≤32:=by omega
 clear c9
 by_cases c10:(64:Int)<T.cZ.length
 ·obtain rfl:c=false:=hfew (by unfold ah.few;simp;omega)
  have e10:decide ((T.cZ.length:Int)≤64)=false:=decide_eq_false (by omega)
  go_wp2_with fail
  go_ret
  exact⟨rfl,h2.drop⟩
 have d10:(T.cZ.length:Int)≤64:=by omega
 clear c10
 have hf1:T.few=true:=by unfold ah.few;simp;omega
 rw[hf1,Bool.true_and]at hc
 clear hfew hf1
 go_upto_region 5 with(fail)
 clear bC
 generalize hfa:T.PO=fa at hc
 unfold ah.PO at hfa
 generalize hgg:(fun i:Nat=>match T.bP[i]? with|some r=>decide (-1≤r.gJ)&&decide (r.gJ≤127)|none=>false)=g at hfa
 go_loopw [5,77] (fun _ c wr=>∃k:Nat,k≤T.bP.length∧c= .int .i64 k∧mX k g=true∧In w0 wr (pts z (dO T (.slice Fa T.ay.length uH) (.slice Dv T.rings.length qG) (.slice BK T.bP.length caps) (.slice Az T.bi.length oD) (.slice yP T.ag.length lN) (.slice EN T.bf.length ry) (.slice H7 T.cZ.length vI))::bJ B::l))
  (fun _ c _=>T.bP.length-(intOf c).toNat)
 case atStart=>exact⟨0,Nat.zero_le _,rfl,rfl,h2⟩
 case round=>
  obtain⟨k,hk,rfl,hall,hw⟩:=hrel
  clear h2
  by_cases hlt:k<T.bP.length
  ·have hkr:=List.getElem?_eq_getElem hlt
   have hat:g k=(decide (-1≤T.bP[k].gJ)&&decide (T.bP[k].gJ≤127)):=by rw[←hgg];simp only[hkr]
   generalize T.bP[k]=kr at*
   obtain⟨g0,o0,cap0,e0,hcl⟩:=iw (slot:=kw) (size:=2) (fun _=>rfl) ht.bP hkr
   simp only at e0
   cases e0
   have hd0:=hcl (hw.ae p1) 0 _ rfl (by decide)
   have hd1:=hcl (hw.ae p1) 1 _ rfl (by decide)
   rw[Nat.add_zero]at hd0
   clear hcl
   have n3:(k:Int)<T.bP.length:=by omega
   rcases kr with⟨int,ceil⟩
   simp only at hd0 hd1 hat
   have h6:=hw.alloc (L6 int ceil)
   go_upto_region 7 with(fail)
   refine In.abs h6 ?_
   clear h6 hw hd0 hd1
   generalize wr.heap.size=y
   intro w6 h6
   have bC:=h6.cells
   by_cases e1:ceil< -1
   ·obtain rfl:fa=false:=hfa.symm.trans (dF hlt (by rw[hat];simp;omega))
    obtain rfl:c=false:=hc.symm
    go_wp2_with fail
    go_ret
    exact⟨rfl,h6.drop.drop⟩
   have e1': -1≤ceil:=by omega
   by_cases e2:127<ceil
   ·obtain rfl:fa=false:=hfa.symm.trans (dF hlt (by rw[hat];simp;omega))
    obtain rfl:c=false:=hc.symm
    go_wp2_with fail
    go_ret
    exact⟨rfl,h6.drop.drop⟩
   have e2':ceil≤127:=by omega
   go_wp2_with fail
   go_roundw
   case rel=>exact⟨k+1,hlt,by go_num,lC hall (by rw[hat];simp;omega),h6.drop⟩
   case measure=>simp[intOf]<;>omega
  ·have hke:k=T.bP.length:=by omega
   subst hke
   obtain rfl:fa=true:=hfa.symm.trans hall
   rw[Bool.true_and]at hc
   clear hall hgg hfa
   have bC:=hw.cells
   have hnn:¬(T.bP.length:Int)<T.bP.length:=by omega
   generalize hfb:T.Pe=fb at hc
   unfold ah.Pe at hfb
   generalize hgg:(fun i:Nat=>match T.ay[i]? with|some k=>decide (0≤k.aI)&&decide (k.aI≤63)|none=>false)=g at hfb
   go_upto_region 11 with(fail)
   clear bC hnn
   go_loopw [7,93] (fun _ c wr=>∃k:Nat,k≤T.ay.length∧c= .int .i64 k∧mX k g=true∧In w0 wr (pts z (dO T (.slice Fa T.ay.length uH) (.slice Dv T.rings.length qG) (.slice BK T.bP.length caps) (.slice Az T.bi.length oD) (.slice yP T.ag.length lN) (.slice EN T.bf.length ry) (.slice H7 T.cZ.length vI))::bJ B::l))
    (fun _ c _=>T.ay.length-(intOf c).toNat)
   case atStart=>exact⟨0,Nat.zero_le _,rfl,rfl,hw⟩
   case round=>
    obtain⟨k,hk,rfl,hall,hw⟩:=hrel
    by_cases hlt:k<T.ay.length
    ·have hkr:=List.getElem?_eq_getElem hlt
     have hat:g k=(decide (0≤T.ay[k].aI)&&decide (T.ay[k].aI≤63)):=by rw[←hgg];simp only[hkr]
     generalize T.ay[k]=kr at*
     obtain⟨g0,o0,cap0,uo,e0,hcap0,hown,hcl⟩:=zW ht hkr
     cases e0
     have hcs2:=hcl (hw.ae p1)
     obtain⟨XY,Hw,eo⟩:=hown.form
     subst eo
     have hc0:∀j c,(dM (kr,.slice XY kr.own.length Hw))[j]? =some c→j<8→wr.cell? ⟨g0,o0+k*8+j,none⟩=some c:=fun j c hc hj=>by have:=hcs2 j c hc hj;rwa[←Nat.add_assoc]at this
     have hd0:=hc0 0 _ rfl (by decide)
     have hd1:=hc0 1 _ rfl (by decide)
     have hd2:=hc0 2 _ rfl (by decide)
     have hd3:=hc0 3 _ rfl (by decide)
     have hd4:=hc0 4 _ rfl (by decide)
     have hd5:=hc0 5 _ rfl (by decide)
     have hd6:=hc0 6 _ rfl (by decide)
     have hd7:=hc0 7 _ rfl (by decide)
     rw[Nat.add_zero]at hd0
     clear hc0 hcs2 hcl
     have n3:(k:Int)<T.ay.length:=by omega
     rcases kr with⟨aI,ring,full,limit,mask,internal,own,dX⟩
     simp only at hd0 hd1 hd2 hd3 hd4 hd5 hd6 hd7 hat
     have h6:=hw.alloc (BB aI ring full limit mask internal (.slice XY own.length Hw) dX)
     go_upto_region 13 with(fail)
     refine In.abs h6 ?_
     clear h6 hw hd0 hd1 hd2 hd3 hd4 hd5 hd6 hd7
     generalize wr.heap.size=y
     intro w6 h6
     have bC:=h6.cells
     by_cases e1:aI<0
     ·obtain rfl:fb=false:=hfb.symm.trans (dF hlt (by rw[hat];simp;omega))
      obtain rfl:c=false:=hc.symm
      go_wp2_with fail
      go_ret
      exact⟨rfl,h6.drop.drop⟩
     have e1':0≤aI:=by omega
     by_cases e2:63<aI
     ·obtain rfl:fb=false:=hfb.symm.trans (dF hlt (by rw[hat];simp;omega))
      obtain rfl:c=false:=hc.symm
      go_wp2_with fail
      go_ret
      exact⟨rfl,h6.drop.drop⟩
     have e2':aI≤63:=by omega
     go_wp2_with fail
     go_roundw
     case rel=>exact⟨k+1,hlt,by go_num,lC hall (by rw[hat];simp;omega),h6.drop⟩
     case measure=>simp[intOf]<;>omega
    ·have hke:k=T.ay.length:=by omega
     subst hke
     obtain rfl:fb=true:=hfb.symm.trans hall
     rw[Bool.true_and]at hc
     clear hall hgg hfb
     have hnn:¬(T.ay.length:Int)<T.ay.length:=by omega
     have bC:=hw.cells
     have hk1:=WH (hw.ae p1) Fb (by omega) d2 d3
     generalize T.zV=b1 at hk1 hc
     cases b1 with
     |false=>
      obtain rfl:c=false:=hc.symm
      go_wp2_with (go_at_call 60;refine bF hk1 ?_;intro w3 h3;clear bC;have bC:=(h3.ae p1).cells)
      go_ret
      exact⟨rfl,h3.s⟩
     |true=>
      rw[Bool.true_and]at hc
      go_wp2_with (go_at_call 60;refine bF hk1 ?_;intro w3 h3;clear bC;have bC:=(h3.ae p1).cells)
      have hk2:=Uf h3 Fb d2 d3 (by omega) (by omega)
      generalize hb2:T.ve=b2 at hk2 hc
      cases b2 with
      |false=>
       obtain rfl:c=false:=hc.symm
       go_wp2_with (go_at_call 61;refine bF hk2 ?_;intro w4 h4;clear bC;have bC:=(h4.ae p1).cells)
       go_ret
       exact⟨rfl,h4.s⟩
      |true=>
       rw[Bool.true_and]at hc
       go_wp2_with (go_at_call 61;refine bF hk2 ?_;intro w4 h4;clear bC;have bC:=(h4.ae p1).cells)
       have hk3:=Zz h4 Fb (by omega)
       generalize T.J3=b3 at hk3 hc
       cases b3 with
       |false=>
        obtain rfl:c=false:=hc.symm
        go_wp2_with (go_at_call 62;refine bF hk3 ?_;intro w5 h5;clear bC;have bC:=(h5.ae p1).cells)
        go_ret
        exact⟨rfl,h5.s⟩
       |true=>
        rw[Bool.true_and]at hc
        go_wp2_with (go_at_call 62;refine bF hk3 ?_;intro w5 h5;clear bC;have bC:=(h5.ae p1).cells)
        have hk4:=ZQ h5 Fb (by omega)
        generalize hb4:T.Gj=b4 at hk4 hc
        cases b4 with
        |false=>
         obtain rfl:c=false:=hc.symm
         go_wp2_with (go_at_call 63;refine bF hk4 ?_;intro w6 h6;clear bC;have bC:=(h6.ae p1).cells)
         go_ret
         exact⟨rfl,h6.s⟩
        |true=>
         rw[Bool.true_and]at hc
         have hal:∀a∈T.ag,0≤a.counter∧a.counter<T.bi.length:=by
          intro a ha
          unfold ah.ve at hb2
          obtain⟨i,hi,hia⟩:=List.mem_iff_getElem.1 ha
          have h0:=lw.1 (by simp only[Bool.and_eq_true]at hb2;exact hb2.2) i hi
          simp only[List.getElem?_eq_getElem hi,hia]at h0
          unfold ah.kX at h0
          simp only[Bool.and_eq_true,decide_eq_true_eq]at h0
          omega
         have hms:∀m∈T.cZ,m.kind≠1→0≤m.src∧m.src<T.cZ.length:=by
          intro a ha hk1
          unfold ah.Gj at hb4
          obtain⟨i,hi,hia⟩:=List.mem_iff_getElem.1 ha
          have h0:=lw.1 hb4 i hi
          simp only[List.getElem?_eq_getElem hi,hia]at h0
          unfold ah.rO at h0
          rw[if_neg hk1]at h0
          simp only[Bool.and_eq_true,decide_eq_true_eq]at h0
          omega
         go_upto_region 18 with(go_at_call 63;refine bF hk4 ?_;intro w6 h6;clear bC;have bC:=(h6.ae p1).cells)
         have hk5:=YE h6 Fb (by omega) (by omega) (by omega) hal hms (by omega)
         clear hb2 hb4 hal hms hw h3 h4 h5 hk1 hk2 hk3 hk4
         unfold ah.P6 at hc
         generalize T.most=mo at hk5 hc
         generalize T.zk=ba at hk5 hc
         go_upto_region 19 with(go_at_call 64;refine bF hk5 ?_;intro w7 h7;clear bC;have bC:=(h7.ae p1).cells)
         have r1:((T.depth != (T.rings.length:Int))=true∧decide (T.depth=T.rings.length)=false)∨((T.depth != (T.rings.length:Int))=false∧decide (T.depth=T.rings.length)=true):=by by_cases e:T.depth=T.rings.length<;>simp[e]
         have r2:((T.frames != (T.bf.length:Int)+4)=true∧decide (T.frames=T.bf.length+4)=false)∨((T.frames != (T.bf.length:Int)+4)=false∧decide (T.frames=T.bf.length+4)=true):=by by_cases e:T.frames=T.bf.length+4<;>simp[e]
         have r3:((T.errors != (mo:Int))=true∧decide (T.errors=mo)=false)∨((T.errors != (mo:Int))=false∧decide (T.errors=mo)=true):=by by_cases e:T.errors=mo<;>simp[e]
         have r4:((T.dU != (ba:Int))=true∧decide (T.dU=ba)=false)∨((T.dU != (ba:Int))=false∧decide (T.dU=ba)=true):=by by_cases e:T.dU=ba<;>simp[e]
         rcases r1 with⟨x1,y1⟩|⟨x1,y1⟩
         ·obtain rfl:c=false:=by rw[←hc,y1];rfl
          go_wp2_with fail
          go_ret
          exact⟨rfl,h7.s⟩
         rcases r2 with⟨x2,y2⟩|⟨x2,y2⟩
         ·obtain rfl:c=false:=by rw[←hc,y1,y2];rfl
          go_wp2_with fail
          go_ret
          exact⟨rfl,h7.s⟩
         rcases r3 with⟨x3,y3⟩|⟨x3,y3⟩
         ·obtain rfl:c=false:=by rw[←hc,y1,y2,y3];rfl
          go_wp2_with fail
          go_ret
          exact⟨rfl,h7.s⟩
         rcases r4 with⟨x4,y4⟩|⟨x4,y4⟩
         ·obtain rfl:c=false:=by rw[←hc,y1,y2,y3,y4];rfl
          go_wp2_with fail
          go_ret
          exact⟨rfl,h7.s⟩
         ·obtain rfl:c=true:=by rw[←hc,y1,y2,y3,y4];rfl
          go_wp2_with fail
          go_ret
          exact⟨rfl,h7.s⟩
end
theorem dQ.addr {B:List (Nat × Obj)} {v:Value} {n:Nat} {cs:List Value} (hv:dQ B v n cs):(v= .slice none 0 0∧n=0∧cs= [])∨∃(ad:Addr) (cap:Nat),v= .slice (some ad) n cap∧
 ∀ {w0 w':World} {l':List SL},In w0 w' (bJ B::l')→∀j u,cs[j]? =some u→w'.cell? (ad.add j)=some u:=by
 obtain⟨_,⟨rfl|⟨ad,cap,rfl⟩,rfl,rfl⟩|⟨g,o,cap,cells,T,fr,rfl,h2,h3,h4⟩⟩:=hv
 ·exact .inl ⟨rfl,rfl,rfl⟩
 ·exact .inr ⟨ad,cap,rfl,fun _ j u hu=>by simp at hu⟩
 ·refine .inr ⟨_,cap,rfl,fun hw j u hu=>?_⟩
  rw[addr_add']
  have hb:=hw.sO h3
  simp only at hb
  simp[World.cell?,hb,h4 j u hu]
theorem TR (ad:Addr) (n cap:Nat) (w:World):(binOp .eql 25 (.slice (some ad) n cap) (.slice none 0 0)).run prog w= .ok (.bool false) w:=by kernel_rfl
theorem Su (w:World):(binOp .eql 25 (.slice none 0 0) (.slice none 0 0)).run prog w= .ok (.bool true) w:=by kernel_rfl
theorem J8 {w0 w:World} {l:List SL} {B:List (Nat × Obj)} {v:Value} {xs:List xm} (h:In w0 w (bJ B::l)) (hv:dQ B v xs.length (xs.map iU).flatten) (hn:xs.length≤64):
 Calls prog 183 #[v] w fun e w'=>∃u,e= .returned u∧In w0 w' (Row 263 3 u xs.length (xs.map iU).flatten::bJ B::l):=by
 have hlen:=nU (slot:=iU) (size:=3) (fun _=>rfl) xs
 have hone:∀u∈(xs.map iU).flatten,u.oneCell'=true:=qN (fun x _=>by simp[iU,mG,Value.oneCell'])
 have hv0:=hv
 obtain⟨rfl,h0,h1⟩|⟨ad,cap,rfl,hcell⟩:=hv.addr
 ·have he:=Su
  go_enter func183,ntmps183
  go_wp2_with fail
  go_ret
  refine⟨_,rfl,?_⟩
  rw[h0,h1]
  exact h.dh _ _
 ·have he:=TR
  have h5:=h.alloc (.cells #[] 263)
  have h6:In w0 (w.alloc (.cells #[] 263)) (Row 263 3 (.slice (some ⟨w.heap.size,0,none⟩) 0 0) 0 []::bJ B::l):=
   In.nJ (cs:= []) (ext:= []) h5 rfl (Nat.le_refl _) (Nat.zero_le _) rfl (by simp)
  have hc:∀j u,(xs.map iU).flatten[j]? =some u→(w.alloc (.cells #[] 263)).cell? (ad.add j)=some u:=hcell (h5.ae p1)
  generalize hcs:(xs.map iU).flatten=cs at*
  go_enter func183,ntmps183
  go_wp2_with (with_reducible apply bH)
  unfold Stop
  refine kQ WI h6 (by rfl) (by rfl) (by rw[hlen]) hc hone (by omega) ?_
  intro v' w' h7
  obtain⟨ao,cap2,rfl⟩:=h7.aG
  go_wp2_with fail
  go_ret
  refine⟨_,rfl,?_⟩
  simpa using h7
theorem Nh (ad:Addr) (n cap:Nat) (w:World):(binOp .eql 26 (.slice (some ad) n cap) (.slice none 0 0)).run prog w= .ok (.bool false) w:=by kernel_rfl
theorem NM (w:World):(binOp .eql 26 (.slice none 0 0) (.slice none 0 0)).run prog w= .ok (.bool true) w:=by kernel_rfl
theorem G9 {w0 w:World} {l:List SL} {B:List (Nat × Obj)} {v:Value} {xs:List gq} (h:In w0 w (bJ B::l)) (hv:dQ B v xs.length (xs.map dR).flatten) (hn:xs.length≤64):
 Calls prog 184 #[v] w fun e w'=>∃u,e= .returned u∧In w0 w' (Row 206 7 u xs.length (xs.map dR).flatten::bJ B::l):=by
 have hlen:=nU (slot:=dR) (size:=7) (fun _=>rfl) xs
 have hone:∀u∈(xs.map dR).flatten,u.oneCell'=true:=qN (fun x _=>by simp[dR,mG,Value.oneCell'])
 have hv0:=hv
 obtain⟨rfl,h0,h1⟩|⟨ad,cap,rfl,hcell⟩:=hv.addr
 ·have he:=NM
  go_enter func184,ntmps184
  go_wp2_with fail
  go_ret
  refine⟨_,rfl,?_⟩
  rw[h0,h1]
  exact h.dh _ _
 ·have he:=Nh
  have h5:=h.alloc (.cells #[] 206)
  have h6:In w0 (w.alloc (.cells #[] 206)) (Row 206 7 (.slice (some ⟨w.heap.size,0,none⟩) 0 0) 0 []::bJ B::l):=
   In.nJ (cs:= []) (ext:= []) h5 rfl (Nat.le_refl _) (Nat.zero_le _) rfl (by simp)
  have hc:∀j u,(xs.map dR).flatten[j]? =some u→(w.alloc (.cells #[] 206)).cell? (ad.add j)=some u:=hcell (h5.ae p1)
  generalize hcs:(xs.map dR).flatten=cs at*
  go_enter func184,ntmps184
  go_wp2_with (with_reducible apply bH)
  unfold Stop
  refine kQ KG h6 (by rfl) (by rfl) (by rw[hlen]) hc hone (by omega) ?_
  intro v' w' h7
  obtain⟨ao,cap2,rfl⟩:=h7.aG
  go_wp2_with fail
  go_ret
  refine⟨_,rfl,?_⟩
  simpa using h7
def byteAt (v i:Nat):Nat:=v/2 ^ (8*i)%256
def le (v n:Nat):List Nat:=(List.range n).map (byteAt v)
def WG (v n k:Nat):List Nat:=(List.range n).map fun i=>if i<k then byteAt v i else 0
def bytesV (l:List Nat):List Value:=l.map fun(n:Nat)=>Value.int .u8 (n:Int)
theorem iF {v n:Nat}:(le v n).length=n:=by simp[le]
theorem Q3 {v n k:Nat}:(WG v n k).length=n:=by simp[WG]
theorem Wj {v n:Nat}:WG v n 0=List.replicate n 0:=by
 unfold WG
 apply List.ext_getElem<;>simp
theorem Zk {v n:Nat}:WG v n n=le v n:=by
 unfold WG le
 apply List.map_congr_left
 intro i hi
 rw[if_pos (List.mem_range.1 hi)]
theorem ZV {v n k:Nat} (hk:k<n):(WG v n k).set k (byteAt v k)=WG v n (k+1):=by
 apply List.ext_getElem?
 intro i
 rw[List.getElem?_set,Q3]
 unfold WG
 rw[List.getElem?_map,List.getElem?_map]
 by_cases hi:i<n
 ·rw[List.getElem?_range hi]
  simp only[Option.map_some]
  by_cases e:k=i
  ·subst e;simp[hk]
  ·rw[if_neg e]
   by_cases e2:i<k
   ·simp[e2,Nat.lt_succ_of_lt e2]
   ·rw[if_neg e2,if_neg (by omega)]
 ·have hn:(List.range n)[i]? =none:=List.getElem?_eq_none (by simp;omega)
  rw[hn]
  by_cases e:k=i
  ·omega
  ·rw[if_neg e];rfl
theorem PH {l:List Nat} {k x:Nat}:bytesV (l.set k x)=(bytesV l).set k (.int .u8 (x:Int)):=by simp[bytesV,List.map_set]
theorem Me {n:Nat}:bytesV (List.replicate n 0)=zeros (.int .u8 0) n:=by
 unfold bytesV
 rw[List.map_replicate,kP _ _ (by decide)]
 exact(List.flatten_replicate_singleton).symm
theorem jq {l:List Nat}:(bytesV l).length=l.length:=by simp[bytesV]
theorem pO {l:List Nat}:∀u∈bytesV l,u.oneCell'=true:=by
 intro u hu
 obtain⟨x,_,rfl⟩:=List.mem_map.1 hu
 rfl
theorem Qq:ig prog 95 5 1 1 (.int .u8 0):=⟨underlying95,by kernel_rfl,rfl,by decide,by decide⟩
section
variable {w0 w:World} {l:List SL}
theorem I5 {v n:Nat} (h:In w0 w l) (h1:1≤n) (h8:n≤8) (hv:v<2 ^ (8*n)):
 Calls prog 205 #[.int .u64 v,.int .i64 n] w fun e w'=>∃u,e= .returned (.tuple #[u,.int .i64 0])∧In w0 w' (Row 5 1 u n (bytesV (le v n))::l):=by
 have n1:¬(n:Int)<1:=by omega
 have n2:¬(8:Int)<n:=by omega
 have hsh:n<8→((v:Int)/2 ^ (8*n) != 0)=false∧min (8*n) 64=8*n:=by
  intro hlt
  refine⟨?_,by omega⟩
  have e2:(v:Int)/2 ^ (8*n)=((v/2 ^ (8*n):Nat):Int):=by simp
  rw[e2,Nat.div_eq_of_lt hv]
  rfl
 go_enter func205,ntmps205
 have hgo:((n:Int)<8∧((v:Int)/2 ^ (8*n) != 0)=false∧min (8*n) 64=8*n)∨((8:Int)≤n∧True∧True):=by
  by_cases g:n<8
  ·left;exact⟨by omega,hsh g⟩
  ·right;exact⟨by omega,trivial,trivial⟩
 clear hsh
 rcases hgo with⟨g,g1,g2⟩|⟨g,g1,g2⟩
 all_goals
  go_upto_region 3 with(fail)
  go_wp2_with (first|(with_reducible apply wZ))
  unfold Stop
  refine lX Qq h (c:=n) (by rfl) (by omega) (by unfold maxLen;omega) ?_
  intro gg w2 h2
  rw[←Me,←Wj (v:=v)]at h2
  try clear g1 g2
  clear g
  go_upto_region 5 with(fail)
  go_loopw [7,29] (fun _ c wr=>∃k:Nat,k≤n∧c= .int .i64 k∧In w0 wr (Row 5 1 (.slice (some ⟨gg,0,none⟩) n n) n (bytesV (WG v n k))::l))
   (fun _ c _=>n-(intOf c).toNat)
  case atStart=>exact⟨0,Nat.zero_le _,rfl,h2⟩
  case round=>
   obtain⟨k,hk,rfl,hw⟩:=hrel
   clear h2
   by_cases hlt:k<n
   ·have n3:(k:Int)<n:=by omega
    have n4:(k:Int)<8:=by omega
    have hm:min (8*k) 64=8*k:=by omega
    have hkl:k<(bytesV (WG v n k)).length:=by rw[jq,Q3];exact hlt
    have hc:=hw.fH (off:=k)
    have hcell:=hw.gI (List.getElem?_eq_getElem hkl)
    have h3:=hw.qU hkl (u:= .int .u8 (byteAt v k:Nat)) rfl
    rw[←PH,ZV hlt]at h3
    have hb:IntKind.u8.wrap ((v:Int)/2 ^ (8*k))=((byteAt v k:Nat):Int):=by
     have e2:(v:Int)/2 ^ (8*k)=((v/2 ^ (8*k):Nat):Int):=by simp
     rw[e2]
     unfold byteAt IntKind.wrap
     simp[IntKind.signed,IntKind.bits]
    go_upto_region 8 with(fail)
    refine In.abs h3 ?_
    clear h3 hw hc hcell hb hm
    intro w3 h3
    go_wp2_with fail
    go_roundw
    case rel=>exact⟨k+1,hlt,by go_num,h3⟩
    case measure=>simp[intOf]<;>omega
   ·have hke:k=n:=by omega
    subst hke
    rw[Zk]at hw
    go_wp2_with fail
    go_ret2
    exact⟨_,rfl,hw⟩
end
def EQ (l:List Nat):List Value:=l.map fun(n:Nat)=>Value.int .u64 (n:Int)
def lZ (r:Nat) (bs:List Nat):SL:=ex fun v=>bQ [pts r (.cells #[v] 162),Row 5 1 v bs.length (bytesV bs)]
section
variable {w0 w:World} {l:List SL} {r:Nat} {bs:List Nat} {B:List (Nat × Obj)}
theorem zg (h:In w0 w (lZ r bs::l)):∃v,In w0 w (pts r (.cells #[v] 162)::Row 5 1 v bs.length (bytesV bs)::l):=by
 obtain⟨v,h⟩:=In.aY.1 h
 exact⟨v,In.bn.1 h⟩
theorem zo {v:Value} (h:In w0 w (pts r (.cells #[v] 162)::Row 5 1 v bs.length (bytesV bs)::l)):In w0 w (lZ r bs::l):=
 In.aY.2 ⟨v,In.bn.2 h⟩
def puts (xs:List Nat) (n:Nat):List Nat:=(xs.map fun x=>le x n).flatten
theorem eP {xs:List Nat} {n:Nat}:(puts xs n).length=xs.length*n:=by
 unfold puts
 induction xs with
 |nil=>simp
 |cons x r ih=>rw[List.map_cons,List.flatten_cons,List.length_append,ih,iF,List.length_cons,Nat.succ_mul,Nat.add_comm]
theorem JA {xs:List Nat} {n k:Nat} (h:k<xs.length):puts (xs.take (k+1)) n=puts (xs.take k) n++le xs[k] n:=by
 unfold puts
 rw[List.take_succ_eq_append_getElem h,List.map_append,List.flatten_append]
 simp
theorem pW {a b:List Nat}:bytesV (a++b)=bytesV a++bytesV b:=by simp[bytesV]
theorem aaY {u:Value} {xs:List Nat} {n:Nat} (h:In w0 w (lZ r bs::bJ B::l)) (hu:dQ B u xs.length (EQ xs)) (h1:1≤n) (h8:n≤8) (hx:∀x∈xs,x<2 ^ (8*n)) (hlen:bs.length≤1000000) (hxl:xs.length≤100000):
 aW 72 #[r,.int .i64 n,u] w w0 (.tuple #[]) (lZ r (bs++puts xs n)::bJ B::l):=by
 obtain⟨au,cu,rfl⟩:=hu.form
 go_enter func72,ntmps72
 go_upto_region 1 with(fail)
 go_loopw [7,8,9,12] (fun _ _ _ c wr=>∃k:Nat,k≤xs.length∧c= .int .i64 k∧In w0 wr (lZ r (bs++puts (xs.take k) n)::bJ B::l))
  (fun _ _ _ c _=>xs.length-(intOf c).toNat)
 case atStart=>exact⟨0,Nat.zero_le _,rfl,by simpa[puts]using h⟩
 case round=>
  obtain⟨k,hk,rfl,hw⟩:=hrel
  clear h
  by_cases hlt:k<xs.length
  ·have hxk:=hx _ (List.getElem_mem hlt)
   have hst:bs++puts (xs.take (k+1)) n=(bs++puts (xs.take k) n)++le xs[k] n:=by rw[JA (n:=n) hlt,List.append_assoc]
   have hbl:(bs++puts (xs.take k) n).length≤2000000:=by
    rw[List.length_append,eP,List.length_take]
    have:min k xs.length*n≤100000*8:=Nat.mul_le_mul (by omega) h8
    omega
   obtain⟨g,o,cap,eu,_,hcell⟩:=hu.cells (hw.ae p1) (by omega)
   cases eu
   have hck:wr.cell? ⟨g,o+k,none⟩=some (.int .u64 (xs[k]:Nat)):=hcell k _ (by simp[EQ,hlt])
   have n1:(k:Int)<xs.length:=by omega
   generalize xs[k]=x at*
   generalize bs++puts (xs.take k) n=cs at*
   clear hcell
   go_upto_region 4 with(go_at_call 205;refine(I5 hw h1 h8 hxk).mono ?_;rintro _ w3 ⟨u3,rfl,h3⟩)
   obtain⟨v,h4⟩:=zg (h3.ae p1)
   have h5:=h4.pr [0,0,0,0]
   clear h4 h3 hck
   have bC:=h5.cells
   have jb:=h5.free
   obtain⟨av,cv,rfl⟩:=(h5.ae p1).aG
   rcases(h5.ae p2).aU with⟨_,e,_⟩|⟨g3,cap3,ext3,e,_⟩
   ·omega
   subst e
   go_wp2_with (with_reducible apply bH)
   unfold Stop
   refine kQ Qq (h5.ae p1) (by rfl) (by rfl) (by rw[jq,iF];omega) (h5.ae p2).Am pO (by omega) ?_
   intro v6 w6 h6
   obtain⟨a6,c6,rfl⟩:=h6.aG
   clear bC jb
   have bC:=(h6.ae p1).cells
   have jb:=(h6.ae p1).free
   have h7:In w0 _ (pts r (.cells #[.slice a6 (cs.length+n) c6] 162)::_):=(h6.ae p1).setCell (off:=0) (.slice a6 (cs.length+n) c6)
   go_upto_region 5 with(fail)
   refine In.abs h7 ?_
   clear h7 h6 h5 bC jb
   intro w7 h7
   go_wp2_with fail
   go_roundw
   case rel=>
    refine⟨k+1,hlt,by go_num,?_⟩
    rw[hst]
    have h8:=h7.pr [0,0,1] 1
    refine zo (v:= .slice a6 (cs.length+n) c6) ?_
    rw[List.length_append,iF,pW]
    exact h8
   case measure=>simp[intOf]<;>omega
  ·have hke:k=xs.length:=by omega
   subst hke
   rw[List.take_length]at hw
   go_wp2_with fail
   go_end0
   exact⟨rfl,hw⟩
theorem kK {xs:List Nat} {n:Nat} (h:In w0 w (lZ r bs::bJ B::l)) (h1:1≤n) (h8:n≤8) (hx:∀x∈xs,x<2 ^ (8*n)) (hlen:bs.length≤1000000) (hxl:xs.length≤100000):
 Calls prog 72 #[r,.int .i64 n,.slice (some ⟨w.heap.size,0,none⟩) xs.length xs.length] (w.alloc (.cells (EQ xs).toArray 165)) fun e w'=>e= .returned (.tuple #[])∧In w0 w' (lZ r (bs++puts xs n)::bJ B::l):=by
 have hA:=h.alloc (.cells (EQ xs).toArray 165)
 have hB:=In.nJ (E:=165) (size:=1) (n:=xs.length) (cap:=xs.length) (cs:=EQ xs) (ext:= []) (by rw[List.append_nil];exact hA) (by simp[EQ]) (Nat.le_refl _) (by unfold maxLen;omega) (by simp) (by intro u hu;obtain⟨x,_,rfl⟩:=List.mem_map.1 hu;rfl)
 have hC:=hB.pr [0,1,0]
 obtain⟨C,IE,hu,hD⟩:=hC.dY
 refine(aaY (hD.ae p1) hu h1 h8 hx hlen hxl).mono ?_
 rintro e w' ⟨rfl,h'⟩
 exact⟨rfl,((h'.ae p1).Ad IE).ae p1⟩
def uh (l:List Nat):List Value:=l.map fun(n:Nat)=>Value.int .i64 (n:Int)
theorem WQ {x:Nat} (h:x<256):puts [x] 1=[x]:=by
 simp[puts,le,byteAt,List.range_succ]
 omega
theorem MH {u:Value} {xs:List Nat} (h:In w0 w (lZ r bs::bJ B::l)) (hu:dQ B u xs.length (uh xs)) (hx:∀x∈xs,x<256) (hlen:bs.length+xs.length≤1000000):
 aW 74 #[r,u] w w0 (.tuple #[]) (lZ r (bs++xs)::bJ B::l):=by
 obtain⟨au,cu,rfl⟩:=hu.form
 go_enter func74,ntmps74
 go_upto_region 1 with(fail)
 go_loopw [5,8] (fun _ c wr=>∃k:Nat,k≤xs.length∧c= .int .i64 k∧In w0 wr (lZ r (bs++xs.take k)::bJ B::l))
  (fun _ c _=>xs.length-(intOf c).toNat)
 case atStart=>exact⟨0,Nat.zero_le _,rfl,by simpa using h⟩
 case round=>
  obtain⟨k,hk,rfl,hw⟩:=hrel
  clear h
  by_cases hlt:k<xs.length
  ·have hxk:=hx _ (List.getElem_mem hlt)
   have hst:bs++xs.take (k+1)=(bs++xs.take k)++ [xs[k]]:=by rw[List.take_succ_eq_append_getElem hlt,List.append_assoc]
   have hbl:(bs++xs.take k).length≤1000000:=by rw[List.length_append,List.length_take];omega
   obtain⟨g,o,cap,eu,_,hcell⟩:=hu.cells (hw.ae p1) (by omega)
   cases eu
   have hck:wr.cell? ⟨g,o+k,none⟩=some (.int .i64 (xs[k]:Nat)):=hcell k _ (by simp[uh,hlt])
   have n1:(k:Int)<xs.length:=by omega
   generalize xs[k]=x at*
   generalize bs++xs.take k=cs at*
   clear hcell
   have hp:=kK (xs:=[x]) (n:=1) hw (by omega) (by omega) (by simpa using hxk) hbl (by simp)
   rw[WQ hxk]at hp
   have hcv:IntKind.u64.wrap (x:Int)=(x:Int):=by unfold IntKind.wrap;simp[IntKind.signed,IntKind.bits];omega
   go_wp2_with (go_at_call 72;refine bF hp ?_;intro w3 h3)
   go_roundw
   case rel=>exact⟨k+1,hlt,by go_num,by rw[hst];exact h3⟩
   case measure=>simp[intOf]<;>omega
  ·have hke:k=xs.length:=by omega
   subst hke
   rw[List.take_length]at hw
   go_wp2_with fail
   go_end0
   exact⟨rfl,hw⟩
end
section
variable {w0 w:World} {l:List SL} {r:Nat} {bs:List Nat} {B:List (Nat × Obj)}
def ik (l:List Int):List Nat:=l.map Int.toNat
theorem Jd {xs:List Int} (h:∀x∈xs,0≤x∧x≤255):uh (ik xs)=ints xs:=by
 unfold uh ik ints
 rw[List.map_map]
 apply List.map_congr_left
 intro x hx
 have:=h x hx
 simp only[Function.comp]
 congr 1
 omega
theorem oI {xs:List Int} (h:∀x∈xs,0≤x∧x≤255):∀x∈ik xs,x<256:=by
 intro x hx
 obtain⟨y,hy,rfl⟩:=List.mem_map.1 hx
 have:=h y hy
 omega
theorem lH {xs:List Int}:(ik xs).length=xs.length:=by simp[ik]
theorem iK {xs:List Int} (h:In w0 w (lZ r bs::bJ B::l)) (hx:∀x∈xs,0≤x∧x≤255) (hlen:bs.length+xs.length≤1000000):
 Calls prog 74 #[r,.slice (some ⟨w.heap.size,0,none⟩) xs.length xs.length] (w.alloc (.cells (ints xs).toArray 3)) fun e w'=>e= .returned (.tuple #[])∧In w0 w' (lZ r (bs++ik xs)::bJ B::l):=by
 have hA:=h.alloc (.cells (ints xs).toArray 3)
 have hB:=In.nJ (E:=3) (size:=1) (n:=xs.length) (cap:=xs.length) (cs:=ints xs) (ext:= []) (by rw[List.append_nil];exact hA) (by simp[ints]) (Nat.le_refl _) (by unfold maxLen;omega) (by simp) (by intro u hu;obtain⟨x,_,rfl⟩:=List.mem_map.1 hu;rfl)
 have hC:=hB.pr [0,1,0]
 obtain⟨C,IE,hu,hD⟩:=hC.dY
 rw[←Jd hx,←lH]at hu
 rw[←lH]
 refine(MH (hD.ae p1) hu (oI hx) (by rw[lH];exact hlen)).mono ?_
 rintro e w' ⟨rfl,h'⟩
 exact⟨rfl,((h'.ae p1).Ad IE).ae p1⟩
theorem Rw {b:Bool} (h:In w0 w (lZ r bs::bJ B::l)) (hlen:bs.length≤900000):
 aW 189 #[r,.bool b] w w0 (.tuple #[]) (lZ r (bs++ [if b then 1 else 0])::bJ B::l):=by
 cases b with
 |true=>
  have hp:=iK (xs:=[1]) h (by simp) (by simp;omega)
  go_enter func189,ntmps189
  go_wp2_with (go_at_call 74;refine bF hp ?_;intro w3 h3)
  go_end0
  exact⟨rfl,h3⟩
 |false=>
  have hp:=iK (xs:=[0]) h (by simp) (by simp;omega)
  go_enter func189,ntmps189
  go_wp2_with (go_at_call 74;refine bF hp ?_;intro w3 h3)
  go_end0
  exact⟨rfl,h3⟩
theorem L8 {v:Int} (h:In w0 w (lZ r bs::bJ B::l)) (h0: -1≤v) (h1:v≤254) (hlen:bs.length≤900000):
 aW 190 #[r,.int .i64 v] w w0 (.tuple #[]) (lZ r (bs++ [(v+1).toNat])::bJ B::l):=by
 have hp:=iK (xs:=[v+1]) h (by simp;omega) (by simp;omega)
 go_enter func190,ntmps190
 go_wp2_with (go_at_call 74;refine bF hp ?_;intro w3 h3)
 go_end0
 exact⟨rfl,h3⟩
theorem QX {u:Value} {xs:List Int} (h:In w0 w (lZ r bs::bJ B::l)) (hu:dQ B u xs.length (ints xs)) (hx:∀x∈xs,0≤x∧x≤255) (hn:xs.length≤255) (hlen:bs.length≤900000):
 aW 191 #[r,u] w w0 (.tuple #[]) (lZ r (bs++xs.length::ik xs)::bJ B::l):=by
 have hp:=iK (xs:=[(xs.length:Int)]) h (by simp;omega) (by simp;omega)
 have hu2:=hu
 rw[←Jd hx,←lH]at hu2
 obtain⟨au,cu,rfl⟩:=hu.form
 go_enter func191,ntmps191
 go_upto_region 1 with(go_at_call 74;refine bF hp ?_;intro w3 h3)
 have h4:In w0 w3 (lZ r (bs++ [xs.length])::bJ B::l):=h3
 have hq:=MH h4 hu2 (oI hx) (by rw[lH];simp;omega)
 clear hp h3 h4
 go_wp2_with (go_at_call 74;refine bF hq ?_;intro w5 h5)
 go_end0
 have e:bs++ [xs.length]++ik xs=bs++xs.length::ik xs:=by simp
 rw[e]at h5
 exact⟨rfl,h5⟩
def dW (a:zx):List Nat:=ik [a.kind,a.lL]++le a.mask.toNat 4
theorem Je {a:zx} (h:In w0 w (lZ r bs::bJ B::l)) (hk:0≤a.kind∧a.kind≤255) (ht:0≤a.lL∧a.lL≤255) (hm:0≤a.mask∧a.mask<4294967296) (hlen:bs.length≤900000):
 aW 200 #[r,.agg #[.int .i64 a.kind,.int .i64 a.lL,.int .u32 a.mask]] w w0 (.tuple #[]) (lZ r (bs++dW a)::bJ B::l):=by
 rcases a with⟨kd,tk,mk⟩
 simp only at hk ht hm⊢
 obtain⟨m,rfl⟩:∃m:Nat,mk=m:=⟨mk.toNat,by omega⟩
 have h1:=h.alloc (CO kd tk (m:Int))
 go_enter func200,ntmps200
 go_upto_region 1 with(fail)
 refine In.abs h1 ?_
 clear h1 h
 generalize w.heap.size=z
 intro w2 h2
 have bC:=h2.cells
 have h3:=h2.pr [1,1,0]
 have hp:=iK (xs:=[kd,tk]) h3 (by simp;omega) (by simp;omega)
 go_upto_region 2 with(go_at_call 74;refine bF hp ?_;intro w4 h4)
 clear hp h2 h3 bC
 have bC:=(h4.ae p2).cells
 have hq:=kK (xs:=[m]) (n:=4) h4 (by omega) (by omega) (by simp;omega) (by simp[ik];omega) (by simp)
 have hcv:IntKind.u64.wrap (m:Int)=(m:Int):=by unfold IntKind.wrap;simp[IntKind.signed,IntKind.bits];omega
 go_wp2_with (go_at_call 72;refine bF hq ?_;intro w5 h5)
 go_end0
 refine⟨rfl,?_⟩
 have e:bs++ik [kd,tk]++puts [m] 4=bs++dW ⟨kd,tk,(m:Int)⟩:=by simp[dW,puts]
 rw[e]at h5
 exact h5.s
end
def mQ (b:Bool):Nat:=if b then 1 else 0
section
variable {w0 w:World} {l:List SL} {r:Nat} {bs:List Nat} {B:List (Nat × Obj)}
def rX (aI ring limit mask internal dX:Int) (full:Bool) (own:List Int):List Nat:=ik [aI,ring]++([mQ full]++(ik [limit]++(puts [mask.toNat] 4++([(internal+1).toNat]++(own.length::ik own++(puts [dX.toNat] 1))))))
theorem ZO {aI ring limit mask internal dX:Int} {full:Bool} {own:List Int} {ao:Option Addr} {cap:Nat} (h:In w0 w (lZ r bs::bJ B::l)) (h_prio:0≤aI∧aI≤255) (h_ring:0≤ring∧ring≤255) (h_limit:0≤limit∧limit≤255) (h_mask:0≤mask∧mask<4294967296) (h_internal: -1≤internal∧internal≤254) (hu:dQ B (.slice ao own.length cap) own.length (ints own)) (h_own:∀x∈own,0≤x∧x≤255) (h_ownl:own.length≤255) (h_auto:0≤dX∧dX<256) (hlen:bs.length≤800000):
 aW 188 #[r,.agg #[.int .i64 aI,.int .i64 ring,.bool full,.int .i64 limit,.int .u32 mask,.int .i64 internal,.slice ao own.length cap,.int .u32 dX]] w w0 (.tuple #[]) (lZ r (bs++rX aI ring limit mask internal dX full own)::bJ B::l):=by
 obtain⟨vJ,rfl⟩:∃n:Nat,mask=n:=⟨mask.toNat,by omega⟩
 have hc_mask:IntKind.u64.wrap (vJ:Int)=(vJ:Int):=by unfold IntKind.wrap;simp[IntKind.signed,IntKind.bits];omega
 obtain⟨kU,rfl⟩:∃n:Nat,dX=n:=⟨dX.toNat,by omega⟩
 have hc_auto:IntKind.u64.wrap (kU:Int)=(kU:Int):=by unfold IntKind.wrap;simp[IntKind.signed,IntKind.bits];omega
 have hb:=h.alloc (BB aI ring full limit (vJ:Int) internal (.slice ao own.length cap) (kU:Int))
 go_enter func188,ntmps188
 go_upto_region 1 with(fail)
 refine In.abs hb ?_
 clear hb h
 generalize w.heap.size=z
 intro w2 hb
 have bC:=hb.cells
 have h0:=hb.pr [1,1,0]
 clear hb
 have hp:=iK (xs:=[aI,ring]) h0 (by simp;omega) (by first|omega|(simp[ik,eP,dW,iF];omega))
 go_upto_region 2 with(go_at_call 74;refine bF hp ?_;intro w3 h1)
 clear hp h0 bC
 have bC:=(h1.ae p2).cells
 have hp:=Rw (b:=full) h1 (by first|omega|(simp[ik,eP,dW,iF];omega))
 go_upto_region 3 with(go_at_call 189;refine bF hp ?_;intro w4 h2)
 clear hp h1 bC
 have bC:=(h2.ae p2).cells
 have hp:=iK (xs:=[limit]) h2 (by simp;omega) (by first|omega|(simp[ik,eP,dW,iF];omega))
 go_upto_region 4 with(go_at_call 74;refine bF hp ?_;intro w5 h3)
 clear hp h2 bC
 have bC:=(h3.ae p2).cells
 have hp:=kK (xs:=[vJ]) (n:=4) h3 (by omega) (by omega) (by simp;omega) (by first|omega|(simp[ik,eP,dW,iF];omega)) (by simp)
 go_upto_region 5 with(go_at_call 72;refine bF hp ?_;intro w6 h4)
 clear hp h3 bC
 have bC:=(h4.ae p2).cells
 have hp:=L8 (v:=internal) h4 h_internal.1 h_internal.2 (by first|omega|(simp[ik,eP,dW,iF];omega))
 go_upto_region 6 with(go_at_call 190;refine bF hp ?_;intro w7 h5)
 clear hp h4 bC
 have bC:=(h5.ae p2).cells
 have hp:=QX h5 hu h_own h_ownl (by first|omega|(simp[ik,eP,dW,iF];omega))
 go_upto_region 7 with(go_at_call 191;refine bF hp ?_;intro w8 h6)
 clear hp h5 bC
 have bC:=(h6.ae p2).cells
 have hp:=kK (xs:=[kU]) (n:=1) h6 (by omega) (by omega) (by simp;omega) (by first|omega|(simp[ik,eP,dW,iF];omega)) (by simp)
 go_wp2_with (go_at_call 72;refine bF hp ?_;intro w9 h7)
 go_end0
 refine⟨rfl,?_⟩
 have hz:In w0 w9 (lZ r (bs++(ik [aI,ring])++([mQ full])++(ik [limit])++(puts [vJ] 4)++([(internal+1).toNat])++(own.length::ik own)++(puts [kU] 1))::bJ B::pts z (BB aI ring full limit (vJ:Int) internal (.slice ao own.length cap) (kU:Int))::l):=h7
 have e:bs++(ik [aI,ring])++([mQ full])++(ik [limit])++(puts [vJ] 4)++([(internal+1).toNat])++(own.length::ik own)++(puts [kU] 1)=bs++rX aI ring limit (vJ:Int) internal (kU:Int) full own:=by simp[rX,mQ]
 rw[e]at hz
 exact hz.s
def uK (aI cap:Int):List Nat:=ik [aI]++(puts [cap.toNat] 2)
theorem Zi {aI cap:Int} (h:In w0 w (lZ r bs::bJ B::l)) (h_prio:0≤aI∧aI≤255) (h_cap:0≤cap∧cap<65536) (hlen:bs.length≤800000):
 aW 193 #[r,.agg #[.int .i64 aI,.int .i64 cap]] w w0 (.tuple #[]) (lZ r (bs++uK aI cap)::bJ B::l):=by
 obtain⟨zT,rfl⟩:∃n:Nat,cap=n:=⟨cap.toNat,by omega⟩
 have hc_cap:IntKind.u64.wrap (zT:Int)=(zT:Int):=by unfold IntKind.wrap;simp[IntKind.signed,IntKind.bits];omega
 have hb:=h.alloc (Ik aI (zT:Int))
 go_enter func193,ntmps193
 go_upto_region 1 with(fail)
 refine In.abs hb ?_
 clear hb h
 generalize w.heap.size=z
 intro w2 hb
 have bC:=hb.cells
 have h0:=hb.pr [1,1,0]
 clear hb
 have hp:=iK (xs:=[aI]) h0 (by simp;omega) (by first|omega|(simp[ik,eP,dW,iF];omega))
 go_upto_region 2 with(go_at_call 74;refine bF hp ?_;intro w3 h1)
 clear hp h0 bC
 have bC:=(h1.ae p2).cells
 have hp:=kK (xs:=[zT]) (n:=2) h1 (by omega) (by omega) (by simp;omega) (by first|omega|(simp[ik,eP,dW,iF];omega)) (by simp)
 go_wp2_with (go_at_call 72;refine bF hp ?_;intro w4 h2)
 go_end0
 refine⟨rfl,?_⟩
 have hz:In w0 w4 (lZ r (bs++(ik [aI])++(puts [zT] 2))::bJ B::pts z (Ik aI (zT:Int))::l):=h2
 have e:bs++(ik [aI])++(puts [zT] 2)=bs++uK aI (zT:Int):=by simp[uK,mQ]
 rw[e]at hz
 exact hz.s
def wX (ceil:Int) (int:Bool):List Nat:=[mQ int]++([(ceil+1).toNat])
theorem ace {ceil:Int} {int:Bool} (h:In w0 w (lZ r bs::bJ B::l)) (h_ceil: -1≤ceil∧ceil≤254) (hlen:bs.length≤800000):
 aW 195 #[r,.agg #[.bool int,.int .i64 ceil]] w w0 (.tuple #[]) (lZ r (bs++wX ceil int)::bJ B::l):=by
 have hb:=h.alloc (L6 int ceil)
 go_enter func195,ntmps195
 go_upto_region 1 with(fail)
 refine In.abs hb ?_
 clear hb h
 generalize w.heap.size=z
 intro w2 hb
 have bC:=hb.cells
 have h0:=hb.pr [1,1,0]
 clear hb
 have hp:=Rw (b:=int) h0 (by first|omega|(simp[ik,eP,dW,iF];omega))
 go_upto_region 2 with(go_at_call 189;refine bF hp ?_;intro w3 h1)
 clear hp h0 bC
 have bC:=(h1.ae p2).cells
 have hp:=L8 (v:=ceil) h1 h_ceil.1 h_ceil.2 (by first|omega|(simp[ik,eP,dW,iF];omega))
 go_wp2_with (go_at_call 190;refine bF hp ?_;intro w4 h2)
 go_end0
 refine⟨rfl,?_⟩
 have hz:In w0 w4 (lZ r (bs++([mQ int])++([(ceil+1).toNat]))::bJ B::pts z (L6 int ceil)::l):=h2
 have e:bs++([mQ int])++([(ceil+1).toNat])=bs++wX ceil int:=by simp[wX,mQ]
 rw[e]at hz
 exact hz.s
def xe (mx base mn:Int):List Nat:=puts [mx.toNat,base.toNat,mn.toNat] 4
theorem abg {mx base mn:Int} (h:In w0 w (lZ r bs::bJ B::l)) (h_mx:0≤mx∧mx<4294967296) (h_base:0≤base∧base<4294967296) (h_mn:0≤mn∧mn<4294967296) (hlen:bs.length≤800000):
 aW 197 #[r,.agg #[.int .u32 mx,.int .u32 base,.int .u32 mn]] w w0 (.tuple #[]) (lZ r (bs++xe mx base mn)::bJ B::l):=by
 obtain⟨Hy,rfl⟩:∃n:Nat,mx=n:=⟨mx.toNat,by omega⟩
 have hc_mx:IntKind.u64.wrap (Hy:Int)=(Hy:Int):=by unfold IntKind.wrap;simp[IntKind.signed,IntKind.bits];omega
 obtain⟨vK,rfl⟩:∃n:Nat,base=n:=⟨base.toNat,by omega⟩
 have hc_base:IntKind.u64.wrap (vK:Int)=(vK:Int):=by unfold IntKind.wrap;simp[IntKind.signed,IntKind.bits];omega
 obtain⟨Hz,rfl⟩:∃n:Nat,mn=n:=⟨mn.toNat,by omega⟩
 have hc_mn:IntKind.u64.wrap (Hz:Int)=(Hz:Int):=by unfold IntKind.wrap;simp[IntKind.signed,IntKind.bits];omega
 have hb:=h.alloc (Il (Hy:Int) (vK:Int) (Hz:Int))
 go_enter func197,ntmps197
 go_upto_region 1 with(fail)
 refine In.abs hb ?_
 clear hb h
 generalize w.heap.size=z
 intro w2 hb
 have bC:=hb.cells
 have h0:=hb.pr [1,1,0]
 clear hb
 have hp:=kK (xs:=[Hy,vK,Hz]) (n:=4) h0 (by omega) (by omega) (by simp;omega) (by first|omega|(simp[ik,eP,dW,iF];omega)) (by simp)
 go_wp2_with (go_at_call 72;refine bF hp ?_;intro w3 h1)
 go_end0
 refine⟨rfl,?_⟩
 have hz:In w0 w3 (lZ r (bs++(puts [Hy,vK,Hz] 4))::bJ B::pts z (Il (Hy:Int) (vK:Int) (Hz:Int))::l):=h1
 have e:bs++(puts [Hy,vK,Hz] 4)=bs++xe (Hy:Int) (vK:Int) (Hz:Int):=by simp[xe,mQ]
 rw[e]at hz
 exact hz.s
def rV (oZ kd tk mk dX time cycle:Int):List Nat:=ik [oZ]++(dW ⟨kd,tk,mk⟩++(puts [dX.toNat] 1++(puts [time.toNat,cycle.toNat] 4)))
theorem V9 {oZ kd tk mk dX time cycle:Int} (h:In w0 w (lZ r bs::bJ B::l)) (h_ctr:0≤oZ∧oZ≤255) (h_kd:0≤kd∧kd≤255) (h_tk:0≤tk∧tk≤255) (h_mk:0≤mk∧mk<4294967296) (h_auto:0≤dX∧dX<256) (h_time:0≤time∧time<4294967296) (h_cycle:0≤cycle∧cycle<4294967296) (hlen:bs.length≤800000):
 aW 199 #[r,.agg #[.int .i64 oZ,.int .i64 kd,.int .i64 tk,.int .u32 mk,.int .u32 dX,.int .u32 time,.int .u32 cycle]] w w0 (.tuple #[]) (lZ r (bs++rV oZ kd tk mk dX time cycle)::bJ B::l):=by
 obtain⟨vM,rfl⟩:∃n:Nat,mk=n:=⟨mk.toNat,by omega⟩
 have hc_mk:IntKind.u64.wrap (vM:Int)=(vM:Int):=by unfold IntKind.wrap;simp[IntKind.signed,IntKind.bits];omega
 obtain⟨kU,rfl⟩:∃n:Nat,dX=n:=⟨dX.toNat,by omega⟩
 have hc_auto:IntKind.u64.wrap (kU:Int)=(kU:Int):=by unfold IntKind.wrap;simp[IntKind.signed,IntKind.bits];omega
 obtain⟨vN,rfl⟩:∃n:Nat,time=n:=⟨time.toNat,by omega⟩
 have hc_time:IntKind.u64.wrap (vN:Int)=(vN:Int):=by unfold IntKind.wrap;simp[IntKind.signed,IntKind.bits];omega
 obtain⟨rD,rfl⟩:∃n:Nat,cycle=n:=⟨cycle.toNat,by omega⟩
 have hc_cycle:IntKind.u64.wrap (rD:Int)=(rD:Int):=by unfold IntKind.wrap;simp[IntKind.signed,IntKind.bits];omega
 have hb:=h.alloc (OH oZ kd tk (vM:Int) (kU:Int) (vN:Int) (rD:Int))
 go_enter func199,ntmps199
 go_upto_region 1 with(fail)
 refine In.abs hb ?_
 clear hb h
 generalize w.heap.size=z
 intro w2 hb
 have bC:=hb.cells
 have h0:=hb.pr [1,1,0]
 clear hb
 have hp:=iK (xs:=[oZ]) h0 (by simp;omega) (by first|omega|(simp[ik,eP,dW,iF];omega))
 go_upto_region 2 with(go_at_call 74;refine bF hp ?_;intro w3 h1)
 clear hp h0 bC
 have bC:=(h1.ae p2).cells
 have hp:=Je (a:=⟨kd,tk,(vM:Int)⟩) h1 h_kd h_tk (by simp only;omega) (by first|omega|(simp[ik,eP,dW,iF];omega))
 go_upto_region 3 with(go_at_call 200;refine bF hp ?_;intro w4 h2)
 clear hp h1 bC
 have bC:=(h2.ae p2).cells
 have hp:=kK (xs:=[kU]) (n:=1) h2 (by omega) (by omega) (by simp;omega) (by first|omega|(simp[ik,eP,dW,iF];omega)) (by simp)
 go_upto_region 4 with(go_at_call 72;refine bF hp ?_;intro w5 h3)
 clear hp h2 bC
 have bC:=(h3.ae p2).cells
 have hp:=kK (xs:=[vN,rD]) (n:=4) h3 (by omega) (by omega) (by simp;omega) (by first|omega|(simp[ik,eP,dW,iF];omega)) (by simp)
 go_wp2_with (go_at_call 72;refine bF hp ?_;intro w6 h4)
 go_end0
 refine⟨rfl,?_⟩
 have hz:In w0 w6 (lZ r (bs++(ik [oZ])++(dW ⟨kd,tk,(vM:Int)⟩)++(puts [kU] 1)++(puts [vN,rD] 4))::bJ B::pts z (OH oZ kd tk (vM:Int) (kU:Int) (vN:Int) (rD:Int))::l):=h4
 have e:bs++(ik [oZ])++(dW ⟨kd,tk,(vM:Int)⟩)++(puts [kU] 1)++(puts [vN,rD] 4)=bs++rV oZ kd tk (vM:Int) (kU:Int) (vN:Int) (rD:Int):=by simp[rV,mQ]
 rw[e]at hz
 exact hz.s
def xq (cat aI:Int) (own:List Int):List Nat:=ik [cat,aI]++(own.length::ik own)
theorem ab7 {cat aI:Int} {own:List Int} {ao:Option Addr} {cap:Nat} (h:In w0 w (lZ r bs::bJ B::l)) (h_cat:0≤cat∧cat≤255) (h_prio:0≤aI∧aI≤255) (hu:dQ B (.slice ao own.length cap) own.length (ints own)) (h_own:∀x∈own,0≤x∧x≤255) (h_ownl:own.length≤255) (hlen:bs.length≤800000):
 aW 202 #[r,.agg #[.int .i64 cat,.int .i64 aI,.slice ao own.length cap]] w w0 (.tuple #[]) (lZ r (bs++xq cat aI own)::bJ B::l):=by
 have hb:=h.alloc (Ic cat aI (.slice ao own.length cap))
 go_enter func202,ntmps202
 go_upto_region 1 with(fail)
 refine In.abs hb ?_
 clear hb h
 generalize w.heap.size=z
 intro w2 hb
 have bC:=hb.cells
 have h0:=hb.pr [1,1,0]
 clear hb
 have hp:=iK (xs:=[cat,aI]) h0 (by simp;omega) (by first|omega|(simp[ik,eP,dW,iF];omega))
 go_upto_region 2 with(go_at_call 74;refine bF hp ?_;intro w3 h1)
 clear hp h0 bC
 have bC:=(h1.ae p2).cells
 have hp:=QX h1 hu h_own h_ownl (by first|omega|(simp[ik,eP,dW,iF];omega))
 go_wp2_with (go_at_call 191;refine bF hp ?_;intro w4 h2)
 go_end0
 refine⟨rfl,?_⟩
 have hz:In w0 w4 (lZ r (bs++(ik [cat,aI])++(own.length::ik own))::bJ B::pts z (Ic cat aI (.slice ao own.length cap))::l):=h2
 have e:bs++(ik [cat,aI])++(own.length::ik own)=bs++xq cat aI own:=by simp[xq,mQ]
 rw[e]at hz
 exact hz.s
def xG (kind len src init queue kd tk mk:Int):List Nat:=ik [kind,len,src]++(puts [init.toNat] 8++(ik [queue]++(dW ⟨kd,tk,mk⟩)))
theorem ab6 {kind len src init queue kd tk mk:Int} (h:In w0 w (lZ r bs::bJ B::l)) (h_kind:0≤kind∧kind≤255) (h_len:0≤len∧len≤255) (h_src:0≤src∧src≤255) (h_init:0≤init∧init<18446744073709551616) (h_queue:0≤queue∧queue≤255) (h_kd:0≤kd∧kd≤255) (h_tk:0≤tk∧tk≤255) (h_mk:0≤mk∧mk<4294967296) (hlen:bs.length≤800000):
 aW 204 #[r,.agg #[.int .i64 kind,.int .i64 len,.int .i64 src,.int .u64 init,.int .i64 queue,.int .i64 kd,.int .i64 tk,.int .u32 mk]] w w0 (.tuple #[]) (lZ r (bs++xG kind len src init queue kd tk mk)::bJ B::l):=by
 obtain⟨vO,rfl⟩:∃n:Nat,init=n:=⟨init.toNat,by omega⟩
 have hc_init:IntKind.u64.wrap (vO:Int)=(vO:Int):=by unfold IntKind.wrap;simp[IntKind.signed,IntKind.bits];omega
 obtain⟨vM,rfl⟩:∃n:Nat,mk=n:=⟨mk.toNat,by omega⟩
 have hc_mk:IntKind.u64.wrap (vM:Int)=(vM:Int):=by unfold IntKind.wrap;simp[IntKind.signed,IntKind.bits];omega
 have hb:=h.alloc (Nv kind len src (vO:Int) queue kd tk (vM:Int))
 go_enter func204,ntmps204
 go_upto_region 1 with(fail)
 refine In.abs hb ?_
 clear hb h
 generalize w.heap.size=z
 intro w2 hb
 have bC:=hb.cells
 have h0:=hb.pr [1,1,0]
 clear hb
 have hp:=iK (xs:=[kind,len,src]) h0 (by simp;omega) (by first|omega|(simp[ik,eP,dW,iF];omega))
 go_upto_region 2 with(go_at_call 74;refine bF hp ?_;intro w3 h1)
 clear hp h0 bC
 have bC:=(h1.ae p2).cells
 have hp:=kK (xs:=[vO]) (n:=8) h1 (by omega) (by omega) (by simp;omega) (by first|omega|(simp[ik,eP,dW,iF];omega)) (by simp)
 go_upto_region 3 with(go_at_call 72;refine bF hp ?_;intro w4 h2)
 clear hp h1 bC
 have bC:=(h2.ae p2).cells
 have hp:=iK (xs:=[queue]) h2 (by simp;omega) (by first|omega|(simp[ik,eP,dW,iF];omega))
 go_upto_region 4 with(go_at_call 74;refine bF hp ?_;intro w5 h3)
 clear hp h2 bC
 have bC:=(h3.ae p2).cells
 have hp:=Je (a:=⟨kd,tk,(vM:Int)⟩) h3 h_kd h_tk (by simp only;omega) (by first|omega|(simp[ik,eP,dW,iF];omega))
 go_wp2_with (go_at_call 200;refine bF hp ?_;intro w6 h4)
 go_end0
 refine⟨rfl,?_⟩
 have hz:In w0 w6 (lZ r (bs++(ik [kind,len,src])++(puts [vO] 8)++(ik [queue])++(dW ⟨kd,tk,(vM:Int)⟩))::bJ B::pts z (Nv kind len src (vO:Int) queue kd tk (vM:Int))::l):=h4
 have e:bs++(ik [kind,len,src])++(puts [vO] 8)++(ik [queue])++(dW ⟨kd,tk,(vM:Int)⟩)=bs++xG kind len src (vO:Int) queue kd tk (vM:Int):=by simp[xG,mQ]
 rw[e]at hz
 exact hz.s
end
theorem dK {α:Type} {f:α→List Nat} {m:Nat}:∀ {xs:List α},(∀x∈xs,(f x).length≤m)→(xs.map f).flatten.length≤xs.length*m
 | [],_=>by simp
 |x::r,h=>by
  have h1:=h x (by simp)
  have h2:=dK (xs:=r) fun y hy=>h y (List.mem_cons_of_mem _ hy)
  simp only[List.map_cons,List.flatten_cons,List.length_append,List.length_cons,Nat.succ_mul]
  omega
section
variable {w0 w:World} {l:List SL} {r:Nat} {bs:List Nat} {B:List (Nat × Obj)}
def ja (x:kS):List Nat:=uK x.aI x.cap
def zM (B:List (Nat × Obj)) (x:kS):Prop:=(0≤x.aI∧x.aI≤255)∧(0≤x.cap∧x.cap<65536)
theorem Le {u:Value} {xs:List kS} (h:In w0 w (lZ r bs::bJ B::l)) (hu:dQ B u xs.length (xs.map iR).flatten) (hok:∀x∈xs,zM B x) (hrl:∀x∈xs,(ja x).length≤600) (hlen:bs.length≤600000) (hn:xs.length≤256):
 aW 192 #[r,u,.func (.func 193) #[] #[]] w w0 (.tuple #[]) (lZ r (bs++(xs.map ja).flatten)::bJ B::l):=by
 obtain⟨au,cu,rfl⟩:=hu.form
 go_enter func192,ntmps192
 go_upto_region 1 with(fail)
 go_loopw [7,10] (fun _ c wr=>∃k:Nat,k≤xs.length∧c= .int .i64 k∧In w0 wr (lZ r (bs++((xs.take k).map ja).flatten)::bJ B::l))
  (fun _ c _=>xs.length-(intOf c).toNat)
 case atStart=>exact⟨0,Nat.zero_le _,rfl,by simpa using h⟩
 case round=>
  obtain⟨k,hk,rfl,hw⟩:=hrel
  clear h
  by_cases hlt:k<xs.length
  ·have hkr:=List.getElem?_eq_getElem hlt
   have hxo:=hok _ (List.getElem_mem hlt)
   have hst:bs++((xs.take (k+1)).map ja).flatten=(bs++((xs.take k).map ja).flatten)++ja xs[k]:=by
    rw[List.take_succ_eq_append_getElem hlt,List.map_append,List.flatten_append,List.append_assoc]
    simp
   have hbl:(bs++((xs.take k).map ja).flatten).length≤800000:=by
    have:=dK (f:=ja) (m:=600) (xs:=xs.take k) fun x hx=>hrl x (List.mem_of_mem_take hx)
    rw[List.length_take]at this
    rw[List.length_append]
    omega
   generalize bs++((xs.take k).map ja).flatten=cs at*
   generalize xs[k]=x at*
   obtain⟨g0,o0,cap0,e0,hcl⟩:=iw (slot:=iR) (size:=2) (fun _=>rfl) hu hkr
   cases e0
   rcases x with⟨aI,cap⟩
   unfold zM at hxo
   simp only at hxo
   obtain⟨p_0,p_1⟩:=hxo
   have hd0:=hcl (hw.ae p1) 0 _ rfl (by decide)
   have hd1:=hcl (hw.ae p1) 1 _ rfl (by decide)
   rw[Nat.add_zero]at hd0
   clear hcl
   simp only at hd0 hd1
   have n3:(k:Int)<xs.length:=by omega
   have h6:=hw.alloc (Ik aI cap)
   go_upto_region 3 with(fail)
   refine In.abs h6 ?_
   clear h6 hw hd0 hd1
   generalize wr.heap.size=y
   intro w6 h6
   have bC:=h6.cells
   have h7:=h6.pr [1,1,0]
   have hp:=Zi h7 p_0 p_1 hbl
   go_wp2_with (go_at_call 193;refine bF hp ?_;intro w8 h8)
   go_roundw
   case rel=>exact⟨k+1,hlt,by go_num,by rw[hst];have hz:In w0 w8 (lZ r (cs++ja ⟨aI,cap⟩)::bJ B::pts y (Ik aI cap)::l):=h8;exact hz.s⟩
   case measure=>simp[intOf]<;>omega
  ·have hke:k=xs.length:=by omega
   subst hke
   rw[List.take_length]at hw
   go_wp2_with fail
   go_end0
   exact⟨rfl,hw⟩
def jU (x:IA):List Nat:=wX x.gJ x.internal
def AX (B:List (Nat × Obj)) (x:IA):Prop:=(-1≤x.gJ∧x.gJ≤254)
theorem OG {u:Value} {xs:List IA} (h:In w0 w (lZ r bs::bJ B::l)) (hu:dQ B u xs.length (xs.map kw).flatten) (hok:∀x∈xs,AX B x) (hrl:∀x∈xs,(jU x).length≤600) (hlen:bs.length≤600000) (hn:xs.length≤256):
 aW 194 #[r,u,.func (.func 195) #[] #[]] w w0 (.tuple #[]) (lZ r (bs++(xs.map jU).flatten)::bJ B::l):=by
 obtain⟨au,cu,rfl⟩:=hu.form
 go_enter func194,ntmps194
 go_upto_region 1 with(fail)
 go_loopw [7,10] (fun _ c wr=>∃k:Nat,k≤xs.length∧c= .int .i64 k∧In w0 wr (lZ r (bs++((xs.take k).map jU).flatten)::bJ B::l))
  (fun _ c _=>xs.length-(intOf c).toNat)
 case atStart=>exact⟨0,Nat.zero_le _,rfl,by simpa using h⟩
 case round=>
  obtain⟨k,hk,rfl,hw⟩:=hrel
  clear h
  by_cases hlt:k<xs.length
  ·have hkr:=List.getElem?_eq_getElem hlt
   have hxo:=hok _ (List.getElem_mem hlt)
   have hst:bs++((xs.take (k+1)).map jU).flatten=(bs++((xs.take k).map jU).flatten)++jU xs[k]:=by
    rw[List.take_succ_eq_append_getElem hlt,List.map_append,List.flatten_append,List.append_assoc]
    simp
   have hbl:(bs++((xs.take k).map jU).flatten).length≤800000:=by
    have:=dK (f:=jU) (m:=600) (xs:=xs.take k) fun x hx=>hrl x (List.mem_of_mem_take hx)
    rw[List.length_take]at this
    rw[List.length_append]
    omega
   generalize bs++((xs.take k).map jU).flatten=cs at*
   generalize xs[k]=x at*
   obtain⟨g0,o0,cap0,e0,hcl⟩:=iw (slot:=kw) (size:=2) (fun _=>rfl) hu hkr
   cases e0
   rcases x with⟨int,ceil⟩
   unfold AX at hxo
   simp only at hxo
   have p_0:=hxo
   have hd0:=hcl (hw.ae p1) 0 _ rfl (by decide)
   have hd1:=hcl (hw.ae p1) 1 _ rfl (by decide)
   rw[Nat.add_zero]at hd0
   clear hcl
   simp only at hd0 hd1
   have n3:(k:Int)<xs.length:=by omega
   have h6:=hw.alloc (L6 int ceil)
   go_upto_region 3 with(fail)
   refine In.abs h6 ?_
   clear h6 hw hd0 hd1
   generalize wr.heap.size=y
   intro w6 h6
   have bC:=h6.cells
   have h7:=h6.pr [1,1,0]
   have hp:=ace (int:=int) h7 p_0 hbl
   go_wp2_with (go_at_call 195;refine bF hp ?_;intro w8 h8)
   go_roundw
   case rel=>exact⟨k+1,hlt,by go_num,by rw[hst];have hz:In w0 w8 (lZ r (cs++jU ⟨int,ceil⟩)::bJ B::pts y (L6 int ceil)::l):=h8;exact hz.s⟩
   case measure=>simp[intOf]<;>omega
  ·have hke:k=xs.length:=by omega
   subst hke
   rw[List.take_length]at hw
   go_wp2_with fail
   go_end0
   exact⟨rfl,hw⟩
def jF (x:xm):List Nat:=xe x.max x.base x.min
def FK (B:List (Nat × Obj)) (x:xm):Prop:=(0≤x.max∧x.max<4294967296)∧(0≤x.base∧x.base<4294967296)∧(0≤x.min∧x.min<4294967296)
theorem OD {u:Value} {xs:List xm} (h:In w0 w (lZ r bs::bJ B::l)) (hu:dQ B u xs.length (xs.map iU).flatten) (hok:∀x∈xs,FK B x) (hrl:∀x∈xs,(jF x).length≤600) (hlen:bs.length≤600000) (hn:xs.length≤256):
 aW 196 #[r,u,.func (.func 197) #[] #[]] w w0 (.tuple #[]) (lZ r (bs++(xs.map jF).flatten)::bJ B::l):=by
 obtain⟨au,cu,rfl⟩:=hu.form
 go_enter func196,ntmps196
 go_upto_region 1 with(fail)
 go_loopw [7,10] (fun _ c wr=>∃k:Nat,k≤xs.length∧c= .int .i64 k∧In w0 wr (lZ r (bs++((xs.take k).map jF).flatten)::bJ B::l))
  (fun _ c _=>xs.length-(intOf c).toNat)
 case atStart=>exact⟨0,Nat.zero_le _,rfl,by simpa using h⟩
 case round=>
  obtain⟨k,hk,rfl,hw⟩:=hrel
  clear h
  by_cases hlt:k<xs.length
  ·have hkr:=List.getElem?_eq_getElem hlt
   have hxo:=hok _ (List.getElem_mem hlt)
   have hst:bs++((xs.take (k+1)).map jF).flatten=(bs++((xs.take k).map jF).flatten)++jF xs[k]:=by
    rw[List.take_succ_eq_append_getElem hlt,List.map_append,List.flatten_append,List.append_assoc]
    simp
   have hbl:(bs++((xs.take k).map jF).flatten).length≤800000:=by
    have:=dK (f:=jF) (m:=600) (xs:=xs.take k) fun x hx=>hrl x (List.mem_of_mem_take hx)
    rw[List.length_take]at this
    rw[List.length_append]
    omega
   generalize bs++((xs.take k).map jF).flatten=cs at*
   generalize xs[k]=x at*
   obtain⟨g0,o0,cap0,e0,hcl⟩:=iw (slot:=iU) (size:=3) (fun _=>rfl) hu hkr
   cases e0
   rcases x with⟨mx,base,mn⟩
   unfold FK at hxo
   simp only at hxo
   obtain⟨p_0,p_1,p_2⟩:=hxo
   have hd0:=hcl (hw.ae p1) 0 _ rfl (by decide)
   have hd1:=hcl (hw.ae p1) 1 _ rfl (by decide)
   have hd2:=hcl (hw.ae p1) 2 _ rfl (by decide)
   rw[Nat.add_zero]at hd0
   clear hcl
   simp only at hd0 hd1 hd2
   have n3:(k:Int)<xs.length:=by omega
   have h6:=hw.alloc (Il mx base mn)
   go_upto_region 3 with(fail)
   refine In.abs h6 ?_
   clear h6 hw hd0 hd1 hd2
   generalize wr.heap.size=y
   intro w6 h6
   have bC:=h6.cells
   have h7:=h6.pr [1,1,0]
   have hp:=abg h7 p_0 p_1 p_2 hbl
   go_wp2_with (go_at_call 197;refine bF hp ?_;intro w8 h8)
   go_roundw
   case rel=>exact⟨k+1,hlt,by go_num,by rw[hst];have hz:In w0 w8 (lZ r (cs++jF ⟨mx,base,mn⟩)::bJ B::pts y (Il mx base mn)::l):=h8;exact hz.s⟩
   case measure=>simp[intOf]<;>omega
  ·have hke:k=xs.length:=by omega
   subst hke
   rw[List.take_length]at hw
   go_wp2_with fail
   go_end0
   exact⟨rfl,hw⟩
def gW (x:gq):List Nat:=rV x.counter x.act.kind x.act.lL x.act.mask x.dX x.time x.cycle
def kX (B:List (Nat × Obj)) (x:gq):Prop:=(0≤x.counter∧x.counter≤255)∧(0≤x.act.kind∧x.act.kind≤255)∧(0≤x.act.lL∧x.act.lL≤255)∧(0≤x.act.mask∧x.act.mask<4294967296)∧(0≤x.dX∧x.dX<256)∧(0≤x.time∧x.time<4294967296)∧(0≤x.cycle∧x.cycle<4294967296)
theorem Ij {u:Value} {xs:List gq} (h:In w0 w (lZ r bs::bJ B::l)) (hu:dQ B u xs.length (xs.map dR).flatten) (hok:∀x∈xs,kX B x) (hrl:∀x∈xs,(gW x).length≤600) (hlen:bs.length≤600000) (hn:xs.length≤256):
 aW 198 #[r,u,.func (.func 199) #[] #[]] w w0 (.tuple #[]) (lZ r (bs++(xs.map gW).flatten)::bJ B::l):=by
 obtain⟨au,cu,rfl⟩:=hu.form
 go_enter func198,ntmps198
 go_upto_region 1 with(fail)
 go_loopw [7,10] (fun _ c wr=>∃k:Nat,k≤xs.length∧c= .int .i64 k∧In w0 wr (lZ r (bs++((xs.take k).map gW).flatten)::bJ B::l))
  (fun _ c _=>xs.length-(intOf c).toNat)
 case atStart=>exact⟨0,Nat.zero_le _,rfl,by simpa using h⟩
 case round=>
  obtain⟨k,hk,rfl,hw⟩:=hrel
  clear h
  by_cases hlt:k<xs.length
  ·have hkr:=List.getElem?_eq_getElem hlt
   have hxo:=hok _ (List.getElem_mem hlt)
   have hst:bs++((xs.take (k+1)).map gW).flatten=(bs++((xs.take k).map gW).flatten)++gW xs[k]:=by
    rw[List.take_succ_eq_append_getElem hlt,List.map_append,List.flatten_append,List.append_assoc]
    simp
   have hbl:(bs++((xs.take k).map gW).flatten).length≤800000:=by
    have:=dK (f:=gW) (m:=600) (xs:=xs.take k) fun x hx=>hrl x (List.mem_of_mem_take hx)
    rw[List.length_take]at this
    rw[List.length_append]
    omega
   generalize bs++((xs.take k).map gW).flatten=cs at*
   generalize xs[k]=x at*
   obtain⟨g0,o0,cap0,e0,hcl⟩:=iw (slot:=dR) (size:=7) (fun _=>rfl) hu hkr
   cases e0
   rcases x with⟨cn,⟨kd,tk,mk⟩,dX,time,cycle⟩
   unfold kX at hxo
   simp only at hxo
   obtain⟨p_0,p_1,p_2,p_3,p_4,p_5,p_6⟩:=hxo
   have hd0:=hcl (hw.ae p1) 0 _ rfl (by decide)
   have hd1:=hcl (hw.ae p1) 1 _ rfl (by decide)
   have hd2:=hcl (hw.ae p1) 2 _ rfl (by decide)
   have hd3:=hcl (hw.ae p1) 3 _ rfl (by decide)
   have hd4:=hcl (hw.ae p1) 4 _ rfl (by decide)
   have hd5:=hcl (hw.ae p1) 5 _ rfl (by decide)
   have hd6:=hcl (hw.ae p1) 6 _ rfl (by decide)
   rw[Nat.add_zero]at hd0
   clear hcl
   simp only at hd0 hd1 hd2 hd3 hd4 hd5 hd6
   have n3:(k:Int)<xs.length:=by omega
   have h6:=hw.alloc (OH cn kd tk mk dX time cycle)
   go_upto_region 3 with(fail)
   refine In.abs h6 ?_
   clear h6 hw hd0 hd1 hd2 hd3 hd4 hd5 hd6
   generalize wr.heap.size=y
   intro w6 h6
   have bC:=h6.cells
   have h7:=h6.pr [1,1,0]
   have hp:=V9 h7 p_0 p_1 p_2 p_3 p_4 p_5 p_6 hbl
   go_wp2_with (go_at_call 199;refine bF hp ?_;intro w8 h8)
   go_roundw
   case rel=>exact⟨k+1,hlt,by go_num,by rw[hst];have hz:In w0 w8 (lZ r (cs++gW ⟨cn,⟨kd,tk,mk⟩,dX,time,cycle⟩)::bJ B::pts y (OH cn kd tk mk dX time cycle)::l):=h8;exact hz.s⟩
   case measure=>simp[intOf]<;>omega
  ·have hke:k=xs.length:=by omega
   subst hke
   rw[List.take_length]at hw
   go_wp2_with fail
   go_end0
   exact⟨rfl,hw⟩
def jV (x:qF):List Nat:=xG x.kind x.length x.src x.init x.queue x.act.kind x.act.lL x.act.mask
def rO (B:List (Nat × Obj)) (x:qF):Prop:=(0≤x.kind∧x.kind≤255)∧(0≤x.length∧x.length≤255)∧(0≤x.src∧x.src≤255)∧(0≤x.init∧x.init<18446744073709551616)∧(0≤x.queue∧x.queue≤255)∧(0≤x.act.kind∧x.act.kind≤255)∧(0≤x.act.lL∧x.act.lL≤255)∧(0≤x.act.mask∧x.act.mask<4294967296)
theorem Oo {u:Value} {xs:List qF} (h:In w0 w (lZ r bs::bJ B::l)) (hu:dQ B u xs.length (xs.map mJ).flatten) (hok:∀x∈xs,rO B x) (hrl:∀x∈xs,(jV x).length≤600) (hlen:bs.length≤600000) (hn:xs.length≤256):
 aW 203 #[r,u,.func (.func 204) #[] #[]] w w0 (.tuple #[]) (lZ r (bs++(xs.map jV).flatten)::bJ B::l):=by
 obtain⟨au,cu,rfl⟩:=hu.form
 go_enter func203,ntmps203
 go_upto_region 1 with(fail)
 go_loopw [7,10] (fun _ c wr=>∃k:Nat,k≤xs.length∧c= .int .i64 k∧In w0 wr (lZ r (bs++((xs.take k).map jV).flatten)::bJ B::l))
  (fun _ c _=>xs.length-(intOf c).toNat)
 case atStart=>exact⟨0,Nat.zero_le _,rfl,by simpa using h⟩
 case round=>
  obtain⟨k,hk,rfl,hw⟩:=hrel
  clear h
  by_cases hlt:k<xs.length
  ·have hkr:=List.getElem?_eq_getElem hlt
   have hxo:=hok _ (List.getElem_mem hlt)
   have hst:bs++((xs.take (k+1)).map jV).flatten=(bs++((xs.take k).map jV).flatten)++jV xs[k]:=by
    rw[List.take_succ_eq_append_getElem hlt,List.map_append,List.flatten_append,List.append_assoc]
    simp
   have hbl:(bs++((xs.take k).map jV).flatten).length≤800000:=by
    have:=dK (f:=jV) (m:=600) (xs:=xs.take k) fun x hx=>hrl x (List.mem_of_mem_take hx)
    rw[List.length_take]at this
    rw[List.length_append]
    omega
   generalize bs++((xs.take k).map jV).flatten=cs at*
   generalize xs[k]=x at*
   obtain⟨g0,o0,cap0,e0,hcl⟩:=iw (slot:=mJ) (size:=8) (fun _=>rfl) hu hkr
   cases e0
   rcases x with⟨kind,len,src,init,queue,⟨kd,tk,mk⟩⟩
   unfold rO at hxo
   simp only at hxo
   obtain⟨p_0,p_1,p_2,p_3,p_4,p_5,p_6,p_7⟩:=hxo
   have hd0:=hcl (hw.ae p1) 0 _ rfl (by decide)
   have hd1:=hcl (hw.ae p1) 1 _ rfl (by decide)
   have hd2:=hcl (hw.ae p1) 2 _ rfl (by decide)
   have hd3:=hcl (hw.ae p1) 3 _ rfl (by decide)
   have hd4:=hcl (hw.ae p1) 4 _ rfl (by decide)
   have hd5:=hcl (hw.ae p1) 5 _ rfl (by decide)
   have hd6:=hcl (hw.ae p1) 6 _ rfl (by decide)
   have hd7:=hcl (hw.ae p1) 7 _ rfl (by decide)
   rw[Nat.add_zero]at hd0
   clear hcl
   simp only at hd0 hd1 hd2 hd3 hd4 hd5 hd6 hd7
   have n3:(k:Int)<xs.length:=by omega
   have h6:=hw.alloc (Nv kind len src init queue kd tk mk)
   go_upto_region 3 with(fail)
   refine In.abs h6 ?_
   clear h6 hw hd0 hd1 hd2 hd3 hd4 hd5 hd6 hd7
   generalize wr.heap.size=y
   intro w6 h6
   have bC:=h6.cells
   have h7:=h6.pr [1,1,0]
   have hp:=ab6 h7 p_0 p_1 p_2 p_3 p_4 p_5 p_6 p_7 hbl
   go_wp2_with (go_at_call 204;refine bF hp ?_;intro w8 h8)
   go_roundw
   case rel=>exact⟨k+1,hlt,by go_num,by rw[hst];have hz:In w0 w8 (lZ r (cs++jV ⟨kind,len,src,init,queue,⟨kd,tk,mk⟩⟩)::bJ B::pts y (Nv kind len src init queue kd tk mk)::l):=h8;exact hz.s⟩
   case measure=>simp[intOf]<;>omega
  ·have hke:k=xs.length:=by omega
   subst hke
   rw[List.take_length]at hw
   go_wp2_with fail
   go_end0
   exact⟨rfl,hw⟩
def iV (x:(dn × Value)):List Nat:=rX x.1.aI x.1.ring x.1.limit x.1.mask x.1.internal x.1.dX x.1.full x.1.own
def ui (B:List (Nat × Obj)) (x:(dn × Value)):Prop:=(0≤x.1.aI∧x.1.aI≤255)∧(0≤x.1.ring∧x.1.ring≤255)∧(0≤x.1.limit∧x.1.limit≤255)∧(0≤x.1.mask∧x.1.mask<4294967296)∧(-1≤x.1.internal∧x.1.internal≤254)∧(dQ B x.2 x.1.own.length (ints x.1.own))∧(∀y∈x.1.own,0≤y∧y≤255)∧(x.1.own.length≤255)∧(0≤x.1.dX∧x.1.dX<256)
theorem KW {u:Value} {xs:List (dn × Value)} (h:In w0 w (lZ r bs::bJ B::l)) (hu:dQ B u xs.length (xs.map dM).flatten) (hok:∀x∈xs,ui B x) (hrl:∀x∈xs,(iV x).length≤600) (hlen:bs.length≤600000) (hn:xs.length≤256):
 aW 187 #[r,u,.func (.func 188) #[] #[]] w w0 (.tuple #[]) (lZ r (bs++(xs.map iV).flatten)::bJ B::l):=by
 obtain⟨au,cu,rfl⟩:=hu.form
 go_enter func187,ntmps187
 go_upto_region 1 with(fail)
 go_loopw [7,10] (fun _ c wr=>∃k:Nat,k≤xs.length∧c= .int .i64 k∧In w0 wr (lZ r (bs++((xs.take k).map iV).flatten)::bJ B::l))
  (fun _ c _=>xs.length-(intOf c).toNat)
 case atStart=>exact⟨0,Nat.zero_le _,rfl,by simpa using h⟩
 case round=>
  obtain⟨k,hk,rfl,hw⟩:=hrel
  clear h
  by_cases hlt:k<xs.length
  ·have hkr:=List.getElem?_eq_getElem hlt
   have hxo:=hok _ (List.getElem_mem hlt)
   have hst:bs++((xs.take (k+1)).map iV).flatten=(bs++((xs.take k).map iV).flatten)++iV xs[k]:=by
    rw[List.take_succ_eq_append_getElem hlt,List.map_append,List.flatten_append,List.append_assoc]
    simp
   have hbl:(bs++((xs.take k).map iV).flatten).length≤800000:=by
    have:=dK (f:=iV) (m:=600) (xs:=xs.take k) fun x hx=>hrl x (List.mem_of_mem_take hx)
    rw[List.length_take]at this
    rw[List.length_append]
    omega
   generalize bs++((xs.take k).map iV).flatten=cs at*
   generalize xs[k]=x at*
   obtain⟨g0,o0,cap0,e0,hcl⟩:=iw (slot:=dM) (size:=8) (fun _=>rfl) hu hkr
   cases e0
   rcases x with⟨⟨aI,ring,full,limit,mask,internal,own,dX⟩,ov⟩
   unfold ui at hxo
   simp only at hxo
   obtain⟨p_0,p_1,p_2,p_3,p_4,p_5,p_6,p_7,p_8⟩:=hxo
   obtain⟨OV,zO,eo⟩:=p_5.form
   subst eo
   have hd0:=hcl (hw.ae p1) 0 _ rfl (by decide)
   have hd1:=hcl (hw.ae p1) 1 _ rfl (by decide)
   have hd2:=hcl (hw.ae p1) 2 _ rfl (by decide)
   have hd3:=hcl (hw.ae p1) 3 _ rfl (by decide)
   have hd4:=hcl (hw.ae p1) 4 _ rfl (by decide)
   have hd5:=hcl (hw.ae p1) 5 _ rfl (by decide)
   have hd6:=hcl (hw.ae p1) 6 _ rfl (by decide)
   have hd7:=hcl (hw.ae p1) 7 _ rfl (by decide)
   rw[Nat.add_zero]at hd0
   clear hcl
   simp only at hd0 hd1 hd2 hd3 hd4 hd5 hd6 hd7
   have n3:(k:Int)<xs.length:=by omega
   have h6:=hw.alloc (BB aI ring full limit mask internal (.slice OV own.length zO) dX)
   go_upto_region 3 with(fail)
   refine In.abs h6 ?_
   clear h6 hw hd0 hd1 hd2 hd3 hd4 hd5 hd6 hd7
   generalize wr.heap.size=y
   intro w6 h6
   have bC:=h6.cells
   have h7:=h6.pr [1,1,0]
   have hp:=ZO (full:=full) h7 p_0 p_1 p_2 p_3 p_4 p_5 p_6 p_7 p_8 hbl
   go_wp2_with (go_at_call 188;refine bF hp ?_;intro w8 h8)
   go_roundw
   case rel=>exact⟨k+1,hlt,by go_num,by rw[hst];have hz:In w0 w8 (lZ r (cs++iV ⟨⟨aI,ring,full,limit,mask,internal,own,dX⟩,.slice OV own.length zO⟩)::bJ B::pts y (BB aI ring full limit mask internal (.slice OV own.length zO) dX)::l):=h8;exact hz.s⟩
   case measure=>simp[intOf]<;>omega
  ·have hke:k=xs.length:=by omega
   subst hke
   rw[List.take_length]at hw
   go_wp2_with fail
   go_end0
   exact⟨rfl,hw⟩
def lq (x:(kG × Value)):List Nat:=xq x.1.category x.1.aI x.1.own
def Cb (B:List (Nat × Obj)) (x:(kG × Value)):Prop:=(0≤x.1.category∧x.1.category≤255)∧(0≤x.1.aI∧x.1.aI≤255)∧(dQ B x.2 x.1.own.length (ints x.1.own))∧(∀y∈x.1.own,0≤y∧y≤255)∧(x.1.own.length≤255)
theorem LU {u:Value} {xs:List (kG × Value)} (h:In w0 w (lZ r bs::bJ B::l)) (hu:dQ B u xs.length (xs.map iy).flatten) (hok:∀x∈xs,Cb B x) (hrl:∀x∈xs,(lq x).length≤600) (hlen:bs.length≤600000) (hn:xs.length≤256):
 aW 201 #[r,u,.func (.func 202) #[] #[]] w w0 (.tuple #[]) (lZ r (bs++(xs.map lq).flatten)::bJ B::l):=by
 obtain⟨au,cu,rfl⟩:=hu.form
 go_enter func201,ntmps201
 go_upto_region 1 with(fail)
 go_loopw [7,10] (fun _ c wr=>∃k:Nat,k≤xs.length∧c= .int .i64 k∧In w0 wr (lZ r (bs++((xs.take k).map lq).flatten)::bJ B::l))
  (fun _ c _=>xs.length-(intOf c).toNat)
 case atStart=>exact⟨0,Nat.zero_le _,rfl,by simpa using h⟩
 case round=>
  obtain⟨k,hk,rfl,hw⟩:=hrel
  clear h
  by_cases hlt:k<xs.length
  ·have hkr:=List.getElem?_eq_getElem hlt
   have hxo:=hok _ (List.getElem_mem hlt)
   have hst:bs++((xs.take (k+1)).map lq).flatten=(bs++((xs.take k).map lq).flatten)++lq xs[k]:=by
    rw[List.take_succ_eq_append_getElem hlt,List.map_append,List.flatten_append,List.append_assoc]
    simp
   have hbl:(bs++((xs.take k).map lq).flatten).length≤800000:=by
    have:=dK (f:=lq) (m:=600) (xs:=xs.take k) fun x hx=>hrl x (List.mem_of_mem_take hx)
    rw[List.length_take]at this
    rw[List.length_append]
    omega
   generalize bs++((xs.take k).map lq).flatten=cs at*
   generalize xs[k]=x at*
   obtain⟨g0,o0,cap0,e0,hcl⟩:=iw (slot:=iy) (size:=3) (fun _=>rfl) hu hkr
   cases e0
   rcases x with⟨⟨cat,aI,own⟩,ov⟩
   unfold Cb at hxo
   simp only at hxo
   obtain⟨p_0,p_1,p_2,p_3,p_4⟩:=hxo
   obtain⟨OV,zO,eo⟩:=p_2.form
   subst eo
   have hd0:=hcl (hw.ae p1) 0 _ rfl (by decide)
   have hd1:=hcl (hw.ae p1) 1 _ rfl (by decide)
   have hd2:=hcl (hw.ae p1) 2 _ rfl (by decide)
   rw[Nat.add_zero]at hd0
   clear hcl
   simp only at hd0 hd1 hd2
   have n3:(k:Int)<xs.length:=by omega
   have h6:=hw.alloc (Ic cat aI (.slice OV own.length zO))
   go_upto_region 3 with(fail)
   refine In.abs h6 ?_
   clear h6 hw hd0 hd1 hd2
   generalize wr.heap.size=y
   intro w6 h6
   have bC:=h6.cells
   have h7:=h6.pr [1,1,0]
   have hp:=ab7 h7 p_0 p_1 p_2 p_3 p_4 hbl
   go_wp2_with (go_at_call 202;refine bF hp ?_;intro w8 h8)
   go_roundw
   case rel=>exact⟨k+1,hlt,by go_num,by rw[hst];have hz:In w0 w8 (lZ r (cs++lq ⟨⟨cat,aI,own⟩,.slice OV own.length zO⟩)::bJ B::pts y (Ic cat aI (.slice OV own.length zO))::l):=h8;exact hz.s⟩
   case measure=>simp[intOf]<;>omega
  ·have hke:k=xs.length:=by omega
   subst hke
   rw[List.take_length]at hw
   go_wp2_with fail
   go_end0
   exact⟨rfl,hw⟩
end
def Mrk (a k:Nat):SL:=ex fun v=>ex fun vs=>bQ [pts a (.cells #[v] 44),Row 3 1 v k vs]
section
variable {w0 w:World} {l:List SL} {r:Nat} {bs:List Nat} {B:List (Nat × Obj)}
theorem N8 {a k:Nat} (h:In w0 w (Mrk a k::l)):∃v vs,In w0 w (pts a (.cells #[v] 44)::Row 3 1 v k vs::l):=by
 obtain⟨v,h⟩:=In.aY.1 h
 obtain⟨vs,h⟩:=In.aY.1 h
 exact⟨v,vs,In.bn.1 h⟩
theorem N9 {a k:Nat} {v:Value} {vs:List Value} (h:In w0 w (pts a (.cells #[v] 44)::Row 3 1 v k vs::l)):In w0 w (Mrk a k::l):=
 In.aY.2 ⟨v,In.aY.2 ⟨vs,In.bn.2 h⟩⟩
theorem wu {a b k:Nat} (h:In w0 w (Mrk a k::pts b (.cells #[r] 160)::lZ r bs::l)) (hk:k≤100):
 aW 186 #[a,b] w w0 (.tuple #[]) (Mrk a (k+1)::pts b (.cells #[r] 160)::lZ r bs::l):=by
 obtain⟨v,vs,h1⟩:=N8 h
 obtain⟨u,h2⟩:=zg (h1.ae p3)
 have h3:=h2.pr [3,2,2,0,0]
 clear h h1 h2
 obtain⟨av,cv,rfl⟩:=h3.aG
 obtain⟨au,cu,rfl⟩:=(h3.ae p4).aG
 have bC:=(h3.ae p1).cells
 have kT:=(h3.ae p2).cells
 have wO:=(h3.ae p3).cells
 go_enter func186,ntmps186
 have hS0:=(h3.drew).ps [1,1,1]
 refine nK hS0 ⟨[6],[7,8]⟩ [.c 2 0,.c 1 1,.c 0 2,.c 0 3,.c 1 4,.c 0 5,.e 6,.e 7,.e 8] ?_
 refine nD ?_;intro K hK
 go_wp2_with fail
 refine df hK ((hS0.alloc _).drop) fun hS0=>?_
 refine bG rfl rfl fun K hK=>?_
 refine aZ Es (h3.drew.alloc (wC bs.length)) rfl (by rfl) (by rfl) (by simp[Value.oneCell']) (by omega) ?_
 intro u7 w7 h7
 obtain⟨a7,c7,rfl⟩:=h7.aG
 clear bC kT wO
 have fc_:=h7.facts
 go_wp2_with fail
 refine bG rfl rfl fun K hK=>?_
 go_wp2_with fail
 try refine aS ?_
 go_wp2_with fail
 go_end0
 have h8:In w0 _ (pts a (.cells #[.slice a7 (k+1) c7] 44)::_):=(h7.ae p1).setCell (off:=0) (.slice a7 (k+1) c7)
 refine⟨rfl,?_⟩
 have h9:=N9 (a:=a) h8
 have h10:=h9.pr [2,2,0,0]
 exact(zo h10).s
structure Small (B:List (Nat × Obj)) (T:ah) (tl:List (dn × Value)) (il:List (kG × Value)):Prop where
 lL:∀x∈tl,ui B x∧(iV x).length≤600
 ring:∀x∈T.rings,zM B x∧(ja x).length≤600
 res:∀x∈T.bP,AX B x∧(jU x).length≤600
 oZ:∀x∈T.bi,FK B x∧(jF x).length≤600
 alarm:∀x∈T.ag,kX B x∧(gW x).length≤600
 isr:∀x∈il,Cb B x∧(lq x).length≤600
 msg:∀x∈T.cZ,rO B x∧(jV x).length≤600
 few:tl.length≤256∧T.rings.length≤64∧T.bP.length≤65∧T.bi.length≤16∧T.ag.length≤64∧il.length≤32∧T.cZ.length≤64
def dN (T:ah) (tl:List (dn × Value)) (il:List (kG × Value)):List Nat:=
 (tl.map iV).flatten++(T.rings.map ja).flatten++(T.bP.map jU).flatten++(T.bi.map jF).flatten++(T.ag.map gW).flatten++(il.map lq).flatten++(T.cZ.map jV).flatten
end
section
variable {w0 w:World} {l:List SL} {r:Nat} {T:ah} {B:List (Nat × Obj)} {x:jM} {v:Value} {tl:List (dn × Value)} {il:List (kG × Value)}
theorem ZF (h:In w0 w (lZ r []::bJ B::l)) (ht:rF B v T x) (htl:dQ B x.vt tl.length (tl.map dM).flatten) (hil:dQ B x.vi il.length (il.map iy).flatten) (hs:Small B T tl il):
 Calls prog 71 #[r,v] w fun e w'=>∃u,e= .returned u∧In w0 w' (lZ r (dN T tl il)::bJ B::l):=by
 have hr:=ht.rings
 have hre:=ht.bP
 have hct:=ht.bi
 have hal:=ht.ag
 have hms:=ht.cZ
 obtain⟨f1,f2,f3,f4,f5,f6,f7⟩:=hs.few
 have b1:=dK (f:=iV) (m:=600) (xs:=tl) fun x hx=>(hs.lL x hx).2
 have b2:=dK (f:=ja) (m:=600) (xs:=T.rings) fun x hx=>(hs.ring x hx).2
 have b3:=dK (f:=jU) (m:=600) (xs:=T.bP) fun x hx=>(hs.res x hx).2
 have b4:=dK (f:=jF) (m:=600) (xs:=T.bi) fun x hx=>(hs.oZ x hx).2
 have b5:=dK (f:=gW) (m:=600) (xs:=T.ag) fun x hx=>(hs.alarm x hx).2
 have b6:=dK (f:=lq) (m:=600) (xs:=il) fun x hx=>(hs.isr x hx).2
 have b7:=dK (f:=jV) (m:=600) (xs:=T.cZ) fun x hx=>(hs.msg x hx).2
 obtain rfl:=kY ht
 have h1:=h.iQ (.cells #[r] 160) (dO T x.vt x.vr x.vs x.vc x.va x.vi x.vm) (.cells #[.slice none 0 0] 44)
 go_enter func71,ntmps71
 go_upto_region 2 with(fail)
 refine In.abs h1 ?_
 clear h1 h
 generalize w.heap.size=z
 intro w2 h2
 have h3:=N9 (a:=z+2) (k:=0) ((h2.dh 3 1).ae p1)
 have g0:=h3.pr [0,1,1,1,0]
 clear h2 h3
 go_upto_region 3 with(fail)
 have hm0:=wu g0 (by omega)
 go_upto_region 4 with(go_at_call 186;refine bF hm0 ?_;intro w3 g1)
 clear g0 hm0
 have k0:=g1.pr [2,2,0,0,0]
 have fZ:=(k0.ae p3).cells
 have yB:=(k0.ae p4).cells
 have hq0:=KW k0 htl (fun x hx=>(hs.lL x hx).1) (fun x hx=>(hs.lL x hx).2) (by simp only[List.length_append,List.length_nil];omega) (by omega)
 go_upto_region 5 with(go_at_call 187;refine bF hq0 ?_;intro w4 m0)
 clear g1 k0 hq0 fZ yB
 have g2:=m0.pr [2,2,0,0,0]
 clear m0
 have hm1:=wu g2 (by omega)
 go_upto_region 6 with(go_at_call 186;refine bF hm1 ?_;intro w5 g3)
 clear g2 hm1
 have k1:=g3.pr [2,2,0,0,0]
 have fZ:=(k1.ae p3).cells
 have yB:=(k1.ae p4).cells
 have hq1:=Le k1 hr (fun x hx=>(hs.ring x hx).1) (fun x hx=>(hs.ring x hx).2) (by simp only[List.length_append,List.length_nil];omega) (by omega)
 go_upto_region 7 with(go_at_call 192;refine bF hq1 ?_;intro w6 m1)
 clear g3 k1 hq1 fZ yB
 have g4:=m1.pr [2,2,0,0,0]
 clear m1
 have hm2:=wu g4 (by omega)
 go_upto_region 8 with(go_at_call 186;refine bF hm2 ?_;intro w7 g5)
 clear g4 hm2
 have k2:=g5.pr [2,2,0,0,0]
 have fZ:=(k2.ae p3).cells
 have yB:=(k2.ae p4).cells
 have hq2:=OG k2 hre (fun x hx=>(hs.res x hx).1) (fun x hx=>(hs.res x hx).2) (by simp only[List.length_append,List.length_nil];omega) (by omega)
 go_upto_region 9 with(go_at_call 194;refine bF hq2 ?_;intro w8 m2)
 clear g5 k2 hq2 fZ yB
 have g6:=m2.pr [2,2,0,0,0]
 clear m2
 have hm3:=wu g6 (by omega)
 go_upto_region 10 with(go_at_call 186;refine bF hm3 ?_;intro w9 g7)
 clear g6 hm3
 have k3:=g7.pr [2,2,0,0,0]
 have fZ:=(k3.ae p3).cells
 have yB:=(k3.ae p4).cells
 have hq3:=OD k3 hct (fun x hx=>(hs.oZ x hx).1) (fun x hx=>(hs.oZ x hx).2) (by simp only[List.length_append,List.length_nil];omega) (by omega)
 go_upto_region 11 with(go_at_call 196;refine bF hq3 ?_;intro w10 m3)
 clear g7 k3 hq3 fZ yB
 have g8:=m3.pr [2,2,0,0,0]
 clear m3
 have hm4:=wu g8 (by omega)
 go_upto_region 12 with(go_at_call 186;refine bF hm4 ?_;intro w11 g9)
 clear g8 hm4
 have k4:=g9.pr [2,2,0,0,0]
 have fZ:=(k4.ae p3).cells
 have yB:=(k4.ae p4).cells
 have hq4:=Ij k4 hal (fun x hx=>(hs.alarm x hx).1) (fun x hx=>(hs.alarm x hx).2) (by simp only[List.length_append,List.length_nil];omega) (by omega)
 go_upto_region 13 with(go_at_call 198;refine bF hq4 ?_;intro w12 m4)
 clear g9 k4 hq4 fZ yB
 have g10:=m4.pr [2,2,0,0,0]
 clear m4
 have hm5:=wu g10 (by omega)
 go_upto_region 14 with(go_at_call 186;refine bF hm5 ?_;intro w13 g11)
 clear g10 hm5
 have k5:=g11.pr [2,2,0,0,0]
 have fZ:=(k5.ae p3).cells
 have yB:=(k5.ae p4).cells
 have hq5:=LU k5 hil (fun x hx=>(hs.isr x hx).1) (fun x hx=>(hs.isr x hx).2) (by simp only[List.length_append,List.length_nil];omega) (by omega)
 go_upto_region 15 with(go_at_call 201;refine bF hq5 ?_;intro w14 m5)
 clear g11 k5 hq5 fZ yB
 have g12:=m5.pr [2,2,0,0,0]
 clear m5
 have hm6:=wu g12 (by omega)
 go_upto_region 16 with(go_at_call 186;refine bF hm6 ?_;intro w15 g13)
 clear g12 hm6
 have k6:=g13.pr [2,2,0,0,0]
 have fZ:=(k6.ae p3).cells
 have yB:=(k6.ae p4).cells
 have hq6:=Oo k6 hms (fun x hx=>(hs.msg x hx).1) (fun x hx=>(hs.msg x hx).2) (by simp only[List.length_append,List.length_nil];omega) (by omega)
 go_upto_region 17 with(go_at_call 203;refine bF hq6 ?_;intro w16 m6)
 clear g13 k6 hq6 fZ yB
 have g14:=m6.pr [2,2,0,0,0]
 clear m6
 have hm7:=wu g14 (by omega)
 go_upto_region 18 with(go_at_call 186;refine bF hm7 ?_;intro w17 g15)
 clear g14 hm7
 obtain⟨u,vs,hf⟩:=N8 g15
 have bC:=hf.cells
 go_wp2_with fail
 go_ret
 have e: []++(tl.map iV).flatten++(T.rings.map ja).flatten++(T.bP.map jU).flatten++(T.bi.map jF).flatten++(T.ag.map gW).flatten++(il.map lq).flatten++(T.cZ.map jV).flatten=dN T tl il:=by simp[dN]
 refine⟨_,rfl,?_⟩
 have hz:=hf.pr [3,3] 4
 rw[e]at hz
 exact hz
end
end Go.Proofs.YtajgpcnlehinbaaGreat
