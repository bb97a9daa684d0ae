/- Part of a proof. -/
import Derived.Test.YtajgpcnlehinbaaGreatA18
namespace Go.Proofs.YtajgpcnlehinbaaGreat
open Tryz Go.RowKit
set_option maxRecDepth 100000
set_option maxHeartbeats 60000000
set_option linter.all false
section
variable {w0 w:World} {l:List SL} {T:ah} {B:List (Nat × Obj)} {x:jM} {v:Value}
theorem WH (h:In w0 w (bJ B::l)) (ht:rF B v T x) (hn:T.ay.length≤256) (hm0:1≤T.modes) (hm8:T.modes≤8):
 aW 60 #[v] w w0 (.bool T.zV) (bJ B::l):=by
 have Fb:=ht
 obtain rfl:=kY ht
 rcases x with⟨vt,vr,vs,vc,va,vi,vm,q1,q2,q3,q4,q5⟩
 obtain⟨tl,t1,t2,t3⟩:=ht.ay
 obtain⟨Fa,uH,es⟩:=t2.form
 simp only at es
 subst es
 obtain⟨Dv,qG,es⟩:=ht.rings.form
 simp only at es
 subst es
 have h1:=h.alloc (dO T (.slice Fa T.ay.length uH) (.slice Dv T.rings.length qG) vs vc va vi vm)
 unfold ah.zV
 generalize hf:(fun i:Nat=>match T.ay[i]? with|some k=>T.ui k|none=>false)=f
 generalize hq:mX T.ay.length f=q
 go_enter func60,ntmps60
 go_upto_region 1 with(fail)
 refine In.abs h1 ?_
 clear h1 h
 generalize w.heap.size=z
 intro w2 h2
 have fc_:=h2.facts
 go_upto_region 2 with(fail)
 go_loopw [4,8] (fun _ c wr=>∃k:Nat,k≤T.ay.length∧c= .int .i64 k∧mX k f=true∧In w0 wr (pts z (dO T (.slice Fa T.ay.length uH) (.slice Dv T.rings.length qG) vs vc va vi vm)::bJ B::l))
  (fun _ c _=>T.ay.length-(intOf c).toNat)
 case atStart=>exact⟨0,Nat.zero_le _,rfl,rfl,h2⟩
 case round=>
  obtain⟨k,hk,rfl,hall,hw⟩:=hrel
  clear h2
  by_cases hlt:k<T.ay.length
  ·have hkr:=List.getElem?_eq_getElem hlt
   have hat:f k=T.ui T.ay[k]:=by rw[←hf];simp only[hkr]
   generalize T.ay[k]=kr at*
   obtain⟨g0,o0,cap0,uo,e0,hcap0,hown,hcl⟩:=zW ht hkr
   cases e0
   have hcs2:=hcl (hw.ae p1)
   obtain⟨XY,Hw,eo⟩:=hown.form
   subst eo
   have hc0:∀j c,(dM (kr,.slice XY kr.own.length Hw))[j]? =some c→j<8→wr.cell? ⟨g0,o0+k*8+j,none⟩=some c:=fun j c hc hj=>by have:=hcs2 j c hc hj;rwa[←Nat.add_assoc]at this
   have hd0:=hc0 0 _ rfl (by decide)
   have hd1:=hc0 1 _ rfl (by decide)
   have hd2:=hc0 2 _ rfl (by decide)
   have hd3:=hc0 3 _ rfl (by decide)
   have hd4:=hc0 4 _ rfl (by decide)
   have hd5:=hc0 5 _ rfl (by decide)
   have hd6:=hc0 6 _ rfl (by decide)
   have hd7:=hc0 7 _ rfl (by decide)
   rw[Nat.add_zero]at hd0
   clear hc0 hcs2
   have n3:(k:Int)<T.ay.length:=by omega
   rcases kr with⟨aI,ring,full,limit,mask,internal,own,dX⟩
   simp only at*
   have h6:=hw.alloc (BB aI ring full limit mask internal (.slice XY own.length Hw) dX)
   go_upto_region 4 with(fail)
   refine In.abs h6 ?_
   clear h6 hw hd0 hd1 hd2 hd3 hd4 hd5 hd6 hd7
   generalize wr.heap.size=y
   intro w6 h6
   have bC:=h6.cells
   have kT:=(h6.ae p1).cells
   unfold ah.ui ah.ringAt at hat
   simp only at hat
   by_cases c1:ring<0
   ·obtain rfl:q=false:=hq.symm.trans (dF hlt (by rw[hat];simp;omega))
    go_wp2_with fail
    refine rg ⟨[], []⟩ [.c 0 0,.c 1 1,.c 0 2,.c 0 3,.c 0 4,.c 1 5,.c 0 6,.c 1 7,.c 0 8,.c 0 9,.c 0 10,.c 0 11,.c 0 12,.c 1 13,.c 0 14,.c 1 15,.c 0 16,.c 0 17,.c 1 18,.c 0 19,.c 1 20,.c 0 21,.c 0 22,.c 0 23,.c 0 24,.c 1 25,.c 0 26,.c 0 27,.c 0 28,.c 0 29,.c 1 30,.c 0 31,.c 0 32,.c 0 33,.c 0 34,.c 1 35,.c 0 36,.c 0 37,.c 0 38,.c 1 39,.c 0 40,.c 0 41,.c 0 42] ?_
    refine BV ?_
    try refine aS ?_
    go_wp2_with fail
    go_ret
    exact⟨rfl,h6.drew.drop.drop⟩
   have c1':(0:Int)≤ring:=by omega
   have d1:decide (ring<0)=false:=decide_eq_false (by omega)
   by_cases c2:(T.rings.length:Int)≤ring
   ·obtain rfl:q=false:=hq.symm.trans (dF hlt (by rw[hat];simp;omega))
    go_wp2_with fail
    refine rg ⟨[], []⟩ [.c 0 0,.c 1 1,.c 0 2,.c 0 3,.c 0 4,.c 1 5,.c 0 6,.c 1 7,.c 0 8,.c 0 9,.c 0 10,.c 0 11,.c 0 12,.c 1 13,.c 0 14,.c 1 15,.c 0 16,.c 0 17,.c 1 18,.c 0 19,.c 1 20,.c 0 21,.c 0 22,.c 0 23,.c 0 24,.c 1 25,.c 0 26,.c 0 27,.c 0 28,.c 0 29,.c 1 30,.c 0 31,.c 0 32,.c 0 33,.c 0 34,.c 1 35,.c 0 36,.c 0 37,.c 0 38,.c 1 39,.c 0 40,.c 0 41,.c 0 42] ?_
    refine BV ?_
    try refine aS ?_
    go_wp2_with fail
    go_ret
    exact⟨rfl,h6.drew.drop.drop⟩
   have c2':ring<T.rings.length:=by omega
   have d2:decide ((T.rings.length:Int)≤ring)=false:=decide_eq_false (by omega)
   obtain⟨m,rfl⟩:∃m:Nat,ring=m:=⟨ring.toNat,by omega⟩
   have d2n:decide (T.rings.length≤m)=false:=decide_eq_false (by omega)
   have hm:=List.getElem?_eq_getElem (l:=T.rings) (i:=m) (by omega)
   generalize T.rings[m]'(by omega)=rr at hm
   rw[Int.toNat_natCast,hm]at hat
   simp only at hat
   obtain⟨g2,o2,cap2,e2,hc2⟩:=iw (slot:=iR) (size:=2) (fun _=>rfl) ht.rings hm
   simp only at e2
   cases e2
   have hy0:=hc2 (h6.ae p2) 0 _ rfl (by decide)
   rw[Nat.add_zero]at hy0
   clear kT
   have kT:=(h6.ae p1).cells
   by_cases c3:rr.aI=aI
   ·have c3b:(rr.aI != aI)=false:=by rw[c3];exact bne_self_eq_false _
    rw[c3]at hy0
    have c3c:(aI != aI)=false:=bne_self_eq_false _
    by_cases c4:limit<1
    ·obtain rfl:q=false:=hq.symm.trans (dF hlt (by rw[hat];simp;omega))
     go_wp2_with fail
     refine rg ⟨[], []⟩ [.c 0 0,.c 1 1,.c 0 2,.c 0 3,.c 0 4,.c 1 5,.c 0 6,.c 1 7,.c 0 8,.c 0 9,.c 0 10,.c 0 11,.c 0 12,.c 1 13,.c 0 14,.c 1 15,.c 0 16,.c 0 17,.c 1 18,.c 0 19,.c 1 20,.c 0 21,.c 0 22,.c 0 23,.c 0 24,.c 1 25,.c 0 26,.c 0 27,.c 0 28,.c 0 29,.c 1 30,.c 0 31,.c 0 32,.c 0 33,.c 0 34,.c 1 35,.c 0 36,.c 0 37,.c 0 38,.c 1 39,.c 0 40,.c 0 41,.c 0 42] ?_
     refine BV ?_
     try refine aS ?_
     go_wp2_with fail
     go_ret
     exact⟨rfl,h6.drew.drop.drop⟩
    have c4':1≤limit:=by omega
    have d4:decide (limit<1)=false:=decide_eq_false (by omega)
    by_cases c5:255<limit
    ·obtain rfl:q=false:=hq.symm.trans (dF hlt (by rw[hat];simp;omega))
     go_wp2_with fail
     refine rg ⟨[], []⟩ [.c 0 0,.c 1 1,.c 0 2,.c 0 3,.c 0 4,.c 1 5,.c 0 6,.c 1 7,.c 0 8,.c 0 9,.c 0 10,.c 0 11,.c 0 12,.c 1 13,.c 0 14,.c 1 15,.c 0 16,.c 0 17,.c 1 18,.c 0 19,.c 1 20,.c 0 21,.c 0 22,.c 0 23,.c 0 24,.c 1 25,.c 0 26,.c 0 27,.c 0 28,.c 0 29,.c 1 30,.c 0 31,.c 0 32,.c 0 33,.c 0 34,.c 1 35,.c 0 36,.c 0 37,.c 0 38,.c 1 39,.c 0 40,.c 0 41,.c 0 42] ?_
     refine BV ?_
     try refine aS ?_
     go_wp2_with fail
     go_ret
     exact⟨rfl,h6.drew.drop.drop⟩
    have c5':limit≤255:=by omega
    have d5:decide (255<limit)=false:=decide_eq_false (by omega)
    by_cases c6:mask=0∨limit=1
    ·have c6d:(decide (mask=0)||decide (limit=1))=true:=by simpa using c6
     have rJ:f k=((decide (internal= -1)||decide (aI≤internal)&&decide (internal≤127))&&T.yF own aI&&decide (dX/2 ^ T.modes.toNat=0)):=by
      rw[hat,c6d]
      simp[c1',c2',c3,c4',c5']
     have NOi:(decide (internal= -1)||decide (aI≤internal)&&decide (internal≤127))=false→f k=false:=fun e=>by rw[rJ,e];rfl
     have c6':(mask != 0)=false∨((mask != 0)=true∧(limit != 1)=false):=by
      rcases c6 with e|e
      ·left;simp[e]
      ·by_cases e2:mask=0
       ·left;simp[e2]
       ·right;exact⟨by simpa using e2,by simp[e]⟩
     have hown2:=U2 (h6.drew.ae p2) Fb hown aI
     generalize T.yF own aI=co at hown2 rJ
     have hmn:¬T.modes<0:=by omega
     clear hat c6d c6
     rcases c6' with g6|⟨g6,g6'⟩
     all_goals
      go_wp2_with fail
      refine rg ⟨[], []⟩ [.c 0 0,.c 1 1,.c 0 2,.c 0 3,.c 0 4,.c 1 5,.c 0 6,.c 1 7,.c 0 8,.c 0 9,.c 0 10,.c 0 11,.c 0 12,.c 1 13,.c 0 14,.c 1 15,.c 0 16,.c 0 17,.c 1 18,.c 0 19,.c 1 20,.c 0 21,.c 0 22,.c 0 23,.c 0 24,.c 1 25,.c 0 26,.c 0 27,.c 0 28,.c 0 29,.c 1 30,.c 0 31,.c 0 32,.c 0 33,.c 0 34,.c 1 35,.c 0 36,.c 0 37,.c 0 38,.c 1 39,.c 0 40,.c 0 41,.c 0 42] ?_
      refine BV ?_
      try refine aS ?_
      go_upto_region 6 with(fail)
      by_cases iN:(decide (internal= -1)||decide (aI≤internal)&&decide (internal≤127))=false
      ·obtain rfl:q=false:=hq.symm.trans (dF hlt (NOi iN))
       have iNb:(internal != -1)=true:=by
        have:=iN;simp only[Bool.or_eq_false_iff,decide_eq_false_iff_not]at this;simpa using this.1
       by_cases i1:internal<aI
       ·go_wp2_with fail
        go_ret
        exact⟨rfl,h6.drew.drop.drop⟩
       ·have i2:127<internal:=by simp at iN;omega
        go_wp2_with fail
        go_ret
        exact⟨rfl,h6.drew.drop.drop⟩
      have iY:(internal != -1)=false∨((internal != -1)=true∧aI≤internal∧internal≤127):=by
       by_cases e:internal= -1
       ·left;simp[e]
       ·right;simp[e]at iN⊢;omega
      have Qz:f k=(co&&decide (dX/2 ^ T.modes.toNat=0)):=by rw[rJ,(Bool.not_eq_false _).mp iN];simp
      clear rJ NOi
      cases co with
      |false=>
       obtain rfl:q=false:=hq.symm.trans (dF hlt (by rw[Qz];rfl))
       rcases iY with i0|⟨i0,i1,i2⟩
       all_goals
        go_wp2_with (go_at_call 150;refine bF hown2 ?_;intro w9 h9;clear bC kT;have bC:=(h9.ae p1).cells;have kT:=(h9.ae p2).cells)
        go_ret
        exact⟨rfl,h9.s⟩
      |true=>
       by_cases a0:dX/2 ^ T.modes.toNat=0
       ·have hst:f k=true:=by rw[Qz];simp[a0]
        rcases iY with i0|⟨i0,i1,i2⟩
        all_goals
         go_wp2_with (go_at_call 150;refine bF hown2 ?_;intro w9 h9;clear bC kT;have bC:=(h9.ae p1).cells;have kT:=(h9.ae p2).cells)
         go_roundw
         case rel=>exact⟨k+1,hlt,by go_num,lC hall hst,h9.s⟩
         case measure=>simp[intOf]<;>omega
       ·have a0b:(dX/2 ^ T.modes.toNat != 0)=true:=by simpa using a0
        obtain rfl:q=false:=hq.symm.trans (dF hlt (by rw[Qz];simpa using a0))
        rcases iY with i0|⟨i0,i1,i2⟩
        all_goals
         go_wp2_with (go_at_call 150;refine bF hown2 ?_;intro w9 h9;clear bC kT;have bC:=(h9.ae p1).cells;have kT:=(h9.ae p2).cells)
         go_ret
         exact⟨rfl,h9.s⟩
    ·have c6a:(mask != 0)=true:=by simp;exact fun e=>c6 (.inl e)
     have c6b:(limit != 1)=true:=by simp;exact fun e=>c6 (.inr e)
     obtain rfl:q=false:=hq.symm.trans (dF hlt (by rw[hat];simp;omega))
     go_wp2_with fail
     refine rg ⟨[], []⟩ [.c 0 0,.c 1 1,.c 0 2,.c 0 3,.c 0 4,.c 1 5,.c 0 6,.c 1 7,.c 0 8,.c 0 9,.c 0 10,.c 0 11,.c 0 12,.c 1 13,.c 0 14,.c 1 15,.c 0 16,.c 0 17,.c 1 18,.c 0 19,.c 1 20,.c 0 21,.c 0 22,.c 0 23,.c 0 24,.c 1 25,.c 0 26,.c 0 27,.c 0 28,.c 0 29,.c 1 30,.c 0 31,.c 0 32,.c 0 33,.c 0 34,.c 1 35,.c 0 36,.c 0 37,.c 0 38,.c 1 39,.c 0 40,.c 0 41,.c 0 42] ?_
     refine BV ?_
     try refine aS ?_
     go_wp2_with fail
     go_ret
     exact⟨rfl,h6.drew.drop.drop⟩
   ·have c3b:(rr.aI != aI)=true:=by simpa using c3
    obtain rfl:q=false:=hq.symm.trans (dF hlt (by rw[hat];simp[c3]))
    go_wp2_with fail
    refine rg ⟨[], []⟩ [.c 0 0,.c 1 1,.c 0 2,.c 0 3,.c 0 4,.c 1 5,.c 0 6,.c 1 7,.c 0 8,.c 0 9,.c 0 10,.c 0 11,.c 0 12,.c 1 13,.c 0 14,.c 1 15,.c 0 16,.c 0 17,.c 1 18,.c 0 19,.c 1 20,.c 0 21,.c 0 22,.c 0 23,.c 0 24,.c 1 25,.c 0 26,.c 0 27,.c 0 28,.c 0 29,.c 1 30,.c 0 31,.c 0 32,.c 0 33,.c 0 34,.c 1 35,.c 0 36,.c 0 37,.c 0 38,.c 1 39,.c 0 40,.c 0 41,.c 0 42] ?_
    refine BV ?_
    try refine aS ?_
    go_wp2_with fail
    go_ret
    exact⟨rfl,h6.drew.drop.drop⟩
  ·have hke:k=T.ay.length:=by omega
   subst hke
   obtain rfl:q=true:=hq.symm.trans hall
   have hlim:∀k∈T.ay,1≤k.limit∧k.limit≤255:=by
    intro y hy
    obtain⟨i,hi,hiy⟩:=List.mem_iff_getElem.1 hy
    have h0:=lw.1 hall i hi
    rw[←hf]at h0
    simp only[List.getElem?_eq_getElem hi,hiy]at h0
    unfold ah.ui at h0
    simp only[Bool.and_eq_true,decide_eq_true_eq]at h0
    omega
   have hnn:¬(T.ay.length:Int)<T.ay.length:=by omega
   have hr:=UZ (hw.drew.ae p1) Fb hn hlim
   simp only at hr
   have fc_:=hw.facts
   go_wp2_with fail
   have hS0:=(hw.drew).ps [0]
   refine nK hS0 ⟨[2],[5]⟩ [.c 0 0,.c 1 1,.c 0 3,.c 2 4,.e 2,.e 5,.c 0 6] ?_
   refine nD ?_;intro K hK
   go_wp2_with (go_at_call 152;refine hr.mono ?_;rintro _ w3 ⟨u,rfl,h3⟩)
   obtain⟨C,hC,hu,h4⟩:=h3.dY
   go_wp2_with fail
   refine df hK ((h4).s) fun hS0=>?_
   refine bG rfl rfl fun K hK=>?_
   have heq:=Va h4 hu (ht.rings.mono hC)
   go_wp2_with (go_at_call 151;refine bF heq ?_;intro w5 h5)
   go_wp2_with fail
   refine wM ?_
   go_wp2_with fail
   go_ret
   refine⟨?_,(h5.Ad hC).s⟩
   show Ending.returned (.bool (wW (Ar T.ay) T.rings))=_
   rw[Bool.true_and]
end
end Go.Proofs.YtajgpcnlehinbaaGreat
