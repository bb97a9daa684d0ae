/- Part of a proof. -/
import Derived.Test.YtajgpcnlehinbaaGreatA18
namespace Go.Proofs.YtajgpcnlehinbaaGreat
open Tryz Go.RowKit
set_option maxRecDepth 100000
set_option maxHeartbeats 60000000
set_option linter.all false
section
variable {w0 w:World} {l:List SL} {T:ah} {B:List (Nat × Obj)} {x:jM} {v:Value}
theorem Uf (h:In w0 w (bJ B::l)) (ht:rF B v T x) (hm0:1≤T.modes) (hm8:T.modes≤8) (hnc:T.bi.length≤16) (hna:T.ag.length≤64):
 aW 61 #[v] w w0 (.bool T.ve) (bJ B::l):=by
 have Fb:=ht
 obtain rfl:=kY ht
 rcases x with⟨vt,vr,vs,vc,va,vi,vm,q1,q2,q3,q4,q5⟩
 obtain⟨Az,oD,es⟩:=ht.bi.form
 simp only at es
 subst es
 obtain⟨yP,lN,es⟩:=ht.ag.form
 simp only at es
 subst es
 have h1:=h.alloc (dO T vt vr vs (.slice Az T.bi.length oD) (.slice yP T.ag.length lN) vi vm)
 unfold ah.ve
 generalize hf:(fun i:Nat=>match T.bi[i]? with|some k=>xm.ok k|none=>false)=f
 generalize hf2:(fun i:Nat=>match T.ag[i]? with|some k=>T.kX k|none=>false)=f2
 generalize hq:mX T.bi.length f=q
 generalize hq2:mX T.ag.length f2=q2
 go_enter func61,ntmps61
 go_upto_region 1 with(fail)
 refine In.abs h1 ?_
 clear h1 h
 generalize w.heap.size=z
 intro w2 h2
 have fc_:=h2.facts
 go_upto_region 2 with(fail)
 go_loopw [4,13] (fun _ c wr=>∃k:Nat,k≤T.bi.length∧c= .int .i64 k∧mX k f=true∧In w0 wr (pts z (dO T vt vr vs (.slice Az T.bi.length oD) (.slice yP T.ag.length lN) vi vm)::bJ B::l))
  (fun _ c _=>T.bi.length-(intOf c).toNat)
 case atStart=>exact⟨0,Nat.zero_le _,rfl,rfl,h2⟩
 case round=>
  obtain⟨k,hk,rfl,hall,hw⟩:=hrel
  clear h2
  by_cases hlt:k<T.bi.length
  ·have hkr:=List.getElem?_eq_getElem hlt
   have hat:f k=xm.ok T.bi[k]:=by rw[←hf];simp only[hkr]
   generalize T.bi[k]=kr at*
   obtain⟨g0,o0,cap0,e0,hcl⟩:=iw (slot:=iU) (size:=3) (fun _=>rfl) ht.bi hkr
   simp only at e0
   cases e0
   have hd0:=hcl (hw.ae p1) 0 _ rfl (by decide)
   have hd1:=hcl (hw.ae p1) 1 _ rfl (by decide)
   have hd2:=hcl (hw.ae p1) 2 _ rfl (by decide)
   rw[Nat.add_zero]at hd0
   have n3:(k:Int)<T.bi.length:=by omega
   rcases kr with⟨mx,bs,mn⟩
   simp only at*
   have h6:=hw.alloc (Il mx bs mn)
   go_upto_region 4 with(fail)
   refine In.abs h6 ?_
   clear h6 hw hd0 hd1 hd2
   generalize wr.heap.size=y
   intro w6 h6
   have bC:=h6.cells
   have kT:=(h6.ae p1).cells
   unfold xm.ok at hat
   simp only at hat
   have hk1:=JO h6 mx
   generalize xX mx=b1 at hk1 hat
   cases b1 with
   |false=>
    obtain rfl:q=false:=hq.symm.trans (dF hlt (by rw[hat];rfl))
    go_wp2_with (go_at_call 153;refine bF hk1 ?_;intro w7 h7;clear bC kT;have bC:=h7.cells;have kT:=(h7.ae p1).cells)
    go_ret
    exact⟨rfl,h7.drop.drop⟩
   |true=>
    go_wp2_with (go_at_call 153;refine bF hk1 ?_;intro w7 h7;clear bC kT;have bC:=h7.cells;have kT:=(h7.ae p1).cells)
    have hk2:=JO h7 bs
    generalize xX bs=b2 at hk2 hat
    cases b2 with
    |false=>
     obtain rfl:q=false:=hq.symm.trans (dF hlt (by rw[hat];rfl))
     go_wp2_with (go_at_call 153;refine bF hk2 ?_;intro w8 h8;clear bC kT;have bC:=h8.cells;have kT:=(h8.ae p1).cells)
     go_ret
     exact⟨rfl,h8.drop.drop⟩
    |true=>
     go_wp2_with (go_at_call 153;refine bF hk2 ?_;intro w8 h8;clear bC kT;have bC:=h8.cells;have kT:=(h8.ae p1).cells)
     have hk3:=JO h8 mn
     generalize xX mn=b3 at hk3 hat
     cases b3 with
     |false=>
      obtain rfl:q=false:=hq.symm.trans (dF hlt (by rw[hat];rfl))
      go_wp2_with (go_at_call 153;refine bF hk3 ?_;intro w9 h9;clear bC kT;have bC:=h9.cells;have kT:=(h9.ae p1).cells)
      go_ret
      exact⟨rfl,h9.drop.drop⟩
     |true=>
      by_cases c1:mx<mn
      ·obtain rfl:q=false:=hq.symm.trans (dF hlt (by rw[hat];simp;omega))
       go_wp2_with (go_at_call 153;refine bF hk3 ?_;intro w9 h9;clear bC kT;have bC:=h9.cells;have kT:=(h9.ae p1).cells)
       go_ret
       exact⟨rfl,h9.drop.drop⟩
      ·have c1':mn≤mx:=by omega
       go_wp2_with (go_at_call 153;refine bF hk3 ?_;intro w9 h9;clear bC kT;have bC:=h9.cells;have kT:=(h9.ae p1).cells)
       go_roundw
       case rel=>exact⟨k+1,hlt,by go_num,lC hall (by rw[hat];simp;omega),h9.drop⟩
       case measure=>simp[intOf]<;>omega
  ·have hke:k=T.bi.length:=by omega
   subst hke
   obtain rfl:q=true:=hq.symm.trans hall
   clear hall hf
   have fc_:=hw.facts
   go_upto_region 8 with(fail)
   go_loopw [6,7,8,9,44] (fun _ _ _ _ c wr=>∃k:Nat,k≤T.ag.length∧c= .int .i64 k∧mX k f2=true∧In w0 wr (pts z (dO T vt vr vs (.slice Az T.bi.length oD) (.slice yP T.ag.length lN) vi vm)::bJ B::l))
    (fun _ _ _ _ c _=>T.ag.length-(intOf c).toNat)
   case atStart=>exact⟨0,Nat.zero_le _,rfl,rfl,hw⟩
   case round=>
    obtain⟨k,hk,rfl,hall,hw⟩:=hrel
    by_cases hlt:k<T.ag.length
    ·have hkr:=List.getElem?_eq_getElem hlt
     have hat:f2 k=T.kX T.ag[k]:=by rw[←hf2];simp only[hkr]
     generalize T.ag[k]=kr at*
     obtain⟨g0,o0,cap0,e0,hcl⟩:=iw (slot:=dR) (size:=7) (fun _=>rfl) ht.ag hkr
     simp only at e0
     cases e0
     have hd0:=hcl (hw.ae p1) 0 _ rfl (by decide)
     have hd1:=hcl (hw.ae p1) 1 _ rfl (by decide)
     have hd2:=hcl (hw.ae p1) 2 _ rfl (by decide)
     have hd3:=hcl (hw.ae p1) 3 _ rfl (by decide)
     have hd4:=hcl (hw.ae p1) 4 _ rfl (by decide)
     have hd5:=hcl (hw.ae p1) 5 _ rfl (by decide)
     have hd6:=hcl (hw.ae p1) 6 _ rfl (by decide)
     rw[Nat.add_zero]at hd0
     clear hcl
     have n3:(k:Int)<T.ag.length:=by omega
     rcases kr with⟨cn,⟨kd,tk,mk⟩,dX,time,cycle⟩
     simp only at*
     have h6:=hw.alloc (OH cn kd tk mk dX time cycle)
     go_upto_region 10 with(fail)
     refine In.abs h6 ?_
     clear h6 hw hd0 hd1 hd2 hd3 hd4 hd5 hd6
     generalize wr.heap.size=y
     intro w6 h6
     have bC:=h6.cells
     have kT:=(h6.ae p1).cells
     unfold ah.kX at hat
     simp only at hat
     have hmn:¬T.modes<0:=by omega
     have hmin:min T.modes.toNat 32=T.modes.toNat:=by omega
     by_cases c1:cn<0
     ·obtain rfl:q2=false:=hq2.symm.trans (dF hlt (by rw[hat];simp;omega))
      go_wp2_with fail
      go_ret
      exact⟨rfl,h6.drop.drop⟩
     have c1':(0:Int)≤cn:=by omega
     by_cases c2:(T.bi.length:Int)≤cn
     ·obtain rfl:q2=false:=hq2.symm.trans (dF hlt (by rw[hat];simp;omega))
      go_wp2_with fail
      go_ret
      exact⟨rfl,h6.drop.drop⟩
     have c2':cn<T.bi.length:=by omega
     obtain⟨m,rfl⟩:∃m:Nat,cn=m:=⟨cn.toNat,by omega⟩
     have hm:=List.getElem?_eq_getElem (l:=T.bi) (i:=m) (by omega)
     generalize T.bi[m]'(by omega)=rr at hm
     rw[Int.toNat_natCast,hm]at hat
     simp only at hat
     obtain⟨g2,o2,cap2,e2,hc2⟩:=iw (slot:=iU) (size:=3) (fun _=>rfl) ht.bi hm
     simp only at e2
     cases e2
     rcases rr with⟨mx,bs,mn⟩
     have hact:=WF (a:=⟨kd,tk,mk⟩) (h6.ae p2) Fb 1 3
     simp only at hact
     generalize T.yT ⟨kd,tk,mk⟩ 1 3=co at hact hat
     cases co with
     |false=>
      obtain rfl:q2=false:=hq2.symm.trans (dF hlt (by rw[hat];simp))
      go_wp2_with (go_at_call 154;refine bF hact ?_;intro w9 h9;clear bC kT;have bC:=(h9.ae p1).cells;have kT:=(h9.ae p2).cells)
      go_ret
      exact⟨rfl,h9.s⟩
     |true=>
      by_cases a0:dX/2 ^ T.modes.toNat=0
      ·go_upto_region 12 with(go_at_call 154;refine bF hact ?_;intro w9 h9;clear bC kT;have bC:=(h9.ae p1).cells;have kT:=(h9.ae p2).cells)
       clear h6
       have hd0:=hc2 (h9.ae p0) 0 _ rfl (by decide)
       have hd1:=hc2 (h9.ae p0) 1 _ rfl (by decide)
       have hd2:=hc2 (h9.ae p0) 2 _ rfl (by decide)
       rw[Nat.add_zero]at hd0
       have hA:=h9.alloc (Il mx bs mn)
       go_upto_region 13 with(fail)
       refine In.abs hA ?_
       clear hA h9 hd0 hd1 hd2 bC kT
       generalize w9.heap.size=y2
       intro wa ha
       have bC:=ha.cells
       have kT:=(ha.ae p2).cells
       have wO:=(ha.ae p3).cells
       have rJ:f2 k=(if dX=0 then decide (time=0)&&decide (cycle=0) else decide (1≤time)&&decide (time≤mx)&&(decide (cycle=0)||decide (mn≤cycle)&&decide (cycle≤mx))):=by
        rw[hat]
        simp[a0,c1',c2',gq.right]
       have hcase:(time=0∧(time==0)=true∧cycle=0∧(cycle==0)=true)∨(time=0∧(time==0)=true∧cycle≠0∧(cycle==0)=false)∨(time<0∧(time==0)=false)∨(1≤time∧(time==0)=false∧mx<time)∨(1≤time∧(time==0)=false∧time≤mx∧cycle=0∧(cycle==0)=true)∨
        (1≤time∧(time==0)=false∧time≤mx∧cycle≠0∧(cycle==0)=false∧cycle<mn)∨(1≤time∧(time==0)=false∧time≤mx∧cycle≠0∧(cycle==0)=false∧mn≤cycle∧mx<cycle∧decide (cycle≤mx)=false)∨(1≤time∧(time==0)=false∧time≤mx∧cycle≠0∧(cycle==0)=false∧mn≤cycle∧cycle≤mx):=by
        simp only[beq_iff_eq,beq_eq_false_iff_ne,decide_eq_false_iff_not]
        omega
       have adk:(dX=0∧(dX==0)=true∧(dX != 0)=false)∨(dX≠0∧(dX==0)=false∧(dX != 0)=true):=by
        by_cases e:dX=0
        ·left;simp[e]
        ·right;simp[e]
       clear hat a0 hmn
       rcases adk with⟨f0,f1,f1'⟩|⟨f0,f1,f1'⟩
       all_goals
        rcases hcase with⟨t0,t1,t2,t3⟩|⟨t0,t1,t2,t3⟩|⟨t0,t1⟩|⟨t0,t1,t2⟩|⟨t0,t1,t2,t3,t4⟩|⟨t0,t1,t2,t3,t4,t5⟩|⟨t0,t1,t2,t3,t4,t5,t6,t7⟩|⟨t0,t1,t2,t3,t4,t5,t6⟩
        all_goals
         by_cases hbad:f2 k=false
         ·obtain rfl:q2=false:=hq2.symm.trans (dF hlt hbad)
          first
           |(exfalso;simp[rJ,f0]at hbad;omega)
           |(clear rJ hbad
             go_wp2_with fail
             go_ret
             exact⟨rfl,ha.s⟩)
         ·have hgood:f2 k=true:=(Bool.not_eq_false _).mp hbad
          first
           |(exfalso;simp[rJ,f0]at hbad;omega)
           |(clear rJ hbad
             go_wp2_with fail
             go_roundw
             case rel=>exact⟨k+1,hlt,by go_num,lC hall hgood,ha.s⟩
             case measure=>simp[intOf]<;>omega)
      ·have a0b:(dX/2 ^ T.modes.toNat != 0)=true:=by simpa using a0
       obtain rfl:q2=false:=hq2.symm.trans (dF hlt (by rw[hat];simp[a0]))
       go_wp2_with (go_at_call 154;refine bF hact ?_;intro w9 h9;clear bC kT;have bC:=(h9.ae p1).cells;have kT:=(h9.ae p2).cells)
       go_ret
       exact⟨rfl,h9.s⟩
    ·have hke:k=T.ag.length:=by omega
     subst hke
     obtain rfl:q2=true:=hq2.symm.trans hall
     go_wp2_with fail
     go_ret
     exact⟨rfl,hw.drop⟩
end
end Go.Proofs.YtajgpcnlehinbaaGreat
