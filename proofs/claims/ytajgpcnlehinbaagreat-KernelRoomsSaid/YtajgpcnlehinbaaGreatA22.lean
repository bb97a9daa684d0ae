/- Part of a proof. -/
import Derived.Test.YtajgpcnlehinbaaGreatA18
namespace Go.Proofs.YtajgpcnlehinbaaGreat
open Tryz Go.RowKit
set_option maxRecDepth 100000
set_option maxHeartbeats 60000000
set_option linter.all false
section
variable {w0 w:World} {l:List SL} {T:ah} {B:List (Nat × Obj)} {x:jM} {v:Value}
theorem abO (h:In w0 w l) (n:Int):
 Calls prog 155 #[.slice (some ⟨w.heap.size,0,none⟩) 4 4,.int .i64 n] (w.alloc (Zc 1 2 4 8)) fun e w'=>e= .returned (.bool (decide (n=1)||decide (n=2)||decide (n=4)||decide (n=8)))∧w.alloc (Zc 1 2 4 8)=w':=by
 have h1:=h.sW.alloc (Zc 1 2 4 8)
 have h2:=In.nJ (E:=3) (size:=1) (n:=4) (cap:=4) (cs:=ints [1,2,4,8]) (ext:= []) h1 rfl (Nat.le_refl _) (by decide) rfl (by simp[ints,Value.oneCell'])
 obtain⟨C,hC,hv,h3⟩:=h2.dY
 refine(Et (xs:=[1,2,4,8]) h3 hv n).mono ?_
 rintro _ _ ⟨rfl,rfl⟩
 refine⟨?_,rfl⟩
 congr 2
 simp[Bool.or_assoc]
theorem ZQ (h:In w0 w (bJ B::l)) (ht:rF B v T x) (hnm:T.cZ.length≤64):
 aW 63 #[v] w w0 (.bool T.Gj) (bJ B::l):=by
 have Fb:=ht
 have hne:=ac5
 obtain rfl:=kY ht
 rcases x with⟨vt,vr,vs,vc,va,vi,vm,q1,q2,q3,q4,q5⟩
 obtain⟨H7,vI,es⟩:=ht.cZ.form
 simp only at es
 subst es
 have h1:=h.alloc (dO T vt vr vs vc va vi (.slice H7 T.cZ.length vI))
 unfold ah.Gj
 generalize hf:(fun i:Nat=>match T.cZ[i]? with|some k=>T.rO k|none=>false)=f
 generalize hq:mX T.cZ.length f=q
 go_enter func63,ntmps63
 go_upto_region 1 with(fail)
 refine In.abs h1 ?_
 clear h1 h
 generalize w.heap.size=z
 intro w2 h2
 have bC:=h2.cells
 go_upto_region 2 with(fail)
 clear bC
 go_loopw [4,5,9] (fun _ _ c wr=>∃k:Nat,k≤T.cZ.length∧c= .int .i64 k∧mX k f=true∧In w0 wr (pts z (dO T vt vr vs vc va vi (.slice H7 T.cZ.length vI))::bJ B::l))
  (fun _ _ c _=>T.cZ.length-(intOf c).toNat)
 case atStart=>exact⟨0,Nat.zero_le _,rfl,rfl,h2⟩
 case round=>
  obtain⟨k,hk,rfl,hall,hw⟩:=hrel
  clear h2
  by_cases hlt:k<T.cZ.length
  ·have hkr:=List.getElem?_eq_getElem hlt
   have hat:f k=T.rO T.cZ[k]:=by rw[←hf];simp only[hkr]
   generalize T.cZ[k]=kr at*
   obtain⟨g0,o0,cap0,e0,hcl⟩:=iw (slot:=mJ) (size:=8) (fun _=>rfl) ht.cZ hkr
   simp only at e0
   cases e0
   have hd0:=hcl (hw.ae p1) 0 _ rfl (by decide)
   have hd1:=hcl (hw.ae p1) 1 _ rfl (by decide)
   have hd2:=hcl (hw.ae p1) 2 _ rfl (by decide)
   have hd3:=hcl (hw.ae p1) 3 _ rfl (by decide)
   have hd4:=hcl (hw.ae p1) 4 _ rfl (by decide)
   have hd5:=hcl (hw.ae p1) 5 _ rfl (by decide)
   have hd6:=hcl (hw.ae p1) 6 _ rfl (by decide)
   have hd7:=hcl (hw.ae p1) 7 _ rfl (by decide)
   rw[Nat.add_zero]at hd0
   clear hcl
   have n3:(k:Int)<T.cZ.length:=by omega
   rcases kr with⟨kind,length,src,init,queue,⟨kd,tk,mk⟩⟩
   simp only at*
   have h6:=hw.alloc (Nv kind length src init queue kd tk mk)
   go_upto_region 4 with(fail)
   refine In.abs h6 ?_
   clear h6 hw hd0 hd1 hd2 hd3 hd4 hd5 hd6 hd7
   generalize wr.heap.size=y
   intro w6 h6
   have bC:=h6.cells
   have kT:=(h6.ae p1).cells
   unfold ah.rO at hat
   simp only at hat
   by_cases k1:kind=1
   ·have k1b:(kind==1)=true:=by simp[k1]
    rw[if_pos k1]at hat
    unfold qF.sent at hat
    simp only at hat
    have hct:=abO h6 length
    generalize (decide (length=1)||decide (length=2)||decide (length=4)||decide (length=8))=cl at hct hat
    have h7:=h6.alloc (Zc 1 2 4 8)
    have wO:=(h7.ae p1).cells
    clear kT
    cases cl with
    |false=>
     obtain rfl:q=false:=hq.symm.trans (dF hlt (by rw[hat];simp))
     go_wp2_with (go_at_call 155;refine bW hct ?_)
     go_ret
     exact⟨rfl,h7.drop.drop.drop⟩
    |true=>
     have s1:((src != 0)=true∧decide (src=0)=false)∨((src != 0)=false∧decide (src=0)=true):=by by_cases e:src=0<;>simp[e]
     have s2:((init != 0)=true∧decide (init=0)=false)∨((init != 0)=false∧decide (init=0)=true):=by by_cases e:init=0<;>simp[e]
     have s3:((queue != 0)=true∧decide (queue=0)=false)∨((queue != 0)=false∧decide (queue=0)=true):=by by_cases e:queue=0<;>simp[e]
     have s4:((kd==0&&(tk==0&&mk==0))=true∧(decide (kd=0)&&decide (tk=0)&&decide (mk=0))=true)∨((kd==0&&(tk==0&&mk==0))=false∧(decide (kd=0)&&decide (tk=0)&&decide (mk=0))=false):=by
      by_cases e:kd=0<;>by_cases e2:tk=0<;>by_cases e3:mk=0<;>simp[e,e2,e3]
     rcases s1 with⟨a1,b1⟩|⟨a1,b1⟩
     ·obtain rfl:q=false:=hq.symm.trans (dF hlt (by rw[hat,b1];simp))
      go_wp2_with (go_at_call 155;refine bW hct ?_)
      go_ret
      exact⟨rfl,h7.drop.drop.drop⟩
     rcases s2 with⟨a2,b2⟩|⟨a2,b2⟩
     ·obtain rfl:q=false:=hq.symm.trans (dF hlt (by rw[hat,b1,b2];simp))
      go_wp2_with (go_at_call 155;refine bW hct ?_)
      go_ret
      exact⟨rfl,h7.drop.drop.drop⟩
     rcases s3 with⟨a3,b3⟩|⟨a3,b3⟩
     ·obtain rfl:q=false:=hq.symm.trans (dF hlt (by rw[hat,b1,b2,b3];simp))
      go_wp2_with (go_at_call 155;refine bW hct ?_)
      go_ret
      exact⟨rfl,h7.drop.drop.drop⟩
     rcases s4 with⟨a4,b4⟩|⟨a4,b4⟩
     ·go_wp2_with (go_at_call 155;refine bW hct ?_)
      go_roundw
      case rel=>exact⟨k+1,hlt,by go_num,lC hall (by rw[hat,b1,b2,b3,b4];rfl),h7.drop.drop⟩
      case measure=>simp[intOf]<;>omega
     ·obtain rfl:q=false:=hq.symm.trans (dF hlt (by rw[hat,b1,b2,b3,b4];rfl))
      go_wp2_with (go_at_call 155;refine bW hct ?_)
      go_ret
      exact⟨rfl,h7.drop.drop.drop⟩
   ·have k1b:(kind==1)=false:=by simpa using k1
    rw[if_neg k1]at hat
    have m1:(decide (kind=2)||decide (kind=3))=false∨((decide (kind=2)||decide (kind=3))=true∧(((kind != 2)=false∧(kind==2)=true∧(kind==3)=false∧decide (kind=2)=true∧(kind != 3)=true)∨((kind != 2)=true∧(kind != 3)=false∧(kind==2)=false∧(kind==3)=true∧decide (kind=2)=false))):=by
     by_cases e:kind=2
     ·right;simp[e]
     ·by_cases e2:kind=3
      ·right;simp[e2]
      ·left;simp[e,e2]
    rcases m1 with m1|⟨m1,m2⟩
    ·have n1:(kind != 2)=true:=by simp at m1;simpa using m1.1
     have n2:(kind != 3)=true:=by simp at m1;simpa using m1.2
     obtain rfl:q=false:=hq.symm.trans (dF hlt (by rw[hat,m1];rfl))
     go_wp2_with fail
     go_ret
     exact⟨rfl,h6.drop.drop⟩
    have s1:((length != 0)=true∧decide (length=0)=false)∨((length != 0)=false∧decide (length=0)=true):=by by_cases e:length=0<;>simp[e]
    clear k1
    rcases m2 with⟨n1,n2,n3',n4,n5⟩|⟨n1,n2,n3',n4,n5⟩
    all_goals
     rcases s1 with⟨a1,b1⟩|⟨a1,b1⟩
     ·obtain rfl:q=false:=hq.symm.trans (dF hlt (by rw[hat,m1,b1];simp))
      go_wp2_with fail
      go_ret
      exact⟨rfl,h6.drop.drop⟩
     by_cases c1:src<0
     ·obtain rfl:q=false:=hq.symm.trans (dF hlt (by rw[hat,m1,b1];simp;omega))
      go_wp2_with fail
      go_ret
      exact⟨rfl,h6.drop.drop⟩
     have c1':(0:Int)≤src:=by omega
     by_cases c2:(T.cZ.length:Int)≤src
     ·obtain rfl:q=false:=hq.symm.trans (dF hlt (by rw[hat,m1,b1];simp;omega))
      go_wp2_with fail
      go_ret
      exact⟨rfl,h6.drop.drop⟩
     have c2':src<T.cZ.length:=by omega
     obtain⟨m,rfl⟩:∃m:Nat,src=m:=⟨src.toNat,by omega⟩
     have hm:=List.getElem?_eq_getElem (l:=T.cZ) (i:=m) (by omega)
     generalize T.cZ[m]'(by omega)=rr at hm
     rw[Int.toNat_natCast,hm]at hat
     simp only at hat
     obtain⟨g2,o2,cap2,e2,hc2⟩:=iw (slot:=mJ) (size:=8) (fun _=>rfl) ht.cZ hm
     simp only at e2
     cases e2
     have hy0:=hc2 (h6.ae p2) 0 _ rfl (by decide)
     have hy1:=hc2 (h6.ae p2) 1 _ rfl (by decide)
     rw[Nat.add_zero]at hy0
     rcases rr with⟨rkind,mZ,rsrc,rinit,rqueue,ract⟩
     simp only at hy0 hy1 hat
     have kT:=(h6.ae p1).cells
     have s2:((rkind != 1)=true∧decide (rkind=1)=false)∨((rkind != 1)=false∧decide (rkind=1)=true):=by by_cases e:rkind=1<;>simp[e]
     rcases s2 with⟨a2,b2⟩|⟨a2,b2⟩
     ·obtain rfl:q=false:=hq.symm.trans (dF hlt (by rw[hat,m1,b1,b2];simp))
      go_wp2_with fail
      go_ret
      exact⟨rfl,h6.drop.drop⟩
     have hact:=WF (a:=⟨kd,tk,mk⟩) (h6.ae p2) Fb 0 4
     simp only at hact
     generalize T.yT ⟨kd,tk,mk⟩ 0 4=co at hact hat
     cases co with
     |false=>
      obtain rfl:q=false:=hq.symm.trans (dF hlt (by rw[hat];simp))
      go_wp2_with (go_at_call 154;refine bF hact ?_;intro w9 h9;clear bC kT;have bC:=(h9.ae p1).cells;have kT:=(h9.ae p2).cells)
      go_ret
      exact⟨rfl,h9.s⟩
     |true=>
      have rJ:f k=(qF.Qk ⟨kind,length,m,init,queue,⟨kd,tk,mk⟩⟩ mZ&&if kind=2 then decide (queue=0) else decide (init=0)&&decide (1≤queue)&&decide (queue≤16)):=by
       rw[hat,m1,b1,b2]
       simp[c1',c2']
      clear hat
      unfold qF.Qk at rJ
      simp only at rJ
      go_upto_region 10 with(go_at_call 154;refine bF hact ?_;intro w9 h9;clear bC kT;have bC:=(h9.ae p1).cells;have kT:=(h9.ae p2).cells;have hy0:=hc2 (h9.ae p0) 0 _ rfl (by decide);have hy1:=hc2 (h9.ae p0) 1 _ rfl (by decide);rw[Nat.add_zero]at hy0)
      have hI:(4294967295<init∧(decide (init≤4294967295)&& !(decide (1≤mZ)&&decide (mZ<8)&& !decide (init/2 ^ (8*mZ).toNat=0)))=false)∨
       (init≤4294967295∧1≤mZ∧mZ<8∧(init/2 ^ (8*mZ).toNat != 0)=true∧min (8*mZ).toNat 64=(8*mZ).toNat∧(decide (init≤4294967295)&& !(decide (1≤mZ)&&decide (mZ<8)&& !decide (init/2 ^ (8*mZ).toNat=0)))=false)∨
       (init≤4294967295∧mZ<1∧mZ<8∧(0:Int)=0∧(0:Int)=0∧(decide (init≤4294967295)&& !(decide (1≤mZ)&&decide (mZ<8)&& !decide (init/2 ^ (8*mZ).toNat=0)))=true)∨
       (init≤4294967295∧1≤mZ∧8≤mZ∧(0:Int)=0∧(0:Int)=0∧(decide (init≤4294967295)&& !(decide (1≤mZ)&&decide (mZ<8)&& !decide (init/2 ^ (8*mZ).toNat=0)))=true)∨
       (init≤4294967295∧1≤mZ∧mZ<8∧(init/2 ^ (8*mZ).toNat != 0)=false∧min (8*mZ).toNat 64=(8*mZ).toNat∧(decide (init≤4294967295)&& !(decide (1≤mZ)&&decide (mZ<8)&& !decide (init/2 ^ (8*mZ).toNat=0)))=true):=by
       by_cases e1:init≤4294967295
       ·by_cases e2:1≤mZ
        ·by_cases e3:mZ<8
         ·have em:min (8*mZ).toNat 64=(8*mZ).toNat:=by omega
          by_cases e4:init/2 ^ (8*mZ).toNat=0
          ·right;right;right;right;exact⟨e1,e2,e3,by simp[e4],em,by simp[e1,e2,e3,e4]⟩
          ·right;left;exact⟨e1,e2,e3,by simpa using e4,em,by simp[e1,e2,e3,e4]⟩
         ·right;right;right;left;exact⟨e1,e2,by omega,rfl,rfl,by simp[e1,e2,e3]⟩
        ·right;right;left;exact⟨e1,by omega,by omega,rfl,rfl,by simp[e1,e2]⟩
       ·left;exact⟨by omega,by simp[e1]⟩
      obtain⟨qok,IG⟩:∃qok:Bool,(if kind=2 then decide (queue=0) else decide (init=0)&&decide (1≤queue)&&decide (queue≤16))=qok:=⟨_,rfl⟩
      rw[IG]at rJ
      generalize (decide (init≤4294967295)&& !(decide (1≤mZ)&&decide (mZ<8)&& !decide (init/2 ^ (8*mZ).toNat=0)))=iok at rJ hI
      have hK:(kind=2∧qok=false∧(queue != 0)=true∧(0:Int)=0∧(0:Int)=0)∨(kind=2∧qok=true∧(queue != 0)=false∧(0:Int)=0∧(0:Int)=0)∨(kind=3∧qok=false∧(init != 0)=true∧(0:Int)=0∧(0:Int)=0)∨
       (kind=3∧qok=false∧(init != 0)=false∧queue<1∧(0:Int)=0)∨(kind=3∧qok=false∧(init != 0)=false∧1≤queue∧16<queue)∨(kind=3∧qok=true∧(init != 0)=false∧1≤queue∧queue≤16):=by
       have aeG:kind=2∨kind=3:=by simpa using m1
       rcases aeG with e|e
       ·rw[if_pos e]at IG
        by_cases q0:queue=0
        ·right;left;exact⟨e,by rw[←IG];simp[q0],by simp[q0],rfl,rfl⟩
        ·left;exact⟨e,by rw[←IG];simp[q0],by simpa using q0,rfl,rfl⟩
       ·rw[if_neg (by omega)]at IG
        by_cases i0:init=0
        ·by_cases q1:queue<1
         ·right;right;right;left;exact⟨e,by rw[←IG];simp;omega,by simp[i0],q1,rfl⟩
         ·by_cases q2:16<queue
          ·right;right;right;right;left;exact⟨e,by rw[←IG];simp;omega,by simp[i0],by omega,q2⟩
          ·right;right;right;right;right;exact⟨e,by rw[←IG];simp;omega,by simp[i0],by omega,by omega⟩
        ·right;right;left;exact⟨e,by rw[←IG];simp[i0],by simpa using i0,rfl,rfl⟩
      clear h6 hact hy0 hy1 hc2 IG m1
      rcases hI with⟨i1,i2⟩|⟨i1,i3,i4,i5,i6,i2⟩|hI
      ·obtain rfl:q=false:=hq.symm.trans (dF hlt (by rw[rJ,i2];rfl))
       clear hK
       go_wp2_with fail
       go_ret
       exact⟨rfl,h9.s⟩
      ·obtain rfl:q=false:=hq.symm.trans (dF hlt (by rw[rJ,i2];rfl))
       clear hK
       go_wp2_with fail
       go_ret
       exact⟨rfl,h9.s⟩
      rcases hK with⟨kk,kq,k2,k3,k4⟩|⟨kk,kq,k2,k3,k4⟩|⟨kk,kq,k2,k3,k4⟩|⟨kk,kq,k2,k3,k4⟩|⟨kk,kq,k2,k3,k4⟩|⟨kk,kq,k2,k3,k4⟩
      all_goals first
       |(exfalso;rw[kk]at n1;revert n1;decide)
       |(clear kk
         rcases hI with⟨i1,i3,i4,i5,i6,i2⟩|⟨i1,i3,i4,i5,i6,i2⟩|⟨i1,i3,i4,i5,i6,i2⟩
         all_goals
          rw[i2,kq]at rJ
          clear i2 kq
          first
           |(have hst:f k=true:=rJ
             go_wp2_with fail
             go_roundw
             case rel=>exact⟨k+1,hlt,by go_num,lC hall hst,h9.s⟩
             case measure=>simp[intOf]<;>omega)
           |(obtain rfl:q=false:=hq.symm.trans (dF hlt rJ)
             go_wp2_with fail
             go_ret
             exact⟨rfl,h9.s⟩))
  ·have hke:k=T.cZ.length:=by omega
   subst hke
   obtain rfl:q=true:=hq.symm.trans hall
   go_wp2_with fail
   go_ret
   exact⟨rfl,hw.drop⟩
end
end Go.Proofs.YtajgpcnlehinbaaGreat
