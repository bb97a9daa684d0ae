/- Part of a proof. -/
import Derived.Test.YtajgpcnlehinbaaGreatA18
namespace Go.Proofs.YtajgpcnlehinbaaGreat
open Tryz Go.RowKit
set_option maxRecDepth 100000
set_option maxHeartbeats 60000000
set_option linter.all false
section
variable {w0 w:World} {l:List SL} {T:ah} {B:List (Nat × Obj)} {x:jM} {v:Value}
theorem Yw {v vt vr vs vc va vi vm:Value} (ht:xu B v T vt vr vs vc va vi vm):
 ∃us:Nat→Value,∀ {n:Nat} {k:kG},T.bf[n]? =some k→dQ B (us n) k.own.length (ints k.own)∧∃g o cap,vi= .slice (some ⟨g,o,none⟩) T.bf.length cap∧∀ {w0 w:World} {l:List SL},In w0 w (bJ B::l)→
  ∀(j:Nat) (c:Value),(iy (k,us n))[j]? =some c→j<3→w.cell? ⟨g,o+n*3+j,none⟩=some c:=by
 obtain⟨tl,t1,t2,t3⟩:=ht.bf
 refine⟨fun n=>match tl[n]? with|some p=>p.2|none=> .slice none 0 0,fun{n k} hk=>?_⟩
 have hn:=(List.getElem?_eq_some_iff.1 hk).1
 have hlen:tl.length=T.bf.length:=by rw[←t1,List.length_map]
 obtain⟨p,hp⟩:∃p,tl[n]? =some p:=⟨_,List.getElem?_eq_getElem (by omega)⟩
 have hpk:p.1=k:=by rw[←t1,List.getElem?_map,hp]at hk;cases hk;rfl
 have hown:=t3 p (List.mem_of_getElem? hp)
 simp only[hp]
 rcases p with⟨k',u⟩
 simp only at hpk hown
 subst hpk
 rw[←hlen]at t2
 obtain⟨g,o,cap,e,hc⟩:=iw (slot:=iy) (size:=3) (fun _=>rfl) t2 hp
 exact⟨hown,g,o,cap,by rw[←hlen];exact e,hc⟩
theorem Zz (h:In w0 w (bJ B::l)) (ht:rF B v T x) (hni:T.bf.length≤32):
 aW 62 #[v] w w0 (.bool T.J3) (bJ B::l):=by
 have Fb:=ht
 obtain rfl:=kY ht
 rcases x with⟨vt,vr,vs,vc,va,vi,vm,q1,q2,q3,q4,q5⟩
 obtain⟨il,i1,i2,i3⟩:=ht.bf
 obtain⟨EN,ry,es⟩:=i2.form
 simp only at es
 subst es
 have aff:T.bf.length≤ry:=by
  obtain⟨h0,⟨e,h1,_⟩|⟨g,o,cap,cells,Ty,fr,e,h2,h3,h4⟩⟩:=i2
  ·omega
  ·cases e;exact h2
 obtain⟨us,hus⟩:=Yw ht
 have h1:=h.alloc (dO T vt vr vs vc va (.slice EN T.bf.length ry) vm)
 unfold ah.J3
 generalize hf:(fun i:Nat=>match T.bf[i]? with|some x=>T.Cb x&&mX i (fun j=>match T.bf[j]? with|some y=>kG.beside x y|none=>false)|none=>false)=f
 generalize hq:mX T.bf.length f=q
 go_enter func62,ntmps62
 go_upto_region 1 with(fail)
 refine In.abs h1 ?_
 clear h1 h
 generalize w.heap.size=z
 intro w2 h2
 have bC:=h2.cells
 go_upto_region 2 with(fail)
 clear bC
 go_loopw [3,4,6,10,58] (fun _ _ _ c _ wr=>∃k:Nat,k≤T.bf.length∧c= .int .i64 k∧mX k f=true∧In w0 wr (pts z (dO T vt vr vs vc va (.slice EN T.bf.length ry) vm)::bJ B::l))
  (fun _ _ _ c _ _=>T.bf.length-(intOf c).toNat)
 case atStart=>exact⟨0,Nat.zero_le _,rfl,rfl,h2⟩
 case round=>
  obtain⟨k,hk,rfl,hall,hw⟩:=hrel
  clear h2
  by_cases hlt:k<T.bf.length
  ·have hkr:=List.getElem?_eq_getElem hlt
   have hat:f k=(T.Cb T.bf[k]&&mX k fun j=>match T.bf[j]? with|some y=>kG.beside T.bf[k] y|none=>false):=by rw[←hf];simp only[hkr]
   generalize T.bf[k]=kr at*
   obtain⟨hown,g0,o0,cap0,e0,hcl⟩:=hus hkr
   cases e0
   obtain⟨XY,Hw,eo⟩:=hown.form
   rw[eo]at hcl hown
   have hd0:=hcl (hw.ae p1) 0 _ rfl (by decide)
   have hd1:=hcl (hw.ae p1) 1 _ rfl (by decide)
   have hd2:=hcl (hw.ae p1) 2 _ rfl (by decide)
   rw[Nat.add_zero]at hd0
   clear hcl eo
   have n3:(k:Int)<T.bf.length:=by omega
   rcases kr with⟨cat,aI,own⟩
   simp only at*
   have h6:=hw.alloc (Ic cat aI (.slice XY own.length Hw))
   go_upto_region 4 with(fail)
   refine In.abs h6 ?_
   clear h6 hw hd0 hd1 hd2
   generalize wr.heap.size=y
   intro w6 h6
   have bC:=h6.cells
   have kT:=(h6.ae p1).cells
   unfold ah.Cb at hat
   simp only at hat
   have hown2:=U2 (h6.ae p2) Fb hown aI
   generalize T.yF own aI=co at hown2 hat
   have NOc:(decide (cat=1)||decide (cat=2))=false→f k=false:=fun e=>by rw[hat,e];rfl
   by_cases cN:(decide (cat=1)||decide (cat=2))=false
   ·obtain rfl:q=false:=hq.symm.trans (dF hlt (NOc cN))
    simp only[Bool.or_eq_false_iff,decide_eq_false_iff_not]at cN
    have cN1:(cat != 1)=true:=by simpa using cN.1
    have cN2:(cat != 2)=true:=by simpa using cN.2
    go_wp2_with fail
    go_ret
    exact⟨rfl,h6.drop.drop⟩
   have cY:((cat != 1)=false∧(cat==1)=true∧cat=1)∨((cat != 1)=true∧(cat != 2)=false∧(cat==1)=false∧cat=2):=by
    by_cases e:cat=1
    ·left;simp[e]
    ·right;simp[e]at cN;simp[cN]
   clear NOc
   have rJ:f k=(decide (64≤aI)&&decide (aI≤127)&&co&&(!decide (cat=1)||decide (own.length=0))&&mX k fun j=>match T.bf[j]? with|some y=>kG.beside ⟨cat,aI,own⟩ y|none=>false):=by rw[hat,(Bool.not_eq_false _).mp cN];simp
   clear hat cN
   generalize hg:(fun j:Nat=>match T.bf[j]? with|some y=>kG.beside ⟨cat,aI,own⟩ y|none=>false)=g at rJ
   generalize hrest:mX k g=rest at rJ
   rcases cY with⟨c0,c1,Lp⟩|⟨c0,c1,c2,Lp⟩
   all_goals
    by_cases p1':aI<64
    ·obtain rfl:q=false:=hq.symm.trans (dF hlt (by rw[rJ];simp;omega))
     go_wp2_with fail
     go_ret
     exact⟨rfl,h6.drop.drop⟩
    have p1'':64≤aI:=by omega
    by_cases p2':127<aI
    ·obtain rfl:q=false:=hq.symm.trans (dF hlt (by rw[rJ];simp;omega))
     go_wp2_with fail
     go_ret
     exact⟨rfl,h6.drop.drop⟩
    have p2'':aI≤127:=by omega
    cases co with
    |false=>
     obtain rfl:q=false:=hq.symm.trans (dF hlt (by rw[rJ];simp))
     go_wp2_with (go_at_call 150;refine bF hown2 ?_;intro w9 h9;clear bC kT;have bC:=(h9.ae p1).cells;have kT:=(h9.ae p2).cells)
     go_ret
     exact⟨rfl,h9.s⟩
    |true=>
     by_cases l0:cat=1∧0<own.length
     ·first
       |(exfalso;omega)
       |(have l0':(0:Int)<own.length:=by omega
         obtain rfl:q=false:=hq.symm.trans (dF hlt (by rw[rJ,show decide (cat=1)=true from decide_eq_true l0.1,show decide (own.length=0)=false from decide_eq_false (by omega)];simp))
         go_wp2_with (go_at_call 150;refine bF hown2 ?_;intro w9 h9;clear bC kT;have bC:=(h9.ae p1).cells;have kT:=(h9.ae p2).cells)
         go_ret
         exact⟨rfl,h9.s⟩)
     have l1:(!decide (cat=1)||decide (own.length=0))=true:=by
      by_cases e:cat=1
      ·rw[show decide (own.length=0)=true from decide_eq_true (by omega)];simp
      ·simp[e]
     have l2:cat=1→¬((0:Int)<own.length):=fun e=>by omega
     have Qz:f k=rest:=by rw[rJ,l1];simp[p1'',p2'']
     clear rJ l1
     have l3:(cat != 1)=true∨¬((0:Int)<own.length):=by
      by_cases e:cat=1
      ·exact .inr (l2 e)
      ·left;simpa using e
     have n5:(k:Int)≤ry:=by omega
     go_upto_region 7 with(go_at_call 150;refine bF hown2 ?_;intro w9 h9;clear bC kT;have bC:=(h9.ae p1).cells;have kT:=(h9.ae p2).cells;try(have l4:=l2 Lp))
     have hA:=h9.pr [1,1,0]
     clear h9 bC kT h6 hown2
     go_loopw [6,58] (fun _ c wr=>∃j:Nat,j≤k∧c= .int .i64 j∧mX j g=true∧In w0 wr (pts y (Ic cat aI (.slice XY own.length Hw))::pts z (dO T vt vr vs vc va (.slice (some ⟨g0,o0,none⟩) T.bf.length ry) vm)::bJ B::l))
      (fun _ c _=>k-(intOf c).toNat)
     case atStart=>exact⟨0,Nat.zero_le _,rfl,rfl,hA⟩
     case round=>
      obtain⟨j,hj,rfl,aaM,hw2⟩:=hrel
      clear hA
      by_cases hlt2:j<k
      ·have hjr:=List.getElem?_eq_getElem (l:=T.bf) (i:=j) (by omega)
       generalize T.bf[j]'(by omega)=jr at hjr
       obtain⟨hown3,g3,o3,cap3,e3,XZ⟩:=hus hjr
       cases e3
       obtain⟨H7,vI,eo3⟩:=hown3.form
       rw[eo3]at XZ
       have hf0:=XZ (hw2.ae p2) 0 _ rfl (by decide)
       have hf1:=XZ (hw2.ae p2) 1 _ rfl (by decide)
       have hf2:=XZ (hw2.ae p2) 2 _ rfl (by decide)
       rw[Nat.add_zero]at hf0
       clear XZ eo3 hown3
       have n6:(j:Int)<k:=by omega
       rcases jr with⟨yc,yp,yown⟩
       simp only at hf0 hf1 hf2
       have hgj:g j=kG.beside ⟨cat,aI,own⟩ ⟨yc,yp,yown⟩:=by rw[←hg];simp only[hjr]
       unfold kG.beside at hgj
       simp only at hgj
       have h7:=hw2.alloc (Ic yc yp (.slice H7 yown.length vI))
       go_upto_region 9 with(fail)
       refine In.abs h7 ?_
       clear h7 hw2 hf0 hf1 hf2
       generalize wr.heap.size=y2
       intro w7 h7
       have bC:=h7.cells
       have kT:=(h7.ae p1).cells
       by_cases e0:aI=yp
       ·have e0b:(aI==yp)=true:=by simp[e0]
        obtain rfl:rest=false:=hrest.symm.trans (dF hlt2 (by rw[hgj];simp[e0]))
        obtain rfl:q=false:=hq.symm.trans (dF hlt (by rw[Qz]))
        go_wp2_with fail
        go_ret
        exact⟨rfl,h7.drop.drop.drop⟩
       have e0b:(aI==yp)=false:=by simpa using e0
       have hb1:(decide (cat<yc)=true∧cat<yc)∨(decide (cat<yc)=false∧¬cat<yc):=by by_cases e:cat<yc<;>simp[e]
       have hb2:(decide (yp<aI)=true∧yp<aI)∨(decide (yp<aI)=false∧¬yp<aI):=by by_cases e:yp<aI<;>simp[e]
       have hb3:((cat != yc)=true∧decide (cat=yc)=false)∨((cat != yc)=false∧decide (cat=yc)=true):=by by_cases e:cat=yc<;>simp[e]
       rw[Lp]at hb1 hb3 hgj
       by_cases hbad:g j=false
       ·obtain rfl:rest=false:=hrest.symm.trans (dF hlt2 hbad)
        obtain rfl:q=false:=hq.symm.trans (dF hlt (by rw[Qz]))
        rw[hgj]at hbad
        rcases hb1 with⟨d1,f1⟩|⟨d1,f1⟩<;>rcases hb2 with⟨d2,f2⟩|⟨d2,f2⟩<;>rcases hb3 with⟨d3,f3⟩|⟨d3,f3⟩
        all_goals first
         |(exfalso;rw[d1,d2,f3]at hbad;simp[e0]at hbad;done)
         |(clear hbad hgj f3
           go_wp2_with fail
           go_ret
           exact⟨rfl,h7.drop.drop.drop⟩)
       ·have hgood:g j=true:=(Bool.not_eq_false _).mp hbad
        have Lr:=hgood
        rw[hgj]at Lr
        rcases hb1 with⟨d1,f1⟩|⟨d1,f1⟩<;>rcases hb2 with⟨d2,f2⟩|⟨d2,f2⟩<;>rcases hb3 with⟨d3,f3⟩|⟨d3,f3⟩
        all_goals first
         |(exfalso;rw[d1,d2,f3]at Lr;simp[e0]at Lr;done)
         |(clear hbad hgj Lr f3
           go_wp2_with fail
           go_roundw
           case rel=>exact⟨j+1,hlt2,by go_num,lC aaM hgood,h7.drop⟩
           case measure=>simp[intOf]<;>omega)
      ·have hje:j=k:=by omega
       subst hje
       obtain rfl:rest=true:=hrest.symm.trans aaM
       have hnn:¬(j:Int)<j:=by omega
       go_wp2_with fail
       go_roundw
       case rel=>exact⟨j+1,hlt,by go_num,lC hall Qz,hw2.drop⟩
       case measure=>simp[intOf]<;>omega
  ·have hke:k=T.bf.length:=by omega
   subst hke
   obtain rfl:q=true:=hq.symm.trans hall
   go_wp2_with fail
   go_ret
   exact⟨rfl,hw.drop⟩
end
end Go.Proofs.YtajgpcnlehinbaaGreat
