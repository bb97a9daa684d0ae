/- Part of a proof. -/
import Derived.Test.YtajgpcnlehinbaaGreatA23
namespace Go.Proofs.YtajgpcnlehinbaaGreat
open Tryz Go.RowKit
set_option maxRecDepth 100000
set_option maxHeartbeats 60000000
set_option linter.all false
section
variable {w0 w:World} {l:List SL} {X:SL} {g o cap:Nat} {bs:List Nat}
def Fz (c:Int):Int:=bits .xor .u16 (IntKind.u16.wrap (c*2)) (IntKind.u16.wrap (4129*(c/32768)))
def Dk:Nat→Int→Int
 |0,c=>c
 |n+1,c=>Fz (Dk n c)
def pI (c:Int) (x:Nat):Int:=Dk 8 (bits .xor .u16 c ((x:Int)*256))
def zt (bs:List Nat):Int:=bs.foldl pI 65535
theorem Xi (h:In w0 w (X::l)) (hbs:∀x∈bs,x<256) (hn:bs.length≤1000000)
 (hrd:∀ {w':World} {l':List SL},In w0 w' (X::l')→∀j c,(bytesV bs)[j]? =some c→w'.cell? ⟨g,o+j,none⟩=some c):
 Calls prog 75 #[.slice (some ⟨w.heap.size,0,none⟩) 1 1] (w.alloc (.cells #[.slice (some ⟨g,o,none⟩) bs.length cap] 95)) fun e w'=>e= .returned (.int .u16 (zt bs))∧In w0 w' (X::l):=by
 have h1:=h.alloc (.cells #[.slice (some ⟨g,o,none⟩) bs.length cap] 95)
 generalize w.heap.size=z at*
 generalize w.alloc _=wz at*
 generalize hq:zt bs=q
 go_enter func75,ntmps75
 go_upto_region 3 with(fail)
 go_loopw [3,5,7,8,11,17,26] (fun c _ _ _ i _ _ wr=>((c= .int .u16 65535∧i= .int .i64 (0:Nat))∨(c= .int .u16 q∧i= .int .i64 (1:Nat)))∧In w0 wr (pts z (.cells #[.slice (some ⟨g,o,none⟩) bs.length cap] 95)::X::l))
  (fun _ _ _ _ i _ _ _=>1-(intOf i).toNat)
 case atStart=>exact⟨.inl ⟨rfl,rfl⟩,h1⟩
 case round=>
  obtain⟨⟨rfl,rfl⟩|⟨rfl,rfl⟩,hw⟩:=hrel
  ·have bC:=hw.cells
   go_upto_region 6 with(fail)
   clear bC
   go_loopw [3,7,8,17,26] (fun c _ _ i _ wr=>∃k:Nat,k≤bs.length∧i= .int .i64 k∧c= .int .u16 ((bs.take k).foldl pI 65535)∧In w0 wr (pts z (.cells #[.slice (some ⟨g,o,none⟩) bs.length cap] 95)::X::l))
    (fun _ _ _ i _ _=>bs.length-(intOf i).toNat)
   case atStart=>exact⟨0,Nat.zero_le _,rfl,rfl,hw⟩
   case round=>
    obtain⟨k,hk,rfl,rfl,hw2⟩:=hrel
    by_cases hlt:k<bs.length
    ·have hx:=hbs _ (List.getElem_mem hlt)
     have hst:(bs.take (k+1)).foldl pI 65535=pI ((bs.take k).foldl pI 65535) bs[k]:=by rw[List.take_succ_eq_append_getElem hlt,List.foldl_append];rfl
     have hck:=hrd (hw2.ae p1) k (.int .u8 (bs[k]:Nat)) (by simp[bytesV,hlt])
     generalize (bs.take k).foldl pI 65535=c0 at*
     generalize bs[k]=x at*
     have n1:(k:Int)<bs.length:=by omega
     go_upto_region 10 with(fail)
     go_loopw [3,8,26] (fun c _ i wr=>∃n:Nat,n≤8∧i= .int .i64 n∧c= .int .u16 (Dk n (bits .xor .u16 c0 ((x:Int)*256)))∧In w0 wr (pts z (.cells #[.slice (some ⟨g,o,none⟩) bs.length cap] 95)::X::l))
      (fun _ _ i _=>8-(intOf i).toNat)
     case atStart=>exact⟨0,Nat.zero_le _,rfl,rfl,hw2⟩
     case round=>
      obtain⟨n,hn8,rfl,rfl,hw3⟩:=hrel
      generalize hcc:Dk n (bits .xor .u16 c0 ((x:Int)*256))=cc at*
      have hcn:Dk (n+1) (bits .xor .u16 c0 ((x:Int)*256))=Fz cc:=by rw[←hcc];rfl
      by_cases aeH:n<8
      ·have n2:(n:Int)<8:=by omega
       clear hcc
       go_wp2_with fail
       go_roundw
       case rel=>exact⟨n+1,aeH,by go_num,by rw[hcn];rfl,hw3⟩
       case measure=>simp[intOf]<;>omega
      ·have hne:n=8:=by omega
       subst hne
       have adl:pI c0 x=cc:=hcc
       rw[adl]at hst
       clear hcc adl hcn
       go_wp2_with fail
       go_roundw
       case rel=>exact⟨k+1,hlt,by go_num,by rw[hst],hw3⟩
       case measure=>simp[intOf]<;>omega
    ·have hke:k=bs.length:=by omega
     subst hke
     rw[List.take_length]
     have hqq:bs.foldl pI 65535=q:=hq
     rw[hqq]
     go_wp2_with fail
     go_roundw
     case rel=>exact⟨.inr ⟨rfl,rfl⟩,hw2⟩
     case measure=>simp[intOf]
  ·go_wp2_with fail
   go_ret
   exact⟨rfl,hw.drop⟩
end
section
variable {w0 w:World} {l:List SL} {r:Nat} {T:ah} {B:List (Nat × Obj)} {x:jM} {v:Value}
theorem wQ (ht:rF B v T x):∃at' ct ar cr as' cs ac cc aa ca ai ci am cm,x.vt= .slice at' T.ay.length ct∧x.vr= .slice ar T.rings.length cr∧x.vs= .slice as' T.bP.length cs∧x.vc= .slice ac T.bi.length cc∧x.va= .slice aa T.ag.length ca∧x.vi= .slice ai T.bf.length ci∧x.vm= .slice am T.cZ.length cm:=by
 obtain⟨tl,t1,t2,t3⟩:=ht.ay
 obtain⟨il,i1,i2,i3⟩:=ht.bf
 obtain⟨a1,c1,e1⟩:=t2.form
 obtain⟨a2,c2,e2⟩:=ht.rings.form
 obtain⟨a3,c3,e3⟩:=ht.bP.form
 obtain⟨a4,c4,e4⟩:=ht.bi.form
 obtain⟨a5,c5,e5⟩:=ht.ag.form
 obtain⟨a6,c6,e6⟩:=i2.form
 obtain⟨a7,c7,e7⟩:=ht.cZ.form
 exact⟨_,_,_,_,_,_,_,_,_,_,_,_,_,_,e1,e2,e3,e4,e5,e6,e7⟩
def fQ (T:ah):List Nat:=[T.ay.length,T.rings.length,T.bP.length,T.bi.length,T.ag.length,T.bf.length,T.cZ.length]
theorem Tq (h:In w0 w l) (ht:rF B v T x):
 Calls prog 73 #[v] w fun e w'=>∃g,e= .returned (.slice (some ⟨g,0,none⟩) 7 7)∧In w0 w' (Row 3 1 (.slice (some ⟨g,0,none⟩) 7 7) 7 (uh (fQ T))::l):=by
 obtain⟨a1,c1,a2,c2,a3,c3,a4,c4,a5,c5,a6,c6,a7,c7,e1,e2,e3,e4,e5,e6,e7⟩:=wQ ht
 obtain rfl:=kY ht
 rcases x with⟨vt,vr,vs,vc,va,vi,vm,q1,q2,q3,q4,q5⟩
 simp only at e1 e2 e3 e4 e5 e6 e7
 subst e1 e2 e3 e4 e5 e6 e7
 have h1:=h.alloc (dO T (.slice a1 T.ay.length c1) (.slice a2 T.rings.length c2) (.slice a3 T.bP.length c3) (.slice a4 T.bi.length c4) (.slice a5 T.ag.length c5) (.slice a6 T.bf.length c6) (.slice a7 T.cZ.length c7))
 go_enter func73,ntmps73
 go_upto_region 1 with(fail)
 refine In.abs h1 ?_
 clear h1 h
 generalize w.heap.size=z
 intro w2 h2
 have bC:=h2.cells
 have h3:=h2.alloc (.cells (uh (fQ T)).toArray 3)
 have h4:=In.nJ (E:=3) (size:=1) (n:=7) (cap:=7) (cs:=uh (fQ T)) (ext:= []) (by rw[List.append_nil];exact h3) rfl (Nat.le_refl _) (by decide) rfl (by intro u hu;obtain⟨x,_,rfl⟩:=List.mem_map.1 hu;rfl)
 go_wp2_with fail
 go_ret
 exact⟨_,rfl,h4.s⟩
end
section
variable {w0 w:World} {l:List SL} {r:Nat} {T:ah} {s:az} {B:List (Nat × Obj)} {x:jM} {lv wt:Int}
theorem ah.Fine.rings (hF:T.Fine):T.rings.length≤64:=by
 have h1:=hF.ok.rs
 have:∀n,(iP T.ay n).length≤n:=by
  intro n
  induction n with
  |zero=>simp[iP]
  |succ n ih=>rw[iP,List.length_append];split<;>simp<;>omega
 rw[h1]
 exact this 64
theorem JJ {B:List (Nat × Obj)} {pl:List (dn × Value)} (h:∀p∈pl,dQ B p.2 p.1.own.length (ints p.1.own)):∀p∈pl,∀u∈dM p,u.oneCell'=true:=by
 intro p hp u hu
 obtain⟨ao,cap,e⟩:=(h p hp).form
 simp only[dM,List.mem_cons,List.not_mem_nil,or_false]at hu
 rcases hu with rfl|rfl|rfl|rfl|rfl|rfl|rfl|rfl<;>first|rfl|(rw[e];rfl)
theorem LK {B:List (Nat × Obj)} {pl:List (kG × Value)} (h:∀p∈pl,dQ B p.2 p.1.own.length (ints p.1.own)):∀p∈pl,∀u∈iy p,u.oneCell'=true:=by
 intro p hp u hu
 obtain⟨ao,cap,e⟩:=(h p hp).form
 simp only[iy,List.mem_cons,List.not_mem_nil,or_false]at hu
 rcases hu with rfl|rfl|rfl<;>first|rfl|(rw[e];rfl)
theorem In.Jl {E:TypeId} {α:Type} {slot:α→List Value} {size n g cap i j:Nat} {xs:List α} {x y:α} {u:Value} (hsz:∀x,(slot x).length=size) (h:In w0 w (Row E size (.slice (some ⟨g,0,none⟩) n cap) n (xs.map slot).flatten::l)) (hn:xs.length=n) (hx:xs[i]? =some x) (hj:j<size) (hy:(slot x).set j u=slot y) (hu:u.oneCell'=true):
 In w0 (w.setCell ⟨g,i*size+j,none⟩ u) (Row E size (.slice (some ⟨g,0,none⟩) n cap) n ((xs.set i y).map slot).flatten::l):=by
 have hi:=(List.getElem?_eq_some_iff.1 hx).1
 have h1:=h.qU (off:=i*size+j) (u:=u) (by
  rw[nU hsz]
  have:(i+1)*size≤xs.length*size:=Nat.mul_le_mul_right _ (by omega)
  rw[Nat.add_mul]at this
  omega) hu
 have h2:=rW (dL hsz xs) (i:=i) (x:=slot x) (by simp[hx]) j u hj
 rw[h2,hy]at h1
 rw[List.map_set]
 exact h1
theorem Vq {v:Value} (h:In w0 w (bJ B::l)) (ht:xu B v T x.vt x.vr x.vs x.vc x.va x.vi x.vm) (hF:T.Fine):
 Calls prog 182 #[v] w fun e w'=>∃C y,B ⊆ C∧e= .returned (.agg (uB T y).toArray)∧xu C (.agg (uB T y).toArray) T y.vt y.vr y.vs y.vc y.va y.vi y.vm∧In w0 w' (bJ C::l):=by
 rcases x with⟨vt,vr,vs,vc,va,vi,vm,q1,q2,q3,q4,q5⟩
 simp only at ht
 obtain⟨tl,t1,t2,t3⟩:=ht.ay
 obtain⟨il,i1,i2,i3⟩:=ht.bf
 obtain⟨Fa,uH,rfl⟩:=t2.form
 obtain⟨Dv,qG,rfl⟩:=ht.rings.form
 obtain⟨BK,caps,rfl⟩:=ht.bP.form
 obtain⟨Az,oD,rfl⟩:=ht.bi.form
 obtain⟨yP,lN,rfl⟩:=ht.ag.form
 obtain⟨EN,ry,rfl⟩:=i2.form
 obtain⟨Hu,zS,rfl⟩:=ht.cZ.form
 have hval:=ht.val
 subst hval
 have htl:tl.length=T.ay.length:=by rw[←t1,List.length_map]
 have hil:il.length=T.bf.length:=by rw[←i1,List.length_map]
 have h256:=hF.ok.n2
 have h32:=hF.CJ
 have h1:=h.alloc2 (dO T (.slice Fa T.ay.length uH) (.slice Dv T.rings.length qG) (.slice BK T.bP.length caps) (.slice Az T.bi.length oD) (.slice yP T.ag.length lN) (.slice EN T.bf.length ry) (.slice Hu T.cZ.length zS)) (RY 0 0 0 0 0 0)
 go_enter func182,ntmps182
 go_upto_region 1 with(fail)
 refine In.abs h1 ?_
 clear h1 h
 generalize w.heap.size=z
 intro w2 h2
 have hz:=(h2.ae p1).cells
 go_wp2_with (with_reducible apply bH)
 unfold Stop
 refine fO WA (h2.ae p2) t2 (by rw[nU (slot:=dM) (size:=8) (fun _=>rfl),htl]) (qN (JJ t3)) (by rfl) (by rfl) (by omega) ?_
 intro u3 w3 h3
 obtain⟨X3,cap3,rfl⟩:=h3.aG
 clear h2 hz
 go_upto_region 3 with(fail)
 have hsmall:∀k∈T.ay,k.own.length≤65:=fun k hk=>Nat.le_trans (ah.oH (hF.ay k hk).own) hF.bP
 have hbr:T.rings.length≤64:=ah.Fine.rings hF
 have aai:∀k∈T.bf,k.own.length≤65:=fun k hk=>Nat.le_trans (ah.oH (hF.bf k hk).own) hF.bP
 go_loopw [4,12] (fun _ c wr=>∃(k:Nat) (C:List (Nat × Obj)) (pl:List (dn × Value)),k≤T.ay.length∧c= .int .i64 k∧B ⊆ C∧pl.map (·.1)=T.ay∧(∀p∈pl,dQ C p.2 p.1.own.length (ints p.1.own))∧
  In w0 wr (Row 52 8 (.slice X3 T.ay.length cap3) T.ay.length (pl.map dM).flatten::bJ C::pts (z+1) (RY 0 0 0 0 0 0)::pts z (dO T (.slice Fa T.ay.length uH) (.slice Dv T.rings.length qG) (.slice BK T.bP.length caps) (.slice Az T.bi.length oD) (.slice yP T.ag.length lN) (.slice EN T.bf.length ry) (.slice Hu T.cZ.length zS))::l))
  (fun _ c _=>T.ay.length-(intOf c).toNat)
 case atStart=>exact⟨0,B,tl,Nat.zero_le _,rfl,fun _ h=>h,t1,t3,h3⟩
 case round=>
  obtain⟨k,C,pl,hk,rfl,IE,hmap,hlo,hw⟩:=hrel
  clear h3
  have aaj:pl.length=T.ay.length:=by rw[←List.length_map (f:=(·.1)),hmap]
  by_cases hlt:k<T.ay.length
  ·have hp:=List.getElem?_eq_getElem (l:=pl) (i:=k) (by omega)
   have hpm:=List.getElem_mem (l:=pl) (n:=k) (by omega)
   generalize pl[k]'(by omega)=p at hp hpm
   have hown:=hlo p hpm
   have hle:=hsmall p.1 (by rw[←hmap];exact List.mem_map.2 ⟨p,hpm,rfl⟩)
   rcases hw.aU with⟨_,e,_⟩|⟨g,cap',ext,e,_⟩
   ·omega
   cases e
   have hc6:=hw.bT (dL (slot:=dM) (size:=8) (fun _=>rfl) pl) (i:=k) (x:=dM p) (by simp[hp]) 6 (u:=p.2) rfl
   rcases p with⟨x,u⟩
   obtain⟨Dz,rH,eu⟩:=hown.form
   simp only at eu hown hle hc6
   subst eu
   have n1:(k:Int)<T.ay.length:=by omega
   have hfz:=hw.fH (off:=k*8+6)
   go_wp2_with (with_reducible apply bH)
   unfold Stop
   refine fO Es (hw.ae p1) hown (by simp[ints]) (GG _) (by rfl) (by rfl) (by omega) ?_
   intro u7 w7 h7
   obtain⟨Lm,yA,rfl⟩:=h7.aG
   have hc6':=(h7.ae p2).bT (dL (slot:=dM) (size:=8) (fun _=>rfl) pl) (i:=k) (x:=dM (x,.slice Dz x.own.length rH)) (by simp[hp]) 6 (u:= .slice Dz x.own.length rH) rfl
   have hfz':=(h7.ae p2).fH (off:=k*8+6)
   go_wp2_with fail
   have h8:=(h7.ae p2).Jl (slot:=dM) (size:=8) (fun _=>rfl) aaj hp (j:=6) (y:=(x,.slice Lm x.own.length yA)) (u:= .slice Lm x.own.length yA) (by decide) rfl rfl
   obtain⟨C2,Lt,hro,h9⟩:=(h8.ae p1 |>.ae p2 |>.ae p1).dY
   go_roundw
   case rel=>
    refine⟨k+1,C2,pl.set k (x,.slice Lm x.own.length yA),hlt,by go_num,fun a ha=>Lt (IE ha),?_,?_,h9.s⟩
    ·rw[List.map_set]
     have:(pl.map (·.1)).set k x=pl.map (·.1):=by
      apply List.ext_getElem?
      intro i
      by_cases hi:i=k
      ·subst hi;rw[List.getElem?_set_self (by rw[List.length_map];omega),List.getElem?_map,hp];rfl
      ·rw[List.getElem?_set_ne (by omega)]
     rw[this,hmap]
    ·intro q hq
     rcases List.mem_or_eq_of_mem_set hq with hq|rfl
     ·exact(hlo q hq).mono Lt
     ·exact hro
   case measure=>simp[intOf]<;>omega
  ·have hke:k=T.ay.length:=by omega
   subst hke
   obtain⟨C1,RD,hR1,h10⟩:=hw.dY
   have hz:=(h10.ae p2).cells
   go_wp2_with (with_reducible apply bH)
   unfold Stop
   refine fO aaB h10 (i2.mono (fun a ha=>RD (IE ha))) (by rw[nU (slot:=iy) (size:=3) (fun _=>rfl),hil]) (qN (LK i3)) (by rfl) (by rfl) (by omega) ?_
   intro u12 w12 h12
   obtain⟨UG,cap5,rfl⟩:=h12.aG
   have hlo1:=hlo
   have afg:=aaj
   have hmap1:=hmap
   have Uy:=IE
   clear h10 hz hw
   go_upto_region 9 with(fail)
   go_loopw [6,31] (fun _ c wr=>∃(k:Nat) (C:List (Nat × Obj)) (pl:List (kG × Value)),k≤T.bf.length∧c= .int .i64 k∧C1 ⊆ C∧pl.map (·.1)=T.bf∧(∀p∈pl,dQ C p.2 p.1.own.length (ints p.1.own))∧
    In w0 wr (Row 123 3 (.slice UG T.bf.length cap5) T.bf.length (pl.map iy).flatten::bJ C::pts (z+1) (RY 0 0 0 0 0 0)::pts z (dO T (.slice Fa T.ay.length uH) (.slice Dv T.rings.length qG) (.slice BK T.bP.length caps) (.slice Az T.bi.length oD) (.slice yP T.ag.length lN) (.slice EN T.bf.length ry) (.slice Hu T.cZ.length zS))::l))
    (fun _ c _=>T.bf.length-(intOf c).toNat)
   case atStart=>exact⟨0,C1,il,Nat.zero_le _,rfl,fun _ h=>h,i1,(fun p hp=>(i3 p hp).mono (fun a ha=>RD (IE ha))),h12⟩
   case round=>
    obtain⟨k,C,pl,hk,rfl,IE,hmap,hlo,hw⟩:=hrel
    clear h12
    have aaj:pl.length=T.bf.length:=by rw[←List.length_map (f:=(·.1)),hmap]
    by_cases hlt:k<T.bf.length
    ·have hp:=List.getElem?_eq_getElem (l:=pl) (i:=k) (by omega)
     have hpm:=List.getElem_mem (l:=pl) (n:=k) (by omega)
     generalize pl[k]'(by omega)=p at hp hpm
     have hown:=hlo p hpm
     have hle:=aai p.1 (by rw[←hmap];exact List.mem_map.2 ⟨p,hpm,rfl⟩)
     rcases hw.aU with⟨_,e,_⟩|⟨g,cap',ext,e,_⟩
     ·omega
     cases e
     have hc6:=hw.bT (dL (slot:=iy) (size:=3) (fun _=>rfl) pl) (i:=k) (x:=iy p) (by simp[hp]) 2 (u:=p.2) rfl
     rcases p with⟨x,u⟩
     obtain⟨Dz,rH,eu⟩:=hown.form
     simp only at eu hown hle hc6
     subst eu
     have n1:(k:Int)<T.bf.length:=by omega
     have hfz:=hw.fH (off:=k*3+2)
     go_wp2_with (with_reducible apply bH)
     unfold Stop
     refine fO Es (hw.ae p1) hown (by simp[ints]) (GG _) (by rfl) (by rfl) (by omega) ?_
     intro u7 w7 h7
     obtain⟨Lm,yA,rfl⟩:=h7.aG
     have hc6':=(h7.ae p2).bT (dL (slot:=iy) (size:=3) (fun _=>rfl) pl) (i:=k) (x:=iy (x,.slice Dz x.own.length rH)) (by simp[hp]) 2 (u:= .slice Dz x.own.length rH) rfl
     have hfz':=(h7.ae p2).fH (off:=k*3+2)
     go_wp2_with fail
     have h8:=(h7.ae p2).Jl (slot:=iy) (size:=3) (fun _=>rfl) aaj hp (j:=2) (y:=(x,.slice Lm x.own.length yA)) (u:= .slice Lm x.own.length yA) (by decide) rfl rfl
     obtain⟨C2,Lt,hro,h9⟩:=(h8.ae p1 |>.ae p2 |>.ae p1).dY
     go_roundw
     case rel=>
      refine⟨k+1,C2,pl.set k (x,.slice Lm x.own.length yA),hlt,by go_num,fun a ha=>Lt (IE ha),?_,?_,h9.s⟩
      ·rw[List.map_set]
       have:(pl.map (·.1)).set k x=pl.map (·.1):=by
        apply List.ext_getElem?
        intro i
        by_cases hi:i=k
        ·subst hi;rw[List.getElem?_set_self (by rw[List.length_map];omega),List.getElem?_map,hp];rfl
        ·rw[List.getElem?_set_ne (by omega)]
       rw[this,hmap]
      ·intro q hq
       rcases List.mem_or_eq_of_mem_set hq with hq|rfl
       ·exact(hlo q hq).mono Lt
       ·exact hro
     case measure=>simp[intOf]<;>omega
    ·have hke:k=T.bf.length:=by omega
     subst hke
     obtain⟨C2,hC2,hR2,h13⟩:=hw.dY
     have fc_:=h13.facts
     go_upto_region 14 with(fail)
     have lM:In w0 _ (pts z (dO T (.slice X3 T.ay.length cap3) (.slice Dv T.rings.length qG) (.slice BK T.bP.length caps) (.slice Az T.bi.length oD) (.slice yP T.ag.length lN) (.slice UG T.bf.length cap5) (.slice Hu T.cZ.length zS))::_):=((h13.ae p2).setCell (off:=2) (.slice X3 T.ay.length cap3)).setCell (off:=7) (.slice UG T.bf.length cap5)
     refine In.abs lM ?_
     clear lM h13 hw
     intro w14 lM
     have adm:=lM.cells
     have afS:=hbr
     go_wp2_with (with_reducible apply bH)
     unfold Stop
     refine fO O9 (lM.ae p1) (ht.rings.mono (fun a ha=>hC2 (IE (RD (Uy ha))))) (by rw[nU (slot:=iR) (size:=2) (fun _=>rfl)]) (qN (fun x _=>by simp[iR,mG,Value.oneCell'])) (by rfl) (by rfl) (by omega) ?_
     intro u15 w15 h15
     obtain⟨Dv,qG,rfl⟩:=h15.aG
     have adm:=(h15.ae p2).cells
     have aeI:=(h15.ae p2).free
     go_upto_region 15 with(fail)
     have h16:In w0 _ (pts z (dO T (.slice X3 T.ay.length cap3) (.slice Dv T.rings.length qG) (.slice BK T.bP.length caps) (.slice Az T.bi.length oD) (.slice yP T.ag.length lN) (.slice UG T.bf.length cap5) (.slice Hu T.cZ.length zS))::_):=(h15.ae p2).setCell (off:=3) (.slice Dv T.rings.length qG)
     refine In.abs h16 ?_
     clear h16 h15 adm aeI lM
     intro w16 h16
     have adn:=h16.cells
     have afT:=hF.bP
     go_wp2_with (with_reducible apply bH)
     unfold Stop
     refine fO aaD (h16.ae p2) (ht.bP.mono (fun a ha=>hC2 (IE (RD (Uy ha))))) (by rw[nU (slot:=kw) (size:=2) (fun _=>rfl)]) (qN (fun x _=>by simp[kw,mG,Value.oneCell'])) (by rfl) (by rfl) (by omega) ?_
     intro u17 w17 h17
     obtain⟨BK,caps,rfl⟩:=h17.aG
     have adn:=(h17.ae p2).cells
     have aeJ:=(h17.ae p2).free
     go_upto_region 16 with(fail)
     have h18:In w0 _ (pts z (dO T (.slice X3 T.ay.length cap3) (.slice Dv T.rings.length qG) (.slice BK T.bP.length caps) (.slice Az T.bi.length oD) (.slice yP T.ag.length lN) (.slice UG T.bf.length cap5) (.slice Hu T.cZ.length zS))::_):=(h17.ae p2).setCell (off:=4) (.slice BK T.bP.length caps)
     refine In.abs h18 ?_
     clear h18 h17 adn aeJ h16
     intro w18 h18
     have ado:=h18.cells
     have afU:=hF.Ja
     go_wp2_with (with_reducible apply bH)
     unfold Stop
     refine fO WI (h18.ae p2) (ht.bi.mono (fun a ha=>hC2 (IE (RD (Uy ha))))) (by rw[nU (slot:=iU) (size:=3) (fun _=>rfl)]) (qN (fun x _=>by simp[iU,mG,Value.oneCell'])) (by rfl) (by rfl) (by omega) ?_
     intro u19 w19 h19
     obtain⟨Az,oD,rfl⟩:=h19.aG
     have ado:=(h19.ae p2).cells
     have aeK:=(h19.ae p2).free
     go_upto_region 17 with(fail)
     have h20:In w0 _ (pts z (dO T (.slice X3 T.ay.length cap3) (.slice Dv T.rings.length qG) (.slice BK T.bP.length caps) (.slice Az T.bi.length oD) (.slice yP T.ag.length lN) (.slice UG T.bf.length cap5) (.slice Hu T.cZ.length zS))::_):=(h19.ae p2).setCell (off:=5) (.slice Az T.bi.length oD)
     refine In.abs h20 ?_
     clear h20 h19 ado aeK h18
     intro w20 h20
     have adp:=h20.cells
     have afV:=hF.mF
     go_wp2_with (with_reducible apply bH)
     unfold Stop
     refine fO KG (h20.ae p2) (ht.ag.mono (fun a ha=>hC2 (IE (RD (Uy ha))))) (by rw[nU (slot:=dR) (size:=7) (fun _=>rfl)]) (qN (fun x _=>by simp[dR,mG,Value.oneCell'])) (by rfl) (by rfl) (by omega) ?_
     intro u21 w21 h21
     obtain⟨yP,lN,rfl⟩:=h21.aG
     have adp:=(h21.ae p2).cells
     have aeL:=(h21.ae p2).free
     go_upto_region 18 with(fail)
     have h22:In w0 _ (pts z (dO T (.slice X3 T.ay.length cap3) (.slice Dv T.rings.length qG) (.slice BK T.bP.length caps) (.slice Az T.bi.length oD) (.slice yP T.ag.length lN) (.slice UG T.bf.length cap5) (.slice Hu T.cZ.length zS))::_):=(h21.ae p2).setCell (off:=6) (.slice yP T.ag.length lN)
     refine In.abs h22 ?_
     clear h22 h21 adp aeL h20
     intro w22 h22
     have adq:=h22.cells
     have afW:=hF.Gt
     go_wp2_with (with_reducible apply bH)
     unfold Stop
     refine fO aaw (h22.ae p2) (ht.cZ.mono (fun a ha=>hC2 (IE (RD (Uy ha))))) (by rw[nU (slot:=mJ) (size:=8) (fun _=>rfl)]) (qN (fun x _=>by simp[mJ,mG,Value.oneCell'])) (by rfl) (by rfl) (by omega) ?_
     intro u23 w23 h23
     obtain⟨H7,vI,rfl⟩:=h23.aG
     have adq:=(h23.ae p2).cells
     have aeM:=(h23.ae p2).free
     go_upto_region 19 with(fail)
     have Uz:In w0 _ (pts z (dO T (.slice X3 T.ay.length cap3) (.slice Dv T.rings.length qG) (.slice BK T.bP.length caps) (.slice Az T.bi.length oD) (.slice yP T.ag.length lN) (.slice UG T.bf.length cap5) (.slice H7 T.cZ.length vI))::_):=(h23.ae p2).setCell (off:=8) (.slice H7 T.cZ.length vI)
     refine In.abs Uz ?_
     clear Uz h23 adq aeM h22
     intro w24 Uz
     have afX:=Uz.cells
     have hy25:=(Uz.ae p7).cells
     have afh:=(Uz.ae p7).free
     have UA:=(Uz.ae p7).fill [.int .i64 T.uses,.int .i64 T.modes,.slice X3 T.ay.length cap3,.slice Dv T.rings.length qG,.slice BK T.bP.length caps,.slice Az T.bi.length oD,.slice yP T.ag.length lN,.slice UG T.bf.length cap5,.slice H7 T.cZ.length vI,.int .i64 T.depth,.int .i64 T.frames,.int .i64 T.errors,.int .i64 T.dU] rfl
     simp only[dm]at UA
     go_wp2_with fail
     have hcc:=UA.cells
     refine bodyPost_ret (v:= .agg #[.int .i64 T.uses,.int .i64 T.modes,.slice X3 T.ay.length cap3,.slice Dv T.rings.length qG,.slice BK T.bP.length caps,.slice Az T.bi.length oD,.slice yP T.ag.length lN,.slice UG T.bf.length cap5,.slice H7 T.cZ.length vI,.int .i64 T.depth,.int .i64 T.frames,.int .i64 T.errors,.int .i64 T.dU]) (by simp[results,results182,go_sem,hcc]) rfl ?_
     obtain⟨D1,s1,r1,k1⟩:=(UA.drop.drop).dY
     obtain⟨D2,s2,r2,k2⟩:=(k1.ae p1 |>.ae p1 |>.ae p1).dY
     obtain⟨D3,s3,r3,k3⟩:=(k2.ae p1 |>.ae p1 |>.ae p1).dY
     obtain⟨D4,s4,r4,k4⟩:=(k3.ae p1 |>.ae p1 |>.ae p1).dY
     obtain⟨D5,s5,r5,k5⟩:=(k4.ae p1 |>.ae p1 |>.ae p1).dY
     have m:C2 ⊆ D5:=fun a ha=>s5 (s4 (s3 (s2 (s1 ha))))
     have m1:C ⊆ D5:=fun a ha=>m (hC2 ha)
     have m2:C1 ⊆ D5:=fun a ha=>m1 (IE ha)
     refine⟨D5,⟨.slice X3 T.ay.length cap3,.slice Dv T.rings.length qG,.slice BK T.bP.length caps,.slice Az T.bi.length oD,.slice yP T.ag.length lN,.slice UG T.bf.length cap5,.slice H7 T.cZ.length vI,0,0,0,0,0⟩,fun a ha=>m2 (RD (Uy ha)),rfl,?_,k5⟩
     exact⟨rfl,⟨_,hmap1,hR1.mono m2,fun p hp=>(hlo1 p hp).mono (fun a ha=>m2 (RD ha))⟩,r5,r4.mono s5,r3.mono (fun a ha=>s5 (s4 ha)),r2.mono (fun a ha=>s5 (s4 (s3 ha))),⟨_,hmap,hR2.mono m,fun p hp=>(hlo p hp).mono m1⟩,r1.mono (fun a ha=>s5 (s4 (s3 (s2 ha))))⟩
end
section
variable {w0 w:World} {l:List SL} {T:ah} {B:List (Nat × Obj)} {x:jM} {v:Value}
theorem checks (ht:rF B v T x) (hT:T.check=true):Gf v B:=by
 intro v0 w l h
 refine(Gz h ht).mono ?_
 rintro e w' ⟨rfl,h'⟩
 exact⟨by rw[hT];rfl,h'⟩
theorem abh (h:In w0 w (bJ B::l)) (ht:rF B v T x) (hT:T.check=true):
 Calls prog 66 #[v] w fun e w'=>∃b,e= .returned (.tuple #[.pointer (some ⟨b,0,none⟩),.int .i64 0])∧In w0 w' (Core b T T.mP::bJ B::l):=by
 have hF:=ah.fine hT
 have hck:Gf v B:=fun h=>checks ht hT h
 have Fb:=ht
 obtain rfl:=kY ht
 have h1:=h.alloc (dO T x.vt x.vr x.vs x.vc x.va x.vi x.vm)
 go_enter func66,ntmps66
 go_upto_region 1 with(fail)
 refine In.abs h1 ?_
 clear h1 h
 generalize w.heap.size=z
 intro w2 h2
 have bC:=h2.cells
 have hcc:=hck (h2.ae p1)
 go_upto_region 3 with(go_at_call 24;refine bF hcc ?_;intro w3 h3;clear bC;have bC:=(h3.ae p1).cells)
 have h4:=h3.alloc (.cells #[.slice none 0 0,.slice none 0 0,.pointer none,.pointer none,.pointer none,.pointer none,.pointer none,.int .i64 0,.int .u32 0,.int .i64 0,.int .i64 0,.slice none 0 0,.slice none 0 0,.slice none 0 0,.slice none 0 0,.slice none 0 0,.slice none 0 0,.slice none 0 0,.int .i64 0,.int .i64 0,.int .i64 0,.int .i64 0] 222)
 go_upto_region 4 with(fail)
 refine In.abs h4 ?_
 clear h4 h3 h2 hcc bC
 generalize w3.heap.size=r
 intro w4 h4
 have bC:=(h4.ae p2).cells
 go_wp2_with (go_at_call 182;refine(Vq (h4.ae p1) Fb hF).mono ?_;rintro _ w5 ⟨C,y,hC,rfl,hty,h5⟩)
 have h6:=h5.pr [1,0,0]
 have acu:=W9 h6 (by rfl) hty hT (fun h=>checks hty hT h)
 go_wp2_with (go_at_call 181;refine bF acu ?_;intro w6 h7)
 go_ret2
 exact⟨r,rfl,((h7.ae p1).Ad hC).s⟩
end
def lU (p:Value × Value):List Value:=[p.1,p.2]
def fV.iJ (t:fV) (k c:Nat):List Nat:=bV (fun a:gq=>decide (a.counter=c)) 0 (t.ag.take k)
theorem Oj (t:fV) (c:Nat):t.iJ t.ag.length c=t.fG c:=by unfold fV.iJ fV.fG;rw[List.take_length]
theorem KD (t:fV) {k:Nat} {a:gq} (ha:t.ag[k]? =some a) (c:Nat):t.iJ (k+1) c=t.iJ k c++(if a.counter=c then[k] else []):=by
 have hk:=(List.getElem?_eq_some_iff.1 ha).1
 unfold fV.iJ
 rw[List.take_add_one,ha]
 simp only[Option.toList_some]
 rw[pG,List.length_take,Nat.min_eq_left (Nat.le_of_lt hk),Nat.zero_add]
 simp
theorem oq {α:Type} (p:α→Bool):∀(l:List α) (k:Nat),(bV p k l).length=(l.filter p).length
 | [],_=>rfl
 |a::l,k=>by
  unfold bV
  rw[List.filter_cons]
  split<;>simp[oq p l (k+1)]
theorem TG (t:fV) {k:Nat} {a:gq} (ha:t.ag[k]? =some a) {m:Nat} (hm:a.counter=m):t.place k=(t.iJ k m).length:=by
 unfold fV.place fV.iJ
 rw[ha,oq]
 simp only[hm]
theorem IY {α:Type} (g:Nat→α) (n i:Nat) (y:α) (hi:i<n):((List.range n).map g).set i y=(List.range n).map (iE g i y):=by
 apply List.ext_getElem?
 intro j
 rw[List.getElem?_set,List.length_map,List.length_range,List.getElem?_map,List.getElem?_map]
 by_cases e:i=j
 ·subst e
  simp[hi,iE]
 ·rw[if_neg e]
  by_cases hj:j<n
  ·rw[List.getElem?_range hj]
   simp only[Option.map_some,iE]
   rw[if_neg (fun h=>e h.symm)]
  ·rw[List.getElem?_eq_none (by simp;omega)]
   rfl
theorem In.MI {w0 w:World} {E:TypeId} {size:Nat}:∀(n:Nat) {l:List SL},In w0 w l→In w0 w (bQ ((List.range n).map fun _=>Row E size (.slice none 0 0) 0 [])::l)
 |0,l,h=>In.Ai.2 h
 |n+1,l,h=>by
  have ih:=In.MI (E:=E) (size:=size) n (h.dh E size)
  rw[List.range_succ,List.map_append]
  have h2:=In.bn.1 ih
  refine In.bn.2 ?_
  rw[List.append_assoc]
  exact h2
theorem In.MZ {w0 w:World} {E:TypeId} {size:Nat} {f:Nat→Value} {n:Nat→Nat} {cs:Nat→List Value}:∀(dom:List Nat) {B:List (Nat × Obj)} {l:List SL},In w0 w (bQ (dom.map fun c=>Row E size (f c) (n c) (cs c))::bJ B::l)→
 ∃C,B ⊆ C∧(∀c∈dom,dQ C (f c) (n c) (cs c))∧In w0 w (bJ C::l)
 | [],B,l,h=>⟨B,List.Subset.refl _,by simp,h.drop⟩
 |c::dom,B,l,h=>by
  have h1:=In.pR.1 h
  have h2:=h1.pr [0,1,0]
  obtain⟨C1,s1,i1,h3⟩:=h2.dY
  obtain⟨C2,s2,i2,h4⟩:=In.MZ dom (h3.s:In w0 w (bQ (dom.map fun c=>Row E size (f c) (n c) (cs c))::bJ C1::l))
  exact⟨C2,List.Subset.trans s1 s2,fun d hd=>by
   rcases List.mem_cons.1 hd with rfl|hd
   ·exact i1.mono s2
   ·exact i2 d hd,h4⟩
theorem BO (pf f:Nat→Value) (n m:Nat) (hm:m<n):(((List.range n).map fun c=>((pf c,f c):Value × Value)).map lU).flatten[m*2]? =some (pf m)∧(((List.range n).map fun c=>((pf c,f c):Value × Value)).map lU).flatten[m*2+1]? =some (f m):=by
 have hs:=dL (slot:=lU) (size:=2) (fun _=>rfl) ((List.range n).map fun c=>((pf c,f c):Value × Value))
 have hx:(((List.range n).map fun c=>((pf c,f c):Value × Value)).map lU)[m]? =some (lU (pf m,f m)):=by simp[hm]
 exact⟨flat_get hs hx 0 (by decide),flat_get hs hx 1 (by decide)⟩
theorem Yr (pf f:Nat→Value) (n m:Nat) (u:Value) (hm:m<n):(((List.range n).map fun c=>((pf c,f c):Value × Value)).map lU).flatten.set (m*2+1) u=(((List.range n).map fun c=>((pf c,iE f m u c):Value × Value)).map lU).flatten:=by
 have hs:=dL (slot:=lU) (size:=2) (fun _=>rfl) ((List.range n).map fun c=>((pf c,f c):Value × Value))
 have hx:(((List.range n).map fun c=>((pf c,f c):Value × Value)).map lU)[m]? =some (lU (pf m,f m)):=by simp[hm]
 rw[rW hs hx 1 u (by decide)]
 have e:(lU (pf m,f m)).set 1 u=lU (pf m,u):=rfl
 rw[e,←List.map_set,IY _ _ _ _ hm]
 congr 2
 apply List.map_congr_left
 intro c _
 unfold iE
 split
 ·rename_i e;rw[e]
 ·rfl
theorem XE (pf f:Nat→Value) (n m:Nat) (u:Value) (hm:m<n):(((List.range n).map fun c=>((pf c,f c):Value × Value)).map lU).flatten.set (m*2) u=(((List.range n).map fun c=>((iE pf m u c,f c):Value × Value)).map lU).flatten:=by
 have hs:=dL (slot:=lU) (size:=2) (fun _=>rfl) ((List.range n).map fun c=>((pf c,f c):Value × Value))
 have hx:(((List.range n).map fun c=>((pf c,f c):Value × Value)).map lU)[m]? =some (lU (pf m,f m)):=by simp[hm]
 have h0:=rW hs hx 0 u (by decide)
 rw[Nat.add_zero]at h0
 rw[h0]
 have e:(lU (pf m,f m)).set 0 u=lU (u,f m):=rfl
 rw[e,←List.map_set,IY _ _ _ _ hm]
 congr 2
 apply List.map_congr_left
 intro c _
 unfold iE
 split
 ·rename_i e;rw[e]
 ·rfl
theorem Q7 (pf f:Nat→Value) (n:Nat):(((List.range n).map fun c=>((pf c,f c):Value × Value)).map lU).flatten.length=n*2:=by
 rw[nU (slot:=lU) (size:=2) (fun _=>rfl)]
 simp
theorem Gh (T:ah) (k:Nat) (h:k<T.bi.length):(aJ.zero T.aV).clocks[k]? =some ⟨T.bi[k].max,T.bi[k].min,0,List.replicate (T.aV.fG k).length .off⟩:=by
 unfold aJ.zero
 have h1:T.aV.bi[k]? =some T.bi[k]:=List.getElem?_eq_getElem h
 simp only
 rw[List.getElem?_map,List.getElem?_range (show k<T.aV.bi.length from h)]
 simp only[Option.map_some,h1]
theorem ZK (T:ah):(aJ.zero T.aV).Ok T.aV:=by
 refine⟨by unfold aJ.zero;simp,by unfold aJ.zero;simp,fun c x hx=>?_⟩
 by_cases hc:c<T.bi.length
 ·rw[Gh T c hc]at hx
  cases hx
  simp
 ·rw[List.getElem?_eq_none (by unfold aJ.zero;simp[ah.aV];omega)]at hx
  cases hx
theorem aec:ig prog 194 236 2 32 (.agg #[.pointer none,.slice none 0 0]):=⟨underlying194,by kernel_rfl,rfl,by decide,by decide⟩
theorem aeh:ig prog 195 303 2 16 (.agg #[.int .i64 0,.int .i64 0]):=⟨underlying195,by kernel_rfl,rfl,by decide,by decide⟩
section
variable {w0 w:World} {l:List SL} {T:ah} {B:List (Nat × Obj)} {x:jM} {v:Value}
theorem aca (h:In w0 w (bJ B::l)) (ht:rF B v T x) (hT:T.check=true) (hok:T.aV.Ok):
 Calls prog 67 #[v] w fun e w'=>∃b,e= .returned (.tuple #[.pointer (some ⟨b,0,none⟩),.int .i64 0])∧In w0 w' (je b T.aV (.zero T.aV)::bJ B::l):=by
 have hF:=ah.fine hT
 have Fb:=ht
 obtain⟨a1,c1,a2,c2,a3,c3,a4,c4,a5,c5,a6,c6,a7,c7,e1,e2,e3,e4,e5,e6,e7⟩:=wQ ht
 obtain rfl:=kY ht
 rcases x with⟨vt,vr,vs,vc,va,vi,vm,q1,q2,q3,q4,q5⟩
 simp only at e1 e2 e3 e4 e5 e6 e7
 subst e1 e2 e3 e4 e5 e6 e7
 have hta:=Fb.ag
 have htc:=Fb.bi
 simp only at hta htc
 have h1:=h.xO.alloc (dO T (.slice a1 T.ay.length c1) (.slice a2 T.rings.length c2) (.slice a3 T.bP.length c3) (.slice a4 T.bi.length c4) (.slice a5 T.ag.length c5) (.slice a6 T.bf.length c6) (.slice a7 T.cZ.length c7))
 go_enter func67,ntmps67
 go_upto_region 1 with(fail)
 refine In.abs h1 ?_
 clear h1 h
 generalize w.heap.size=z
 intro w2 h2
 have bC:=h2.cells
 have hck:=checks Fb hT (h2.ae p1)
 go_upto_region 3 with(go_at_call 24;refine bF hck ?_;intro w3 h3)
 clear hck h2 bC
 have bC:=(h3.ae p1).cells
 have hna:=hF.mF
 have hnc:=hF.Ja
 have hni:=hF.CJ
 have hS0:=(h3.drew).ps [1]
 refine nK hS0 ⟨[2,5],[9]⟩ [.c 0 0,.c 1 1,.c 0 3,.c 2 4,.c 0 6,.c 2 7,.e 2,.e 5,.c 0 8,.e 9,.c 0 10] ?_
 refine nD ?_;intro K hK
 go_wp2_with (go_at_call 183;refine(J8 h3.drew htc (by omega)).mono ?_;rintro _ w4 ⟨vr,rfl,h4⟩;obtain⟨ar,cr,rfl⟩:=h4.aG)
 go_wp2_with fail
 refine df hK ((h4).s) fun hS0=>?_
 refine gz rfl rfl fun K hK=>?_
 have QA:=h4.ae p1
 go_wp2_with (go_at_call 184;refine(G9 QA hta (by omega)).mono ?_;rintro _ w5 ⟨va,rfl,h5⟩;obtain⟨aa,ca,rfl⟩:=h5.aG)
 go_wp2_with fail
 refine df hK ((h5).s) fun hS0=>?_
 refine uw ?_;intro K hK
 go_wp2_with fail
 refine wM ?_
 go_upto_region 4 with(fail)
 obtain⟨D1,s1,i1,h6⟩:=h5.dY
 obtain⟨D,s2,i2,h7⟩:=(h6.ae p1).dY
 have hBD:B ⊆ D:=List.Subset.trans s1 s2
 have hIa:=i1.mono s2
 clear h5 h6 h4 QA h3 bC s1 s2 i1
 have h8:=h7.alloc (Yk (.slice ar T.bi.length cr) (.slice aa T.ag.length ca) (.slice none 0 0) (.slice none 0 0) T.modes (.slice none 0 0) true)
 refine In.abs h8 ?_
 clear h8 h7
 generalize w5.heap.size=b
 intro w6 h8
 have h9:=h8.pr [0,0,0,0]
 clear h8
 have bC:=h9.cells
 have yB:=(h9.ae p2).cells
 go_wp2_with (first|(with_reducible apply wZ))
 unfold Stop
 refine lX aec h9 (c:=T.bi.length) (by rfl) (by omega) (by unfold maxLen;omega) ?_
 intro gc w10 h10
 clear bC yB
 have bC:=(h10.ae p1).cells
 have jb:=(h10.ae p1).free
 have h11:In w0 _ (pts b (Yk (.slice ar T.bi.length cr) (.slice aa T.ag.length ca) (.slice none 0 0) (.slice (some ⟨gc,0,none⟩) T.bi.length T.bi.length) T.modes (.slice none 0 0) true)::_):=(h10.ae p1).setCell (off:=3) (.slice (some ⟨gc,0,none⟩) T.bi.length T.bi.length)
 go_upto_region 5 with(fail)
 refine In.abs h11 ?_
 clear h11 h10 h9 bC jb
 intro w11 h11
 have hz0:zeros (.agg #[.pointer none,.slice none 0 0]) T.bi.length=(((List.range T.bi.length).map fun c=>((Value.pointer none,(fun _=>Value.slice none 0 0:Nat→Value) c):Value × Value)).map lU).flatten:=by
  rw[kP _ _ (by decide)]
  congr 1
  rw[List.map_map]
  exact(List.eq_replicate_iff.2 ⟨by simp,fun x hx=>by obtain⟨c,_,rfl⟩:=List.mem_map.1 hx;rfl⟩).symm
 rw[hz0]at h11
 clear hz0
 have h12:=In.MI (E:=3) (size:=1) T.bi.length (h11.dh 3 1)
 have yB:=(h12.ae p5).cells
 go_upto_region 6 with(fail)
 clear yB
 go_loopw [5,6,7,35] (fun _ _ _ c wr=>∃k:Nat,k≤T.ag.length∧c= .int .i64 k∧∃(f:Nat→Value) (vp:Value),In w0 wr (pts b (Yk (.slice ar T.bi.length cr) (.slice aa T.ag.length ca) vp (.slice (some ⟨gc,0,none⟩) T.bi.length T.bi.length) T.modes (.slice none 0 0) true)::Row 3 1 vp k (nums ((List.range k).map T.aV.place))::Row 236 2 (.slice (some ⟨gc,0,none⟩) T.bi.length T.bi.length) T.bi.length (((List.range T.bi.length).map fun c=>((Value.pointer none,f c):Value × Value)).map lU).flatten::bQ ((List.range T.bi.length).map fun c=>Row 3 1 (f c) (T.aV.iJ k c).length (nums (T.aV.iJ k c)))::bJ D::pts z (dO T (.slice a1 T.ay.length c1) (.slice a2 T.rings.length c2) (.slice a3 T.bP.length c3) (.slice a4 T.bi.length c4) (.slice a5 T.ag.length c5) (.slice a6 T.bf.length c6) (.slice a7 T.cZ.length c7))::bJ B::l))
  (fun _ _ _ c _=>T.ag.length-(intOf c).toNat)
 case atStart=>
  refine⟨0,Nat.zero_le _,rfl,fun _=> .slice none 0 0,.slice none 0 0,?_⟩
  have aeN:=h12.pr [2,1,1,0,0,0,0]
  exact aeN
 case round=>
  obtain⟨k,hk,rfl,f,vp,hw⟩:=hrel
  clear h11 h12
  by_cases hlt:k<T.ag.length
  ·have hka:=List.getElem?_eq_getElem hlt
   have hb:=hok.inr _ (List.getElem_mem (l:=T.aV.ag) hlt)
   have hstep:=fun c=>KD T.aV (k:=k) (a:=T.ag[k]) (List.getElem?_eq_getElem (l:=T.aV.ag) hlt) c
   have X4:=fun m=>TG T.aV (k:=k) (a:=T.ag[k]) (List.getElem?_eq_getElem (l:=T.aV.ag) hlt) (m:=m)
   obtain⟨g0,o0,cap0,e0,hcl⟩:=iw (slot:=dR) (size:=7) (fun _=>rfl) hta hka
   cases e0
   change 0≤T.ag[k].counter∧T.ag[k].counter<T.bi.length at hb
   generalize T.ag[k]=a at*
   rcases a with⟨cn,⟨kd,tk,mk⟩,dX,time,cycle⟩
   simp only at hb X4 hstep
   obtain⟨m,rfl⟩:∃m:Nat,cn=m:=⟨cn.toNat,by omega⟩
   have hm:m<T.bi.length:=by omega
   have hd0:=hcl (hw.ae p6) 0 _ rfl (by decide)
   have hd1:=hcl (hw.ae p6) 1 _ rfl (by decide)
   have hd2:=hcl (hw.ae p6) 2 _ rfl (by decide)
   have hd3:=hcl (hw.ae p6) 3 _ rfl (by decide)
   have hd4:=hcl (hw.ae p6) 4 _ rfl (by decide)
   have hd5:=hcl (hw.ae p6) 5 _ rfl (by decide)
   have hd6:=hcl (hw.ae p6) 6 _ rfl (by decide)
   rw[Nat.add_zero]at hd0
   clear hcl
   simp only[mG]at hd0 hd1 hd2 hd3 hd4 hd5 hd6
   have n1:(k:Int)<T.ag.length:=by omega
   have h13:=hw.alloc (OH (m:Nat) kd tk mk dX time cycle)
   go_upto_region 8 with(fail)
   refine In.abs h13 ?_
   clear h13 hw hd0 hd1 hd2 hd3 hd4 hd5 hd6
   generalize wr.heap.size=y
   intro w13 h13
   obtain⟨av,cv,rfl⟩:=(h13.ae p2).aG
   have acv:=In.xR (o:=m) (h13.ae p4) (List.mem_range.2 hm)
   obtain⟨am,cm,hfm⟩:=acv.aG
   have lM:=acv.pr [4,3,3,0,0,0,0,0,0]
   clear h13 acv
   have kT:=(lM.ae p1).cells
   have Dw:=(lM.ae p5).cells
   have n2:(m:Int)<T.bi.length:=by omega
   have n3:(0:Int)≤(m:Int):=by omega
   refine rg ⟨[], []⟩ [.c 0 0,.c 0 1,.c 0 2,.c 1 3,.c 0 4,.c 1 5,.c 0 6,.c 0 7] ?_
   refine lK ?_
   go_upto_region 9 with(fail)
   refine In.abs lM.drew ?_
   clear lM kT Dw
   intro w14 lM
   have kT:=(lM.ae p1).cells
   have acw:=(lM.ae p1).free
   have hcg:w14.cell? ⟨gc,m*2+1,none⟩=some (f m):=(lM.ae p2).gI (BO (fun _=> .pointer none) f T.bi.length m hm).2
   rw[hfm]at hcg
   have hS0:=(lM.drew).ps [1]
   refine nK hS0 ⟨[10],[11,14]⟩ [.c 0 0,.c 0 1,.c 0 2,.c 0 3,.c 2 4,.c 0 5,.c 0 6,.c 0 7,.c 1 8,.c 0 9,.e 10,.e 11,.c 0 12,.c 0 13,.e 14] ?_
   refine nD ?_;intro K hK
   go_wp2_with fail
   refine df hK ((hS0.alloc _).drop) fun hS0=>?_
   refine bG rfl rfl fun K hK=>?_
   refine aZ Es (lM.drew.alloc (wC ((T.aV.iJ k m).length:Nat))) (by rfl) (by rfl) (by rfl) (by simp[Value.oneCell']) (by omega) ?_
   intro u15 w15 h15
   obtain⟨a15,c15,rfl⟩:=h15.aG
   clear kT acw hcg
   have kT:=(h15.ae p1).cells
   have acw:=(h15.ae p1).free
   go_wp2_with fail
   refine uw ?_;intro K hK
   go_wp2_with fail
   try refine aS ?_
   go_upto_region 10 with(fail)
   have h16:In w0 _ (pts b (Yk (.slice ar T.bi.length cr) (.slice aa T.ag.length ca) (.slice a15 (k+1) c15) (.slice (some ⟨gc,0,none⟩) T.bi.length T.bi.length) T.modes (.slice none 0 0) true)::_):=(h15.ae p1).setCell (off:=2) (.slice a15 (k+1) c15)
   refine In.abs h16 ?_
   clear h16 h15 lM kT acw
   intro w16 h16
   rw[hfm]at h16
   have h17:=h16.pr [3,2,0,0,0,0,0,0,0]
   clear h16
   have hcg:w16.cell? ⟨gc,m*2+1,none⟩=some (f m):=(h17.ae p1).gI (BO (fun _=> .pointer none) f T.bi.length m hm).2
   rw[hfm]at hcg
   have hal:(T.aV.iJ k m).length≤64:=by
    have h1:=gU (fun a:gq=>decide (a.counter=(m:Nat))) (T.aV.ag.take k) 0
    rw[List.length_take]at h1
    unfold fV.iJ
    omega
   go_wp2_with (first|(with_reducible apply bH))
   unfold Stop
   refine aZ Es (h17.alloc (wC (k:Nat))) (by rfl) (by rfl) (by rfl) (by simp[Value.oneCell']) (by omega) ?_
   intro u18 w18 h18
   obtain⟨a18,c18,rfl⟩:=h18.aG
   clear hcg
   have hcg:w18.cell? ⟨gc,m*2+1,none⟩=some (f m):=(h18.ae p1).gI (BO (fun _=> .pointer none) f T.bi.length m hm).2
   have acx:=(h18.ae p1).fH (off:=m*2+1)
   have h19:=(h18.ae p1).qU (off:=m*2+1) (u:= .slice a18 ((T.aV.iJ k m).length+1) c18) (by rw[Q7 (fun _=> .pointer none) f];omega) rfl
   rw[Yr (fun _=> .pointer none) f T.bi.length m _ hm]at h19
   go_upto_region 11 with(fail)
   refine In.abs h19 ?_
   clear h19 h18 h17 hcg acx
   intro w19 h19
   go_wp2_with fail
   go_roundw
   case rel=>
    refine⟨k+1,hlt,by go_num,iE f m (.slice a18 ((T.aV.iJ k m).length+1) c18),.slice a15 (k+1) c15,?_⟩
    have e1:nums ((List.range (k+1)).map T.aV.place)=nums ((List.range k).map T.aV.place)++ [.int .i64 ((T.aV.iJ k m).length:Nat)]:=by
     rw[List.range_succ,List.map_append,List.map_singleton,X4 m rfl]
     unfold nums
     rw[List.map_append]
     rfl
    have e2:T.aV.iJ (k+1) m=T.aV.iJ k m++ [k]:=by rw[hstep m,if_pos rfl]
    have e3:nums (T.aV.iJ k m)++ [.int .i64 (k:Nat)]=nums (T.aV.iJ (k+1) m):=by rw[e2];unfold nums;rw[List.map_append];rfl
    have e4:(T.aV.iJ k m).length+1=(T.aV.iJ (k+1) m).length:=by rw[e2,List.length_append];rfl
    rw[e1]
    have h20:=h19.pr [1,3,0,0,0,1,1,1] 1
    rw[e3,e4]at h20
    generalize aeO:Value.slice a18 (T.aV.iJ (k+1) m).length c18=u18 at*
    rw[e4,aeO]
    have h21:=In.Px (F':=fun c=>Row 3 1 (iE f m u18 c) (T.aV.iJ (k+1) c).length (nums (T.aV.iJ (k+1) c))) (by simp only[iE,if_true];exact h20) (List.mem_range.2 hm) List.nodup_range (fun c hc=>by
     have e5:T.aV.iJ (k+1) c=T.aV.iJ k c:=by rw[hstep c,if_neg (by omega),List.append_nil]
     simp only[iE,if_neg hc,e5])
    exact h21.s
   case measure=>simp[intOf]<;>omega
  ·have hke:k=T.ag.length:=by omega
   subst hke
   have h20:=hw.pr [3,3,1,0,0,0,0]
   obtain⟨E1,sE1,adr,h21⟩:=h20.MZ
   obtain⟨E,sE2,hvp,h22⟩:=(h21.ae p1).dY
   have aaN:∀c,c<T.bi.length→dQ E (f c) (T.aV.fG c).length (nums (T.aV.fG c)):=fun c hc=>by
    have:=(adr c (List.mem_range.2 hc)).mono sE2
    have e:=Oj T.aV c
    change T.aV.iJ T.ag.length c=_ at e
    rwa[e]at this
   have sDE:D ⊆ E:=List.Subset.trans sE1 sE2
   obtain⟨avp,cvp,rfl⟩:=hvp.form
   clear adr hw h20 h21 sE1 sE2
   have UB:=(In.Ai.2 h22).pr [3,0,1,0,0,0]
   have h23:In w0 wr (Row 236 2 (.slice (some ⟨gc,0,none⟩) T.bi.length T.bi.length) T.bi.length (((List.range T.bi.length).map fun c=>((Value.pointer none,f c):Value × Value)).map lU).flatten::bQ (List.zipWith lY [] ((aJ.zero T.aV).clocks.take 0))::pts b (Yk (.slice ar T.bi.length cr) (.slice aa T.ag.length ca) (.slice avp T.ag.length cvp) (.slice (some ⟨gc,0,none⟩) T.bi.length T.bi.length) T.modes (.slice none 0 0) true)::bJ E::pts z (dO T (.slice a1 T.ay.length c1) (.slice a2 T.rings.length c2) (.slice a3 T.bP.length c3) (.slice a4 T.bi.length c4) (.slice a5 T.ag.length c5) (.slice a6 T.bf.length c6) (.slice a7 T.cZ.length c7))::bJ B::l):=UB
   clear UB
   clear h22
   have yB:=(h23.ae p4).cells
   have n1:¬((T.ag.length:Int)<T.ag.length):=by omega
   go_upto_region 13 with(fail)
   clear yB
   go_loopw [8,9,75] (fun _ _ c wr=>∃k:Nat,k≤T.bi.length∧c= .int .i64 k∧∃(pf:Nat→Value) (lV:List Nat),lV.length=k∧(∀(j p:Nat),lV[j]? =some p→pf j=fJ p)∧In w0 wr (Row 236 2 (.slice (some ⟨gc,0,none⟩) T.bi.length T.bi.length) T.bi.length (((List.range T.bi.length).map fun c=>((pf c,f c):Value × Value)).map lU).flatten::bQ (List.zipWith lY lV ((aJ.zero T.aV).clocks.take k))::pts b (Yk (.slice ar T.bi.length cr) (.slice aa T.ag.length ca) (.slice avp T.ag.length cvp) (.slice (some ⟨gc,0,none⟩) T.bi.length T.bi.length) T.modes (.slice none 0 0) true)::bJ E::pts z (dO T (.slice a1 T.ay.length c1) (.slice a2 T.rings.length c2) (.slice a3 T.bP.length c3) (.slice a4 T.bi.length c4) (.slice a5 T.ag.length c5) (.slice a6 T.bf.length c6) (.slice a7 T.cZ.length c7))::bJ B::l))
    (fun _ _ c _=>T.bi.length-(intOf c).toNat)
   case atStart=>exact⟨0,Nat.zero_le _,rfl,fun _=> .pointer none, [],rfl,by simp,h23⟩
   case round=>
    obtain⟨k,hk,rfl,pf,lV,hcl,hpf,hw⟩:=hrel
    clear h23
    by_cases hlt:k<T.bi.length
    ·have hkc:=List.getElem?_eq_getElem hlt
     have hcx:=hF.bi _ (List.getElem_mem hlt)
     have hzk:(aJ.zero T.aV).clocks[k]? =some ⟨T.bi[k].max,T.bi[k].min,0,List.replicate (T.aV.fG k).length .off⟩:=Gh T k hlt
     obtain⟨g0,o0,cap0,e0,hcl0⟩:=iw (slot:=iU) (size:=3) (fun _=>rfl) htc hkc
     cases e0
     generalize T.bi[k]=cx at*
     rcases cx with⟨mx,base,mn⟩
     simp only at hcx hzk
     have hd0:=hcl0 (hw.ae p5) 0 _ rfl (by decide)
     have hd1:=hcl0 (hw.ae p5) 1 _ rfl (by decide)
     have hd2:=hcl0 (hw.ae p5) 2 _ rfl (by decide)
     rw[Nat.add_zero]at hd0
     clear hcl0
     simp only at hd0 hd1 hd2
     have n1:(k:Int)<T.bi.length:=by omega
     have n2:(0:Int)≤(k:Int):=by omega
     have h13:=hw.alloc (Il mx base mn)
     go_upto_region 15 with(fail)
     refine In.abs h13 ?_
     clear h13 hw hd0 hd1 hd2
     generalize wr.heap.size=y
     intro w13 h13
     obtain⟨am,cm,hfm⟩:=(aaN k hlt).form
     have hal:(T.aV.fG k).length≤64:=by
      have h1:=gU (fun a:gq=>decide (a.counter=(k:Nat))) T.aV.ag 0
      have h2:T.aV.ag.length=T.ag.length:=rfl
      unfold fV.fG
      omega
     have lM:=h13.pr [1,2,0,0,0,0,0]
     clear h13
     have kT:=(lM.ae p1).cells
     have Dw:=(lM.ae p2).cells
     have hcg:w13.cell? ⟨gc,k*2+1,none⟩=some (f k):=lM.gI (BO pf f T.bi.length k hlt).2
     rw[hfm]at hcg
     have hS0:=(lM.drew).ps [1,1]
     refine nK hS0 ⟨[21],[27]⟩ [.c 0 0,.c 0 1,.c 0 2,.c 2 3,.c 0 4,.c 0 5,.c 1 6,.c 0 7,.c 1 8,.c 0 9,.c 1 10,.c 0 11,.c 0 12,.c 0 13,.c 0 14,.c 1 15,.c 0 16,.c 0 17,.c 0 18,.c 1 19,.c 0 20,.e 21,.c 0 22,.c 0 23,.c 0 24,.c 0 25,.c 0 26,.e 27] ?_
     refine nD ?_;intro K hK
     go_wp2_with (go_at_call 185;refine(abm lM.drew hcx.1 hcx.2.1 hcx.2.2 hal rfl).mono ?_;rintro _ w16 ⟨bk,rfl,h16⟩)
     clear hcg
     have hcg:w16.cell? ⟨gc,k*2,none⟩=some (pf k):=(h16.ae p1).gI (BO pf f T.bi.length k hlt).1
     have acx:=(h16.ae p1).fH (off:=k*2)
     have h17:=(h16.ae p1).qU (off:=k*2) (u:= .pointer (some ⟨bk,0,none⟩)) (by rw[Q7 pf f];omega) rfl
     rw[XE pf f T.bi.length k _ hlt]at h17
     go_wp2_with fail
     refine df hK ((h16).s) fun hS0=>?_
     refine uw ?_;intro K hK
     go_wp2_with fail
     try refine aS ?_
     go_upto_region 16 with(fail)
     refine In.abs h17 ?_
     clear h17 h16 lM hcg acx kT Dw
     intro w17 h17
     go_wp2_with fail
     go_roundw
     case rel=>
      refine⟨k+1,hlt,by go_num,iE pf k (.pointer (some ⟨bk,0,none⟩)),lV++ [bk],by rw[List.length_append,hcl];rfl,?_,?_⟩
      ·intro j p hj
       unfold iE
       split
       ·rename_i e
        subst e
        rw[List.getElem?_append_right (by omega),hcl,Nat.sub_self]at hj
        cases hj
        rfl
       ·rename_i e
        rw[List.getElem?_append_left (by
         have:=(List.getElem?_eq_some_iff.1 hj).1
         rw[List.length_append,List.length_singleton]at this
         omega)]at hj
        exact hpf j p hj
      ·have e6:List.zipWith lY (lV++ [bk]) ((aJ.zero T.aV).clocks.take (k+1))=List.zipWith lY lV ((aJ.zero T.aV).clocks.take k)++ [lY bk ⟨mx,mn,0,List.replicate (T.aV.fG k).length .off⟩]:=by
        rw[List.take_add_one,hzk]
        have hkz:k<(aJ.zero T.aV).clocks.length:=(List.getElem?_eq_some_iff.1 hzk).1
        rw[List.zipWith_append (by rw[hcl,List.length_take];omega)]
        rfl
       rw[e6]
       have h18:=h17.pr [1,3,0,0,1,1,1] 1
       exact(In.Qs.2 h18).s
     case measure=>simp[intOf]<;>omega
    ·have hke:k=T.bi.length:=by omega
     subst hke
     have hzl:(aJ.zero T.aV).clocks.length=T.bi.length:=by unfold aJ.zero;simp[ah.aV]
     rw[←hzl,List.take_length,hzl]at hw
     obtain⟨E2,sE2,hvc,h31⟩:=(hw.s:In w0 wr (Row 236 2 (.slice (some ⟨gc,0,none⟩) T.bi.length T.bi.length) T.bi.length (((List.range T.bi.length).map fun c=>((pf c,f c):Value × Value)).map lU).flatten::bJ E::bQ (List.zipWith lY lV (aJ.zero T.aV).clocks)::pts b (Yk (.slice ar T.bi.length cr) (.slice aa T.ag.length ca) (.slice avp T.ag.length cvp) (.slice (some ⟨gc,0,none⟩) T.bi.length T.bi.length) T.modes (.slice none 0 0) true)::pts z (dO T (.slice a1 T.ay.length c1) (.slice a2 T.rings.length c2) (.slice a3 T.bP.length c3) (.slice a4 T.bi.length c4) (.slice a5 T.ag.length c5) (.slice a6 T.bf.length c6) (.slice a7 T.cZ.length c7))::bJ B::l)).dY
     clear hw
     obtain⟨ijl,t1,t2,t3⟩:=Fb.bf
     simp only at t2
     have hil:ijl.length=T.bf.length:=by rw[←t1,List.length_map]
     have h32:=(h31.dh 303 2).pr [0,2,0,0,0,0]
     clear h31
     have yB:=(h32.ae p4).cells
     have n1:¬((T.bi.length:Int)<T.bi.length):=by omega
     go_upto_region 18 with(fail)
     clear yB
     go_loopw [11,111] (fun _ c wr=>∃k:Nat,k≤T.bf.length∧c= .int .i64 k∧∃(vi:Value),In w0 wr (Row 303 2 vi k (((T.aV.bf.take k)).map yj).flatten::pts b (Yk (.slice ar T.bi.length cr) (.slice aa T.ag.length ca) (.slice avp T.ag.length cvp) (.slice (some ⟨gc,0,none⟩) T.bi.length T.bi.length) T.modes vi true)::bJ E2::bQ (List.zipWith lY lV (aJ.zero T.aV).clocks)::pts z (dO T (.slice a1 T.ay.length c1) (.slice a2 T.rings.length c2) (.slice a3 T.bP.length c3) (.slice a4 T.bi.length c4) (.slice a5 T.ag.length c5) (.slice a6 T.bf.length c6) (.slice a7 T.cZ.length c7))::bJ B::l))
      (fun _ c _=>T.bf.length-(intOf c).toNat)
     case atStart=>exact⟨0,Nat.zero_le _,rfl,.slice none 0 0,h32⟩
     case round=>
      obtain⟨k,hk,rfl,vi,hw⟩:=hrel
      clear h32
      by_cases hlt:k<T.bf.length
      ·have hlt2:k<ijl.length:=by omega
       have hki:=List.getElem?_eq_getElem hlt2
       rw[←hil]at t2
       obtain⟨g0,o0,cap0,e0,hcl0⟩:=iw (slot:=iy) (size:=3) (fun _=>rfl) t2 hki
       rw[hil]at e0
       cases e0
       have hto:=t3 _ (List.getElem_mem hlt2)
       have hbi:T.aV.bf[k]? =some (ijl[k].1.category,ijl[k].1.aI):=by
        show(T.bf.map fun x=>(x.category,x.aI))[k]? =_
        rw[←t1,List.map_map,List.getElem?_map,hki]
        rfl
       generalize ijl[k]=ix at*
       rcases ix with⟨⟨cat,aI,own⟩,ov⟩
       simp only at hto hbi
       obtain⟨ao,co,rfl⟩:=hto.form
       have hd0:=hcl0 (hw.ae p5) 0 _ rfl (by decide)
       have hd1:=hcl0 (hw.ae p5) 1 _ rfl (by decide)
       have hd2:=hcl0 (hw.ae p5) 2 _ rfl (by decide)
       rw[Nat.add_zero]at hd0
       clear hcl0
       simp only at hd0 hd1 hd2
       have n1:(k:Int)<T.bf.length:=by omega
       have h13:=hw.alloc (Ic cat aI (.slice ao own.length co))
       go_upto_region 20 with(fail)
       refine In.abs h13 ?_
       clear h13 hw hd0 hd1 hd2
       generalize wr.heap.size=y
       intro w13 h13
       obtain⟨av,cv,rfl⟩:=(h13.ae p1).aG
       have lM:=h13.pr [1,1,0,0,0,0,0]
       clear h13
       have kT:=(lM.ae p1).cells
       have acy:=(lM.ae p1).free
       have Dw:=(lM.ae p2).cells
       have hS0:=(lM.drew).ps [1,1]
       refine nK hS0 ⟨[10],[11,14]⟩ [.c 0 0,.c 0 1,.c 0 2,.c 0 3,.c 2 4,.c 0 5,.c 1 6,.c 0 7,.c 1 8,.c 0 9,.e 10,.e 11,.c 0 12,.c 0 13,.e 14] ?_
       refine nD ?_;intro K hK
       go_wp2_with fail
       refine df hK ((hS0.alloc _).drop) fun hS0=>?_
       refine bG rfl rfl fun K hK=>?_
       refine aZ aeh (lM.drew.alloc (.cells #[.int .i64 cat,.int .i64 aI] 303)) (by rfl) (by rfl) (by rfl) (by simp[Value.oneCell']) (by omega) ?_
       intro u15 w15 h15
       obtain⟨a15,c15,rfl⟩:=h15.aG
       clear kT acy Dw
       have kT:=(h15.ae p1).cells
       have acy:=(h15.ae p1).free
       go_wp2_with fail
       refine uw ?_;intro K hK
       go_wp2_with fail
       try refine aS ?_
       go_upto_region 21 with(fail)
       have h16:In w0 _ (pts b (Yk (.slice ar T.bi.length cr) (.slice aa T.ag.length ca) (.slice avp T.ag.length cvp) (.slice (some ⟨gc,0,none⟩) T.bi.length T.bi.length) T.modes (.slice a15 (k+1) c15) true)::_):=(h15.ae p1).setCell (off:=5) (.slice a15 (k+1) c15)
       refine In.abs h16 ?_
       clear h16 h15 lM kT acy
       intro w16 h16
       go_wp2_with fail
       go_roundw
       case rel=>
        refine⟨k+1,hlt,by go_num,.slice a15 (k+1) c15,?_⟩
        have e7:((T.aV.bf.take (k+1)).map yj).flatten=((T.aV.bf.take k).map yj).flatten++ [.int .i64 cat,.int .i64 aI]:=by
         rw[List.take_add_one,hbi,Option.toList_some,List.map_append,List.flatten_append]
         simp[yj]
        rw[e7]
        exact h16.s
       case measure=>simp[intOf]<;>omega
      ·have hke:k=T.bf.length:=by omega
       subst hke
       have hbl:T.aV.bf.length=T.bf.length:=by simp[ah.aV]
       rw[←hbl,List.take_length,hbl]at hw
       obtain⟨E3,sE3,hvi,h33⟩:=(hw.s:In w0 wr (Row 303 2 vi T.bf.length (T.aV.bf.map yj).flatten::bJ E2::pts b (Yk (.slice ar T.bi.length cr) (.slice aa T.ag.length ca) (.slice avp T.ag.length cvp) (.slice (some ⟨gc,0,none⟩) T.bi.length T.bi.length) T.modes vi true)::bQ (List.zipWith lY lV (aJ.zero T.aV).clocks)::pts z (dO T (.slice a1 T.ay.length c1) (.slice a2 T.rings.length c2) (.slice a3 T.bP.length c3) (.slice a4 T.bi.length c4) (.slice a5 T.ag.length c5) (.slice a6 T.bf.length c6) (.slice a7 T.cZ.length c7))::bJ B::l)).dY
       clear hw
       have n1:¬((T.bf.length:Int)<T.bf.length):=by omega
       go_wp2_with fail
       go_ret2
       have sD3:D ⊆ E3:=List.Subset.trans sDE (List.Subset.trans sE2 sE3)
       have hcell:(((List.range T.bi.length).map fun c=>((pf c,f c):Value × Value)).map lU).flatten=(((List.range T.bi.length).map fun c=>((lV.getD c 0,f c):Nat × Value)).map wJ).flatten:=by
        rw[List.map_map,List.map_map]
        congr 1
        apply List.map_congr_left
        intro c hc
        have hc2:=List.mem_range.1 hc
        have h1:lV[c]? =some (lV.getD c 0):=by rw[List.getD_eq_getElem?_getD,List.getElem?_eq_getElem (by omega)];rfl
        show[pf c,f c]=[fJ (lV.getD c 0),f c]
        rw[hpf c _ h1]
       have htab:Be E3 T.aV lV (.slice ar T.bi.length cr) (.slice aa T.ag.length ca) (.slice avp T.ag.length cvp) (.slice (some ⟨gc,0,none⟩) T.bi.length T.bi.length) vi:=by
        refine⟨i2.mono sD3,hIa.mono sD3,hvp.mono (List.Subset.trans sE2 sE3),⟨(List.range T.bi.length).map fun c=>((lV.getD c 0,f c):Nat × Value),?_,by rw[List.length_map,List.length_range];rfl,?_,?_⟩,?_,hok⟩
        ·rw[List.map_map]
         apply List.ext_getElem?
         intro c
         rw[List.getElem?_map]
         by_cases hc:c<T.bi.length
         ·rw[List.getElem?_range hc,List.getElem?_eq_getElem (by omega)]
          simp only[Option.map_some,Function.comp_def]
          rw[List.getD_eq_getElem?_getD,List.getElem?_eq_getElem (by omega)]
          rfl
         ·rw[List.getElem?_eq_none (by simp;omega),List.getElem?_eq_none (by omega)]
          rfl
        ·rw[←hcell];exact hvc.mono sE3
        ·intro c p hp
         rw[List.getElem?_map]at hp
         by_cases hc:c<T.bi.length
         ·rw[List.getElem?_range hc]at hp
          cases hp
          exact(aaN c hc).mono (List.Subset.trans sE2 sE3)
         ·rw[List.getElem?_eq_none (by simp;omega)]at hp
          cases hp
        ·rw[hbl];exact hvi
       refine⟨b,rfl,lT htab (ZK T) ?_⟩
       have h34:=h33.pr [1,0,0,1] 1
       exact h34
end
theorem XP (v k:Nat):v%2 ^ (k+8)=v%2 ^ k+2 ^ k*(v/2 ^ k%256):=by
 rw[Nat.pow_add,Nat.mod_mul]
theorem ZT {x i:Nat} (hi:i<8):bits .or .u64 ((x%2 ^ (8*i):Nat):Int) (IntKind.u64.wrap (((byteAt x i:Nat):Int)*2 ^ (8*i)))=((x%2 ^ (8*(i+1)):Nat):Int):=by
 have hb:byteAt x i<256:=Nat.mod_lt _ (by decide)
 have hp:byteAt x i*2 ^ (8*i)<18446744073709551616:=by
  have h1:byteAt x i*2 ^ (8*i)<256*2 ^ (8*i):=Nat.mul_lt_mul_of_pos_right hb (Nat.two_pow_pos _)
  have h2:(256:Nat)*2 ^ (8*i)=2 ^ (8*i+8):=by rw[Nat.pow_add,Nat.mul_comm]
  have h3:2 ^ (8*i+8)≤2 ^ 64:=Nat.pow_le_pow_right (by decide) (by omega)
  omega
 have hq:x%2 ^ (8*i)<18446744073709551616:=by
  have h1:x%2 ^ (8*i)<2 ^ (8*i):=Nat.mod_lt _ (Nat.two_pow_pos _)
  have h3:2 ^ (8*i)≤2 ^ 64:=Nat.pow_le_pow_right (by decide) (by omega)
  omega
 have e1:((byteAt x i:Nat):Int)*2 ^ (8*i)=((byteAt x i*2 ^ (8*i):Nat):Int):=by simp
 rw[e1]
 have hr:x%2 ^ (8*(i+1))=x%2 ^ (8*i)|||byteAt x i*2 ^ (8*i):=by
  rw[Nat.or_comm,Nat.mul_comm (byteAt x i),←Nat.two_pow_add_eq_or_of_lt (Nat.mod_lt _ (Nat.two_pow_pos _)),show 8*(i+1)=8*i+8 by omega,XP,byteAt,Nat.add_comm]
 have hrl:x%2 ^ (8*(i+1))<18446744073709551616:=by
  have h1:x%2 ^ (8*(i+1))<2 ^ (8*(i+1)):=Nat.mod_lt _ (Nat.two_pow_pos _)
  have h3:2 ^ (8*(i+1))≤2 ^ 64:=Nat.pow_le_pow_right (by decide) (by omega)
  omega
 generalize byteAt x i*2 ^ (8*i)=b at*
 have hw:∀n:Nat,n<18446744073709551616→IntKind.u64.wrap (n:Int)=(n:Int):=by
  intro n hn
  unfold IntKind.wrap
  simp[IntKind.signed,IntKind.bits]
  omega
 rw[hw b hp]
 unfold bits
 have hn:∀n:Nat,n<18446744073709551616→(BitVec.ofInt IntKind.u64.bits (n:Int)).toNat=n:=by
  intro n hn
  rw[BitVec.ofInt_natCast,BitVec.toNat_ofNat]
  exact Nat.mod_eq_of_lt (by simpa[IntKind.bits]using hn)
 simp only[BitVec.toNat_or,hn _ hq,hn _ hp]
 rw[←hr,hw _ hrl]
def mV (r:Nat) (bs:List Nat):SL:=ex fun v=>ex fun B=>bQ [AQ (dQ B v bs.length (bytesV bs)),pts r (.cells #[.bool true,v] 401),bJ B]
section
variable {w0 w:World} {l:List SL} {r:Nat} {bs:List Nat} {B:List (Nat × Obj)}
theorem FY (h:In w0 w (mV r bs::l)):∃v B,dQ B v bs.length (bytesV bs)∧In w0 w (pts r (.cells #[.bool true,v] 401)::bJ B::l):=by
 obtain⟨v,h⟩:=In.aY.1 h
 obtain⟨B,h⟩:=In.aY.1 h
 obtain⟨hp,h⟩:=In.dw.1 (In.bn.1 h)
 exact⟨v,B,hp,h⟩
theorem FX {v:Value} (hp:dQ B v bs.length (bytesV bs)) (h:In w0 w (pts r (.cells #[.bool true,v] 401)::bJ B::l)):In w0 w (mV r bs::l):=
 In.aY.2 ⟨v,In.aY.2 ⟨B,In.bn.2 (In.dw.2 ⟨hp,h⟩)⟩⟩
theorem yw {u:Value} (h:In w0 w (bJ B::l)) (hu:dQ B u bs.length (bytesV bs)) (hn:bs.length≤1000000):
 Calls prog 157 #[u] w fun e w'=>∃r,e= .returned (.pointer (some ⟨r,0,none⟩))∧In w0 w' (mV r bs::bJ B::l):=by
 go_enter func157,ntmps157
 go_wp2_with (with_reducible apply bH)
 unfold Stop
 refine fO Qq h hu (by rw[jq];omega) pO (by rfl) (by rfl) (by omega) ?_
 intro v' w3 h3
 obtain⟨a3,c3,rfl⟩:=h3.aG
 have h4:=h3.alloc (.cells #[.bool true,.slice a3 bs.length c3] 401)
 go_wp2_with fail
 go_ret
 refine⟨_,rfl,?_⟩
 have h5:=In.sW h4
 have h6:=h5.pr [2,0,0,0]
 obtain⟨C,_,hC,h7⟩:=h6.dY
 exact FX hC (h7.s)
theorem Zd (h:In w0 w (mV r bs::l)):Calls prog 180 #[r] w fun e w'=>e= .returned (.int .i64 bs.length)∧w=w':=by
 obtain⟨v,B,hv,h2⟩:=FY h
 obtain⟨av,cv,rfl⟩:=hv.form
 have bC:=h2.cells
 clear h h2 hv
 go_enter func180,ntmps180
 go_wp2_with fail
 go_ret
 exact⟨rfl,rfl⟩
theorem aaX {ys:List Nat} (h:In w0 w (mV r (ys++bs)::l)) (h1:1≤ys.length) (hn:ys.length≤1000):
 Calls prog 294 #[r,.int .i64 ys.length] w fun e w'=>∃u,e= .returned (.tuple #[u,.int .i64 0])∧In w0 w' (Row 5 1 u ys.length (bytesV ys)::mV r bs::l):=by
 obtain⟨v,B,⟨hm,⟨_,e,_⟩|⟨g,o,cap,cells,T,fr,rfl,hc,hmem,hrd⟩⟩,h2⟩:=FY h
 ·rw[List.length_append]at e;omega
 rw[List.length_append]at h2 hc hm
 have hA:dQ B (.slice (some ⟨g,o,none⟩) ys.length cap) ys.length (bytesV ys):=⟨by omega,.inr ⟨g,o,cap,cells,T,fr,rfl,by omega,hmem,fun j u hu=>hrd j u (by
  rw[pW,List.getElem?_append_left (List.getElem?_eq_some_iff.1 hu).1];exact hu)⟩⟩
 have hgo:(¬cap=ys.length∧∃o2,o2=o+ys.length)∨(cap=ys.length∧∃o2,o2=o):=by
  by_cases e:cap=ys.length
  ·exact .inr ⟨e,_,rfl⟩
  ·exact .inl ⟨e,_,rfl⟩
 have hB:∀o2,(¬cap=ys.length∧o2=o+ys.length)∨(cap=ys.length∧o2=o)→dQ B (.slice (some ⟨g,o2,none⟩) bs.length (cap-ys.length)) bs.length (bytesV bs):=by
  intro o2 ho
  refine⟨by omega,.inr ⟨g,o2,cap-ys.length,cells,T,fr,rfl,by omega,hmem,fun j u hu=>?_⟩⟩
  rcases ho with⟨_,rfl⟩|⟨e,_⟩
  ·rw[Nat.add_assoc]
   refine hrd (ys.length+j) u ?_
   rw[pW,List.getElem?_append_right (by rw[jq];omega),jq,Nat.add_sub_cancel_left]
   exact hu
  ·have:=(List.getElem?_eq_some_iff.1 hu).1
   rw[jq]at this
   omega
 have hc0:¬cap=0:=by omega
 clear hrd hmem h hm
 have jO:=h2.cells
 go_enter func294,ntmps294
 rcases hgo with⟨g1,o2,g2⟩|⟨g1,o2,g2⟩
 ·have hB2:=hB o2 (.inl ⟨g1,g2⟩)
  subst g2
  clear hB
  go_wp2_with (with_reducible apply bH)
  unfold Stop
  refine fO Qq (h2.ae p1) hA (by rw[jq];omega) pO (by rfl) (by rfl) (by omega) ?_
  intro v' w3 h3
  obtain⟨a3,c3,rfl⟩:=h3.aG
  clear jO h2
  have jO:=(h3.ae p2).cells
  have jb:=(h3.ae p2).free
  have h4:In w0 _ (pts r (.cells #[.bool true,.slice (some ⟨g,o+ys.length,none⟩) bs.length (cap-ys.length)] 401)::_):=(h3.ae p2).setCell (off:=1) (.slice (some ⟨g,o+ys.length,none⟩) bs.length (cap-ys.length))
  go_wp2_with fail
  go_ret2
  refine⟨.slice a3 ys.length c3,rfl,?_⟩
  exact(FX hB2 (h4.s)).s
 ·have hB2:=hB o2 (.inr ⟨g1,g2⟩)
  subst g2
  clear hB
  subst g1
  obtain rfl:bs= []:=List.eq_nil_of_length_eq_zero (by omega)
  rw[Nat.sub_self,List.length_nil]at hB2
  rw[List.length_nil,Nat.add_zero]at h2
  clear jO hc
  have jO:=h2.cells
  go_wp2_with (with_reducible apply bH)
  unfold Stop
  refine fO Qq (h2.ae p1) hA (by rw[jq];omega) pO (by rfl) (by rfl) (by omega) ?_
  intro v' w3 h3
  obtain⟨a3,c3,rfl⟩:=h3.aG
  clear jO h2
  have jO:=(h3.ae p2).cells
  have jb:=(h3.ae p2).free
  have h4:In w0 _ (pts r (.cells #[.bool true,.slice (some ⟨g,o2,none⟩) 0 0] 401)::_):=(h3.ae p2).setCell (off:=1) (.slice (some ⟨g,o2,none⟩) 0 0)
  go_wp2_with fail
  go_ret2
  refine⟨.slice a3 ys.length c3,rfl,?_⟩
  exact(FX hB2 (h4.s)).s
theorem yV {x n:Nat} (h:In w0 w (mV r (le x n++bs)::l)) (h1:1≤n) (h8:n≤8) (hx:x<2 ^ (8*n)):
 aW 159 #[r,.int .i64 n] w w0 (.tuple #[.int .u64 x,.int .i64 0]) (mV r bs::l):=by
 have hcu:=aaX h (by rw[iF];omega) (by rw[iF];omega)
 rw[iF]at hcu
 obtain⟨v,B,hv,h2⟩:=FY h
 have jO:=h2.cells
 have n1:¬(n:Int)<1:=by omega
 have n2:¬(8:Int)<n:=by omega
 clear h2 hv
 go_enter func159,ntmps159
 go_upto_region 4 with(go_at_call 294;refine Calls.mono hcu ?_;rintro _ w3 ⟨u3,rfl,h3⟩)
 clear hcu jO h
 obtain⟨a3,c3,rfl⟩:=h3.aG
 go_upto_region 6 with(fail)
 go_loopw [8,9,10,35] (fun a _ _ c wr=>∃k:Nat,k≤n∧c= .int .i64 k∧a= .int .u64 (x%2 ^ (8*k):Nat)∧In w0 wr (Row 5 1 (.slice a3 n c3) n (bytesV (le x n))::mV r bs::l))
  (fun _ _ _ c _=>n-(intOf c).toNat)
 case atStart=>exact⟨0,Nat.zero_le _,rfl,by simp[Nat.mod_one],h3⟩
 case round=>
  obtain⟨k,hk,rfl,rfl,hw⟩:=hrel
  clear h3
  by_cases hlt:k<n
  ·have hcell:∃g,a3=some ⟨g,0,none⟩∧wr.cell? ⟨g,k,none⟩=some (.int .u8 (byteAt x k:Nat)):=by
    rcases hw.aU with⟨_,e,_⟩|⟨g,cap,ext,e,_⟩
    ·omega
    ·cases e
     exact⟨g,rfl,hw.gI (by simp[bytesV,le,hlt])⟩
   obtain⟨g,rfl,hck⟩:=hcell
   have hor:=ZT (x:=x) (i:=k) (by omega)
   have hm:min (8*k) 64=8*k:=by omega
   have hcb:IntKind.u64.wrap ((byteAt x k:Nat):Int)=((byteAt x k:Nat):Int):=by
    have:byteAt x k<256:=Nat.mod_lt _ (by decide)
    unfold IntKind.wrap;simp[IntKind.signed,IntKind.bits];omega
   generalize byteAt x k=b at*
   generalize hq1:x%2 ^ (8*k)=q1 at*
   generalize hq2:x%2 ^ (8*(k+1))=q2 at*
   have n3:(k:Int)<n:=by omega
   clear hq1
   go_wp2_with fail
   go_roundw
   case rel=>exact⟨k+1,hlt,by go_num,by rw[hq2],hw⟩
   case measure=>simp[intOf]<;>omega
  ·have hke:k=n:=by omega
   subst hke
   rw[Nat.mod_eq_of_lt hx]at*
   go_wp2_with fail
   go_ret2
   exact⟨rfl,hw.drop⟩
end
theorem Yn {α:Type} {Pre:α→World→Prop} {K:Act→World→Prop} {G:Prop} (A:α→Act) (main:(∀x w,Pre x w→K (A x) w)→G) (rest:∀x w,Pre x w→K (A x) w):G:=main rest
theorem abB {x:Nat} (h:x<256):le x 1=[x]:=by
 simp[le,byteAt,List.range_succ]
 omega
theorem wrap64 {x:Nat} (h:x<9223372036854775808):IntKind.i64.wrap (x:Int)=(x:Int):=by unfold IntKind.wrap;simp[IntKind.signed,IntKind.bits];omega
theorem wrap32 {x:Nat} (h:x<4294967296):IntKind.u32.wrap (x:Int)=(x:Int):=by unfold IntKind.wrap;simp[IntKind.signed,IntKind.bits];omega
section
variable {w0 w:World} {l:List SL} {r:Nat} {bs:List Nat}
theorem qI {x n:Nat} (h:In w0 w (mV r (le x n++bs)::l)) (h1:1≤n) (h8:n≤8) (hx:x<2 ^ (8*n)):
 aW 158 #[.agg #[r],.int .i64 n] w w0 (.int .u64 x) (mV r bs::l):=by
 have h2:=h.alloc (iZ r)
 go_enter func158,ntmps158
 go_upto_region 1 with(fail)
 refine In.abs h2 ?_
 clear h2 h
 generalize w.heap.size=z
 intro w2 h2
 have bC:=h2.cells
 have hp:=yV (h2.ae p1) h1 h8 hx
 go_upto_region 2 with(go_at_call 159;refine bF hp ?_;intro w3 h3)
 go_wp2_with fail
 go_ret
 exact⟨rfl,h3.s⟩
theorem iW {x:Nat} (h:In w0 w (mV r (x::bs)::l)) (hx:x<256):
 aW 162 #[.agg #[r]] w w0 (.int .i64 x) (mV r bs::l):=by
 have h2:=h.alloc (iZ r)
 have hcv:=wrap64 (x:=x) (by omega)
 go_enter func162,ntmps162
 go_upto_region 1 with(fail)
 refine In.abs h2 ?_
 clear h2 h
 generalize w.heap.size=z
 intro w2 h2
 have bC:=h2.cells
 have h3:=h2.ae p1
 rw[show x::bs=le x 1++bs by rw[abB hx];rfl]at h3
 have hp:=qI h3 (by omega) (by omega) (by omega)
 go_wp2_with (go_at_call 158;refine bF hp ?_;intro w3 h4)
 go_ret
 exact⟨rfl,h4.s⟩
theorem Rh {b:Bool} (w:World):Calls prog 169 #[.int .i64 (mQ b:Nat)] w fun e w'=>e= .returned (.bool b)∧w=w':=by
 have hf:((mQ b:Nat):Int)≤1∧(((mQ b:Nat):Int)==1)=b:=by cases b<;>exact⟨by decide,by decide⟩
 generalize ((mQ b:Nat):Int)=x at*
 obtain⟨h1,h2⟩:=hf
 have n1:¬(1<x):=by omega
 go_enter func169,ntmps169
 go_wp2_with fail
 go_ret
 exact⟨rfl,rfl⟩
theorem QT {xs:List Nat} (h:In w0 w (mV r (xs.length::(xs++bs))::l)) (hx:∀x∈xs,x<256) (hn:xs.length<256):
 Calls prog 177 #[.agg #[r]] w fun e w'=>∃u,e= .returned u∧In w0 w' (Row 3 1 u xs.length (uh xs)::mV r bs::l):=by
 have h2:=h.alloc (iZ r)
 go_enter func177,ntmps177
 go_upto_region 1 with(fail)
 refine In.abs h2 ?_
 clear h2 h
 generalize w.heap.size=z
 intro w2 h2
 have bC:=h2.cells
 have hp:=iW (h2.ae p1) hn
 go_upto_region 3 with(go_at_call 162;refine bF hp ?_;intro w3 h3)
 clear hp h2 bC
 have h4:=(h3.dh 3 1).pr [0,0,0]
 clear h3
 go_loopw [3,4] (fun v c wr=>∃k:Nat,k≤xs.length∧c= .int .i64 ((xs.length-k:Nat):Int)∧In w0 wr (Row 3 1 v k (uh (xs.take k))::mV r (xs.drop k++bs)::pts z (iZ r)::l))
  (fun _ c _=>(intOf c).toNat)
 case atStart=>exact⟨0,Nat.zero_le _,rfl,h4⟩
 case round=>
  obtain⟨k,hk,rfl,hw⟩:=hrel
  clear h4
  by_cases hlt:k<xs.length
  ·have hxk:=hx _ (List.getElem_mem hlt)
   have hst:uh (xs.take (k+1))=uh (xs.take k)++ [.int .i64 (xs[k]:Nat)]:=by unfold uh;rw[List.take_succ_eq_append_getElem hlt,List.map_append];rfl
   have hdr:xs.drop k++bs=xs[k]::(xs.drop (k+1)++bs):=by rw[List.drop_eq_getElem_cons hlt];rfl
   rw[hdr]at hw
   clear hdr
   generalize xs[k]=x at*
   generalize hm:xs.length-k=m at*
   have hm1:xs.length-(k+1)=m-1:=by omega
   have hm2:((m-1:Nat):Int)=(m:Int)-1:=by omega
   have n1:(0:Int)<m:=by omega
   obtain⟨av,cv,rfl⟩:=hw.aG
   have bC:=(hw.ae p2).cells
   have hp:=iW (hw.ae p1) hxk
   clear hm
   go_wp2_with (first|(go_at_call 162;refine bF hp ?_;intro w5 h5)|(with_reducible apply bH))
   unfold Stop
   have h6:=h5.pr [1,0,0]
   clear hp bC
   refine aZ Es (h6.alloc (wC x)) (by rfl) (by rfl) (by rfl) (by simp[Value.oneCell']) (by omega) ?_
   intro u7 w7 h7
   obtain⟨a7,c7,rfl⟩:=h7.aG
   go_wp2_with fail
   go_roundw
   case rel=>exact⟨k+1,hlt,by rw[hm1,hm2],by rw[hst];exact h7⟩
   case measure=>simp[intOf]<;>omega
  ·have hke:k=xs.length:=by omega
   subst hke
   rw[List.take_length,List.drop_length,List.nil_append]at hw
   obtain⟨av,cv,rfl⟩:=hw.aG
   rw[Nat.sub_self]
   go_wp2_with fail
   go_ret
   exact⟨.slice av xs.length cv,rfl,hw.s⟩
end
section
variable {w0 w:World} {l:List SL} {r q:Nat} {bs:List Nat}
theorem Jj {k t m:Nat} (h:In w0 w (mV r (k::t::(le m 4++bs))::l)) (hk:k<256) (ht:t<256) (hm:m<4294967296):
 aW 174 #[.agg #[r]] w w0 (.agg #[.int .i64 k,.int .i64 t,.int .u32 m]) (mV r bs::l):=by
 have hcv:=wrap32 hm
 have h2:=h.alloc2 (iZ r) (CO 0 0 0)
 go_enter func174,ntmps174
 go_upto_region 1 with(fail)
 refine In.abs h2 ?_
 clear h2 h
 generalize w.heap.size=z
 intro w2 h2
 have h3:=h2.pr [2,1,0]
 clear h2
 rename_i K0 hK0
 apply Yn (α:=Nat) (K:=K0) (Pre:=fun y wz=>In w0 wz (pts y (CO k t 0)::mV r (le m 4++bs)::pts z (iZ r)::pts (z+1) (CO 0 0 0)::l))
 case main=>
  intro rest
  refine qi (fun w'=>In w0 w' [pts z (iZ r)]) ⟨[1,3,5,6], []⟩ (by kernel_rfl) ?_
  rintro _ rfl
  refine In.abs (h3.drew) ?_
  intro wq h3
  have hS0:=h3.ps [1]
  all_goals(first|refine jk 5 [.c 2 0,.c 2 2] (by kernel_rfl) (by decide+kernel) (by kernel_rfl) ?_ |refine jk 4 [.c 2 0,.c 2 2] (by kernel_rfl) (by decide+kernel) (by kernel_rfl) ?_)
  all_goals(refine uu ?_)
  all_goals(refine lu ?_)
  all_goals(first|(refine dH (c:=1) (by decide+kernel) rfl rfl ?_;intro K hK)|(refine jR (c:=1) (j:=5) (by decide+kernel) rfl rfl rfl rfl ?_ ?_;rotate_left;(intro K hK);rotate_left;(intro K hK;go_wp2_with fail;refine df hK ((hS0.alloc _).drop) fun hS0=>?_;have h3:=h3.jK (CO 0 0 0) p3;generalize Array.size (World.heap _)=zz at*;refine dH (c:=1) (by decide+kernel) rfl rfl ?_;intro K hK)))
  all_goals(go_wp2_with (go_at_call 162;refine bF (iW h3 hk) ?_;intro w4 h4))
  all_goals(refine df hK (h4.s) fun hS0=>?_)
  all_goals(first|(refine dH (c:=3) (by decide+kernel) rfl rfl ?_;intro K hK)|(refine jR (c:=3) (j:=5) (by decide+kernel) rfl rfl rfl rfl ?_ ?_;rotate_left;(intro K hK);rotate_left;(intro K hK;go_wp2_with fail;refine df hK ((hS0.alloc _).drop) fun hS0=>?_;have h4:=h4.jK (CO 0 0 0) p3;generalize Array.size (World.heap _)=zz at*;refine dH (c:=3) (by decide+kernel) rfl rfl ?_;intro K hK)))
  all_goals(go_wp2_with (go_at_call 162;refine bF (iW h4 ht) ?_;intro w5 h5))
  all_goals(refine df hK (h5.s) fun hS0=>?_)
  all_goals(first|refine jk 2 [.c 0 4] (by kernel_rfl) (by decide+kernel) (by kernel_rfl) ?_ |refine jk 1 [.c 0 4] (by kernel_rfl) (by decide+kernel) (by kernel_rfl) ?_)
  all_goals(refine uu ?_)
  all_goals(refine lu ?_)
  all_goals(try(refine dH (c:=5) (by decide+kernel) rfl rfl ?_;intro K hK;go_wp2_with fail;refine df hK ((hS0.alloc _).drop) fun hS0=>?_;have h5:=h5.jK (CO 0 0 0) p3;generalize Array.size (World.heap _)=zz at*))
  all_goals(refine dH (c:=6) (by decide+kernel) rfl rfl ?_;intro K hK)
  all_goals(have hz:=h5.ae p3;have hzc:=hz.cells;have Hr:=hz.free;have hz2:=hz.fill [.int .i64 k,.int .i64 t,.int .u32 0] rfl;simp only[dm]at hz2;go_wp2_with fail)
  all_goals(refine df hK (hz2.s) fun hS0=>?_)
  all_goals(refine any_nil (by kernel_rfl) ?_)
  all_goals exact rest _ _ hz2
 case rest=>
  intro y w6 h6
  refine hK0 _ _ ?_
  clear hK0 h3
  have bC:=(h6.ae p2).cells
  have hp:=qI (h6.ae p1) (by omega) (by omega) (by omega)
  go_upto_region 3 with(go_at_call 158;refine bF hp ?_;intro w7 h7;have wO:=(h7.ae p1).cells;have yC:=(h7.ae p1).free)
  have h8:In w0 _ (pts y (CO k t m)::_):=((h7.ae p1).setCell (off:=2) (.int .u32 m))
  refine In.abs h8 ?_
  clear hp bC wO yC h8 h6 h7
  intro w8 h80
  have h8:=h80.pr [0,0,0,0]
  clear h80
  have wO:=h8.cells
  have UH:=(h8.ae p3).cells
  have jb:=(h8.ae p3).free
  have h9:=(h8.ae p3).fill [.int .i64 k,.int .i64 t,.int .u32 m] rfl
  simp only[dm]at h9
  go_wp2_with fail
  refine In.abs h9 ?_
  clear h9 wO UH jb h8
  intro wz h9
  have hc:=h9.cells
  refine bodyPost_ret (v:= .agg #[.int .i64 k,.int .i64 t,.int .u32 m]) (by simp[results,results174,go_sem,hc]) rfl ?_
  exact⟨rfl,h9.s⟩
theorem Xp {c k t m a ti cy:Nat} (h:In w0 w (mV r (c::k::t::(le m 4++(le a 1++(le ti 4++(le cy 4++bs)))))::pts q (iZ r)::l)) (hc:c<256) (hk:k<256) (ht:t<256) (hm:m<4294967296) (ha:a<256) (hti:ti<4294967296) (hcy:cy<4294967296):
 aW 173 #[q] w w0 (.agg #[.int .i64 c,.int .i64 k,.int .i64 t,.int .u32 m,.int .u32 a,.int .u32 ti,.int .u32 cy]) (mV r bs::pts q (iZ r)::l):=by
 have hcv1:=wrap32 (x:=a) (by omega)
 have hcv2:=wrap32 hti
 have aeQ:=wrap32 hcy
 have h2:=h.alloc (OH 0 0 0 0 0 0 0)
 go_enter func173,ntmps173
 go_upto_region 1 with(fail)
 refine In.abs h2 ?_
 clear h2 h
 generalize w.heap.size=z
 intro w2 h2
 have h3:=h2.pr [1,1,0]
 clear h2
 rename_i K0 hK0
 apply Yn (α:=Nat) (K:=K0) (Pre:=fun y wz=>In w0 wz (pts y (OH c k t m a 0 0)::mV r (le ti 4++(le cy 4++bs))::pts q (iZ r)::pts z (OH 0 0 0 0 0 0 0)::l))
 case main=>
  intro rest
  refine qi (fun w'=>In w0 w' [pts q (iZ r)]) ⟨[1,3,5,8,9], []⟩ (by kernel_rfl) ?_
  rintro _ rfl
  refine In.abs (h3.drew) ?_
  intro wq h3
  have hS0:=h3.ps [1]
  all_goals(first|refine jk 7 [.c 2 0,.c 2 2,.c 2 4] (by kernel_rfl) (by decide+kernel) (by kernel_rfl) ?_ |refine jk 6 [.c 2 0,.c 2 2,.c 2 4] (by kernel_rfl) (by decide+kernel) (by kernel_rfl) ?_)
  all_goals(refine uu ?_)
  all_goals(refine lu ?_)
  all_goals(first|(refine dH (c:=1) (by decide+kernel) rfl rfl ?_;intro K hK)|(refine jR (c:=1) (j:=8) (by decide+kernel) rfl rfl rfl rfl ?_ ?_;rotate_left;(intro K hK);rotate_left;(intro K hK;go_wp2_with fail;refine df hK ((hS0.alloc _).drop) fun hS0=>?_;have h3:=h3.jK (OH 0 0 0 0 0 0 0) p3;generalize Array.size (World.heap _)=zz at*;refine dH (c:=1) (by decide+kernel) rfl rfl ?_;intro K hK)))
  all_goals(go_wp2_with (go_at_call 162;refine bF (iW h3 hc) ?_;intro w4 h4))
  all_goals(refine df hK (h4.s) fun hS0=>?_)
  all_goals(first|(refine dH (c:=3) (by decide+kernel) rfl rfl ?_;intro K hK)|(refine jR (c:=3) (j:=8) (by decide+kernel) rfl rfl rfl rfl ?_ ?_;rotate_left;(intro K hK);rotate_left;(intro K hK;go_wp2_with fail;refine df hK ((hS0.alloc _).drop) fun hS0=>?_;have h4:=h4.jK (OH 0 0 0 0 0 0 0) p3;generalize Array.size (World.heap _)=zz at*;refine dH (c:=3) (by decide+kernel) rfl rfl ?_;intro K hK)))
  all_goals(go_wp2_with (go_at_call 174;refine bF (Jj h4 hk ht hm) ?_;intro w5 h5))
  all_goals(refine df hK (h5.s) fun hS0=>?_)
  all_goals(first|(refine dH (c:=5) (by decide+kernel) rfl rfl ?_;intro K hK)|(refine jR (c:=5) (j:=8) (by decide+kernel) rfl rfl rfl rfl ?_ ?_;rotate_left;(intro K hK);rotate_left;(intro K hK;go_wp2_with fail;refine df hK ((hS0.alloc _).drop) fun hS0=>?_;have h5:=h5.jK (OH 0 0 0 0 0 0 0) p3;generalize Array.size (World.heap _)=zz at*;refine dH (c:=5) (by decide+kernel) rfl rfl ?_;intro K hK)))
  all_goals(go_wp2_with (go_at_call 158;refine bF (qI h5 (by omega) (by omega) (by omega)) ?_;intro w6 h6))
  all_goals(refine df hK (h6.s) fun hS0=>?_)
  all_goals(first|refine jk 2 [.c 0 6,.c 0 7] (by kernel_rfl) (by decide+kernel) (by kernel_rfl) ?_ |refine jk 1 [.c 0 6,.c 0 7] (by kernel_rfl) (by decide+kernel) (by kernel_rfl) ?_)
  all_goals(refine uu ?_)
  all_goals(refine lu ?_)
  all_goals(try(refine dH (c:=8) (by decide+kernel) rfl rfl ?_;intro K hK;go_wp2_with fail;refine df hK ((hS0.alloc _).drop) fun hS0=>?_;have h6:=h6.jK (OH 0 0 0 0 0 0 0) p3;generalize Array.size (World.heap _)=zz at*))
  all_goals(refine dH (c:=9) (by decide+kernel) rfl rfl ?_;intro K hK)
  all_goals(have hz:=h6.ae p3;have hzc:=hz.cells;have Hr:=hz.free;have hz2:=hz.fill [.int .i64 c,.int .i64 k,.int .i64 t,.int .u32 m,.int .u32 a,.int .u32 0,.int .u32 0] rfl;simp only[dm]at hz2;go_wp2_with fail)
  all_goals(refine df hK (hz2.s) fun hS0=>?_)
  all_goals(refine any_nil (by kernel_rfl) ?_)
  all_goals exact rest _ _ hz2
 case rest=>
  intro y w6 h6
  refine hK0 _ _ ?_
  clear hK0 h3
  have bC:=(h6.ae p2).cells
  have hp:=qI (h6.ae p1) (by omega) (by omega) (by omega)
  go_upto_region 3 with(go_at_call 158;refine bF hp ?_;intro w7 h7;have wO:=(h7.ae p1).cells;have yC:=(h7.ae p1).free)
  have h8:In w0 _ (pts y (OH c k t m a ti 0)::_):=((h7.ae p1).setCell (off:=5) (.int .u32 ti))
  refine In.abs h8 ?_
  clear hp bC wO yC h8 h6 h7
  intro w8 h80
  have h8:=h80.pr [0,0,0,0]
  clear h80
  have bC:=(h8.ae p2).cells
  have hp:=qI (h8.ae p1) (by omega) (by omega) (by omega)
  go_upto_region 4 with(go_at_call 158;refine bF hp ?_;intro w9 h9;have wO:=(h9.ae p1).cells;have yC:=(h9.ae p1).free)
  have h10:In w0 _ (pts y (OH c k t m a ti cy)::_):=((h9.ae p1).setCell (off:=6) (.int .u32 cy))
  refine In.abs h10 ?_
  clear hp bC wO yC h10 h8 h9
  intro w10 OX
  have h10:=OX.pr [0,0,0,0]
  clear OX
  have wO:=h10.cells
  have UH:=(h10.ae p3).cells
  have jb:=(h10.ae p3).free
  have h11:=(h10.ae p3).fill [.int .i64 c,.int .i64 k,.int .i64 t,.int .u32 m,.int .u32 a,.int .u32 ti,.int .u32 cy] rfl
  simp only[dm]at h11
  go_wp2_with fail
  refine In.abs h11 ?_
  clear h11 wO UH jb h10
  intro wz h11
  have hc:=h11.cells
  refine bodyPost_ret (v:= .agg #[.int .i64 c,.int .i64 k,.int .i64 t,.int .u32 m,.int .u32 a,.int .u32 ti,.int .u32 cy]) (by simp[results,results173,go_sem,hc]) rfl ?_
  exact⟨rfl,h11.s⟩
theorem aa5 {k n s i qu ak t m:Nat} (h:In w0 w (mV r (k::n::s::(le i 8++(qu::ak::t::(le m 4++bs))))::pts q (iZ r)::l)) (hk:k<256) (hn:n<256) (hs:s<256) (hi:i<18446744073709551616) (hqu:qu<256) (hak:ak<256) (ht:t<256) (hm:m<4294967296):
 aW 179 #[q] w w0 (.agg #[.int .i64 k,.int .i64 n,.int .i64 s,.int .u64 i,.int .i64 qu,.int .i64 ak,.int .i64 t,.int .u32 m]) (mV r bs::pts q (iZ r)::l):=by
 have h2:=h.alloc (Nv 0 0 0 0 0 0 0 0)
 go_enter func179,ntmps179
 go_upto_region 1 with(fail)
 refine In.abs h2 ?_
 clear h2 h
 generalize w.heap.size=z
 intro w2 h2
 have h3:=h2.pr [1,1,0]
 clear h2
 rename_i K0 hK0
 apply Yn (α:=Nat) (K:=K0) (Pre:=fun y wz=>In w0 wz (pts y (Nv k n s 0 0 0 0 0)::mV r (le i 8++(qu::ak::t::(le m 4++bs)))::pts q (iZ r)::pts z (Nv 0 0 0 0 0 0 0 0)::l))
 case main=>
  intro rest
  refine qi (fun w'=>In w0 w' [pts q (iZ r)]) ⟨[1,3,5,7,8], []⟩ (by kernel_rfl) ?_
  rintro _ rfl
  refine In.abs (h3.drew) ?_
  intro wq h3
  have hS0:=h3.ps [1]
  all_goals(first|refine jk 6 [.c 2 0,.c 2 2,.c 2 4] (by kernel_rfl) (by decide+kernel) (by kernel_rfl) ?_ |refine jk 5 [.c 2 0,.c 2 2,.c 2 4] (by kernel_rfl) (by decide+kernel) (by kernel_rfl) ?_)
  all_goals(refine uu ?_)
  all_goals(refine lu ?_)
  all_goals(first|(refine dH (c:=1) (by decide+kernel) rfl rfl ?_;intro K hK)|(refine jR (c:=1) (j:=7) (by decide+kernel) rfl rfl rfl rfl ?_ ?_;rotate_left;(intro K hK);rotate_left;(intro K hK;go_wp2_with fail;refine df hK ((hS0.alloc _).drop) fun hS0=>?_;have h3:=h3.jK (Nv 0 0 0 0 0 0 0 0) p3;generalize Array.size (World.heap _)=zz at*;refine dH (c:=1) (by decide+kernel) rfl rfl ?_;intro K hK)))
  all_goals(go_wp2_with (go_at_call 162;refine bF (iW h3 hk) ?_;intro w4 h4))
  all_goals(refine df hK (h4.s) fun hS0=>?_)
  all_goals(first|(refine dH (c:=3) (by decide+kernel) rfl rfl ?_;intro K hK)|(refine jR (c:=3) (j:=7) (by decide+kernel) rfl rfl rfl rfl ?_ ?_;rotate_left;(intro K hK);rotate_left;(intro K hK;go_wp2_with fail;refine df hK ((hS0.alloc _).drop) fun hS0=>?_;have h4:=h4.jK (Nv 0 0 0 0 0 0 0 0) p3;generalize Array.size (World.heap _)=zz at*;refine dH (c:=3) (by decide+kernel) rfl rfl ?_;intro K hK)))
  all_goals(go_wp2_with (go_at_call 162;refine bF (iW h4 hn) ?_;intro w5 h5))
  all_goals(refine df hK (h5.s) fun hS0=>?_)
  all_goals(first|(refine dH (c:=5) (by decide+kernel) rfl rfl ?_;intro K hK)|(refine jR (c:=5) (j:=7) (by decide+kernel) rfl rfl rfl rfl ?_ ?_;rotate_left;(intro K hK);rotate_left;(intro K hK;go_wp2_with fail;refine df hK ((hS0.alloc _).drop) fun hS0=>?_;have h5:=h5.jK (Nv 0 0 0 0 0 0 0 0) p3;generalize Array.size (World.heap _)=zz at*;refine dH (c:=5) (by decide+kernel) rfl rfl ?_;intro K hK)))
  all_goals(go_wp2_with (go_at_call 162;refine bF (iW h5 hs) ?_;intro w6 h6))
  all_goals(refine df hK (h6.s) fun hS0=>?_)
  all_goals(first|refine jk 2 [.c 0 6] (by kernel_rfl) (by decide+kernel) (by kernel_rfl) ?_ |refine jk 1 [.c 0 6] (by kernel_rfl) (by decide+kernel) (by kernel_rfl) ?_)
  all_goals(refine uu ?_)
  all_goals(refine lu ?_)
  all_goals(try(refine dH (c:=7) (by decide+kernel) rfl rfl ?_;intro K hK;go_wp2_with fail;refine df hK ((hS0.alloc _).drop) fun hS0=>?_;have h6:=h6.jK (Nv 0 0 0 0 0 0 0 0) p3;generalize Array.size (World.heap _)=zz at*))
  all_goals(refine dH (c:=8) (by decide+kernel) rfl rfl ?_;intro K hK)
  all_goals(have hz:=h6.ae p3;have hzc:=hz.cells;have Hr:=hz.free;have hz2:=hz.fill [.int .i64 k,.int .i64 n,.int .i64 s,.int .u64 0,.int .i64 0,.int .i64 0,.int .i64 0,.int .u32 0] rfl;simp only[dm]at hz2;go_wp2_with fail)
  all_goals(refine df hK (hz2.s) fun hS0=>?_)
  all_goals(refine any_nil (by kernel_rfl) ?_)
  all_goals exact rest _ _ hz2
 case rest=>
  intro y w6 h6
  refine hK0 _ _ ?_
  clear hK0 h3
  have bC:=(h6.ae p2).cells
  have hp:=qI (h6.ae p1) (by omega) (by omega) (by omega)
  go_upto_region 3 with(go_at_call 158;refine bF hp ?_;intro w7 h7;have wO:=(h7.ae p1).cells;have yC:=(h7.ae p1).free)
  have h8:In w0 _ (pts y (Nv k n s i 0 0 0 0)::_):=((h7.ae p1).setCell (off:=3) (.int .u64 i))
  refine In.abs h8 ?_
  clear hp bC wO yC h8 h6 h7
  intro w8 h80
  have h8:=h80.pr [0,0,0,0]
  clear h80
  have bC:=(h8.ae p2).cells
  have hp:=iW (h8.ae p1) hqu
  go_upto_region 4 with(go_at_call 162;refine bF hp ?_;intro w9 h9;have wO:=(h9.ae p1).cells;have yC:=(h9.ae p1).free)
  have h10:In w0 _ (pts y (Nv k n s i qu 0 0 0)::_):=((h9.ae p1).setCell (off:=4) (.int .i64 qu))
  refine In.abs h10 ?_
  clear hp bC wO yC h10 h8 h9
  intro w10 OX
  have h10:=OX.pr [0,0,0,0]
  clear OX
  have bC:=(h10.ae p2).cells
  have hp:=Jj (h10.ae p1) hak ht hm
  go_upto_region 5 with(go_at_call 174;refine bF hp ?_;intro w11 h11;have wO:=(h11.ae p1).cells;have yC:=(h11.ae p1).free)
  have h12:In w0 _ (pts y (Nv k n s i qu ak t m)::_):=((((h11.ae p1).setCell (off:=5) (.int .i64 ak)).setCell (off:=6) (.int .i64 t)).setCell (off:=7) (.int .u32 m))
  refine In.abs h12 ?_
  clear hp bC wO yC h12 h10 h11
  intro w12 X5
  have h12:=X5.pr [0,0,0,0]
  clear X5
  have wO:=h12.cells
  have UH:=(h12.ae p3).cells
  have jb:=(h12.ae p3).free
  have h13:=(h12.ae p3).fill [.int .i64 k,.int .i64 n,.int .i64 s,.int .u64 i,.int .i64 qu,.int .i64 ak,.int .i64 t,.int .u32 m] rfl
  simp only[dm]at h13
  go_wp2_with fail
  refine In.abs h13 ?_
  clear h13 wO UH jb h12
  intro wz h13
  have hc:=h13.cells
  refine bodyPost_ret (v:= .agg #[.int .i64 k,.int .i64 n,.int .i64 s,.int .u64 i,.int .i64 qu,.int .i64 ak,.int .i64 t,.int .u32 m]) (by simp[results,results179,go_sem,hc]) rfl ?_
  exact⟨rfl,h13.s⟩
theorem Yu {p g li m it au:Nat} {own:List Nat} {full:Bool} (h:In w0 w (mV r (p::g::mQ full::li::(le m 4++(it::own.length::(own++(le au 1++bs)))))::l)) (hp0:p<256) (hg:g<256) (hli:li<256) (hm:m<4294967296) (hit:it<256) (hown:∀x∈own,x<256) (hol:own.length<256) (UI:au<256):
 Calls prog 164 #[.agg #[r]] w fun e w'=>∃u,e= .returned (.agg #[.int .i64 p,.int .i64 g,.bool full,.int .i64 li,.int .u32 m,.int .i64 ((it:Int)-1),u,.int .u32 au])∧In w0 w' (Row 3 1 u own.length (uh own)::mV r bs::l):=by
 have hfl:mQ full<256:=by cases full<;>decide
 have hcv1:=wrap32 (x:=au) (by omega)
 have hcv2:=wrap32 hm
 have h2:=h.alloc2 (iZ r) (JZ 0 0 false 0 0 0 0)
 go_enter func164,ntmps164
 go_upto_region 1 with(fail)
 refine In.abs h2 ?_
 clear h2 h
 generalize w.heap.size=z
 intro w2 h2
 have h3:=h2.pr [2,1,0]
 clear h2
 rename_i K0 hK0
 apply Yn (α:=Nat) (K:=K0) (Pre:=fun y wz=>In w0 wz (pts y (JZ p g false 0 0 0 0)::mV r (mQ full::li::(le m 4++(it::own.length::(own++(le au 1++bs)))))::pts z (iZ r)::pts (z+1) (JZ 0 0 false 0 0 0 0)::l))
 case main=>
  intro rest
  refine qi (fun w'=>In w0 w' [pts z (iZ r)]) ⟨[1,3,5,6], []⟩ (by kernel_rfl) ?_
  rintro _ rfl
  refine In.abs (h3.drew) ?_
  intro wq h3
  have hS0:=h3.ps [1]
  all_goals(first|refine jk 5 [.c 2 0,.c 2 2] (by kernel_rfl) (by decide+kernel) (by kernel_rfl) ?_ |refine jk 4 [.c 2 0,.c 2 2] (by kernel_rfl) (by decide+kernel) (by kernel_rfl) ?_)
  all_goals(refine uu ?_)
  all_goals(refine lu ?_)
  all_goals(first|(refine dH (c:=1) (by decide+kernel) rfl rfl ?_;intro K hK)|(refine jR (c:=1) (j:=5) (by decide+kernel) rfl rfl rfl rfl ?_ ?_;rotate_left;(intro K hK);rotate_left;(intro K hK;go_wp2_with fail;refine df hK ((hS0.alloc _).drop) fun hS0=>?_;have h3:=h3.jK (JZ 0 0 false 0 0 0 0) p3;generalize Array.size (World.heap _)=zz at*;refine dH (c:=1) (by decide+kernel) rfl rfl ?_;intro K hK)))
  all_goals(go_wp2_with (go_at_call 162;refine bF (iW h3 hp0) ?_;intro w4 h4))
  all_goals(refine df hK (h4.s) fun hS0=>?_)
  all_goals(first|(refine dH (c:=3) (by decide+kernel) rfl rfl ?_;intro K hK)|(refine jR (c:=3) (j:=5) (by decide+kernel) rfl rfl rfl rfl ?_ ?_;rotate_left;(intro K hK);rotate_left;(intro K hK;go_wp2_with fail;refine df hK ((hS0.alloc _).drop) fun hS0=>?_;have h4:=h4.jK (JZ 0 0 false 0 0 0 0) p3;generalize Array.size (World.heap _)=zz at*;refine dH (c:=3) (by decide+kernel) rfl rfl ?_;intro K hK)))
  all_goals(go_wp2_with (go_at_call 162;refine bF (iW h4 hg) ?_;intro w5 h5))
  all_goals(refine df hK (h5.s) fun hS0=>?_)
  all_goals(first|refine jk 2 [.c 0 4] (by kernel_rfl) (by decide+kernel) (by kernel_rfl) ?_ |refine jk 1 [.c 0 4] (by kernel_rfl) (by decide+kernel) (by kernel_rfl) ?_)
  all_goals(refine uu ?_)
  all_goals(refine lu ?_)
  all_goals(try(refine dH (c:=5) (by decide+kernel) rfl rfl ?_;intro K hK;go_wp2_with fail;refine df hK ((hS0.alloc _).drop) fun hS0=>?_;have h5:=h5.jK (JZ 0 0 false 0 0 0 0) p3;generalize Array.size (World.heap _)=zz at*))
  all_goals(refine dH (c:=6) (by decide+kernel) rfl rfl ?_;intro K hK)
  all_goals(have hz:=h5.ae p3;have hzc:=hz.cells;have Hr:=hz.free;have hz2:=hz.fill [.int .i64 p,.int .i64 g,.bool false,.int .i64 0,.int .u32 0,.int .i64 0,.slice none 0 0,.int .u32 0] rfl;simp only[dm]at hz2;go_wp2_with fail)
  all_goals(refine df hK (hz2.s) fun hS0=>?_)
  all_goals(refine any_nil (by kernel_rfl) ?_)
  all_goals exact rest _ _ hz2
 case rest=>
  intro y w6 h6
  refine hK0 _ _ ?_
  clear hK0 h3
  have bC:=(h6.ae p2).cells
  have hp:=iW (h6.ae p1) hfl
  go_upto_region 3 with(go_at_call 162;refine bF hp ?_;intro w7 h7;have wO:=(h7.ae p1).cells;have yC:=(h7.ae p1).free)
  have h8:=h7.ae p1
  clear hp bC wO yC h6 h7
  have bC:=(h8.ae p2).cells
  have hp:=iW (h8.ae p1) hli
  go_upto_region 4 with(go_at_call 162;refine bF hp ?_;intro w9 h9;have wO:=(h9.ae p1).cells;have yC:=(h9.ae p1).free)
  have h10:In w0 _ (pts y (JZ p g false li 0 0 0)::_):=((h9.ae p1).setCell (off:=3) (.int .i64 li))
  refine In.abs h10 ?_
  clear hp bC wO yC h10 h8 h9
  intro w10 OX
  have h10:=OX.pr [0,0,0,0]
  clear OX
  have bC:=(h10.ae p2).cells
  have hp:=qI (h10.ae p1) (by omega) (by omega) (by omega)
  go_upto_region 5 with(go_at_call 158;refine bF hp ?_;intro w11 h11;have wO:=(h11.ae p1).cells;have yC:=(h11.ae p1).free)
  have h12:In w0 _ (pts y (JZ p g false li m 0 0)::_):=((h11.ae p1).setCell (off:=4) (.int .u32 m))
  refine In.abs h12 ?_
  clear hp bC wO yC h12 h10 h11
  intro w12 X5
  have h12:=X5.pr [0,0,0,0]
  clear X5
  have bC:=(h12.ae p2).cells
  have hp:=iW (h12.ae p1) hit
  go_upto_region 6 with(go_at_call 162;refine bF hp ?_;intro w13 h13;have wO:=(h13.ae p1).cells;have yC:=(h13.ae p1).free)
  have lM:In w0 _ (pts y (JZ p g false li m ((it:Int)-1) 0)::_):=((h13.ae p1).setCell (off:=5) (.int .i64 ((it:Int)-1)))
  refine In.abs lM ?_
  clear hp bC wO yC lM h12 h13
  intro w14 ads
  have lM:=ads.pr [0,0,0,0]
  clear ads
  have bC:=(lM.ae p2).cells
  have hp:=QT (lM.ae p1) hown hol
  go_upto_region 7 with(go_at_call 177;refine Calls.mono hp ?_;rintro _ w15 ⟨u,rfl,h15⟩;obtain⟨ao,co,rfl⟩:=h15.aG;have wO:=(h15.ae p2).cells;have yC:=(h15.ae p2).free)
  have h16:In w0 _ (pts y (BB p g false li m ((it:Int)-1) (.slice ao own.length co) 0)::_):=((h15.ae p2).setCell (off:=6) (.slice ao own.length co))
  refine In.abs h16 ?_
  clear hp bC wO yC h16 lM h15
  intro w16 adt
  have h16:=adt.pr [0,1,1,1,0]
  clear adt
  have bC:=(h16.ae p2).cells
  have hp:=qI (h16.ae p1) (by omega) (by omega) (by omega)
  go_upto_region 8 with(go_at_call 158;refine bF hp ?_;intro w17 h17;have wO:=(h17.ae p1).cells;have yC:=(h17.ae p1).free)
  have h18:In w0 _ (pts y (BB p g false li m ((it:Int)-1) (.slice ao own.length co) au)::_):=((h17.ae p1).setCell (off:=7) (.int .u32 au))
  refine In.abs h18 ?_
  clear hp bC wO yC h18 h16 h17
  intro w18 adu
  have h18:=adu.pr [0,0,0,0,0]
  clear adu
  have bC:=(h18.ae p2).cells
  have hp:=fun w=>Rh (b:=full) w
  have wO:=h18.cells;have yC:=h18.free
  go_upto_region 9 with(go_at_call 169;refine bW (hp _) ?_)
  have h20:In w0 _ (pts y (BB p g full li m ((it:Int)-1) (.slice ao own.length co) au)::_):=(h18.setCell (off:=2) (.bool full))
  refine In.abs h20 ?_
  clear hp bC wO yC h20 h18
  intro w20 adv
  have h20:=adv.pr [0,0,0,0,0]
  clear adv
  have wO:=h20.cells
  have UH:=(h20.ae p3).cells
  have jb:=(h20.ae p3).free
  have h21:=(h20.ae p3).fill [.int .i64 p,.int .i64 g,.bool full,.int .i64 li,.int .u32 m,.int .i64 ((it:Int)-1),.slice ao own.length co,.int .u32 au] rfl
  simp only[dm]at h21
  go_wp2_with fail
  refine In.abs h21 ?_
  clear h21 wO UH jb h20
  intro wz h21
  have hc:=h21.cells
  refine bodyPost_ret (v:= .agg #[.int .i64 p,.int .i64 g,.bool full,.int .i64 li,.int .u32 m,.int .i64 ((it:Int)-1),.slice ao own.length co,.int .u32 au]) (by simp[results,results164,go_sem,hc]) rfl ?_
  exact⟨.slice ao own.length co,rfl,h21.s⟩
end
end Go.Proofs.YtajgpcnlehinbaaGreat
