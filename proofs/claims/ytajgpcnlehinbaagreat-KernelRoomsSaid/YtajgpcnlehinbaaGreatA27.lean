/- Part of a proof. -/
import Derived.Recover
import Derived.Test.YtajgpcnlehinbaaGreatA25
import Derived.Test.YtajgpcnlehinbaaGreatA26
namespace Go.Proofs.YtajgpcnlehinbaaGreat
open Tryz Go.RowKit
set_option maxRecDepth 100000
set_option maxHeartbeats 60000000
set_option linter.all false
section
variable {w0 w:World} {l:List SL} {r q:Nat} {bs:List Nat} {B:List (Nat × Obj)}
theorem YM (a b:Nat) (w:World):CallsD prog 156 #[a,b] .returning w fun e u' w'=>u'= .returning∧e= .returned (.tuple #[])∧w=w':=by
 refine callsD_of_wpS func156 rfl fun c₀ cs hu=>?_
 apply wpS_seq
 apply wpS_region
 simp[wpOpsS,go_sem,recoverD,hu,ntmps156,Exit.thenS]
 apply wpS_seq
 apply wpS_region
 simp[wpOpsS,go_sem,Exit.thenS,Array.replicate]
 refine wpS_cond (t:=false) (by simp[Act.eval,Array.replicate]) ?_
 simp only[Bool.false_eq_true,if_false]
 refine wpS_of_wp (wp_skip ?_)
 cases c₀
 simp_all [bodyPostS,results,results156]
def QH:List Value:=[.int .i64 0,.int .i64 0,.slice none 0 0,.slice none 0 0,.slice none 0 0,.slice none 0 0,.slice none 0 0,.slice none 0 0,.slice none 0 0,.int .i64 0,.int .i64 0,.int .i64 0,.int .i64 0]
variable {T:ah} {tl:List (dn × Value)} {il:List (kG × Value)} {v:Value} {B0:List (Nat × Obj)}
theorem dQ.piece {g o cap n a k:Nat} {xs:List Nat} (hu:dQ B (.slice (some ⟨g,o,none⟩) n cap) n (bytesV xs)) (hn:n=xs.length) (hk:a+k≤xs.length) {c:Nat} (hc:k≤c):
 dQ B (.slice (some ⟨g,o+a,none⟩) k c) ((xs.drop a).take k).length (bytesV ((xs.drop a).take k)):=by
 have hl:((xs.drop a).take k).length=k:=by rw[List.length_take,List.length_drop];omega
 obtain⟨hm,⟨_,e,_⟩|⟨g',o',cap',cells,T',fr,e,hc',hmem,hrd⟩⟩:=hu
 ·obtain rfl:k=0:=by omega
  exact⟨by rw[hl];exact Nat.zero_le _,.inl ⟨.inr ⟨_,_,rfl⟩,hl,List.eq_nil_of_length_eq_zero (by rw[jq,hl])⟩⟩
 ·cases e
  subst hn
  refine⟨by rw[hl];omega,.inr ⟨g,o+a,c,cells,T',fr,by rw[hl],by rw[hl];exact hc,hmem,fun j u hj=>?_⟩⟩
  rw[Nat.add_assoc]
  refine hrd (a+j) u ?_
  have hj2:=(List.getElem?_eq_some_iff.1 hj).1
  rw[jq,hl]at hj2
  unfold bytesV at hj⊢
  rw[List.map_take,List.getElem?_take_of_lt hj2,List.map_drop,List.getElem?_drop]at hj
  exact hj
def xU (T:ah) (n:Nat):List Nat:=le (30+n) 4++(puts (fQ T) 2++ik (qc T))
theorem vZ (T:ah) (n:Nat):(xU T n).length=24:=by
 unfold xU
 simp[eP,lH,fQ,qc,iF]
theorem JR:iG T tl il=[84,80,84,49]++(xU T (dN T tl il).length++(dN T tl il++le (zt (lF T tl il)).toNat 2)):=by
 unfold iG lF qJ xU
 simp[puts]
theorem Qp:((iG T tl il).drop 4).take 24=xU T (dN T tl il).length:=by
 rw[JR,List.drop_left' (by rfl),List.take_left' (vZ _ _)]
theorem Pv:((iG T tl il).drop 28).take (dN T tl il).length=dN T tl il:=by
 rw[JR,←List.append_assoc,List.drop_left' (by rw[List.length_append,vZ];rfl),List.take_left' rfl]
theorem PR:((iG T tl il).drop (28+(dN T tl il).length)).take 2=le (zt (lF T tl il)).toNat 2:=by
 rw[JR,←List.append_assoc,←List.append_assoc,List.drop_left' (by rw[List.length_append,List.length_append,vZ];rfl)]
 exact List.take_of_length_le (by rw[iF];exact Nat.le_refl _)
theorem IZ (h:In w0 w (bJ B::l)) (hu:dQ B v (iG T tl il).length (bytesV (iG T tl il))) (hs:Small B0 T tl il) (htl:tl.map (·.1)=T.ay) (hil:il.map (·.1)=T.bf)
 (h6:∀y∈qc T,0≤y∧y≤255) (hbl:∀y∈dN T tl il,y<256) (hcn:∀y∈fQ T,y<65536) (hT:T.check=true) (hnt:∀k∈T.ay,x8 k) (hni:∀k∈T.bf,Bh k):
 Calls prog 65 #[v] w fun e w'=>∃u C x2,e= .returned (.tuple #[u,.int .i64 0])∧rF C u T x2∧In w0 w' (bJ C::bJ B::l):=by
 have adA:=AL hs
 have hhl:=OO T (dN T tl il).length
 have hfr:lF T tl il=qJ T (dN T tl il).length++dN T tl il:=rfl
 have hfl:(lF T tl il).length=28+(dN T tl il).length:=by rw[hfr,List.length_append,hhl]
 have hN:(iG T tl il).length=30+(dN T tl il).length:=by unfold iG;rw[List.length_append,hfl,eP,List.length_singleton];omega
 obtain⟨g,o,cap,rfl,hcap,hrd⟩:=hu.cells h (by omega)
 have hmag:∀(j:Nat) (hj:j<4),(bytesV (iG T tl il))[j]? =some (.int .u8 (([84,80,84,49]:List UInt8)[j].toNat:Int)):=by
  intro j hj
  rw[JR,pW,List.getElem?_append_left (by rw[jq];exact hj)]
  match j,hj with
  |0,_=>rfl
  |1,_=>rfl
  |2,_=>rfl
  |3,_=>rfl
 have hu0:=hu
 have aeU:∀(j:Nat) (c:Value),(bytesV (lF T tl il))[j]? =some c→(bytesV (iG T tl il))[j]? =some c:=by
  intro j c hc
  unfold iG
  rw[pW,List.getElem?_append_left (List.getElem?_eq_some_iff.1 hc).1]
  exact hc
 have hp1:=dQ.piece (a:=4) (k:=24) (c:=cap-4) (n:=(iG T tl il).length) hu rfl (by omega) (by omega)
 have hp2:=dQ.piece (a:=28) (k:=(dN T tl il).length) (c:=cap-28) (n:=(iG T tl il).length) hu rfl (by omega) (by omega)
 have hp3:=dQ.piece (a:=28+(dN T tl il).length) (k:=2) (c:=cap-(28+(dN T tl il).length)) (n:=(iG T tl il).length) hu rfl (by omega) (by omega)
 rw[Qp]at hp1
 rw[Pv]at hp2
 rw[PR]at hp3
 have aeV:∀ {w':World} {l':List SL},In w0 w' (bJ B::l')→∀(j:Nat) (c:Value),(bytesV (lF T tl il))[j]? =some c→w'.cell? ⟨g,o+j,none⟩=some c:=by
  intro w' l' h' j c hc
  obtain⟨g2,o2,cap2,e,_,acA⟩:=hu.cells h' (by omega)
  cases e
  exact acA j c (aeU j c hc)
 have acz:∀y∈lF T tl il,y<256:=fun y hy=>(List.mem_append.1 hy).elim (FB h6 y) (hbl y)
 have hrl:=vZ T (dN T tl il).length
 have hre:xU T (dN T tl il).length=le (30+(dN T tl il).length) 4++(puts (fQ T) 2++ik (qc T)):=rfl
 have af9:=Rk (lF T tl il)
 have h1:=h.alloc2 (.cells QH.toArray 30) (.cells #[.int .i64 0] 32)
 have hmf:∀(fn:Fn) (first cap:Array Value) (w:World),(Instr.makeFunc fn first cap).run prog w= .ok (.func fn first cap) w:=fun _ _ _ _=>rfl
 rw[hN]at hcap⊢
 clear hu hrd hfr
 have hN0:0<(iG T tl il).length:=by omega
 generalize hib:iG T tl il=ib at*
 generalize lF T tl il=ff at*
 generalize hcc:zt ff=cc at*
 obtain⟨cr,rfl⟩:∃cr:Nat,cc=cr:=⟨cc.toNat,by omega⟩
 rw[Int.toNat_natCast]at hp3
 generalize hbb:dN T tl il=bb at*
 generalize hih:xU T bb.length=ih at*
 go_enter_defers func65,ntmps65
 go_upto_region 1 with(fail)
 refine In.abs h1 ?_
 generalize w.heap.size=z
 intro w2 h2
 have aeW:(convert 95 9 (.slice (some ⟨g,o,none⟩) 4 cap)).run prog w2= .ok (.string ⟨#[84,80,84,49]⟩) w2:=by
  refine run_convert_bytes_back (P:=prog) w2 95 9 5 ⟨g,o,none⟩ cap [84,80,84,49] underlying95 underlying5 underlying9 ?_
  intro j hj
  obtain⟨g2,o2,cap2,e,_,acA⟩:=hu0.cells (h2.ae p2) (by omega)
  cases e
  rw[addr_add']
  exact acA j _ (hmag j hj)
 clear h1 h hmag hu0
 have hcmp:(binOp .neq 9 (.string ⟨#[84,80,84,49]⟩) (.string ⟨#[84,80,84,49]⟩)).run prog w2= .ok (.bool false) w2:=by kernel_rfl
 have hc0:¬cap=0:=by omega
 have hc4:¬cap=4:=by omega
 have h3:=h2.pr [2,1,0]
 clear h2
 have hnr:=yw h3 hp1 (by omega)
 go_upto_region 7 with(go_at_call 157;refine Calls.mono hnr ?_;rintro _ w4 ⟨r1,rfl,h4⟩)
 clear aeW hcmp hnr h3
 have h5:=h4.alloc (iZ r1)
 refine In.abs h5 ?_
 clear h5 h4
 generalize w4.heap.size=q1
 intro w5 h5
 have O1:=h5.pr [1,0,0,0,0]
 clear h5
 rw[hre]at O1
 have bC:=(O1.ae p1).cells
 have hg4:=qI O1 (by omega) (by omega) (by omega)
 have hcv:IntKind.u64.wrap (30+(bb.length:Int))=30+(bb.length:Int):=by unfold IntKind.wrap;simp[IntKind.signed,IntKind.bits];omega
 go_upto_region 10 with(go_at_call 158;refine bF hg4 ?_;intro w6 h7)
 clear hg4 bC hre
 have he:(30+(bb.length:Int)-2).toNat=28+bb.length:=by omega
 have he2:30+bb.length-(28+bb.length)=2:=by omega
 have hc28:¬cap=28+bb.length:=by omega
 have h8:=h7.pr [2,0,0,0,0]
 have hap:le cr 2++ []=le cr 2:=List.append_nil _
 have hnr:=yw h8 hp3 (by rw[iF];omega)
 go_upto_region 11 with(fail)
 refine Calls.mono hnr ?_
 rintro _ w7 ⟨r2,rfl,h9⟩
 rw[←hap]at h9
 have hnu:=yV h9 (by omega) (by omega) (by omega)
 go_upto_region 11 with(go_at_call 159;refine bF hnu ?_;intro w8 h11)
 clear hnu h9
 clear hnr h8 h7 O1 hcv he he2 hc28 hap
 have h12:=h11.pr [1,1,1,1,1] 1
 have hcr2:=Xi (g:=g) (o:=o) (cap:=cap) h12 acz (by omega) (fun{w'} {l'} h'=>aeV h')
 rw[hcc,hfl]at hcr2
 have hcv:IntKind.u64.wrap (cr:Int)=(cr:Int):=by unfold IntKind.wrap;simp[IntKind.signed,IntKind.bits];omega
 have he:(30+(bb.length:Int)-2).toNat=28+bb.length:=by omega
 go_upto_region 13 with(go_at_call 75;refine bF hcr2 ?_;intro w9 h13)
 clear hcr2 hcv he h12 h11
 have acB:=h13.pr [1,1,0,0,0]
 have hcl:(fQ T).length=7:=rfl
 have htc:=Sj acB hcn (by rw[hcl];decide)
 rw[hcl]at htc
 clear hcl
 have bC:=(acB.ae p1).cells
 go_upto_region 14 with(go_at_call 160;refine Calls.mono htc ?_;rintro _ w10 ⟨un,rfl,lM⟩)
 clear htc h13 acB bC
 rcases lM.aU with⟨_,e,_⟩|⟨gn,cn,extn,e,_⟩
 ·omega
 subst e
 have aam:∃n0 n1 n2 n3 n4 n5:Nat,(T.uses=n0∧T.modes=n1∧T.depth=n2∧T.frames=n3∧T.errors=n4∧T.dU=n5)∧ik (qc T)=[n0,n1,n2,n3,n4,n5]∧n0<256∧n1<256∧n2<256∧n3<256∧n4<256∧n5<256:=by
  have g0:=h6 T.uses (by simp[qc])
  have g1:=h6 T.modes (by simp[qc])
  have g2:=h6 T.depth (by simp[qc])
  have g3:=h6 T.frames (by simp[qc])
  have g4:=h6 T.errors (by simp[qc])
  have g5:=h6 T.dU (by simp[qc])
  exact⟨T.uses.toNat,T.modes.toNat,T.depth.toNat,T.frames.toNat,T.errors.toNat,T.dU.toNat,⟨by omega,by omega,by omega,by omega,by omega,by omega⟩,rfl,by omega,by omega,by omega,by omega,by omega,by omega⟩
 obtain⟨n0,n1,n2,n3,n4,n5,hE,hos,b0,b1,b2,b3,b4,b5⟩:=aam
 rw[hos]at lM
 have h15:=lM.pr [1,1,2,2,0,0]
 clear lM hos
 have bC:=(h15.ae p1).cells
 have hS0:=(h15.drew).ps [1]
 refine nK hS0 ⟨[1,3,5,7,9],[11,13,15,17,19,21,23]⟩ [.c 1 0,.c 2 2,.c 2 4,.c 2 6,.c 2 8,.c 2 10,.e 1,.c 0 12,.e 3,.e 5,.e 7,.e 9,.e 11,.e 13,.c 0 14,.e 15,.c 0 16,.e 17,.c 0 18,.e 19,.c 0 20,.e 21,.c 0 22,.e 23] ?_
 refine nD ?_;intro K hK
 go_wp2_with (go_at_call 162;refine(iW h15.drew b0).mono ?_;rintro _ v1 ⟨rfl,k1⟩)
 go_wp2_with fail
 refine df hK ((k1).s) fun hS0=>?_
 refine nD ?_;intro K hK
 go_wp2_with (go_at_call 162;refine(iW k1 b1).mono ?_;rintro _ v2 ⟨rfl,k2⟩)
 go_wp2_with fail
 refine df hK ((k2).s) fun hS0=>?_
 refine gz rfl rfl fun K hK=>?_
 go_wp2_with (go_at_call 162;refine(iW k2 b2).mono ?_;rintro _ v3 ⟨rfl,k3⟩)
 go_wp2_with fail
 refine df hK ((k3).s) fun hS0=>?_
 refine gz rfl rfl fun K hK=>?_
 go_wp2_with (go_at_call 162;refine(iW k3 b3).mono ?_;rintro _ v4 ⟨rfl,k4⟩)
 go_wp2_with fail
 refine df hK ((k4).s) fun hS0=>?_
 refine gz rfl rfl fun K hK=>?_
 go_wp2_with (go_at_call 162;refine(iW k4 b4).mono ?_;rintro _ v5 ⟨rfl,k5⟩)
 go_wp2_with fail
 refine df hK ((k5).s) fun hS0=>?_
 refine bG rfl rfl fun K hK=>?_
 go_wp2_with (go_at_call 162;refine(iW k5 b5).mono ?_;rintro _ v6 ⟨rfl,k6⟩)
 clear bC
 have hzc:=(k6.ae p2).cells
 have Hr:=(k6.ae p2).free
 simp only[QH]at hzc
 go_wp2_with fail
 refine bG rfl rfl fun K hK=>?_
 go_wp2_with fail
 refine uw ?_;intro K hK
 go_wp2_with fail
 refine uw ?_;intro K hK
 go_wp2_with fail
 refine uw ?_;intro K hK
 go_wp2_with fail
 refine uw ?_;intro K hK
 go_wp2_with fail
 refine uw ?_;intro K hK
 go_wp2_with fail
 try refine aS ?_
 go_upto_region 15 with(fail)
 have h22:In w0 _ (pts z (RY n0 n1 n2 n3 n4 n5)::_):=((((((k6.ae p2).setCell (off:=0) (.int .i64 n0)).setCell (off:=1) (.int .i64 n1)).setCell (off:=9) (.int .i64 n2)).setCell (off:=10) (.int .i64 n3)).setCell (off:=11) (.int .i64 n4)).setCell (off:=12) (.int .i64 n5)
 refine In.abs h22 ?_
 clear h22 k6 hzc Hr
 intro w22 h22
 rcases(h22.ae p4).aU with⟨_,e,_⟩|⟨gn2,cn2,extn,e,_,_,_,UB⟩
 ·omega
 cases e
 have ecn:uh (fQ T)++extn= .int .i64 (T.ay.length:Nat):: .int .i64 (T.rings.length:Nat):: .int .i64 (T.bP.length:Nat):: .int .i64 (T.bi.length:Nat):: .int .i64 (T.ag.length:Nat):: .int .i64 (T.bf.length:Nat):: .int .i64 (T.cZ.length:Nat)::extn:=rfl
 rw[ecn]at UB
 clear ecn
 have h23:=UB.pr [5,1,0,2] 2
 clear UB h22
 have he:(30+(bb.length:Int)-2).toNat=28+bb.length:=by omega
 have hc28:¬cap=28:=by omega
 have hnr:=yw h23 hp2 (by omega)
 go_upto_region 16 with(go_at_call 157;refine Calls.mono hnr ?_;rintro _ w24 ⟨r3,rfl,Uz⟩)
 clear hnr h23 he hc28 hp2
 have UA:=Uz.alloc (iZ r3)
 refine In.abs UA ?_
 clear UA Uz
 generalize w24.heap.size=q2
 intro w25 UA
 have hbody:bb=(T.ay.map uZ).flatten++((T.rings.map ja).flatten++((T.bP.map jU).flatten++((T.bi.map jF).flatten++((T.ag.map gW).flatten++((T.bf.map x9).flatten++((T.cZ.map jV).flatten++ [])))))):=by
  rw[←hbb]
  unfold dN
  rw[←htl,←hil,List.map_map,List.map_map,List.append_nil]
  simp only[List.append_assoc]
  rfl
 rw[hbody]at UA
 have s0:=UA.pr [1,0,1,1,0,0]
 clear UA hbody
 have hfew:=hs.few
 have H5:tl.length=T.ay.length:=by rw[←htl,List.length_map]
 have II:il.length=T.bf.length:=by rw[←hil,List.length_map]
 rw[H5,II]at hfew
 clear H5 II
 obtain⟨f1,f2,f3,f4,f5,f6,f7⟩:=hfew
 have tk0:=fun{w':World} (h:In w0 w' (mV r3 ((T.ay.map uZ).flatten++((T.rings.map ja).flatten++((T.bP.map jU).flatten++((T.bi.map jF).flatten++((T.ag.map gW).flatten++((T.bf.map x9).flatten++((T.cZ.map jV).flatten++ [])))))))::pts q2 (iZ r3)::pts z (RY n0 n1 n2 n3 n4 n5)::pts gn (.cells (.int .i64 (T.ay.length:Nat):: .int .i64 (T.rings.length:Nat):: .int .i64 (T.bP.length:Nat):: .int .i64 (T.bi.length:Nat):: .int .i64 (T.ag.length:Nat):: .int .i64 (T.bf.length:Nat):: .int .i64 (T.cZ.length:Nat)::extn).toArray 3)::bJ B::pts (z+1) (.cells #[.int .i64 0] 32)::l))=>ZE h hnt f1
 have bC:=(s0.ae p1).cells
 have yC:w25.cell? ⟨gn,0,none⟩=some (.int .i64 (T.ay.length:Nat)):=by rw[(s0.ae p3).cells];rfl
 have hS0:=(s0.drew).ps [1,2]
 refine nK hS0 ⟨[],[5,7]⟩ [.c 0 0,.c 0 1,.c 1 2,.c 1 3,.c 0 4,.e 5,.c 0 6,.e 7] ?_
 refine uw ?_;intro K hK
 go_wp2_with (go_at_call 163;refine Calls.mono (tk0 s0.drew) ?_;rintro _ w26 ⟨u,rfl,C1,tl2,ht1,ht2,s1a⟩;obtain⟨a0,c0,rfl⟩:=s1a.aG)
 clear bC yC tk0
 have hzc:=(s1a.ae p4).cells
 have Hr:=(s1a.ae p4).free
 go_wp2_with fail
 refine uw ?_;intro K hK
 go_wp2_with fail
 try refine aS ?_
 go_upto_region 17 with(fail)
 have s1b:In w0 _ (pts z (.cells #[.int .i64 n0,.int .i64 n1,(.slice a0 T.ay.length c0),.slice none 0 0,.slice none 0 0,.slice none 0 0,.slice none 0 0,.slice none 0 0,.slice none 0 0,.int .i64 n2,.int .i64 n3,.int .i64 n4,.int .i64 n5] 30)::_):=(s1a.ae p4).setCell (off:=2) (.slice a0 T.ay.length c0)
 refine In.abs s1b ?_
 clear s1b s1a s0 hzc Hr
 intro w27 s1b
 have s1:=s1b.pr [3,3,0,2,0,0,0,0]
 clear s1b
 have bC:=(s1.ae p1).cells
 have yC:w27.cell? ⟨gn,1,none⟩=some (.int .i64 (T.rings.length:Nat)):=by rw[(s1.ae p3).cells];rfl
 have tk1:=ZY s1 (fun x hx=>(hs.ring x hx).1) (by omega)
 go_upto_region 18 with(go_at_call 165;refine Calls.mono tk1 ?_;rintro _ w41 ⟨u,rfl,s2a⟩;obtain⟨a1,c1,rfl⟩:=s2a.aG;have hzc:=(s2a.ae p3).cells;have Hr:=(s2a.ae p3).free)
 have s2b:In w0 _ (pts z (.cells #[.int .i64 n0,.int .i64 n1,(.slice a0 T.ay.length c0),(.slice a1 T.rings.length c1),.slice none 0 0,.slice none 0 0,.slice none 0 0,.slice none 0 0,.slice none 0 0,.int .i64 n2,.int .i64 n3,.int .i64 n4,.int .i64 n5] 30)::_):=(s2a.ae p3).setCell (off:=3) (.slice a1 T.rings.length c1)
 refine In.abs s2b ?_
 clear s2b s2a s1 bC yC tk1
 intro w51 s2b
 have s2:=s2b.pr [2,2,0,1,1,1,0,0,0]
 clear s2b
 have bC:=(s2.ae p1).cells
 have yC:w51.cell? ⟨gn,2,none⟩=some (.int .i64 (T.bP.length:Nat)):=by rw[(s2.ae p3).cells];rfl
 have tk2:=abp s2 (fun x hx=>(hs.res x hx).1) (by omega)
 go_upto_region 19 with(go_at_call 167;refine Calls.mono tk2 ?_;rintro _ w42 ⟨u,rfl,s3a⟩;obtain⟨a2,c2,rfl⟩:=s3a.aG;have hzc:=(s3a.ae p3).cells;have Hr:=(s3a.ae p3).free)
 have s3b:In w0 _ (pts z (.cells #[.int .i64 n0,.int .i64 n1,(.slice a0 T.ay.length c0),(.slice a1 T.rings.length c1),(.slice a2 T.bP.length c2),.slice none 0 0,.slice none 0 0,.slice none 0 0,.slice none 0 0,.int .i64 n2,.int .i64 n3,.int .i64 n4,.int .i64 n5] 30)::_):=(s3a.ae p3).setCell (off:=4) (.slice a2 T.bP.length c2)
 refine In.abs s3b ?_
 clear s3b s3a s2 bC yC tk2
 intro w52 s3b
 have s3:=s3b.pr [2,2,0,1,1,1,1,0,0,0]
 clear s3b
 have bC:=(s3.ae p1).cells
 have yC:w52.cell? ⟨gn,3,none⟩=some (.int .i64 (T.bi.length:Nat)):=by rw[(s3.ae p3).cells];rfl
 have tk3:=ach s3 (fun x hx=>(hs.oZ x hx).1) (by omega)
 go_upto_region 20 with(go_at_call 170;refine Calls.mono tk3 ?_;rintro _ w43 ⟨u,rfl,s4a⟩;obtain⟨a3,c3,rfl⟩:=s4a.aG;have hzc:=(s4a.ae p3).cells;have Hr:=(s4a.ae p3).free)
 have s4b:In w0 _ (pts z (.cells #[.int .i64 n0,.int .i64 n1,(.slice a0 T.ay.length c0),(.slice a1 T.rings.length c1),(.slice a2 T.bP.length c2),(.slice a3 T.bi.length c3),.slice none 0 0,.slice none 0 0,.slice none 0 0,.int .i64 n2,.int .i64 n3,.int .i64 n4,.int .i64 n5] 30)::_):=(s4a.ae p3).setCell (off:=5) (.slice a3 T.bi.length c3)
 refine In.abs s4b ?_
 clear s4b s4a s3 bC yC tk3
 intro w53 s4b
 have s4:=s4b.pr [2,2,0,1,1,1,1,1,0,0,0]
 clear s4b
 have bC:=(s4.ae p1).cells
 have yC:w53.cell? ⟨gn,4,none⟩=some (.int .i64 (T.ag.length:Nat)):=by rw[(s4.ae p3).cells];rfl
 have tk4:=Xa s4 (fun x hx=>(hs.alarm x hx).1) (by omega)
 go_upto_region 21 with(go_at_call 172;refine Calls.mono tk4 ?_;rintro _ w44 ⟨u,rfl,s5a⟩;obtain⟨a4,c4,rfl⟩:=s5a.aG;have hzc:=(s5a.ae p3).cells;have Hr:=(s5a.ae p3).free)
 have s5b:In w0 _ (pts z (.cells #[.int .i64 n0,.int .i64 n1,(.slice a0 T.ay.length c0),(.slice a1 T.rings.length c1),(.slice a2 T.bP.length c2),(.slice a3 T.bi.length c3),(.slice a4 T.ag.length c4),.slice none 0 0,.slice none 0 0,.int .i64 n2,.int .i64 n3,.int .i64 n4,.int .i64 n5] 30)::_):=(s5a.ae p3).setCell (off:=6) (.slice a4 T.ag.length c4)
 refine In.abs s5b ?_
 clear s5b s5a s4 bC yC tk4
 intro w54 s5b
 have s5:=s5b.pr [2,2,0,1,1,1,1,1,1,0,0,0]
 clear s5b
 have bC:=(s5.ae p1).cells
 have yC:w54.cell? ⟨gn,5,none⟩=some (.int .i64 (T.bf.length:Nat)):=by rw[(s5.ae p3).cells];rfl
 have tk5:=abG s5 hni (by omega)
 go_upto_region 22 with(go_at_call 175;refine Calls.mono tk5 ?_;rintro _ w45 ⟨u,rfl,C2,il2,hi1,hi2,s6a⟩;obtain⟨a5,c5,rfl⟩:=s6a.aG;have hzc:=(s6a.ae p4).cells;have Hr:=(s6a.ae p4).free)
 have s6b:In w0 _ (pts z (.cells #[.int .i64 n0,.int .i64 n1,(.slice a0 T.ay.length c0),(.slice a1 T.rings.length c1),(.slice a2 T.bP.length c2),(.slice a3 T.bi.length c3),(.slice a4 T.ag.length c4),(.slice a5 T.bf.length c5),.slice none 0 0,.int .i64 n2,.int .i64 n3,.int .i64 n4,.int .i64 n5] 30)::_):=(s6a.ae p4).setCell (off:=7) (.slice a5 T.bf.length c5)
 refine In.abs s6b ?_
 clear s6b s6a s5 bC yC tk5
 intro w55 s6b
 have s6:=s6b.pr [3,3,0,2,2,2,2,2,2,2,0,0,0,0]
 clear s6b
 have bC:=(s6.ae p1).cells
 have yC:w55.cell? ⟨gn,6,none⟩=some (.int .i64 (T.cZ.length:Nat)):=by rw[(s6.ae p3).cells];rfl
 have tk6:=aa7 s6 (fun x hx=>(hs.msg x hx).1) (by omega)
 go_upto_region 23 with(go_at_call 178;refine Calls.mono tk6 ?_;rintro _ w46 ⟨u,rfl,s7a⟩;obtain⟨a6,c6,rfl⟩:=s7a.aG;have hzc:=(s7a.ae p3).cells;have Hr:=(s7a.ae p3).free)
 have s7b:In w0 _ (pts z (.cells #[.int .i64 n0,.int .i64 n1,(.slice a0 T.ay.length c0),(.slice a1 T.rings.length c1),(.slice a2 T.bP.length c2),(.slice a3 T.bi.length c3),(.slice a4 T.ag.length c4),(.slice a5 T.bf.length c5),(.slice a6 T.cZ.length c6),.int .i64 n2,.int .i64 n3,.int .i64 n4,.int .i64 n5] 30)::_):=(s7a.ae p3).setCell (off:=8) (.slice a6 T.cZ.length c6)
 refine In.abs s7b ?_
 clear s7b s7a s6 bC yC tk6
 intro w56 s7b
 have s7:=s7b.pr [2,2,0,1,1,1,1,1,1,1,1,1,0,0,0]
 clear s7b
 have d0:=s7.pr [4,4,9,4,4,4,4,4,4,0,0,0,1,1] 1
 clear s7
 have d1:=d0.ae p2
 have d2:=d0.pr [1,1,0,0,0,0,0,0,0,0,0,0,0,0]
 have d3:=d2.Lc
 clear d0 d1 d2
 generalize hD0:C1++C2=D0 at*
 have m1:C1 ⊆ D0:=by rw[←hD0];exact List.subset_append_left _ _
 have m2:C2 ⊆ D0:=by rw[←hD0];exact List.subset_append_right _ _
 clear hD0
 have e0:=d3.pr [1,0,0,0,0,0,0,0,0,0,0,0,0]
 obtain⟨D1,u0,r00,g0⟩:=e0.dY
 clear e0 d3
 have e1:=g0.pr [1,0,0,0,0,0,0,0,0,0,0,0]
 obtain⟨D2,u1,r01,g1⟩:=e1.dY
 clear e1 g0
 have e2:=g1.pr [1,0,0,0,0,0,0,0,0,0,0]
 obtain⟨D3,u2,r02,g2⟩:=e2.dY
 clear e2 g1
 have e3:=g2.pr [1,0,0,0,0,0,0,0,0,0]
 obtain⟨D4,u3,r03,g3⟩:=e3.dY
 clear e3 g2
 have e4:=g3.pr [1,0,0,0,0,0,0,0,0]
 obtain⟨D5,u4,r04,g4⟩:=e4.dY
 clear e4 g3
 have e5:=g4.pr [1,0,0,0,0,0,0,0]
 obtain⟨D6,u5,r05,g5⟩:=e5.dY
 clear e5 g4
 have e6:=g5.pr [1,0,0,0,0,0,0]
 obtain⟨D7,u6,r06,g6⟩:=e6.dY
 clear e6 g5
 have htab:rF D7 (.agg #[.int .i64 n0,.int .i64 n1,(.slice a0 T.ay.length c0),(.slice a1 T.rings.length c1),(.slice a2 T.bP.length c2),(.slice a3 T.bi.length c3),(.slice a4 T.ag.length c4),(.slice a5 T.bf.length c5),(.slice a6 T.cZ.length c6),.int .i64 n2,.int .i64 n3,.int .i64 n4,.int .i64 n5]) T ⟨(.slice a0 T.ay.length c0),(.slice a1 T.rings.length c1),(.slice a2 T.bP.length c2),(.slice a3 T.bi.length c3),(.slice a4 T.ag.length c4),(.slice a5 T.bf.length c5),(.slice a6 T.cZ.length c6),0,0,0,0,0⟩:=by
  obtain⟨E0,E1,E2,E3,E4,E5⟩:=hE
  refine⟨by rw[E0,E1,E2,E3,E4,E5],⟨tl2,ht1,r00.mono (List.Subset.trans (List.Subset.trans (List.Subset.trans (List.Subset.trans (List.Subset.trans (u1) u2) u3) u4) u5) u6),fun p hp=>(ht2 p hp).mono (List.Subset.trans m1 (List.Subset.trans (List.Subset.trans (List.Subset.trans (List.Subset.trans (List.Subset.trans (List.Subset.trans (u0) u1) u2) u3) u4) u5) u6))⟩,r01.mono (List.Subset.trans (List.Subset.trans (List.Subset.trans (List.Subset.trans (u2) u3) u4) u5) u6),r02.mono (List.Subset.trans (List.Subset.trans (List.Subset.trans (u3) u4) u5) u6),r03.mono (List.Subset.trans (List.Subset.trans (u4) u5) u6),r04.mono (List.Subset.trans (u5) u6),⟨il2,hi1,r05.mono (u6),fun p hp=>(hi2 p hp).mono (List.Subset.trans m2 (List.Subset.trans (List.Subset.trans (List.Subset.trans (List.Subset.trans (List.Subset.trans (List.Subset.trans (u0) u1) u2) u3) u4) u5) u6))⟩,r06.mono (List.Subset.refl _)⟩
 have hg:=g6.pr [1,0,0,0,0,0]
 clear g6
 have hlf:=Zd hg
 have bC:=(hg.ae p2).cells
 have fZ:=(hg.ae p3).cells
 go_upto_region 25 with(go_at_call 180;refine bW hlf ?_)
 have hck:=Gz (hg.ae p1) htab
 rw[hT]at hck
 simp only[if_true]at hck
 clear hlf bC hg
 go_upto_region 27 with(go_at_call 24;refine bF hck ?_;intro w60 hj)
 clear hck fZ
 have fZ:=(hj.ae p3).cells
 have jb:=(hj.ae p3).free
 have UH:=(hj.ae p5).cells
 have aeX:=(hj.ae p5).free
 have hk:=(hj.ae p3).fill [.int .i64 n0,.int .i64 n1,(.slice a0 T.ay.length c0),(.slice a1 T.rings.length c1),(.slice a2 T.bP.length c2),(.slice a3 T.bi.length c3),(.slice a4 T.ag.length c4),(.slice a5 T.bf.length c5),(.slice a6 T.cZ.length c6),.int .i64 n2,.int .i64 n3,.int .i64 n4,.int .i64 n5] rfl
 simp only[dm]at hk
 have hk2:In w0 _ (pts (z+1) (.cells #[.int .i64 0] 32)::_):=(hk.ae p5).setCell (off:=0) (.int .i64 0)
 go_wp2_with fail
 refine leaves_cons (f:=156) (args:=#[z,.pointer (some ⟨z+1,0,none⟩)]) (by simp) (by simp[go_sem]) ?_
 refine In.abs (G:=fun W=>CallsD _ _ _ _ W _) hk2 ?_
 clear hk2 hk hj fZ jb UH aeX
 intro w61 hk2
 refine(YM z (z+1) w61).mono ?_
 rintro e u' w5 ⟨rfl,rfl,rfl⟩
 have UH:=hk2.cells
 have fZ:=(hk2.ae p1).cells
 refine⟨.tuple #[.agg #[.int .i64 n0,.int .i64 n1,(.slice a0 T.ay.length c0),(.slice a1 T.rings.length c1),(.slice a2 T.bP.length c2),(.slice a3 T.bi.length c3),(.slice a4 T.ag.length c4),(.slice a5 T.bf.length c5),(.slice a6 T.cZ.length c6),.int .i64 n2,.int .i64 n3,.int .i64 n4,.int .i64 n5],.int .i64 0],by simp[results,results65,go_sem,UH,fZ],.agg #[.int .i64 n0,.int .i64 n1,(.slice a0 T.ay.length c0),(.slice a1 T.rings.length c1),(.slice a2 T.bP.length c2),(.slice a3 T.bi.length c3),(.slice a4 T.ag.length c4),(.slice a5 T.bf.length c5),(.slice a6 T.cZ.length c6),.int .i64 n2,.int .i64 n3,.int .i64 n4,.int .i64 n5],D7,⟨(.slice a0 T.ay.length c0),(.slice a1 T.rings.length c1),(.slice a2 T.bP.length c2),(.slice a3 T.bi.length c3),(.slice a4 T.ag.length c4),(.slice a5 T.bf.length c5),(.slice a6 T.cZ.length c6),0,0,0,0,0⟩,rfl,htab,?_⟩
 exact hk2.s
end
section
structure ah.Num (T:ah):Prop where
 ay:∀k∈T.ay,(0≤k.mask∧k.mask<4294967296)∧(0≤k.dX∧k.dX<4294967296)
 bi:∀c∈T.bi,0≤c.base∧c.base<4294967296
 ag:∀a∈T.ag,(0≤a.act.mask∧a.act.mask<4294967296)∧(0≤a.dX∧a.dX<4294967296)∧(0≤a.time∧a.time<4294967296)∧(0≤a.cycle∧a.cycle<4294967296)
 cZ:∀m∈T.cZ,(0≤m.init∧m.init<18446744073709551616)∧(0≤m.act.mask∧m.act.mask<4294967296)
variable {T:ah} {B:List (Nat × Obj)} {tl:List (dn × Value)} {il:List (kG × Value)}
theorem Jp {x:Int} {m:Int} (h0:0≤x) (hm0:1≤m) (hm:m≤8) (h:x/2 ^ m.toNat=0):x<256:=by
 have hp:(2:Int) ^ m.toNat≤256:=by
  have:(2:Int) ^ m.toNat≤2 ^ 8:=by exact_mod_cast Nat.pow_le_pow_right (by decide:0<2) (by omega:m.toNat≤8)
  omega
 have hpos:(0:Int)<2 ^ m.toNat:=Int.pow_pos (by decide)
 have:=Int.lt_ediv_add_one_mul_self x hpos
 rw[h]at this
 omega
theorem Jc {a:zx} {lo hi:Int} (hf:T.Fine) (h:T.yT a lo hi=true) (hlo:0≤lo) (hhi:hi≤4):(0≤a.kind∧a.kind≤255)∧(0≤a.lL∧a.lL≤255):=by
 have hn:=hf.ok.n2
 unfold ah.yT at h
 simp only[Bool.and_eq_true,decide_eq_true_eq]at h
 obtain⟨⟨h1,h2⟩,h3⟩:=h
 refine⟨by omega,?_⟩
 split at h3
 ·simp only[Bool.and_eq_true,decide_eq_true_eq]at h3
  omega
 ·simp only[Bool.and_eq_true,decide_eq_true_eq]at h3
  omega
theorem Ak {α:Type} {l:List α} {p:α→Bool}:gY l p≤l.length:=List.length_filter_le _ _
theorem Oe (T:ah):∀k,oU T k≤max 2 T.ag.length
 |0=>by unfold oU;omega
 |k+1=>by
  have ih:=Oe T k
  unfold oU
  split
  ·rename_i a _
   have h1:gY (T.ag.take (k+1)) (fun b=>decide (b.counter=a.counter))≤(T.ag.take (k+1)).length:=Ak
   rw[List.length_take]at h1
   omega
  ·exact ih
theorem NS (T:ah):∀k,oN T k≤max (max 2 T.ag.length) T.cZ.length
 |0=>by unfold oN;have:=Oe T T.ag.length;omega
 |k+1=>by
  have ih:=NS T k
  unfold oN
  split
  ·rename_i m _
   have h1:gY (T.cZ.take (k+1)) (fun b=>b.from m.src)≤(T.cZ.take (k+1)).length:=Ak
   rw[List.length_take]at h1
   split
   ·exact ih
   ·omega
  ·exact ih
theorem TA (hf:T.Fine) {m:qF} (h:T.rO m=true):(0≤m.kind∧m.kind≤255)∧(0≤m.length∧m.length≤255)∧(0≤m.src∧m.src≤255)∧(0≤m.queue∧m.queue≤255)∧(0≤m.act.kind∧m.act.kind≤255)∧(0≤m.act.lL∧m.act.lL≤255):=by
 have hn:=hf.Gt
 unfold ah.rO at h
 split at h
 ·unfold qF.sent at h
  simp only[Bool.and_eq_true,decide_eq_true_eq,Bool.or_eq_true]at h
  obtain⟨⟨⟨⟨h1,h2⟩,h3⟩,h4⟩,⟨h5,h6⟩,h7⟩:=h
  refine⟨by omega,?_,by omega,by omega,by omega,by omega⟩
  rcases h1 with((h1|h1)|h1)|h1<;>omega
 ·simp only[Bool.and_eq_true,decide_eq_true_eq,Bool.or_eq_true]at h
  obtain⟨⟨⟨⟨⟨h1,h2⟩,h3⟩,h4⟩,h5⟩,h6⟩:=h
  have ha:T.yT m.act 0 4=true:=by
   split at h5
   ·simp only[Bool.and_eq_true]at h5;exact h5.1.2
   ·cases h5
  have hs:=Jc hf ha (by omega) (by omega)
  refine⟨by omega,by omega,by omega,?_,hs.1,hs.2⟩
  split at h6
  ·rw[decide_eq_true_eq]at h6;omega
  ·simp only[Bool.and_eq_true,decide_eq_true_eq]at h6;omega
theorem Yx (h:T.check=true):∀m∈T.cZ,T.rO m=true:=by
 unfold ah.check at h
 simp only[Bool.and_eq_true]at h
 intro m hm
 obtain⟨i,e,h1⟩:=tK (f:=fun i=>match T.cZ[i]? with|some m=>T.rO m|none=>false) h.1.2 hm
 rw[e]at h1
 exact h1
theorem Vu (h:T.check=true):∀r∈T.bP,-1≤r.gJ∧r.gJ≤127:=by
 unfold ah.check at h
 simp only[Bool.and_eq_true]at h
 intro r hr
 obtain⟨i,e,h1⟩:=tK (f:=fun i=>match T.bP[i]? with|some r=>decide (-1≤r.gJ)&&decide (r.gJ≤127)|none=>false) h.1.1.1.1.1.1.2 hr
 rw[e]at h1
 simpa using h1
theorem SI (h:T.check=true):∀a∈T.ag,T.kX a=true:=by
 unfold ah.check ah.ve at h
 simp only[Bool.and_eq_true]at h
 intro c hc
 obtain⟨i,e,h1⟩:=tK (f:=fun i=>match T.ag[i]? with|some a=>T.kX a|none=>false) h.1.1.1.2.2 hc
 rw[e]at h1
 exact h1
theorem Wy (h:T.check=true):∀k∈T.ay,0≤k.ring∧k.ring<T.rings.length:=by
 unfold ah.check ah.zV at h
 simp only[Bool.and_eq_true]at h
 intro k hk
 obtain⟨i,e,h1⟩:=tK (f:=fun i=>match T.ay[i]? with|some k=>T.ui k|none=>false) h.1.1.1.1.2.1 hk
 rw[e]at h1
 simp only at h1
 unfold ah.ui ah.ringAt at h1
 simp only[Bool.and_eq_true,decide_eq_true_eq]at h1
 exact h1.1.1.1.1.1.1.1
theorem Eb (hf:T.Fine):T.rings.length≤64:=by
 have h1:=hf.ok.rs
 rw[h1]
 have key:∀n,(iP T.ay n).length≤n:=by
  intro n
  induction n with
  |zero=>simp[iP]
  |succ n ih=>rw[iP,List.length_append];split<;>simp<;>omega
 exact key 64
theorem SX (hf:T.Fine):∀x∈T.rings,(0≤x.aI∧x.aI≤63)∧(1≤x.cap∧x.cap<65536):=by
 intro x hx
 rw[hf.ok.rs]at hx
 obtain⟨i,h1,h2,rfl⟩:=(pK _ _ x).1 hx
 have:=MM (l:=T.ay) (fun k hk=>⟨by have:=hf.ok.lm k hk;omega,(hf.ok.lm k hk).2⟩) (63-i)
 have:=hf.ok.n2
 simp only
 exact⟨⟨by omega,by omega⟩,by omega,by omega⟩
theorem UR (hT:T.check=true) (hn:T.Num):∀k∈T.ay,x8 k:=by
 intro k hk
 have hf:=ah.fine hT
 have h1:=hf.ay k hk
 have h2:=Wy hT k hk
 have h3:=hn.ay k hk
 have h4:=ah.oH h1.own
 have h5:=ah.DJ h1.own
 have h6:=Eb hf
 have h7:=hf.bP
 have h8:=Jp h3.2.1 hf.modes.1 hf.modes.2 h1.dX
 have:=h1.pr
 have:=h1.lm
 have:=h1.int
 refine⟨by omega,by omega,by omega,h3.1,by omega,fun y hy=>?_,by omega,by omega⟩
 have:=h5 y hy
 omega
theorem YW (hT:T.check=true):∀k∈T.bf,Bh k:=by
 intro k hk
 have hf:=ah.fine hT
 have h1:=hf.bf k hk
 have h4:=ah.oH h1.own
 have h5:=ah.DJ h1.own
 have h7:=hf.bP
 have:=h1.pr
 have:=h1.cat
 refine⟨by omega,by omega,fun y hy=>?_,by omega⟩
 have:=h5 y hy
 omega
theorem QG (b:Bool):mQ b<256:=by cases b<;>decide
theorem BC {α:Type} {f:α→List Nat} {xs:List α} (h:∀x∈xs,∀y∈f x,y<256):∀y∈(xs.map f).flatten,y<256:=by
 intro y hy
 obtain⟨l,hl,hy⟩:=List.mem_flatten.1 hy
 obtain⟨x,hx,rfl⟩:=List.mem_map.1 hl
 exact h x hx y hy
theorem U4 {k:dn} {v:Value} (h:x8 k) (ho:k.own.length≤65):(iV (k,v)).length≤600∧∀y∈iV (k,v),y<256:=by
 obtain⟨p0,p1,p2,p3,p4,p5,p6,p7⟩:=h
 unfold iV rX
 refine⟨?_,fun y hy=>?_⟩
 ·simp only[List.length_append,List.length_cons,lH,eP,List.length_nil]
  omega
 ·simp only[List.mem_append,List.mem_cons,List.not_mem_nil,or_false]at hy
  rcases hy with hy|hy|hy|hy|hy|(hy|hy)|hy
  ·exact oI (xs:=[k.aI,k.ring]) (by intro x hx;simp at hx;rcases hx with rfl|rfl<;>omega) y hy
  ·rw[hy];exact QG _
  ·exact oI (xs:=[k.limit]) (by intro x hx;simp at hx;subst hx;omega) y hy
  ·exact uG y hy
  ·omega
  ·omega
  ·exact oI p5 y hy
  ·exact uG y hy
theorem Y7 {k:kG} {v:Value} (h:Bh k) (ho:k.own.length≤65):(lq (k,v)).length≤600∧∀y∈lq (k,v),y<256:=by
 obtain⟨p0,p1,p5,p6⟩:=h
 unfold lq xq
 refine⟨?_,fun y hy=>?_⟩
 ·simp only[List.length_append,List.length_cons,lH,List.length_nil]
  omega
 ·simp only[List.mem_append,List.mem_cons]at hy
  rcases hy with hy|hy|hy
  ·exact oI (xs:=[k.category,k.aI]) (by intro x hx;simp at hx;rcases hx with rfl|rfl<;>omega) y hy
  ·omega
  ·exact oI p5 y hy
theorem Fe {x:kS} (h:zM B x):(ja x).length≤600∧∀y∈ja x,y<256:=by
 unfold ja uK
 refine⟨by simp only[List.length_append,List.length_cons,lH,eP,List.length_nil];omega,fun y hy=>?_⟩
 rcases List.mem_append.1 hy with hy|hy
 ·exact oI (xs:=[x.aI]) (by intro z hz;simp at hz;subst hz;exact h.1) y hy
 ·exact uG y hy
theorem YJ {x:IA} (h:AX B x):(jU x).length≤600∧∀y∈jU x,y<256:=by
 unfold AX at h
 unfold jU wX
 refine⟨by simp,fun y hy=>?_⟩
 simp only[List.mem_append,List.mem_cons,List.not_mem_nil,or_false]at hy
 rcases hy with hy|hy
 ·rw[hy];exact QG _
 ·omega
theorem ZA {x:xm}:(jF x).length≤600∧∀y∈jF x,y<256:=by
 unfold jF xe
 exact⟨by simp[eP],fun y hy=>uG y hy⟩
theorem Rj {a:zx} (h1:0≤a.kind∧a.kind≤255) (h2:0≤a.lL∧a.lL≤255):∀y∈dW a,y<256:=by
 intro y hy
 unfold dW at hy
 rcases List.mem_append.1 hy with hy|hy
 ·exact oI (xs:=[a.kind,a.lL]) (by intro z hz;simp at hz;rcases hz with rfl|rfl<;>omega) y hy
 ·exact aax y hy
theorem Ui {x:gq} (h:kX B x):(gW x).length≤600∧∀y∈gW x,y<256:=by
 obtain⟨p0,p1,p2,p3,p4,p5,p6⟩:=h
 unfold gW rV
 refine⟨by simp[eP,lH,dW,iF],fun y hy=>?_⟩
 simp only[List.mem_append]at hy
 rcases hy with hy|hy|hy|hy
 ·exact oI (xs:=[x.counter]) (by intro z hz;simp at hz;subst hz;exact p0) y hy
 ·exact Rj (a:=⟨x.act.kind,x.act.lL,x.act.mask⟩) p1 p2 y hy
 ·exact uG y hy
 ·exact uG y hy
theorem YV {x:qF} (h:rO B x):(jV x).length≤600∧∀y∈jV x,y<256:=by
 obtain⟨p0,p1,p2,p3,p4,p5,p6,p7⟩:=h
 unfold jV xG
 refine⟨by simp[eP,lH,dW,iF],fun y hy=>?_⟩
 simp only[List.mem_append]at hy
 rcases hy with hy|hy|hy|hy
 ·exact oI (xs:=[x.kind,x.length,x.src]) (by intro z hz;simp at hz;rcases hz with rfl|rfl|rfl<;>omega) y hy
 ·exact uG y hy
 ·exact oI (xs:=[x.queue]) (by intro z hz;simp at hz;subst hz;exact p4) y hy
 ·exact Rj (a:=⟨x.act.kind,x.act.lL,x.act.mask⟩) p5 p6 y hy
structure Fits (B:List (Nat × Obj)) (T:ah) (tl:List (dn × Value)) (il:List (kG × Value)):Prop where
 small:Small B T tl il
 six:∀y∈qc T,0≤y∧y≤255
 bytes:∀y∈dN T tl il,y<256
 counts:∀y∈fQ T,y<65536
 some:0<(dN T tl il).length
 ay:∀k∈T.ay,x8 k
 bf:∀k∈T.bf,Bh k
theorem fits (hT:T.check=true) (hn:T.Num) (htl:tl.map (·.1)=T.ay) (hil:il.map (·.1)=T.bf) (h1:∀p∈tl,dQ B p.2 p.1.own.length (ints p.1.own)) (h2:∀p∈il,dQ B p.2 p.1.own.length (ints p.1.own)):Fits B T tl il:=by
 have hf:=ah.fine hT
 have hnt:=UR hT hn
 have hni:=YW hT
 have htm:∀p∈tl,p.1∈T.ay:=fun p hp=>by rw[←htl];exact List.mem_map_of_mem hp
 have him:∀p∈il,p.1∈T.bf:=fun p hp=>by rw[←hil];exact List.mem_map_of_mem hp
 have H5:tl.length=T.ay.length:=by rw[←htl,List.length_map]
 have II:il.length=T.bf.length:=by rw[←hil,List.length_map]
 have ho:∀k∈T.ay,k.own.length≤65:=fun k hk=>by have:=ah.oH (hf.ay k hk).own;have:=hf.bP;omega
 have hoi:∀k∈T.bf,k.own.length≤65:=fun k hk=>by have:=ah.oH (hf.bf k hk).own;have:=hf.bP;omega
 have r1:∀x∈tl,(iV x).length≤600∧∀y∈iV x,y<256:=fun x hx=>U4 (v:=x.2) (hnt _ (htm x hx)) (ho _ (htm x hx))
 have k2:∀x∈T.rings,zM B x:=fun x hx=>by have:=SX hf x hx;exact⟨by omega,by omega⟩
 have r2:=fun x hx=>Fe (k2 x hx)
 have k3:∀x∈T.bP,AX B x:=fun x hx=>by have:=Vu hT x hx;unfold AX;omega
 have r3:=fun x hx=>YJ (k3 x hx)
 have k4:∀x∈T.bi,FK B x:=fun x hx=>by have:=hf.bi x hx;have:=hn.bi x hx;exact⟨by omega,by omega,by omega⟩
 have r4:∀x∈T.bi,(jF x).length≤600∧∀y∈jF x,y<256:=fun x _=>ZA
 have k5:∀x∈T.ag,kX B x:=fun x hx=>by
  have q1:=hf.ag x hx
  have q2:=hn.ag x hx
  have q3:=Jc hf q1.act (by omega) (by omega)
  have q4:=hf.Ja
  have q5:=SI hT x hx
  unfold ah.kX at q5
  simp only[Bool.and_eq_true,decide_eq_true_eq]at q5
  have q6:=Jp q2.2.1.1 hf.modes.1 hf.modes.2 q5.1.2
  have:=q1.oZ
  exact⟨by omega,q3.1,q3.2,q2.1,by omega,q2.2.2.1,q2.2.2.2⟩
 have r5:=fun x hx=>Ui (k5 x hx)
 have r6:∀x∈il,(lq x).length≤600∧∀y∈lq x,y<256:=fun x hx=>Y7 (v:=x.2) (hni _ (him x hx)) (hoi _ (him x hx))
 have k7:∀x∈T.cZ,rO B x:=fun x hx=>by
  have q1:=TA hf (Yx hT x hx)
  have q2:=hn.cZ x hx
  exact⟨q1.1,q1.2.1,q1.2.2.1,q2.1,q1.2.2.2.1,q1.2.2.2.2.1,q1.2.2.2.2.2,q2.2⟩
 have r7:=fun x hx=>YV (k7 x hx)
 have hrf:=Eb hf
 refine⟨⟨fun x hx=>⟨?_,(r1 x hx).1⟩,fun x hx=>⟨k2 x hx,(r2 x hx).1⟩,fun x hx=>⟨k3 x hx,(r3 x hx).1⟩,fun x hx=>⟨k4 x hx,(r4 x hx).1⟩,fun x hx=>⟨k5 x hx,(r5 x hx).1⟩,fun x hx=>⟨?_,(r6 x hx).1⟩,fun x hx=>⟨k7 x hx,(r7 x hx).1⟩,?_⟩,?_,?_,?_,?_,hnt,hni⟩
 ·obtain⟨p0,p1,p2,p3,p4,p5,p6,p7⟩:=hnt _ (htm x hx)
  exact⟨p0,p1,p2,p3,p4,h1 x hx,p5,p6,p7⟩
 ·obtain⟨p0,p1,p5,p6⟩:=hni _ (him x hx)
  exact⟨p0,p1,h2 x hx,p5,p6⟩
 ·exact⟨by rw[H5];exact hf.ok.n2,hrf,hf.bP,hf.Ja,hf.mF,by rw[II];exact hf.CJ,hf.Gt⟩
 ·intro y hy
  have h3:=hf.uses
  have h4:=hf.modes
  obtain⟨h5,h6,h7,h8⟩:=hf.room
  have h9:=NS T T.cZ.length
  have h10:T.zk≤T.ag.length+T.cZ.length:=Nat.add_le_add Ak Ak
  have h11:=hf.mF
  have h12:=hf.Gt
  have h13:=hf.CJ
  unfold ah.most at h7
  simp only[qc,List.mem_cons,List.not_mem_nil,or_false]at hy
  rcases hy with rfl|rfl|rfl|rfl|rfl|rfl<;>omega
 ·intro y hy
  unfold dN at hy
  simp only[List.mem_append]at hy
  rcases hy with(((((hy|hy)|hy)|hy)|hy)|hy)|hy
  ·exact BC (fun x hx=>(r1 x hx).2) y hy
  ·exact BC (fun x hx=>(r2 x hx).2) y hy
  ·exact BC (fun x hx=>(r3 x hx).2) y hy
  ·exact BC (fun x hx=>(r4 x hx).2) y hy
  ·exact BC (fun x hx=>(r5 x hx).2) y hy
  ·exact BC (fun x hx=>(r6 x hx).2) y hy
  ·exact BC (fun x hx=>(r7 x hx).2) y hy
 ·intro y hy
  have g1:=hf.ok.n2
  have g2:=hf.bP
  have g3:=hf.Ja
  have g4:=hf.mF
  have g5:=hf.CJ
  have g6:=hf.Gt
  simp only[fQ,List.mem_cons,List.not_mem_nil,or_false]at hy
  omega
 ·have g1:=hf.ok.n1
  unfold dN
  simp only[List.length_append]
  have:0<(tl.map iV).flatten.length:=by
   cases tl with
   |nil=>simp at H5;omega
   |cons p r=>
    rw[List.map_cons,List.flatten_cons,List.length_append]
    have:0<(iV p).length:=by unfold iV rX;simp only[List.length_append,lH,List.length_cons];omega
    omega
  omega
end
structure Ip where
 vt:Value
 vr:Value
 vs:Value
 vc:Value
 va:Value
 vi:Value
 vm:Value
 pc:Nat
 pb:Nat
 pf:Nat
 pe:Nat
 pq:Nat
 vk:Value
 vb:Value
 vx:Value
def aen (T:ah) (x:Ip):Value:= .agg #[.int .i64 T.uses,.int .i64 T.modes,x.vt,x.vr,x.vs,x.vc,x.va,x.vi,x.vm,.int .i64 T.depth,.int .i64 T.frames,.int .i64 T.errors,.int .i64 T.dU]
def aX (T:ah) (k:aB) (x:Ip):Obj:=
 .cells #[.int .i64 T.uses,.int .i64 T.modes,x.vt,x.vr,x.vs,x.vc,x.va,x.vi,x.vm,.int .i64 T.depth,.int .i64 T.frames,.int .i64 T.errors,.int .i64 T.dU,
  .pointer (some ⟨x.pc,0,none⟩),.pointer (some ⟨x.pb,0,none⟩),.pointer (some ⟨x.pf,0,none⟩),.pointer (some ⟨x.pe,0,none⟩),.pointer (some ⟨x.pq,0,none⟩),
  .bool k.gate.shut,.int .i64 k.gate.all,.int .i64 k.gate.os,.int .i64 k.phase,.int .i64 k.mode,x.vk,.int .i64 k.marks.pre,.int .i64 k.marks.frames,.int .i64 k.marks.errors,.int .i64 k.marks.calls,x.vb,x.vx] 92 (0,0)
structure yG (G:Value→Prop) (B:List (Nat × Obj)) (T:ah) (k:aB) (x:Ip):Prop where
 tab:xu B (aen T x) T x.vt x.vr x.vs x.vc x.va x.vi x.vm
 chk:T.check=true
 num:T.Num
 len:k.marks.rings.length=T.rings.length
 gh:G x.vx
def gQ (v:Value) (l:List aK):SL:=Row 42 5 v l.length (l.map jc).flatten
def eF (G:Value→Prop) (r:Nat) (T:ah) (k:aB):SL:=ex fun B=>ex fun x:Ip=>
 bQ [AQ (yG G B T k x),pts r (aX T k x),bJ B,Core x.pc T k.core,je x.pb T.aV k.board,gG x.pf k.frames,dV x.pe k.errors,dG x.pq k.calls,Ints x.vk k.marks.rings,gQ x.vb k.begun,Ints x.vx k.aO]
section
variable {w0 w:World} {l:List SL} {r:Nat} {T:ah} {k:aB} {G:Value→Prop}
theorem dD (h:In w0 w (eF G r T k::l)):∃B x,yG G B T k x∧In w0 w (pts r (aX T k x)::bJ B::Core x.pc T k.core::je x.pb T.aV k.board::gG x.pf k.frames::dV x.pe k.errors::dG x.pq k.calls::Ints x.vk k.marks.rings::gQ x.vb k.begun::Ints x.vx k.aO::l):=by
 obtain⟨B,h⟩:=In.aY.1 h
 obtain⟨x,h⟩:=In.aY.1 h
 obtain⟨a,h⟩:=In.dw.1 (In.bn.1 h)
 exact⟨B,x,a,h⟩
theorem bZ {B:List (Nat × Obj)} {x:Ip} (a:yG G B T k x) (h:In w0 w (pts r (aX T k x)::bJ B::Core x.pc T k.core::je x.pb T.aV k.board::gG x.pf k.frames::dV x.pe k.errors::dG x.pq k.calls::Ints x.vk k.marks.rings::gQ x.vb k.begun::Ints x.vx k.aO::l)):In w0 w (eF G r T k::l):=
 In.aY.2 ⟨B,In.aY.2 ⟨x,In.bn.2 (In.dw.2 ⟨a,h⟩)⟩⟩
theorem yG.turn {B:List (Nat × Obj)} {x:Ip} {k':aB} (a:yG G B T k x) (h:k'.marks.rings.length=k.marks.rings.length):yG G B T k' x:=⟨a.tab,a.chk,a.num,h.trans a.len,a.gh⟩
theorem yG.fine {B:List (Nat × Obj)} {x:Ip} (a:yG G B T k x):T.Fine:=ah.fine a.chk
theorem KQ (h:In w0 w (eF G r T k::l)):Calls prog 29 #[r] w fun e w'=>e= .returned (.bool true)∧w=w':=by
 obtain⟨B,x,a,h1⟩:=dD h
 have bC:=h1.cells
 clear h1 h
 go_enter func29,ntmps29
 go_wp2_with fail
 go_ret
 exact⟨rfl,rfl⟩
theorem uy (h:In w0 w (eF G r T k::l)) (bit:Int):Calls prog 79 #[r,.int .i64 bit] w fun e w'=>e= .returned (.bool (T.use bit))∧w=w':=by
 obtain⟨B,x,a,h1⟩:=dD h
 have bC:=h1.cells
 clear h1 h
 have hb:(bits .and .i64 T.uses bit != 0)=T.use bit:=by
  unfold ah.use
  by_cases h:bits .and .i64 T.uses bit=0
  ·rw[h];rfl
  ·simp[h]
 generalize T.use bit=q at*
 go_enter func79,ntmps79
 go_wp2_with fail
 go_ret
 exact⟨rfl,rfl⟩
theorem xW (f:aK) (h:In w0 w l):aW 32 #[.agg #[.int .i64 f.kind,.int .i64 f.id,.int .i64 f.status,.int .i64 f.service,.int .u32 f.jC]] w w0 (.bool (decide (3≤f.kind))) l:=by
 rcases f with⟨kind,id,st,sv,pa⟩
 simp only
 have h1:=h.alloc (qo kind id st sv pa)
 generalize hq:decide (3≤kind)=q
 go_enter func32,ntmps32
 go_upto_region 1 with(fail)
 refine In.abs h1 ?_
 clear h1 h
 generalize w.heap.size=z
 intro w2 h2
 have bC:=h2.cells
 go_wp2_with fail
 go_ret
 exact⟨rfl,h2.drop⟩
theorem abR (a b:Bool) (c d e f:Int) (w:World):(Op.equal 90 (.agg #[.bool a,.int .i64 c,.int .i64 e]) (.agg #[.bool b,.int .i64 d,.int .i64 f])).run prog w= .ok (lg.same ⟨a,c,e⟩ ⟨b,d,f⟩) w:=by
 unfold Op.equal Op.maxDepth
 rw[show(10000:Nat)=9999+1 from rfl,run_equalIn_struct (P:=prog) (d:=9999) (t:=90) (ht:=by kernel_rfl) (hp:=by kernel_rfl)]
 have e0:(prog.fieldsOf 90).toList=[⟨ "Shut",4,0,false,"","",0⟩,⟨ "All",3,1,false,"","",8⟩,⟨ "Os",3,2,false,"","",16⟩]:=by kernel_rfl
 rw[e0]
 simp[Op.eqFields,part,go_sem,lg.same]
 by_cases h1:a=b<;>by_cases h2:c=d<;>by_cases h3:e=f<;>simp[h1,h2,h3]
theorem FZ (a b:Bool) (c d e f:Int) (w:World):(binOp .neq 90 (.agg #[.bool a,.int .i64 c,.int .i64 e]) (.agg #[.bool b,.int .i64 d,.int .i64 f])).run prog w= .ok (.bool (!(lg.same ⟨a,c,e⟩ ⟨b,d,f⟩))) w:=by
 have h:=abR a b c d e f w
 simp[binOp,h,go_sem]
theorem QK (h:In w0 w (eF G r T k::l)):Calls prog 85 #[r] w fun e w'=>e= .returned (.bool k.shut)∧w=w':=by
 obtain⟨B,x,a,h1⟩:=dD h
 have bC:=h1.cells
 clear h1 h
 have hg:=FZ k.gate.shut false k.gate.all 0 k.gate.os 0
 have hs:k.shut= !(lg.same ⟨k.gate.shut,k.gate.all,k.gate.os⟩ ⟨false,0,0⟩):=rfl
 rw[←hs]at hg
 generalize k.shut=q at*
 clear hs
 go_enter func85,ntmps85
 go_wp2_with fail
 go_ret
 exact⟨rfl,rfl⟩
end
section
variable {w0 w:World} {l:List SL} {r:Nat} {T:ah} {k:aB} {G:Value→Prop}
theorem Pg {v:Value} {tl:List jh} (h:In w0 w (oM v tl::l)):∃ao n cap,v= .slice ao n cap:=by
 obtain⟨B,h⟩:=In.aY.1 h
 obtain⟨pl,h⟩:=In.aY.1 h
 obtain⟨_,h⟩:=In.dw.1 (In.bn.1 h)
 obtain⟨a,c,e⟩:=(h.ae p1).aG
 exact⟨a,_,c,e⟩
theorem Qv {v:Value} {ll:List (List Int)} (h:In w0 w (lJ v ll::l)):∃B,∃pl:List (List Int × Value),pl.map (·.1)=ll∧(∀p∈pl,dQ B p.2 p.1.length (ints p.1))∧In w0 w (bJ B::Row 44 1 v pl.length (pl.map fun p=>p.2)::l):=by
 obtain⟨B,h⟩:=In.aY.1 h
 obtain⟨pl,h⟩:=In.aY.1 h
 obtain⟨hp,h⟩:=In.dw.1 (In.bn.1 h)
 exact⟨B,pl,hp.1,hp.2,h⟩
def UE (x:Int) (l:List Int):Int:=max x (l.length:Int)
def PW (m:List Int) (ls:List (List Int)) (j:Nat):List Int:=(List.zipWith UE m ls).take j++m.drop j
theorem Zf {m:List Int} {ls:List (List Int)} (h:m.length=ls.length):PW m ls ls.length=List.zipWith UE m ls:=by
 unfold PW
 rw[List.take_of_length_le (by simp;omega),List.drop_eq_nil_of_le (by omega),List.append_nil]
theorem YG {m:List Int} {ls:List (List Int)} {j:Nat} (h:m.length=ls.length) (hj:j≤m.length):(PW m ls j).length=m.length:=by
 unfold PW
 simp
 omega
theorem ZJ {m:List Int} {ls:List (List Int)} {j:Nat} (h:m.length=ls.length) (hj:j<m.length):(PW m ls j)[j]? =m[j]? :=by
 unfold PW
 rw[List.getElem?_append_right (by simp;omega),List.getElem?_drop]
 congr 1
 simp
 omega
theorem UJ {m:List Int} {ls:List (List Int)} {j:Nat} (h:m.length=ls.length) (hj:j<m.length):(PW m ls j).set j (UE m[j] (ls[j]'(by omega)))=PW m ls (j+1):=by
 unfold PW
 have hl:((List.zipWith UE m ls).take j).length=j:=by simp;omega
 rw[List.set_append_right _ _ (by omega),hl,Nat.sub_self,List.drop_eq_getElem_cons hj,List.set_cons_zero,List.take_succ_eq_append_getElem (by simp;omega),List.append_assoc]
 simp
theorem uD (h:In w0 w (eF G r T k::l)):aW 38 #[r] w w0 (.tuple #[]) (eF G r T (k.mark T)::l):=by
 obtain⟨B,x,a,h1⟩:=dD h
 have hml:=a.len
 rcases x with⟨vt,vr,vs,vc,va,vi,vm,pc,pb,pf,pe,pq,vk,vb,vx⟩
 simp only at h1
 have hrl:(k.core.look T).rings.length=T.rings.length:=by simp[az.look]
 have bC:=h1.cells
 have hlk:=QF (h1.ae p2)
 go_enter func38,ntmps38
 go_upto_region 1 with(go_at_call 40;refine Calls.mono hlk ?_;rintro _ w3 ⟨vT,vR,vP,rfl,h3⟩;obtain⟨aT,nT,cT,rfl⟩:=Pg h3;obtain⟨BL,pl,hpl,hro,h4⟩:=Qv (h3.ae p1);obtain⟨aR,cR,rfl⟩:=(h4.ae p1).aG;obtain⟨aP,cP,rfl⟩:=In.aG (E:=3) (size:=1) (h4.ae p3))
 have h5:=h4.alloc (EP (.slice aT nT cT) (.slice aR pl.length cR) (.slice aP k.core.before.length cP) k.core.leaving)
 refine In.abs h5 ?_
 clear hlk bC h1 h5 h4 h3 h
 generalize w3.heap.size=z
 intro w5 h5
 rw[←hpl,List.length_map]at hrl
 have hpe:∀m,List.zipWith UE m (k.core.look T).rings=List.zipWith UE m (pl.map (·.1)):=fun m=>by rw[←hpl]
 have hrl2:pl.length≤T.rings.length∧T.rings.length≤pl.length:=by omega
 clear hpl hrl
 have h6:=h5.pr [6,11,0,1,0,3,2,2,2,2,2,2,2] 2
 clear h5
 have fZ:=(h6.ae p2).cells
 go_upto_region 2 with(fail)
 clear fZ
 have afj:pl.length≤64:=by have:=Eb a.fine;omega
 have hmp:k.marks.rings.length=(pl.map (·.1)).length:=by rw[List.length_map];omega
 go_loopw [3,4,13] (fun _ _ c wr=>∃j:Nat,j≤pl.length∧c= .int .i64 j∧In w0 wr (pts r (aX T k ⟨vt,vr,vs,vc,va,vi,vm,pc,pb,pf,pe,pq,vk,vb,vx⟩)::Ints vk (PW k.marks.rings (pl.map (·.1)) j)::pts z (EP (.slice aT nT cT) (.slice aR pl.length cR) (.slice aP k.core.before.length cP) k.core.leaving)::Row 44 1 (.slice aR pl.length cR) pl.length (pl.map fun p=>p.2)::bJ BL::bJ B::Core pc T k.core::je pb T.aV k.board::gG pf k.frames::dV pe k.errors::dG pq k.calls::gQ vb k.begun::Ints vx k.aO::l))
  (fun _ _ c _=>pl.length-(intOf c).toNat)
 case atStart=>exact⟨0,Nat.zero_le _,rfl,h6⟩
 case round=>
  obtain⟨j,hj,rfl,hw⟩:=hrel
  clear h6
  by_cases hlt:j<pl.length
  ·have hjm:j<k.marks.rings.length:=by omega
   have hul:=YG (j:=j) hmp (by omega)
   have hst:=UJ hmp hjm
   have agb:k.marks.rings.length≤(pl.map (·.1)).length∧(pl.map (·.1)).length≤k.marks.rings.length:=by omega
   have hgt:=ZJ hmp hjm
   rw[List.getElem?_eq_getElem hjm]at hgt
   have hjr:=hro _ (List.getElem_mem hlt)
   have hej:(pl.map (·.1))[j]'(by rw[List.length_map];exact hlt)=pl[j].1:=by simp
   rw[hej]at hst
   have jO:(pl.map fun p=>p.2)[j]? =some pl[j].2:=by simp[hlt]
   generalize k.marks.rings[j]=mj at*
   generalize pl[j]=pj at*
   rcases pj with⟨lj,vj⟩
   simp only at hjr hst jO
   obtain⟨aj,cj,rfl⟩:=hjr.form
   have hcj:∃gR,aR=some ⟨gR,0,none⟩∧wr.cell? ⟨gR,j,none⟩=some (.slice aj lj.length cj):=by
    rcases(hw.ae p3).aU with⟨_,e,_⟩|⟨g,cap,ext,e,_⟩
    ·omega
    ·cases e
     exact⟨g,rfl,(hw.ae p3).gI jO⟩
   obtain⟨gR,rfl,hcj⟩:=hcj
   generalize hU:PW k.marks.rings (pl.map (·.1)) j=U at*
   have hUl:U.length≤pl.length∧pl.length≤U.length:=by omega
   clear hul
   rcases(hw.ae p1).aU with⟨_,e,_⟩|⟨gk,ck,extk,e,_⟩
   ·omega
   subst e
   have kT:=hw.cells
   have hcM:wr.cell? ⟨gk,j,none⟩=some (.int .i64 mj):=by
    have:=(hw.ae p1).bT (sl:=U.map jf) (size:=1) (i:=j) (x:=jf mj) (by intro y hy;obtain⟨q,_,rfl⟩:=List.mem_map.1 hy;rfl) (by rw[List.getElem?_map,hgt];rfl) 0 (u:= .int .i64 mj) rfl
    simpa using this
   have aeZ:=(hw.ae p1).fH (off:=j)
   have n1:(j:Int)<pl.length:=by omega
   have n2:(0:Int)≤(j:Int):=by omega
   have n3:(j:Int)<U.length:=by omega
   go_upto_region 4 with(fail)
   refine rg ⟨[],[18]⟩ [.c 0 0,.c 0 1,.c 0 2,.c 0 3,.c 1 4,.c 0 5,.c 0 6,.c 0 7,.c 0 8,.c 0 9,.c 1 10,.c 0 11,.c 0 12,.c 1 13,.c 0 14,.c 0 15,.c 0 16,.c 0 17,.e 18] ?_
   refine rG ?_;intro K hK
   go_wp2_with fail
   try refine aS ?_
   have Lu:=In.Dc (slot:=jf) (size:=1) (fun _=>rfl) (hw.ae p1) hgt 0 (y:=UE mj lj) (u:= .int .i64 (UE mj lj)) (by omega) rfl rfl
   rw[Nat.mul_one,Nat.add_zero,hst]at Lu
   have h8:In w0 (wr.setCell ⟨gk,j,none⟩ (.int .i64 (max mj lj.length))).drew _:=Lu.drew
   go_upto_region 5 with(fail)
   refine In.abs h8 ?_
   clear h8 Lu hw hcj kT hcM aeZ
   intro w9 h9
   go_wp2_with fail
   go_roundw
   case rel=>
    refine⟨j+1,hlt,by go_num,?_⟩
    have e:U.length=(PW k.marks.rings (pl.map (·.1)) (j+1)).length:=by rw[←hst,List.length_set]
    rw[e]at h9
    have h10:In w0 w9 (Ints (.slice (some ⟨gk,0,none⟩) (PW k.marks.rings (pl.map (·.1)) (j+1)).length ck) (PW k.marks.rings (pl.map (·.1)) (j+1))::_):=h9
    rw[←e]at h10
    exact h10.s
   case measure=>simp[intOf]<;>omega
  ·have hke:j=pl.length:=by omega
   subst hke
   have hz0:PW k.marks.rings (pl.map (·.1)) pl.length=List.zipWith UE k.marks.rings (pl.map (·.1)):=by have:=Zf hmp;rwa[List.length_map]at this
   rw[hz0]at hw
   clear hz0
   have hend:=hpe k.marks.rings
   have ae0:(List.zipWith UE k.marks.rings (pl.map (·.1))).length=k.marks.rings.length:=by rw[List.length_zipWith,←hmp,Nat.min_self]
   generalize hmr:List.zipWith UE k.marks.rings (pl.map (·.1))=mr at*
   have O1:=hw.pr [0,0,0,2,2,2,2,2,2,2,2] 2
   have h6:In w0 wr (pts r (aX T {k with marks:=⟨mr,k.marks.pre,k.marks.frames,k.marks.errors,k.marks.calls⟩} ⟨vt,vr,vs,vc,va,vi,vm,pc,pb,pf,pe,pq,vk,vb,vx⟩)::Ints vk mr::pts z (EP (.slice aT nT cT) (.slice aR pl.length cR) (.slice aP k.core.before.length cP) k.core.leaving)::bJ B::Core pc T k.core::je pb T.aV k.board::gG pf k.frames::dV pe k.errors::dG pq k.calls::gQ vb k.begun::Ints vx k.aO::l):=O1
   clear O1
   clear hw hpe hmp hmr hro
   have afk:mr.length≤k.marks.rings.length∧k.marks.rings.length≤mr.length:=by omega
   clear ae0
   have kT:=h6.cells
   have jb:=h6.free
   have fZ:=(h6.ae p2).cells
   have n1:¬((pl.length:Int)<pl.length):=by omega
   go_upto_region 6 with(fail)
   refine rg ⟨[],[13]⟩ [.c 0 0,.c 0 1,.c 0 2,.c 0 3,.c 0 4,.c 1 5,.c 0 6,.c 1 7,.c 0 8,.c 0 9,.c 0 10,.c 0 11,.c 0 12,.e 13] ?_
   refine rG ?_;intro K hK
   go_wp2_with fail
   try refine aS ?_
   go_upto_region 7 with(fail)
   have h7:In w0 _ (pts r (aX T {k with marks:=⟨mr,max k.marks.pre (k.core.before.length:Int),k.marks.frames,k.marks.errors,k.marks.calls⟩} ⟨vt,vr,vs,vc,va,vi,vm,pc,pb,pf,pe,pq,vk,vb,vx⟩)::_):=(h6.setCell (off:=24) (.int .i64 (max k.marks.pre (k.core.before.length:Int)))).drew
   refine In.abs h7 ?_
   clear h7 h6 kT jb fZ
   intro w7 h7
   have kT:=h7.cells
   have jb:=h7.free
   refine rg ⟨[],[15]⟩ [.c 0 0,.c 0 1,.c 0 2,.c 0 3,.c 0 4,.c 1 5,.c 0 6,.c 0 7,.c 0 8,.c 1 9,.e 10,.c 0 11,.c 0 12,.c 0 13,.c 0 14,.e 15] ?_
   refine P8 ?_;intro K hK
   go_wp2_with (go_at_call 30;refine bW (Xu (h7.drew.ae p6)) ?_)
   go_wp2_with fail
   refine rG ?_;intro K hK
   go_wp2_with fail
   try refine aS ?_
   go_upto_region 8 with(fail)
   have h8:In w0 _ (pts r (aX T {k with marks:=⟨mr,max k.marks.pre (k.core.before.length:Int),max k.marks.frames (k.frames.items.length:Int),k.marks.errors,k.marks.calls⟩} ⟨vt,vr,vs,vc,va,vi,vm,pc,pb,pf,pe,pq,vk,vb,vx⟩)::_):=(h7.drew.setCell (off:=25) (.int .i64 (max k.marks.frames (k.frames.items.length:Int))))
   refine In.abs h8 ?_
   clear h8 h7 kT jb
   intro w8 h8
   have kT:=h8.cells
   have jb:=h8.free
   refine rg ⟨[],[15]⟩ [.c 0 0,.c 0 1,.c 0 2,.c 0 3,.c 0 4,.c 1 5,.c 0 6,.c 0 7,.c 0 8,.c 1 9,.e 10,.c 0 11,.c 0 12,.c 0 13,.c 0 14,.e 15] ?_
   refine P8 ?_;intro K hK
   go_wp2_with (go_at_call 95;refine bW (acT (h8.drew.ae p7)) ?_)
   go_wp2_with fail
   refine rG ?_;intro K hK
   go_wp2_with fail
   try refine aS ?_
   go_upto_region 9 with(fail)
   have h9:In w0 _ (pts r (aX T {k with marks:=⟨mr,max k.marks.pre (k.core.before.length:Int),max k.marks.frames (k.frames.items.length:Int),max k.marks.errors (k.errors.items.length:Int),k.marks.calls⟩} ⟨vt,vr,vs,vc,va,vi,vm,pc,pb,pf,pe,pq,vk,vb,vx⟩)::_):=(h8.drew.setCell (off:=26) (.int .i64 (max k.marks.errors (k.errors.items.length:Int))))
   refine In.abs h9 ?_
   clear h9 h8 kT jb
   intro w9 h9
   have kT:=h9.cells
   have jb:=h9.free
   refine rg ⟨[],[15]⟩ [.c 0 0,.c 0 1,.c 0 2,.c 0 3,.c 0 4,.c 1 5,.c 0 6,.c 0 7,.c 0 8,.c 1 9,.e 10,.c 0 11,.c 0 12,.c 0 13,.c 0 14,.e 15] ?_
   refine P8 ?_;intro K hK
   go_wp2_with (go_at_call 96;refine bW (VB (h9.drew.ae p8)) ?_)
   go_wp2_with fail
   refine rG ?_;intro K hK
   go_wp2_with fail
   try refine aS ?_
   go_wp2_with fail
   have h10:In w0 _ (pts r (aX T {k with marks:=⟨mr,max k.marks.pre (k.core.before.length:Int),max k.marks.frames (k.frames.items.length:Int),max k.marks.errors (k.errors.items.length:Int),max k.marks.calls (k.calls.items.length:Int)⟩} ⟨vt,vr,vs,vc,va,vi,vm,pc,pb,pf,pe,pq,vk,vb,vx⟩)::_):=(h9.drew.setCell (off:=27) (.int .i64 (max k.marks.calls (k.calls.items.length:Int))))
   refine In.abs h10 ?_
   clear h10 h9 kT jb
   intro w10 h10
   go_end0
   refine⟨rfl,?_⟩
   have hkm:k.mark T= {k with marks:=⟨mr,max k.marks.pre (k.core.before.length:Int),max k.marks.frames (k.frames.items.length:Int),max k.marks.errors (k.errors.items.length:Int),max k.marks.calls (k.calls.items.length:Int)⟩}:=by unfold aB.mark ug.up;rw[show(fun(x:Int) (l:List Int)=>max x (l.length:Int))=UE from rfl,hend]
   rw[hkm]
   refine bZ (x:=⟨vt,vr,vs,vc,va,vi,vm,pc,pb,pf,pe,pq,vk,vb,vx⟩) ⟨a.tab,a.chk,a.num,?_,a.gh⟩ (h10.s)
   show mr.length=_
   omega
end
def cO (f:aK):Value:= .agg #[.int .i64 f.kind,.int .i64 f.id,.int .i64 f.status,.int .i64 f.service,.int .u32 f.jC]
section
variable {w0 w:World} {l:List SL} {r:Nat} {T:ah} {k:aB} {G:Value→Prop}
theorem Fj (h:In w0 w (eF G r T k::l)):aW 33 #[r] w w0 (cO k.top) (eF G r T k::l):=by
 obtain⟨B,x,a,h0⟩:=dD h
 rcases x with⟨vt,vr,vs,vc,va,vi,vm,pc,pb,pf,pe,pq,vk,vb,vx⟩
 simp only at h0
 have h1:=h0.alloc (qo 0 0 0 0 0)
 clear h0 h
 have hgo:∃c:oV,k.top=c.frame∧∀ {w':World} {l':List SL},In w0 w' (gG pf k.frames::l')→Calls prog 81 #[pf] w' fun e w''=>(∃b,e= .returned (.tuple #[.agg #[.int .i64 c.frame.kind,.int .i64 c.frame.id,.int .i64 c.frame.status,.int .i64 c.frame.service,.int .u32 c.frame.jC,.bool c.gate.shut,.int .i64 c.gate.all,.int .i64 c.gate.os],.bool b]))∧In w0 w'' (gG pf k.frames::l'):=by
  rcases List.eq_nil_or_concat k.frames.items with hn|⟨xs,c,hn⟩
  ·exact⟨⟨⟨0,0,0,0,0⟩,⟨false,0,0⟩⟩,by unfold aB.top aB.ctx;rw[hn];rfl,fun h=>(EC h hn).mono fun e w' q=>⟨⟨false,q.1⟩,q.2⟩⟩
  ·rw[List.concat_eq_append]at hn
   exact⟨c,by unfold aB.top aB.ctx;rw[hn];simp,fun h=>(F6 h hn).mono fun e w' q=>⟨⟨true,q.1⟩,q.2⟩⟩
 obtain⟨⟨⟨kd,id,st,sv,pa⟩,⟨sh,al,os⟩⟩,htop,Eo⟩:=hgo
 rw[htop]
 clear htop
 simp only at Eo⊢
 unfold cO
 go_enter func33,ntmps33
 go_upto_region 1 with(fail)
 refine In.abs h1 ?_
 clear h1
 generalize w.heap.size=z
 intro w2 h2
 have bC:=(h2.ae p1).cells
 have htp:=Eo (h2.ae p5)
 go_upto_region 2 with(go_at_call 81;refine Calls.mono htp ?_;rintro _ w3 ⟨⟨bt,rfl⟩,h3⟩)
 have h4:=h3.alloc (EG kd id st sv pa sh al os)
 refine In.abs h4 ?_
 clear h4 h3 h2 htp bC Eo
 generalize w3.heap.size=y
 intro w4 h4
 have Dw:=h4.cells
 have fZ:=(h4.ae p2).cells
 have jb:=(h4.ae p2).free
 have h5:=(h4.ae p2).fill [.int .i64 kd,.int .i64 id,.int .i64 st,.int .i64 sv,.int .u32 pa] rfl
 simp only[dm]at h5
 go_wp2_with fail
 refine In.abs h5 ?_
 clear h5 h4 Dw fZ jb
 intro w5 h5
 have hc:=h5.cells
 refine bodyPost_ret (v:= .agg #[.int .i64 kd,.int .i64 id,.int .i64 st,.int .i64 sv,.int .u32 pa]) (by simp[results,results33,go_sem,hc]) rfl ?_
 exact⟨rfl,bZ a (h5.s)⟩
theorem nR (h:In w0 w (eF G r T k::l)) (f:aK) (hf:k.frames.items.length<k.frames.depth) (hb:k.begun.length≤100000):aW 80 #[r,cO f] w w0 (.tuple #[]) (eF G r T (k.begin T f)::l):=by
 obtain⟨B,x,a,h0⟩:=dD h
 rcases x with⟨vt,vr,vs,vc,va,vi,vm,pc,pb,pf,pe,pq,vk,vb,vx⟩
 simp only at h0
 rcases f with⟨kd,id,st,sv,pa⟩
 unfold cO
 simp only
 have h1:=h0.alloc (qo kd id st sv pa)
 clear h0 h
 have hcase:(decide (3≤kd)=false∧k.begin T ⟨kd,id,st,sv,pa⟩=aB.mark T {k with frames:={k.frames with items:=k.frames.items++ [⟨⟨kd,id,st,sv,pa⟩,k.gate⟩]}})∨(decide (3≤kd)=true∧k.begin T ⟨kd,id,st,sv,pa⟩=aB.mark T {k with frames:={k.frames with items:=k.frames.items++ [⟨⟨kd,id,st,sv,pa⟩,k.gate⟩]},begun:=k.begun++ [⟨kd,id,st,sv,pa⟩]}):=by
  by_cases h3:3≤kd
  ·exact .inr ⟨by simpa using h3,by unfold aB.begin;simp only[if_pos h3]⟩
  ·exact .inl ⟨by simpa using h3,by unfold aB.begin;simp only[if_neg h3]⟩
 rcases hcase with⟨hd,he⟩|⟨hd,he⟩
 all_goals
  rw[he]
  clear he
  go_enter func80,ntmps80
  go_upto_region 1 with(fail)
  refine In.abs h1 ?_
  clear h1
  generalize w.heap.size=z
  intro w2 h2
  have bC:=(h2.ae p1).cells
  have fZ:=h2.cells
  refine rg ⟨[],[10]⟩ [.c 0 0,.c 0 1,.c 0 2,.c 1 3,.c 1 4,.c 0 5,.c 0 6,.c 0 7,.c 1 8,.c 0 9,.e 10] ?_
  refine rG ?_;intro K hK
  try refine aS ?_
  have hpu:=ZZ (⟨⟨kd,id,st,sv,pa⟩,k.gate⟩:oV) (h2.drew.ae p5) hf
  simp only at hpu
  go_wp2_with (go_at_call 211;refine bF hpu ?_;intro w3 h3)
  go_wp2_with fail
  try refine aS ?_
  clear bC fZ hpu h2
  have h4:=h3.pr [2,1,1,1,1,0,0,0,0,0,0]
  clear h3
  have fZ:=(h4.ae p1).cells
  have hro:=xW ⟨kd,id,st,sv,pa⟩ h4
  simp only at hro
  rw[hd]at hro
 ·go_upto_region 4 with(go_at_call 32;refine bF hro ?_;intro w5 h5)
  have O1:=h5.pr [0,1,1,1,1,1,1,1,1,1] 1
  have h6:In w0 w5 (eF G r T {k with frames:={k.frames with items:=k.frames.items++ [⟨⟨kd,id,st,sv,pa⟩,k.gate⟩]}}::l):=bZ (x:=⟨vt,vr,vs,vc,va,vi,vm,pc,pb,pf,pe,pq,vk,vb,vx⟩) (a.turn (k':={k with frames:={k.frames with items:=k.frames.items++ [⟨⟨kd,id,st,sv,pa⟩,k.gate⟩]}}) rfl) O1
  clear O1 h5 h4 fZ hro
  have hmk:=uD h6
  go_wp2_with (go_at_call 38;refine bF hmk ?_;intro w7 h7)
  go_end0
  exact⟨rfl,h7⟩
 ·go_upto_region 3 with(go_at_call 32;refine bF hro ?_;intro w5 h5)
  have h6f:=h5.pr [9,0,0,0,0,0,0,0,0,0,0]
  have h6:In w0 w5 (Row 42 5 vb k.begun.length (k.begun.map jc).flatten::pts r (aX T k ⟨vt,vr,vs,vc,va,vi,vm,pc,pb,pf,pe,pq,vk,vb,vx⟩)::pts z (qo kd id st sv pa)::bJ B::Core pc T k.core::je pb T.aV k.board::gG pf {k.frames with items:=k.frames.items++ [⟨⟨kd,id,st,sv,pa⟩,k.gate⟩]}::dV pe k.errors::dG pq k.calls::Ints vk k.marks.rings::Ints vx k.aO::l):=h6f
  clear h6f
  clear h5 h4 fZ hro
  obtain⟨ab,cb,rfl⟩:=h6.aG
  have bC:=(h6.ae p1).cells
  have fZ:=(h6.ae p2).cells
  have hS0:=(h6.drew).ps [1,1]
  refine nK hS0 ⟨[6],[7,10]⟩ [.c 0 0,.c 0 1,.c 0 2,.c 0 3,.c 2 4,.c 1 5,.e 6,.e 7,.c 0 8,.c 0 9,.e 10] ?_
  refine nD ?_;intro K hK
  go_wp2_with fail
  refine df hK ((hS0.alloc _).drop) fun hS0=>?_
  refine bG rfl rfl fun K hK=>?_
  refine aZ Yi (h6.drew.alloc (qo kd id st sv pa)) (by rfl) (by rfl) (by rfl) (by simp[Value.oneCell']) (by omega) ?_
  intro u7 w7 h7
  obtain⟨a7,c7,rfl⟩:=h7.aG
  clear bC fZ
  have bC:=(h7.ae p1).cells
  have jb:=(h7.ae p1).free
  go_wp2_with fail
  refine uw ?_;intro K hK
  go_wp2_with fail
  try refine aS ?_
  go_upto_region 4 with(fail)
  have h8:In w0 _ (pts r (aX T {k with frames:={k.frames with items:=k.frames.items++ [⟨⟨kd,id,st,sv,pa⟩,k.gate⟩]},begun:=k.begun++ [⟨kd,id,st,sv,pa⟩]} ⟨vt,vr,vs,vc,va,vi,vm,pc,pb,pf,pe,pq,vk,.slice a7 (k.begun.length+1) c7,vx⟩)::_):=(h7.ae p1).setCell (off:=28) (.slice a7 (k.begun.length+1) c7)
  refine In.abs h8 ?_
  clear h8 h7 h6 bC jb
  intro w8 h8
  have e1:(k.begun.map jc).flatten++ [.int .i64 kd,.int .i64 id,.int .i64 st,.int .i64 sv,.int .u32 pa]=((k.begun++ [(⟨kd,id,st,sv,pa⟩:aK)]).map jc).flatten:=by rw[List.map_append,List.flatten_append];simp[jc]
  have e2:k.begun.length+1=(k.begun++ [(⟨kd,id,st,sv,pa⟩:aK)]).length:=by rw[List.length_append];rfl
  rw[e1]at h8
  have h9:In w0 w8 (pts r (aX T {k with frames:={k.frames with items:=k.frames.items++ [⟨⟨kd,id,st,sv,pa⟩,k.gate⟩]},begun:=k.begun++ [⟨kd,id,st,sv,pa⟩]} ⟨vt,vr,vs,vc,va,vi,vm,pc,pb,pf,pe,pq,vk,.slice a7 (k.begun.length+1) c7,vx⟩)::bJ B::Core pc T k.core::je pb T.aV k.board::gG pf {k.frames with items:=k.frames.items++ [⟨⟨kd,id,st,sv,pa⟩,k.gate⟩]}::dV pe k.errors::dG pq k.calls::Ints vk k.marks.rings::gQ (.slice a7 (k.begun.length+1) c7) (k.begun++ [⟨kd,id,st,sv,pa⟩])::Ints vx k.aO::l):=by
   unfold gQ
   rw[←e2]
   exact h8.s
  have h10:In w0 w8 (eF G r T {k with frames:={k.frames with items:=k.frames.items++ [⟨⟨kd,id,st,sv,pa⟩,k.gate⟩]},begun:=k.begun++ [⟨kd,id,st,sv,pa⟩]}::l):=bZ (x:=⟨vt,vr,vs,vc,va,vi,vm,pc,pb,pf,pe,pq,vk,.slice a7 (k.begun.length+1) c7,vx⟩) ⟨a.tab,a.chk,a.num,a.len,a.gh⟩ h9
  clear h9 h8
  have hmk:=uD h10
  go_wp2_with (go_at_call 38;refine bF hmk ?_;intro w11 h11)
  go_end0
  exact⟨rfl,h11⟩
end
section
variable {w0 w:World} {l:List SL} {r:Nat} {T:ah} {k:aB} {G:Value→Prop}
theorem fK (h:In w0 w (eF G r T k::l)):∃B x,yG G B T k x∧In w0 w (Core x.pc T k.core::pts r (aX T k x)::bJ B::je x.pb T.aV k.board::gG x.pf k.frames::dV x.pe k.errors::dG x.pq k.calls::Ints x.vk k.marks.rings::gQ x.vb k.begun::Ints x.vx k.aO::l):=by
 obtain⟨B,x,a,h1⟩:=dD h
 exact⟨B,x,a,h1.ae p2⟩
theorem bY {B:List (Nat × Obj)} {x:Ip} {c:az} (a:yG G B T k x) (h:In w0 w (Core x.pc T c::pts r (aX T k x)::bJ B::je x.pb T.aV k.board::gG x.pf k.frames::dV x.pe k.errors::dG x.pq k.calls::Ints x.vk k.marks.rings::gQ x.vb k.begun::Ints x.vx k.aO::l)):In w0 w (eF G r T {k with core:=c}::l):=
 bZ (k:={k with core:=c}) (x:=x) ⟨a.tab,a.chk,a.num,a.len,a.gh⟩ (h.s:In w0 w (pts r (aX T k x)::bJ B::Core x.pc T c::je x.pb T.aV k.board::gG x.pf k.frames::dV x.pe k.errors::dG x.pq k.calls::Ints x.vk k.marks.rings::gQ x.vb k.begun::Ints x.vx k.aO::l))
theorem GU (h:In w0 w (eF G r T k::l)) (hf:T.use 16=true→k.frames.items.length<k.frames.depth) (hb:k.begun.length≤100000):aW 89 #[r] w w0 (.tuple #[]) (eF G r T (k.leave T)::l):=by
 have hu:=uy h 16
 unfold aB.leave
 cases hq:T.use 16 with
 |false=>
  rw[hq]at hu
  simp only[Bool.false_eq_true,if_false]
  go_enter func89,ntmps89
  go_wp2_with (go_at_call 79;refine bW hu ?_)
  go_end0
  exact⟨rfl,h⟩
 |true=>
  rw[hq]at hu
  simp only[if_true]
  obtain⟨B,x,a,h1⟩:=fK h
  have bC:=(h1.ae p1).cells
  have hrn:=BD h1
  have hbg:=nR h (.of 7 k.core.tk.running) (hf hq) hb
  unfold cO aK.of at hbg
  simp only at hbg
  clear h1
  go_enter func89,ntmps89
  go_wp2_with (first|(go_at_call 79;refine bW hu ?_)|(go_at_call 236;refine bW hrn ?_)|(go_at_call 80;refine bF hbg ?_;intro w4 h4))
  go_end0
  exact⟨rfl,h4⟩
theorem abt {n:Int} {c:az} (h:In w0 w (eF G r T k::l)) (hr:k.core.tk.running= -1) (hn:k.core.runs T=some (n,c)) (hf:k.frames.items.length+1<k.frames.depth) (hb:k.begun.length≤90000):aW 249 #[r] w w0 (.tuple #[]) (eF G r T (k.run T)::l):=by
 obtain⟨B,x,a,h1⟩:=fK h
 have bC:=(h1.ae p1).cells
 have hrn:=aaW h1 hr hn
 have hrun:k.run T=if T.use 8 then(({k with core:=c}:aB).begin T (.of 1 n)).begin T (.of 6 n) else({k with core:=c}:aB).begin T (.of 1 n):=by unfold aB.run;rw[hn]
 rw[hrun]
 clear hrun hn
 have hfr:(({k with core:=c}:aB).begin T (.of 1 n)).frames.items.length<(({k with core:=c}:aB).begin T (.of 1 n)).frames.depth:=by
  simp only[aB.begin,aB.mark,List.length_append,List.length_singleton]
  exact hf
 have ae1:(({k with core:=c}:aB).begin T (.of 1 n)).begun.length≤100000:=by
  simp[aB.begin,aB.mark,aK.of]
  omega
 have hf1:k.frames.items.length<k.frames.depth:=by omega
 have hb1:k.begun.length≤100000:=by omega
 clear hf hb
 cases hq:T.use 8 with
 |false=>
  simp only[Bool.false_eq_true,if_false]
  go_enter func249,ntmps249
  go_upto_region 2 with(go_at_call 350;refine bF hrn ?_;intro w3 h3)
  have h4:=bY a h3
  clear h3 bC hrn h1
  have hbg:=nR h4 (.of 1 n) hf1 hb1
  unfold cO aK.of at hbg
  simp only at hbg
  go_upto_region 3 with(go_at_call 80;refine bF hbg ?_;intro w5 h5)
  have hu:=uy h5 8
  rw[hq]at hu
  go_wp2_with (go_at_call 79;refine bW hu ?_)
  go_end0
  exact⟨rfl,h5⟩
 |true=>
  simp only[if_true]
  go_enter func249,ntmps249
  go_upto_region 2 with(go_at_call 350;refine bF hrn ?_;intro w3 h3)
  have h4:=bY a h3
  clear h3 bC hrn h1
  have hbg:=nR h4 (.of 1 n) hf1 hb1
  unfold cO aK.of at hbg
  simp only at hbg
  go_upto_region 3 with(go_at_call 80;refine bF hbg ?_;intro w5 h5)
  clear hbg
  have hu:=uy h5 8
  rw[hq]at hu
  have hbg:=nR h5 (.of 6 n) hfr ae1
  unfold cO at hbg
  have hof:aK.of 6 n=⟨6,n,0,0,0⟩:=rfl
  rw[hof]at hbg
  simp only at hbg
  go_wp2_with (first|(go_at_call 79;refine bW hu ?_)|(go_at_call 80;refine bF hbg ?_;intro w7 h7))
  go_end0
  exact⟨rfl,h7⟩
end
def mW (w0:World) (G:Value→Prop) (r:Nat) (T:ah) (k:aB) (l:List SL) (d:YB) (e:Ending) (w':World):Prop:=
 match d with
 | .did k1=>e= .returned (.tuple #[.bool true,.bool false])∧In w0 w' (eF G r T k1::l)
 | .pass=>e= .returned (.tuple #[.bool false,.bool false])∧In w0 w' (eF G r T k::l)
 | .stop=>e= .returned (.tuple #[.bool false,.bool true])∧In w0 w' (eF G r T k::l)
section
variable {w0 w:World} {l:List SL} {r:Nat} {T:ah} {k:aB} {G:Value→Prop}
theorem JK (h:In w0 w (eF G r T k::l)) (hf:k.errors.items≠ []→k.frames.items.length<k.frames.depth) (hb:k.begun.length≤100000):
 Calls prog 101 #[r] w (mW w0 G r T k l (k.rule T 1)):=by
 obtain⟨B,x,a,h1⟩:=dD h
 have bC:=h1.cells
 cases hn:k.errors.items with
 |nil=>
  have hr:k.rule T 1= .pass:=by simp only[aB.rule,hn]
  rw[hr]
  unfold mW
  simp only
  have htk:=MJ (h1.ae p5) hn
  clear hr hn hf
  go_enter func101,ntmps101
  go_upto_region 2 with(go_at_call 241;refine bF htk ?_;intro w3 h3)
  have h4:=h3.alloc (qo 0 0 0 0 0)
  go_wp2_with fail
  go_ret2
  exact⟨rfl,bZ a (h4.s)⟩
 |cons f fs=>
  have hf2:=hf (by rw[hn];simp)
  have hr:k.rule T 1= .did (if T.use 2 then({k with errors:={k.errors with items:=fs}}:aB).begin T f else {k with errors:={k.errors with items:=fs}}):=by simp only[aB.rule,hn]
  rw[hr]
  unfold mW
  simp only
  have htk:=aby (h1.ae p5) hn
  clear hr hn hf
  rcases f with⟨kd,id,st,sv,pa⟩
  simp only at htk
  cases hq:T.use 2 with
  |false=>
   simp only[Bool.false_eq_true,if_false]
   go_enter func101,ntmps101
   go_upto_region 2 with(go_at_call 241;refine bF htk ?_;intro w3 h3)
   have h4:=h3.alloc (qo kd id st sv pa)
   refine In.abs h4 ?_
   clear h4 h3 bC htk h1 h
   generalize w3.heap.size=z
   intro w4 h4
   have H8:=h4.pr [2,2,2,2,2,1,1,1,1,1,0]
   have h5:=bZ (k:={k with errors:={k.errors with items:=fs}}) (x:=x) ⟨a.tab,a.chk,a.num,a.len,a.gh⟩ H8
   have hu:=uy h5 2
   rw[hq]at hu
   go_wp2_with (go_at_call 79;refine bW hu ?_)
   go_ret2
   exact⟨rfl,h5.s⟩
  |true=>
   simp only[if_true]
   go_enter func101,ntmps101
   go_upto_region 2 with(go_at_call 241;refine bF htk ?_;intro w3 h3)
   have h4:=h3.alloc (qo kd id st sv pa)
   refine In.abs h4 ?_
   clear h4 h3 bC htk h1 h
   generalize w3.heap.size=z
   intro w4 h4
   have H8:=h4.pr [2,2,2,2,2,1,1,1,1,1,0]
   have h5:=bZ (k:={k with errors:={k.errors with items:=fs}}) (x:=x) ⟨a.tab,a.chk,a.num,a.len,a.gh⟩ H8
   have fZ:=(h5.ae p1).cells
   have hu:=uy h5 2
   rw[hq]at hu
   have hbg:=nR h5 ⟨kd,id,st,sv,pa⟩ hf2 hb
   unfold cO at hbg
   simp only at hbg
   go_wp2_with (first|(go_at_call 79;refine bW hu ?_)|(go_at_call 80;refine bF hbg ?_;intro w7 h7))
   go_ret2
   exact⟨rfl,h7.s⟩
theorem OQ (h:In w0 w (eF G r T k::l)) (hf:k.calls.items≠ []→k.frames.items.length<k.frames.depth) (hb:k.begun.length≤100000):
 Calls prog 102 #[r] w (mW w0 G r T k l (k.rule T 3)):=by
 obtain⟨B,x,a,h1⟩:=dD h
 have bC:=h1.cells
 cases hn:k.calls.items with
 |nil=>
  have hr:k.rule T 3= .pass:=by simp only[aB.rule,hn]
  rw[hr]
  unfold mW
  simp only
  have htk:=MB (h1.ae p6) hn
  clear hr hn hf
  go_enter func102,ntmps102
  go_upto_region 2 with(go_at_call 242;refine bF htk ?_;intro w3 h3)
  go_wp2_with fail
  go_ret2
  exact⟨rfl,bZ a (h3.s)⟩
 |cons f fs=>
  have hf2:=hf (by rw[hn];simp)
  have hr:k.rule T 3= .did (({k with calls:={k.calls with items:=fs}}:aB).begin T (.of 8 f)):=by simp only[aB.rule,hn]
  rw[hr]
  unfold mW
  simp only
  have htk:=U7 (h1.ae p6) hn
  clear hr hn hf
  go_enter func102,ntmps102
  go_upto_region 2 with(go_at_call 242;refine bF htk ?_;intro w3 h3)
  have H8:=h3.pr [1,1,1,1,1,1,0,0,0,0]
  have h5:=bZ (k:={k with calls:={k.calls with items:=fs}}) (x:=x) ⟨a.tab,a.chk,a.num,a.len,a.gh⟩ H8
  clear H8 h3 htk bC
  have hbg:=nR h5 (.of 8 f) hf2 hb
  unfold cO aK.of at hbg
  simp only at hbg
  go_wp2_with (go_at_call 80;refine bF hbg ?_;intro w7 h7)
  go_ret2
  exact⟨rfl,h7⟩
theorem WW (h:In w0 w (eF G r T k::l)) (hf:k.core.leaving≠0→k.frames.items≠ []):
 Calls prog 104 #[r] w (mW w0 G r T k l (k.rule T 5)):=by
 obtain⟨B,x,a,h1⟩:=fK h
 have bC:=(h1.ae p1).cells
 by_cases hl:k.core.leaving=0
 ·have hr:k.rule T 5= .pass:=by unfold aB.rule;simp only[if_pos hl]
  rw[hr]
  unfold mW
  simp only
  have hca:=SS h1 hl
  clear hr hf hl
  go_enter func104,ntmps104
  go_wp2_with (go_at_call 243;refine bW hca ?_)
  go_ret2
  exact⟨rfl,h⟩
 ·have hr:k.rule T 5= .did {k with core:=k.core.carry T,frames:={k.frames with items:=k.frames.items.dropLast}}:=by unfold aB.rule;simp only[if_neg hl]
  rw[hr]
  unfold mW
  simp only
  have hca:=VW h1 hl
  have hne:=hf hl
  obtain⟨xs,c,hxc⟩:∃xs c,k.frames.items=xs++ [c]:=⟨_,_,(List.dropLast_concat_getLast hne).symm⟩
  have hdl:k.frames.items.dropLast=xs:=by rw[hxc];simp
  rw[hdl]
  clear hr hf hl hne hdl
  go_enter func104,ntmps104
  go_upto_region 2 with(go_at_call 243;refine bF hca ?_;intro w3 h3)
  have kT:=(h3.ae p1).cells
  have hpo:=Bq (h3.ae p4) hxc
  clear hxc hca bC
  go_wp2_with (go_at_call 91;refine bF hpo ?_;intro w5 h5)
  go_ret2
  have h6:=h5.pr [2,2,1,1,0,0,0,0,0,0]
  exact⟨rfl,bZ (k:={k with core:=k.core.carry T,frames:={k.frames with items:=xs}}) (x:=x) ⟨a.tab,a.chk,a.num,a.len,a.gh⟩ h6⟩
theorem Nq (h:In w0 w (eF G r T k::l)) (hw:¬0≤k.core.tk.running→k.core.waiting=true→k.core.tk.running= -1∧(∃n c,k.core.runs T=some (n,c))∧k.frames.items.length+1<k.frames.depth) (hb:k.begun.length≤90000):
 Calls prog 106 #[r] w (mW w0 G r T k l (k.rule T 8)):=by
 obtain⟨B,x,a,h1⟩:=fK h
 have bC:=(h1.ae p1).cells
 have hrn:=BD h1
 have hwt:=GV h1
 by_cases hl:0≤k.core.tk.running
 ·have hr:k.rule T 8= .pass:=by unfold aB.rule;simp only[if_pos hl]
  rw[hr]
  unfold mW
  simp only
  clear hr hw
  go_enter func106,ntmps106
  go_wp2_with (go_at_call 236;refine bW hrn ?_)
  go_ret2
  exact⟨rfl,h⟩
 ·cases hq:k.core.waiting with
  |false=>
   have hr:k.rule T 8= .stop:=by unfold aB.rule;simp only[if_neg hl,hq];rfl
   rw[hr]
   unfold mW
   simp only
   rw[hq]at hwt
   clear hr hw hq
   have n1:k.core.tk.running<0:=by omega
   clear hl
   go_enter func106,ntmps106
   go_wp2_with (first|(go_at_call 236;refine bW hrn ?_)|(go_at_call 248;refine bW hwt ?_))
   go_ret2
   exact⟨rfl,h⟩
  |true=>
   obtain⟨hm,⟨n,c,hn⟩,hf⟩:=hw hl hq
   have hr:k.rule T 8= .did (k.run T):=by unfold aB.rule;simp only[if_neg hl,hq,if_true]
   rw[hr]
   unfold mW
   simp only
   rw[hq]at hwt
   have hru:=abt h hm hn hf hb
   clear hr hw hq hn hm
   have n1:k.core.tk.running<0:=by omega
   clear hl
   go_enter func106,ntmps106
   go_wp2_with (first|(go_at_call 236;refine bW hrn ?_)|(go_at_call 248;refine bW hwt ?_)|(go_at_call 249;refine bF hru ?_;intro w5 h5))
   go_ret2
   exact⟨rfl,h5⟩
theorem Qe (h:In w0 w (eF G r T k::l)) (hf:T.use 16=true→k.shut=false→k.core.due T=true→k.frames.items.length<k.frames.depth) (hb:k.begun.length≤100000):
 Calls prog 107 #[r] w (mW w0 G r T k l (k.rule T 9)):=by
 have hsh:=QK h
 obtain⟨B,x,a,h1⟩:=fK h
 have bC:=(h1.ae p1).cells
 have hdu:=abE h1
 cases hs:k.shut with
 |true=>
  have hr:k.rule T 9= .pass:=by unfold aB.rule;simp only[hs,Bool.true_or,if_true]
  rw[hr]
  unfold mW
  simp only
  rw[hs]at hsh
  clear hr hf hs
  go_enter func107,ntmps107
  go_wp2_with (go_at_call 85;refine bW hsh ?_)
  go_ret2
  exact⟨rfl,h⟩
 |false=>
  rw[hs]at hsh
  cases hd:k.core.due T with
  |false=>
   have hr:k.rule T 9= .pass:=by unfold aB.rule;simp[hs,hd]
   rw[hr]
   unfold mW
   simp only
   rw[hd]at hdu
   clear hr hf hs hd
   go_enter func107,ntmps107
   go_wp2_with (first|(go_at_call 85;refine bW hsh ?_)|(go_at_call 250;refine bF hdu ?_;intro w3 h3))
   go_ret2
   exact⟨rfl,bY (c:=k.core) a h3⟩
  |true=>
   have hr:k.rule T 9= .did (({k with core:=k.core.jQ}:aB).leave T):=by unfold aB.rule;simp[hs,hd]
   rw[hr]
   unfold mW
   simp only
   have hf2:=fun hu=>hf hu hs hd
   rw[hd]at hdu
   clear hr hf hs hd
   go_enter func107,ntmps107
   go_upto_region 3 with(first|(go_at_call 85;refine bW hsh ?_)|(go_at_call 250;refine bF hdu ?_;intro w3 h3))
   clear bC
   have bC:=(h3.ae p1).cells
   have hpr:=PZ h3
   go_upto_region 4 with(go_at_call 251;refine Calls.mono hpr ?_;rintro _ w5 ⟨⟨vv,rfl⟩,h5⟩)
   have h6:=bY a h5
   have hle:=GU h6 hf2 hb
   clear bC hpr
   go_wp2_with (go_at_call 89;refine bF hle ?_;intro w7 h7)
   go_ret2
   exact⟨rfl,h7⟩
end
theorem qY {α:Type} (p:α→Bool):∀(l:List α) (k n:Nat),n∈bV p k l→k≤n∧∃a,l[n-k]? =some a∧p a=true
 | [],_,_,h=>by simp[bV]at h
 |a::l,k,n,h=>by
  unfold bV at h
  have step:n∈bV p (k+1) l→k≤n∧∃b,(a::l)[n-k]? =some b∧p b=true:=fun h=>by
   obtain⟨h1,b,h2,h3⟩:=qY p l (k+1) n h
   refine⟨by omega,b,?_,h3⟩
   have e:n-k=(n-(k+1))+1:=by omega
   rw[e,List.getElem?_cons_succ]
   exact h2
  split at h
  ·rename_i hp
   rcases List.mem_cons.1 h with rfl|h
   ·exact⟨Nat.le_refl _,a,by rw[Nat.sub_self];rfl,hp⟩
   ·exact step h
  ·exact step h
theorem Pi {s:aJ} {i:Int} (h:i∈s.wanted):∃n:Nat,i=n∧s.req[n]? =some true:=by
 unfold aJ.wanted at h
 obtain⟨n,hn,rfl⟩:=List.mem_map.1 h
 obtain⟨_,a,h1,h2⟩:=qY _ _ _ _ hn
 rw[Nat.sub_zero]at h1
 subst h2
 exact⟨n,rfl,h1⟩
theorem Wq (t:fV) (s:aJ) (lv:Int) (g:lg):t.next s lv g= -1∨t.next s lv g∈s.wanted:=by
 unfold fV.next
 have key:∀(l:List Int) (p:Int × Int),(l.foldl (t.jB g) p).1=p.1∨(l.foldl (t.jB g) p).1∈l:=by
  intro l
  induction l with
  |nil=>intro p;exact .inl rfl
  |cons i l ih=>
   intro p
   rw[List.foldl_cons]
   rcases ih (t.jB g p i)with h|h
   ·rw[h]
    have:(t.jB g p i).1=p.1∨(t.jB g p i).1=i:=by
     unfold fV.jB
     split<;>(try split)<;>simp
    rcases this with h|h
    ·exact .inl h
    ·exact .inr (by rw[h];simp)
   ·exact .inr (List.mem_cons_of_mem _ h)
 exact key s.wanted (-1,lv)
section
variable {w0 w:World} {l:List SL} {r:Nat} {T:ah} {k:aB} {G:Value→Prop}
theorem Ef (h:In w0 w l) (n:Int):aW 245 #[.int .i64 n] w w0 (.agg #[.bool false,.int .i64 n]) l:=by
 have h1:=h.alloc (mi false 0)
 go_enter func245,ntmps245
 go_upto_region 1 with(fail)
 refine In.abs h1 ?_
 clear h1 h
 generalize w.heap.size=z
 intro w2 h2
 have fc_:=h2.facts
 have h3:=h2.fill [.bool false,.int .i64 n] rfl
 simp only[dm]at h3
 have hcc:=h3.cells
 go_wp2_with fail
 refine In.abs h3 ?_
 clear h3 hcc h2
 intro w3 h3
 have hc:=h3.cells
 refine bodyPost_ret (v:= .agg #[.bool false,.int .i64 n]) (by simp[results,results245,go_sem,hc]) rfl ?_
 exact⟨rfl,h3.drop⟩
theorem tJ (h:In w0 w l) (n:Int):aW 45 #[.int .i64 n] w w0 (.agg #[.bool true,.int .i64 n]) l:=by
 have h1:=h.alloc (mi false 0)
 go_enter func45,ntmps45
 go_upto_region 1 with(fail)
 refine In.abs h1 ?_
 clear h1 h
 generalize w.heap.size=z
 intro w2 h2
 have fc_:=h2.facts
 have h3:=h2.fill [.bool true,.int .i64 n] rfl
 simp only[dm]at h3
 have hcc:=h3.cells
 go_wp2_with fail
 refine In.abs h3 ?_
 clear h3 hcc h2
 intro w3 h3
 have hc:=h3.cells
 refine bodyPost_ret (v:= .agg #[.bool true,.int .i64 n]) (by simp[results,results45,go_sem,hc]) rfl ?_
 exact⟨rfl,h3.drop⟩
theorem La (h:In w0 w (eF G r T k::l)) (h1t:k.top.kind=1→∃y,T.eU.rows (oL k.top.id)=some y) (h2t:k.top.kind=2→∃y,T.eU.rows (eQ k.top.id)=some y) (hin:∀i∈k.board.wanted,∃n:Nat,i=n∧n<T.bf.length)
 (hf:k.board.wanted≠ []→k.frames.items.length<k.frames.depth) (hb:k.begun.length≤100000):
 Calls prog 105 #[r] w (mW w0 G r T k l (k.rule T 6)):=by
 have htp:=Fj h
 unfold cO at htp
 generalize htop:k.top=f at*
 have hab:k.above T=if f.kind=1 then T.eU.aI k.core.lock (oL f.id) else if f.kind=2 then T.eU.aI k.core.lock (eQ f.id) else-1:=by unfold aB.above;rw[htop]
 have hnx:=Wq T.aV k.board (k.above T) k.gate
 have hr:k.rule T 6=if 0≤T.aV.next k.board (k.above T) k.gate then .did (({k with board:={k.board with req:=k.board.req.set (T.aV.next k.board (k.above T) k.gate).toNat false}}:aB).begin T (.of 2 (T.aV.next k.board (k.above T) k.gate))) else .pass:=rfl
 generalize k.above T=lv at*
 generalize hni:T.aV.next k.board lv k.gate=i at*
 clear htop
 rcases f with⟨kd,id,st,sv,pa⟩
 simp only at htp hab h1t h2t
 have hi:(i= -1∧k.rule T 6= .pass)∨∃n:Nat,i=n∧n<T.bf.length∧k.board.req[n]? =some true∧k.frames.items.length<k.frames.depth∧k.rule T 6= .did (({k with board:={k.board with req:=k.board.req.set n false}}:aB).begin T (.of 2 n)):=by
  rcases hnx with e|hm
  ·exact .inl ⟨e,by rw[hr,e];rfl⟩
  ·right
   obtain⟨n,e1,e2⟩:=hin i hm
   obtain⟨n',e3,e4⟩:=Pi hm
   have:n'=n:=by omega
   subst this
   refine⟨n',e1,e2,e4,hf (List.ne_nil_of_mem hm),?_⟩
   rw[hr,e1,if_pos (by omega),Int.toNat_natCast]
 clear hr hnx hf
 generalize k.rule T 6=d at*
 have hkc:(kd=1∧lv=T.eU.aI k.core.lock (oL id))∨(kd=2∧lv=T.eU.aI k.core.lock (eQ id))∨((kd==1)=false∧(kd==2)=false∧lv= -1):=by
  by_cases c1:kd=1
  ·exact .inl ⟨c1,by rw[hab,if_pos c1]⟩
  ·by_cases c2:kd=2
   ·exact .inr (.inl ⟨c2,by rw[hab,if_neg c1,if_pos c2]⟩)
   ·exact .inr (.inr ⟨by simpa using c1,by simpa using c2,by rw[hab,if_neg c1,if_neg c2]⟩)
 clear hab
 have RP:∀ {o:bK} {y:mD} {w':World} {l':List SL} {pc:Nat},T.eU.rows o=some y→In w0 w' (Core pc T k.core::l')→aW 244 #[pc,dJ o] w' w0 (.int .i64 (T.eU.aI k.core.lock o)) (Core pc T k.core::l'):=fun hy h=>Y1 h hy
 have hin2:∀i∈k.board.wanted,∃n:Nat,i=n∧n<T.aV.bf.length:=fun i hi=>by
  obtain⟨n,e1,e2⟩:=hin i hi
  exact⟨n,e1,by simpa[ah.aV]using e2⟩
 clear hin
 rcases hkc with⟨rfl,hlv⟩|⟨rfl,hlv⟩|⟨hk1,hk2,hlv⟩
 ·go_enter func105,ntmps105
  go_upto_region 3 with(go_at_call 33;refine bF htp ?_;intro w3 h3)
  have h3a:=h3.alloc (qo 1 id st sv pa)
  refine In.abs h3a ?_
  clear h3a h3 h htp
  generalize w3.heap.size=z
  intro w4 QA
  have h4:=QA.ae p1
  clear QA
  obtain⟨B,x,a,h5⟩:=fK h4
  have bC:=(h5.ae p1).cells
  have fZ:=(h5.ae p10).cells
  obtain⟨y,hy⟩:=h1t (by simp)
  have hpl:∀ {w':World} {l':List SL} {pc:Nat},In w0 w' (Core pc T k.core::l')→aW 244 #[pc,dJ (oL id)] w' w0 (.int .i64 lv) (Core pc T k.core::l'):=fun h=>by rw[hlv];exact RP hy h
  clear hlv RP hy
  go_upto_region 5 with(fail)
  have hS0:=(h5.drew).ps [1,9]
  refine nK hS0 ⟨[6],[7]⟩ [.c 0 0,.c 0 1,.c 0 2,.c 2 3,.c 0 4,.c 1 5,.e 6,.e 7,.c 0 8] ?_
  refine nD ?_;intro K hK
  go_wp2_with (go_at_call 245;refine bF (Ef h5.drew id) ?_;intro w6 h6)
  go_wp2_with fail
  refine df hK ((h6).s) fun hS0=>?_
  refine bG rfl rfl fun K hK=>?_
  have hpr:=hpl h6
  go_wp2_with (go_at_call 244;refine bF hpr ?_;intro w7 h7)
  go_wp2_with fail
  refine wM ?_
  have h8:=bY (c:=k.core) a h7
  clear bC fZ hpr h7 h6 h5 hpl
  go_upto_region 8 with(fail)
  have h8b:=h8.pr [0] 1
  clear h8
  obtain⟨B,x,a,h9⟩:=dD h8b
  have bC:=h9.cells
  have hnx:=Ku (level:=lv) (g:=k.gate) (h9.drew.ae p3) hin2
  rw[hni]at hnx
  clear hni hin2 h1t h2t
  refine rg ⟨[],[9]⟩ [.c 0 0,.c 0 1,.c 0 2,.c 1 3,.c 0 4,.c 0 5,.c 0 6,.c 0 7,.c 1 8,.e 9,.c 0 10,.c 0 11,.c 0 12,.c 0 13,.c 0 14] ?_
  refine rG ?_;intro K hK
  obtain⟨b,RQ⟩:∃b,b=decide (0≤i):=⟨_,rfl⟩
  rw[←RQ]at hnx
  go_wp2_with (go_at_call 246;refine bF hnx ?_;intro w10 h10)
  go_wp2_with fail
  refine lK ?_
  go_upto_region 9 with(fail)
  clear hnx
  rcases hi with⟨hi,hr⟩|⟨n,hi,hn,OY,hf,hr⟩
  ·subst hi
   obtain rfl:b=false:=RQ
   go_wp2_with fail
   go_ret2
   rw[hr]
   exact⟨rfl,bZ a (h10.s:In w0 _ (pts r (aX T k x)::bJ B::Core x.pc T k.core::je x.pb T.aV k.board::gG x.pf k.frames::dV x.pe k.errors::dG x.pq k.calls::Ints x.vk k.marks.rings::gQ x.vb k.begun::Ints x.vx k.aO::l))⟩
  ·subst hi
   obtain rfl:b=true:=by rw[RQ];simp
   clear RQ
   go_upto_region 11 with(fail)
   have kT:=(h10.ae p1).cells
   have hn2:n<T.aV.bf.length:=by simpa[ah.aV]using hn
   have hse:=GL h10 hn2 OY
   clear hn2 OY hn
   go_upto_region 12 with(go_at_call 247;refine bF hse ?_;intro w12 h12)
   have h13:=h12.pr [1,1,1,0,0,0,0,0,0,0]
   have lM:=bZ (k:={k with board:={k.board with req:=k.board.req.set n false}}) (x:=x) ⟨a.tab,a.chk,a.num,a.len,a.gh⟩ h13
   clear h13 h12 hse kT bC h10 h9
   have hbg:=nR lM (.of 2 n) hf hb
   unfold cO aK.of at hbg
   simp only at hbg
   go_wp2_with (go_at_call 80;refine bF hbg ?_;intro w15 h15)
   go_ret2
   rw[hr]
   exact⟨rfl,h15⟩
 ·go_enter func105,ntmps105
  go_upto_region 3 with(go_at_call 33;refine bF htp ?_;intro w3 h3)
  have h3a:=h3.alloc (qo 2 id st sv pa)
  refine In.abs h3a ?_
  clear h3a h3 h htp
  generalize w3.heap.size=z
  intro w4 QA
  have h4:=QA.ae p1
  clear QA
  obtain⟨B,x,a,h5⟩:=fK h4
  have bC:=(h5.ae p1).cells
  have fZ:=(h5.ae p10).cells
  obtain⟨y,hy⟩:=h2t (by simp)
  have hpl:∀ {w':World} {l':List SL} {pc:Nat},In w0 w' (Core pc T k.core::l')→aW 244 #[pc,dJ (eQ id)] w' w0 (.int .i64 lv) (Core pc T k.core::l'):=fun h=>by rw[hlv];exact RP hy h
  clear hlv RP hy
  go_upto_region 7 with(fail)
  have hS0:=(h5.drew).ps [1,9]
  refine nK hS0 ⟨[6],[7]⟩ [.c 0 0,.c 0 1,.c 0 2,.c 2 3,.c 0 4,.c 1 5,.e 6,.e 7,.c 0 8] ?_
  refine nD ?_;intro K hK
  go_wp2_with (go_at_call 45;refine bF (tJ h5.drew id) ?_;intro w6 h6)
  go_wp2_with fail
  refine df hK ((h6).s) fun hS0=>?_
  refine bG rfl rfl fun K hK=>?_
  have hpr:=hpl h6
  go_wp2_with (go_at_call 244;refine bF hpr ?_;intro w7 h7)
  go_wp2_with fail
  refine wM ?_
  have h8:=bY (c:=k.core) a h7
  clear bC fZ hpr h7 h6 h5 hpl
  go_upto_region 8 with(fail)
  have h8b:=h8.pr [0] 1
  clear h8
  obtain⟨B,x,a,h9⟩:=dD h8b
  have bC:=h9.cells
  have hnx:=Ku (level:=lv) (g:=k.gate) (h9.drew.ae p3) hin2
  rw[hni]at hnx
  clear hni hin2 h1t h2t
  refine rg ⟨[],[9]⟩ [.c 0 0,.c 0 1,.c 0 2,.c 1 3,.c 0 4,.c 0 5,.c 0 6,.c 0 7,.c 1 8,.e 9,.c 0 10,.c 0 11,.c 0 12,.c 0 13,.c 0 14] ?_
  refine rG ?_;intro K hK
  obtain⟨b,RQ⟩:∃b,b=decide (0≤i):=⟨_,rfl⟩
  rw[←RQ]at hnx
  go_wp2_with (go_at_call 246;refine bF hnx ?_;intro w10 h10)
  go_wp2_with fail
  refine lK ?_
  go_upto_region 9 with(fail)
  clear hnx
  rcases hi with⟨hi,hr⟩|⟨n,hi,hn,OY,hf,hr⟩
  ·subst hi
   obtain rfl:b=false:=RQ
   go_wp2_with fail
   go_ret2
   rw[hr]
   exact⟨rfl,bZ a (h10.s:In w0 _ (pts r (aX T k x)::bJ B::Core x.pc T k.core::je x.pb T.aV k.board::gG x.pf k.frames::dV x.pe k.errors::dG x.pq k.calls::Ints x.vk k.marks.rings::gQ x.vb k.begun::Ints x.vx k.aO::l))⟩
  ·subst hi
   obtain rfl:b=true:=by rw[RQ];simp
   clear RQ
   go_upto_region 11 with(fail)
   have kT:=(h10.ae p1).cells
   have hn2:n<T.aV.bf.length:=by simpa[ah.aV]using hn
   have hse:=GL h10 hn2 OY
   clear hn2 OY hn
   go_upto_region 12 with(go_at_call 247;refine bF hse ?_;intro w12 h12)
   have h13:=h12.pr [1,1,1,0,0,0,0,0,0,0]
   have lM:=bZ (k:={k with board:={k.board with req:=k.board.req.set n false}}) (x:=x) ⟨a.tab,a.chk,a.num,a.len,a.gh⟩ h13
   clear h13 h12 hse kT bC h10 h9
   have hbg:=nR lM (.of 2 n) hf hb
   unfold cO aK.of at hbg
   simp only at hbg
   go_wp2_with (go_at_call 80;refine bF hbg ?_;intro w15 h15)
   go_ret2
   rw[hr]
   exact⟨rfl,h15⟩
 ·go_enter func105,ntmps105
  go_upto_region 3 with(go_at_call 33;refine bF htp ?_;intro w3 h3)
  have h3a:=h3.alloc (qo kd id st sv pa)
  refine In.abs h3a ?_
  clear h3a h3 h htp
  generalize w3.heap.size=z
  intro w4 QA
  have h8:=QA.ae p1
  have fZ:=QA.cells
  clear QA
  subst hlv
  go_upto_region 8 with(fail)
  clear fZ
  have h8b:=h8.pr [0] 1
  clear h8
  obtain⟨B,x,a,h9⟩:=dD h8b
  have bC:=h9.cells
  have hnx:=Ku (level:=-1) (g:=k.gate) (h9.drew.ae p3) hin2
  rw[hni]at hnx
  clear hni hin2 h1t h2t
  refine rg ⟨[],[9]⟩ [.c 0 0,.c 0 1,.c 0 2,.c 1 3,.c 0 4,.c 0 5,.c 0 6,.c 0 7,.c 1 8,.e 9,.c 0 10,.c 0 11,.c 0 12,.c 0 13,.c 0 14] ?_
  refine rG ?_;intro K hK
  obtain⟨b,RQ⟩:∃b,b=decide (0≤i):=⟨_,rfl⟩
  rw[←RQ]at hnx
  go_wp2_with (go_at_call 246;refine bF hnx ?_;intro w10 h10)
  go_wp2_with fail
  refine lK ?_
  go_upto_region 9 with(fail)
  clear hnx
  rcases hi with⟨hi,hr⟩|⟨n,hi,hn,OY,hf,hr⟩
  ·subst hi
   obtain rfl:b=false:=RQ
   go_wp2_with fail
   go_ret2
   rw[hr]
   exact⟨rfl,bZ a (h10.s:In w0 _ (pts r (aX T k x)::bJ B::Core x.pc T k.core::je x.pb T.aV k.board::gG x.pf k.frames::dV x.pe k.errors::dG x.pq k.calls::Ints x.vk k.marks.rings::gQ x.vb k.begun::Ints x.vx k.aO::l))⟩
  ·subst hi
   obtain rfl:b=true:=by rw[RQ];simp
   clear RQ
   go_upto_region 11 with(fail)
   have kT:=(h10.ae p1).cells
   have hn2:n<T.aV.bf.length:=by simpa[ah.aV]using hn
   have hse:=GL h10 hn2 OY
   clear hn2 OY hn
   go_upto_region 12 with(go_at_call 247;refine bF hse ?_;intro w12 h12)
   have h13:=h12.pr [1,1,1,0,0,0,0,0,0,0]
   have lM:=bZ (k:={k with board:={k.board with req:=k.board.req.set n false}}) (x:=x) ⟨a.tab,a.chk,a.num,a.len,a.gh⟩ h13
   clear h13 h12 hse kT bC h10 h9
   have hbg:=nR lM (.of 2 n) hf hb
   unfold cO aK.of at hbg
   simp only at hbg
   go_wp2_with (go_at_call 80;refine bF hbg ?_;intro w15 h15)
   go_ret2
   rw[hr]
   exact⟨rfl,h15⟩
end
end Go.Proofs.YtajgpcnlehinbaaGreat
