/- Part of a proof. -/
import Derived.Lib.SlBytesConst
import Derived.Test.YtajgpcnlehinbaaGreatA24
namespace Go.Proofs.YtajgpcnlehinbaaGreat
open Tryz Go.RowKit
set_option maxRecDepth 100000
set_option maxHeartbeats 60000000
set_option linter.all false
section
variable {P:Program} {ops:Array Oper} {rest:List Oper} {dst:Option Tmp} {ty:TypeId} {pos:String} {after:Array Edge} {a:Act} {Q:Exit→Act→World→Prop}
variable {w0 w:World} {l:List SL} {t E:TypeId} {size bytes:Nat} {z:Value} {n:Nat} {olds:List Value}
theorem A7 (hT:ig P t E size bytes z) {s x:Operand} {ad adx:Addr} {m c:Nat} {news:List Value}
 (h:In w0 w l) (hs:a.eval s= .slice (some ad) n n) (hol:olds.length=n*size) (holds:∀j u,olds[j]? =some u→w.cell? (ad.add j)=some u) (ho1:∀u∈olds,u.oneCell'=true)
 (hx:a.eval x= .slice (some adx) m c) (hl:news.length=m*size) (hnews:∀j u,news[j]? =some u→w.cell? (adx.add j)=some u) (h1:∀u∈news,u.oneCell'=true) (hm:0<m)
 (hb:(n+m)*(bytes+1)≤140737488355328)
 (k:∀v' w',In w0 w' (Row E size v' (n+m) (olds++news)::l)→wpList P ops Q rest (a.put dst v') w'):
 wpList P ops Q (⟨dst,.call {callee:= .builtin .append,args:=#[s,x],argTypes:=#[t,t]},ty,pos,after,none⟩::rest) a w:=by
 obtain⟨i,hi,hz,hsz,hby⟩:=info_parts hT.info
 have hb1:(n+m)*bytes≤140737488355328:=Nat.le_trans (Nat.mul_le_mul_left _ (by omega)) hb
 have hb2:n+m≤maxLen:=by
  have:n+m≤(n+m)*(bytes+1):=Nat.le_mul_of_pos_right _ (by omega)
  unfold maxLen;omega
 have hsmall:n+m≤9223372036854775807:=by simp only[maxLen]at hb2;omega
 have hzs:=hT.zs
 subst hsz
 subst hby
 have hr:=run_append_grow (P:=P) w t ty E i z hT.und hi hz ad n n olds hol holds adx m c news hl hnews (by omega) (by omega) (growslice_fits (by omega) hb1)
 have hge:=grownCap_ge w (n+m) n E
 have hcm:grownCap w (n+m) n E≤maxLen:=grownCap_le_maxLen w (n+m) n E hb2
 have hlen:(olds++news).length=(n+m)*i.size:=by rw[List.length_append,hol,hl,Nat.add_mul]
 have hone:∀u∈olds++news,u.oneCell'=true:=fun u hu=>(List.mem_append.1 hu).elim (ho1 u) (h1 u)
 have hg:In w0 (w.drew.alloc (.cells (olds.toArray++news.toArray++Builtin.zeroCells z.cells (grownCap w (n+m) n E-(n+m))) E))
  (Row E i.size (.slice (some ⟨w.heap.size,0,none⟩) (n+m) (grownCap w (n+m) n E)) (n+m) (olds++news)::l):=by
  refine h.row_of hlen ⟨rfl,rfl,rfl,by simp⟩ (heap_alloc_new w.drew _) (Nat.le_refl _) (fun k hk=>Below.heap_alloc w.drew _ k hk) hge hcm ?_ ?_ hone
  ·simp only[Array.size_append,List.size_toArray,size_zeroCells,hzs,hol,hl,←Nat.add_mul]
   congr 1
   omega
  ·simp only[Array.toList_append,List.append_assoc]
   rw[←List.append_assoc,←hlen]
   exact List.take_left
 refine wpList_plain rfl fun K hK=>?_
 unfold Oper.wp execOp
 simp only[resolve,invoke,builtin,Sem.run_bind,Sem.run_pure,Result.andThen_ok,List.map_toArray,List.map_cons,List.map_nil,hs,hx,hr]
 exact hK _ _ (k _ _ hg)
end
section
variable {w0 w:World} {l:List SL} {r m:Nat} {cs:List Nat} {B:List (Nat × Obj)} {fr:Nat × Nat}
theorem Ko {u:Value} {x n:Nat} (h:In w0 w (pts r (.cells #[.slice (some ⟨m,0,none⟩) cs.length cs.length] 162)::pts m (.cells (bytesV cs).toArray 5 fr)::bJ B::l))
 (hu:dQ B u 1 (EQ [x])) (h1:1≤n) (h8:n≤8) (hx:x<2 ^ (8*n)) (hlen:cs.length≤1000000):
 aW 72 #[r,.int .i64 n,u] w w0 (.tuple #[]) (lZ r (cs++puts [x] n)::bJ B::l):=by
 obtain⟨au,cu,rfl⟩:=hu.form
 go_enter func72,ntmps72
 go_upto_region 1 with(fail)
 go_loopw [7,8,9,12] (fun _ _ _ c wr=>(c= .int .i64 (0:Nat)∧In w0 wr (pts r (.cells #[.slice (some ⟨m,0,none⟩) cs.length cs.length] 162)::pts m (.cells (bytesV cs).toArray 5 fr)::bJ B::l))∨(c= .int .i64 (1:Nat)∧In w0 wr (lZ r (cs++puts [x] n)::bJ B::l)))
  (fun _ _ _ c _=>1-(intOf c).toNat)
 case atStart=>exact .inl ⟨rfl,h⟩
 case round=>
  rcases hrel with⟨rfl,hw⟩|⟨rfl,hw⟩
  ·clear h
   obtain⟨g,o,cap,eu,_,hcell⟩:=hu.cells (hw.ae p2) (by omega)
   cases eu
   have hck:wr.cell? ⟨g,o,none⟩=some (.int .u64 (x:Nat)):=hcell 0 _ (by simp[EQ])
   have hst:puts [x] n=le x n:=by simp[puts]
   clear hcell
   go_upto_region 4 with(go_at_call 205;refine(I5 hw h1 h8 hx).mono ?_;rintro _ w3 ⟨u3,rfl,h3⟩)
   clear hck
   have bC:=(h3.ae p1).cells
   have jb:=(h3.ae p1).free
   have hcM:=(h3.ae p2).cells
   rcases h3.aU with⟨_,e,_⟩|⟨g3,cap3,ext3,e,_⟩
   ·omega
   subst e
   go_wp2_with (with_reducible apply bH)
   unfold Stop
   refine A7 Qq (h3.ae p1) (n:=cs.length) (olds:=bytesV cs) (by rfl) (by rw[jq];omega) (fun j u hu=>by rw[addr_add,hcM];simpa using hu) pO (by rfl) (by rw[jq,iF];omega) h3.Am pO (by omega) (by omega) ?_
   intro v6 w6 h6
   obtain⟨a6,c6,rfl⟩:=h6.aG
   clear bC jb hcM
   have bC:=(h6.ae p1).cells
   have jb:=(h6.ae p1).free
   have h7:In w0 _ (pts r (.cells #[.slice a6 (cs.length+n) c6] 162)::_):=(h6.ae p1).setCell (off:=0) (.slice a6 (cs.length+n) c6)
   go_upto_region 5 with(fail)
   refine In.abs h7 ?_
   clear h7 h6 bC jb
   intro w7 h7
   go_wp2_with fail
   go_roundw
   case rel=>
    refine .inr ⟨by go_num,?_⟩
    rw[hst]
    have h8:=h7.pr [0,0,2] 2
    refine zo (v:= .slice a6 (cs.length+n) c6) ?_
    rw[List.length_append,iF,pW]
    exact h8
   case measure=>simp[intOf]
  ·clear h
   go_wp2_with fail
   go_end0
   exact⟨rfl,hw⟩
theorem Ej {x n:Nat} (h:In w0 w (pts r (.cells #[.slice (some ⟨m,0,none⟩) cs.length cs.length] 162)::pts m (.cells (bytesV cs).toArray 5 fr)::bJ B::l)) (h1:1≤n) (h8:n≤8) (hx:x<2 ^ (8*n)) (hlen:cs.length≤1000000):
 Calls prog 72 #[r,.int .i64 n,.slice (some ⟨w.heap.size,0,none⟩) 1 1] (w.alloc (.cells (EQ [x]).toArray 165)) fun e w'=>e= .returned (.tuple #[])∧In w0 w' (lZ r (cs++puts [x] n)::bJ B::l):=by
 have hA:=h.alloc (.cells (EQ [x]).toArray 165)
 have hB:=In.nJ (E:=165) (size:=1) (n:=1) (cap:=1) (cs:=EQ [x]) (ext:= []) (by rw[List.append_nil];exact hA) (by simp[EQ]) (Nat.le_refl _) (by decide) (by simp) (by intro u hu;obtain⟨x,_,rfl⟩:=List.mem_map.1 hu;rfl)
 have hC:=hB.pr [0,2,0,0]
 obtain⟨C,IE,hu,hD⟩:=hC.dY
 have hE:=hD.pr [1,1,0]
 refine(Ko hE hu h1 h8 hx hlen).mono ?_
 rintro e w' ⟨rfl,h'⟩
 exact⟨rfl,((h'.ae p1).Ad IE).ae p1⟩
theorem PX (c:Int):0≤Fz c∧Fz c<65536:=by
 unfold Fz bits
 simp only
 generalize BitVec.toNat _=n
 unfold IntKind.wrap
 simp[IntKind.signed,IntKind.bits]
 omega
theorem NT (c:Int) (x:Nat):0≤pI c x∧pI c x<65536:=PX _
theorem Rk (bs:List Nat):0≤zt bs∧zt bs<65536:=by
 unfold zt
 have key:∀(bs:List Nat) (c:Int),0≤c∧c<65536→0≤bs.foldl pI c∧bs.foldl pI c<65536:=by
  intro bs
  induction bs with
  |nil=>intro c h;exact h
  |cons x r ih=>intro c _;exact ih _ (NT c x)
 exact key bs 65535 (by omega)
theorem aax {v n:Nat}:∀x∈le v n,x<256:=by
 intro x hx
 obtain⟨i,_,rfl⟩:=List.mem_map.1 hx
 exact Nat.mod_lt _ (by decide)
theorem uG {xs:List Nat} {n:Nat}:∀x∈puts xs n,x<256:=by
 intro x hx
 obtain⟨y,hy,hx⟩:=List.mem_flatten.1 hx
 obtain⟨z,_,rfl⟩:=List.mem_map.1 hy
 exact aax x hx
end
section
variable {w0 w:World} {l:List SL} {r:Nat} {T:ah} {B:List (Nat × Obj)} {x:jM} {v:Value} {tl:List (dn × Value)} {il:List (kG × Value)}
theorem AL (hs:Small B T tl il):(dN T tl il).length≤336600:=by
 obtain⟨f1,f2,f3,f4,f5,f6,f7⟩:=hs.few
 have b1:=dK (f:=iV) (m:=600) (xs:=tl) fun x hx=>(hs.lL x hx).2
 have b2:=dK (f:=ja) (m:=600) (xs:=T.rings) fun x hx=>(hs.ring x hx).2
 have b3:=dK (f:=jU) (m:=600) (xs:=T.bP) fun x hx=>(hs.res x hx).2
 have b4:=dK (f:=jF) (m:=600) (xs:=T.bi) fun x hx=>(hs.oZ x hx).2
 have b5:=dK (f:=gW) (m:=600) (xs:=T.ag) fun x hx=>(hs.alarm x hx).2
 have b6:=dK (f:=lq) (m:=600) (xs:=il) fun x hx=>(hs.isr x hx).2
 have b7:=dK (f:=jV) (m:=600) (xs:=T.cZ) fun x hx=>(hs.msg x hx).2
 unfold dN
 simp only[List.length_append]
 omega
def qc (T:ah):List Int:=[T.uses,T.modes,T.depth,T.frames,T.errors,T.dU]
def qJ (T:ah) (n:Nat):List Nat:=[84,80,84,49]++puts [30+n] 4++puts (fQ T) 2++ik (qc T)
def lF (T:ah) (tl:List (dn × Value)) (il:List (kG × Value)):List Nat:=qJ T (dN T tl il).length++dN T tl il
def iG (T:ah) (tl:List (dn × Value)) (il:List (kG × Value)):List Nat:=lF T tl il++puts [(zt (lF T tl il)).toNat] 2
theorem OO (T:ah) (n:Nat):(qJ T n).length=28:=by
 unfold qJ
 simp[eP,lH,fQ,qc]
theorem FB {T:ah} {n:Nat} (h:∀y∈qc T,0≤y∧y≤255):∀y∈qJ T n,y<256:=by
 intro y hy
 unfold qJ at hy
 rcases List.mem_append.1 hy with hy|hy
 ·rcases List.mem_append.1 hy with hy|hy
  ·rcases List.mem_append.1 hy with hy|hy
   ·simp at hy;omega
   ·exact uG y hy
  ·exact uG y hy
 ·exact oI h y hy
theorem JC (h:In w0 w (bJ B::l)) (ht:rF B v T x) (hck:Gf v B) (htl:dQ B x.vt tl.length (tl.map dM).flatten) (hil:dQ B x.vi il.length (il.map iy).flatten) (hs:Small B T tl il) (h6:∀y∈qc T,0≤y∧y≤255) (hbl:∀y∈dN T tl il,y<256) (hcn:∀y∈fQ T,y<65536) (hb0:0<(dN T tl il).length):
 Calls prog 26 #[v] w fun e w'=>∃u,e= .returned (.tuple #[u,.int .i64 0])∧In w0 w' (Row 5 1 u (iG T tl il).length (bytesV (iG T tl il))::bJ B::l):=by
 have Fb:=ht
 have adA:=AL hs
 obtain rfl:=kY ht
 have h1:=h.alloc (dO T x.vt x.vr x.vs x.vc x.va x.vi x.vm)
 go_enter func26,ntmps26
 go_upto_region 1 with(fail)
 refine In.abs h1 ?_
 clear h1 h
 generalize w.heap.size=z
 intro w2 h2
 have bC:=h2.cells
 have hcc:=hck (h2.ae p1)
 go_upto_region 3 with(go_at_call 24;refine bF hcc ?_;intro w3 h3;clear bC;have bC:=(h3.ae p1).cells)
 have h4:=(h3.dh 5 1).alloc (.cells #[.slice none 0 0] 162)
 go_upto_region 4 with(fail)
 refine In.abs h4 ?_
 clear h4 h3 h2 hcc bC
 generalize w3.heap.size=p
 intro w4 h4
 have h5:=zo (r:=p) (bs:= []) h4
 have bC:=(h5.ae p2).cells
 have Yl:=ZF h5 Fb htl hil hs
 go_upto_region 5 with(go_at_call 71;refine Calls.mono Yl ?_;rintro _ w5 ⟨ub,rfl,h6b⟩)
 generalize hbb:dN T tl il=bb at*
 have hcv:=Go.Lib.run_convert_bytes_const (P:=prog) w5 95 5 #[.int .u8 84,.int .u8 80,.int .u8 84,.int .u8 49] 4 4 underlying95 underlying5
 have h7:=h6b.alloc2 (.cells #[.int .u8 84,.int .u8 80,.int .u8 84,.int .u8 49] 5 (4,5)) (.cells #[.slice (some ⟨w5.heap.size,0,none⟩) 4 4] 162)
 go_upto_region 6 with(fail)
 refine In.abs h7 ?_
 clear h7 h6b h5 h4 Yl bC
 generalize w5.heap.size=m
 intro w6 h7
 clear hcv
 have em:Obj.cells #[.int .u8 84,.int .u8 80,.int .u8 84,.int .u8 49] 5 (4,5)= .cells (bytesV [84,80,84,49]).toArray 5 (4,5):=rfl
 rw[em]at h7
 clear em
 obtain⟨vb,h8⟩:=zg (h7.ae p2)
 obtain⟨ab,cb,rfl⟩:=(h8.ae p1).aG
 have h9a:=h8.pr [2,2,2,0,0,0]
 have h9:In w0 w6 (pts (m+1) (.cells #[.slice (some ⟨m,0,none⟩) [84,80,84,49].length [84,80,84,49].length] 162)::pts m (.cells (bytesV [84,80,84,49]).toArray 5 (4,5))::bJ B::pts p (.cells #[.slice ab bb.length cb] 162)::Row 5 1 (.slice ab bb.length cb) bb.length (bytesV bb)::pts z (dO T x.vt x.vr x.vs x.vc x.va x.vi x.vm)::l):=h9a
 clear h7 h8 h9a
 have hcP:=(h9.ae p3).cells
 have hpf:=Ej (x:=30+bb.length) (n:=4) h9 (by omega) (by omega) (by omega) (by decide)
 have hcv:IntKind.u64.wrap (28+(bb.length:Int)+2)=((30+bb.length:Nat):Int):=by unfold IntKind.wrap;simp[IntKind.signed,IntKind.bits];omega
 go_upto_region 7 with(go_at_call 72;refine bF hpf ?_;intro w7 h10)
 clear hpf h9 hcP hcv
 generalize m+1=q at*
 have hcz:=(h10.ae p4).cells
 have hco:=Tq h10 Fb
 go_upto_region 8 with(go_at_call 73;refine Calls.mono hco ?_;rintro _ w8 ⟨g,rfl,h11⟩)
 clear hco hcz h10
 have h12:=h11.pr [1,1,0,0,0,0]
 clear h11
 have hdl:([84,80,84,49]++puts [30+bb.length] 4).length=8:=by rw[List.length_append,eP];rfl
 have hhead:qJ T bb.length=([84,80,84,49]++puts [30+bb.length] 4)++puts (fQ T) 2++ik (qc T):=rfl
 have hfr:lF T tl il=qJ T bb.length++bb:=by unfold lF;rw[hbb]
 generalize [84,80,84,49]++puts [30+bb.length] 4=hd at*
 go_loopw [7,34] (fun _ c wr=>∃k:Nat,k≤7∧c= .int .i64 k∧In w0 wr (lZ q (hd++puts ((fQ T).take k) 2)::bJ B::Row 3 1 (.slice (some ⟨g,0,none⟩) 7 7) 7 (uh (fQ T))::pts p (.cells #[.slice ab bb.length cb] 162)::Row 5 1 (.slice ab bb.length cb) bb.length (bytesV bb)::pts z (dO T x.vt x.vr x.vs x.vc x.va x.vi x.vm)::l))
  (fun _ c _=>7-(intOf c).toNat)
 case atStart=>exact⟨0,Nat.zero_le _,rfl,by simpa[puts]using h12⟩
 case round=>
  obtain⟨k,hk,rfl,hw⟩:=hrel
  clear h12
  have hcl:(fQ T).length=7:=rfl
  by_cases hlt:k<7
  ·have hkl:k<(fQ T).length:=by omega
   have hxk:=hcn _ (List.getElem_mem hkl)
   have hst:hd++puts ((fQ T).take (k+1)) 2=(hd++puts ((fQ T).take k) 2)++puts [(fQ T)[k]] 2:=by rw[JA (n:=2) hkl,List.append_assoc];simp[puts]
   have af5:(hd++puts ((fQ T).take k) 2).length≤1000:=by rw[List.length_append,eP,List.length_take];omega
   have hck:=(hw.ae p2).gI (off:=k) (u:= .int .i64 ((fQ T)[k]:Nat)) (by simp[uh,hkl])
   generalize (fQ T)[k]=y at*
   generalize hd++puts ((fQ T).take k) 2=cs at*
   have hcv:IntKind.u64.wrap (y:Int)=(y:Int):=by unfold IntKind.wrap;simp[IntKind.signed,IntKind.bits];omega
   have hp:=kK (xs:=[y]) (n:=2) hw (by omega) (by omega) (by simpa using hxk) (by omega) (by simp)
   have n1:(k:Int)<7:=by omega
   go_wp2_with (go_at_call 72;refine bF hp ?_;intro w9 h9)
   go_roundw
   case rel=>exact⟨k+1,hlt,by go_num,by rw[hst];exact h9⟩
   case measure=>simp[intOf]<;>omega
  ·have hke:k=7:=by omega
   subst hke
   rw[←hcl,List.take_length]at hw
   have adC:(hd++puts (fQ T) 2).length=22:=by rw[List.length_append,eP,hcl];omega
   have hhl:((hd++puts (fQ T) 2)++ik (qc T)).length=28:=by rw[List.length_append,adC,lH];rfl
   generalize hd++puts (fQ T) 2=cs at*
   have hcz:=(hw.ae p5).cells
   have hp:=iK (xs:=[T.uses,T.modes,T.depth,T.frames,T.errors,T.dU]) hw h6 (by rw[adC];simp)
   have n1:¬((7:Nat):Int)<7:=by omega
   go_upto_region 13 with(go_at_call 74;refine bF hp ?_;intro w9 h13)
   clear hp hcz hw hcl
   have aam:[T.uses,T.modes,T.depth,T.frames,T.errors,T.dU]=qc T:=rfl
   rw[aam]at h13
   rw[←hhead]at h13 hhl
   have aeT:∀y∈qJ T bb.length,y<256:=FB h6
   generalize qJ T bb.length=hh at*
   have hhb:28≤hh.length∧hh.length≤28:=by omega
   clear hhead aam hhl
   obtain⟨vw,lM⟩:=zg h13
   obtain⟨aw,cw,rfl⟩:=(lM.ae p1).aG
   have h15:=lM.pr [0,3,0,2,0] 2
   clear h13 lM
   rcases(h15.ae p3).aU with⟨_,e,_⟩|⟨gb,af6,extb,e,_⟩
   ·omega
   cases e
   have bC:=h15.cells
   have hcP:=(h15.ae p1).cells
   have hS0:=(h15.drew).ps [0,0]
   refine nK hS0 ⟨[],[9,12]⟩ [.c 0 0,.c 0 1,.c 0 2,.c 0 3,.c 1 4,.c 0 5,.c 0 6,.c 0 7,.c 1 8,.e 9,.c 0 10,.c 0 11,.e 12] ?_
   refine uw ?_;intro K hK
   refine kQ Qq (h15.drew.ae p2) (by rfl) (by rfl) (by rw[jq];omega) (h15.drew.ae p3).Am pO (by omega) ?_
   intro u7 w10 h16
   obtain⟨a7,c7,rfl⟩:=h16.aG
   clear bC hcP
   have fc_:=h16.facts
   go_wp2_with fail
   refine uw ?_;intro K hK
   go_wp2_with fail
   try refine aS ?_
   go_upto_region 14 with(fail)
   have h17:In w0 _ (pts q (.cells #[.slice a7 (hh.length+bb.length) c7] 162)::_):=(h16.ae p1).setCell (off:=0) (.slice a7 (hh.length+bb.length) c7)
   refine In.abs h17 ?_
   clear h17 h16 h15
   intro w11 h17
   rcases(h17.ae p1).aU with⟨_,e,_⟩|⟨g7,af7,extq,e,_⟩
   ·omega
   cases e
   rw[←pW,←List.length_append]at h17
   have hib:iG T tl il=(hh++bb)++puts [(zt (hh++bb)).toNat] 2:=by unfold iG;rw[hfr]
   have af8:(hh++bb).length≤336628∧0<(hh++bb).length:=by rw[List.length_append];omega
   have acz:∀y∈hh++bb,y<256:=fun y hy=>(List.mem_append.1 hy).elim (aeT y) (hbl y)
   generalize hh++bb=ff at*
   have h18:=h17.pr [1,0,2] 2
   clear h17
   have bC:=(h18.ae p1).cells
   have hcr:=Xi (g:=g7) (o:=0) (cap:=c7) h18 acz (by omega) (fun{w'} {l'} h' j c hc=>by rw[Nat.zero_add];exact h'.gI hc)
   have Ux:=Rk ff
   generalize zt ff=cc at*
   obtain⟨cr,rfl⟩:∃cr:Nat,cc=cr:=⟨cc.toNat,by omega⟩
   rw[Int.toNat_natCast]at hib
   have hcv:IntKind.u64.wrap (cr:Int)=(cr:Int):=by unfold IntKind.wrap;simp[IntKind.signed,IntKind.bits];omega
   go_upto_region 15 with(first|(go_at_call 75;refine bF hcr ?_;intro w12 h19;have h20:In w0 w12 (lZ q ff::bJ B::l):=(zo (h19.ae p1)).s;have hpu:=kK (xs:=[cr]) (n:=2) h20 (by omega) (by omega) (by intro y hy;rw[List.mem_singleton]at hy;subst hy;omega) (by omega) (by simp))|(go_at_call 72;refine bF hpu ?_;intro w13 h21))
   obtain⟨vf,h22⟩:=zg h21
   obtain⟨af,cf,rfl⟩:=(h22.ae p1).aG
   clear bC hcr hpu
   have bC:=h22.cells
   go_wp2_with fail
   go_ret2
   rw[hib]
   refine⟨.slice af (ff.length+(puts [cr] 2).length) cf,rfl,?_⟩
   rw[←List.length_append]
   exact h22.s
end
end Go.Proofs.YtajgpcnlehinbaaGreat
