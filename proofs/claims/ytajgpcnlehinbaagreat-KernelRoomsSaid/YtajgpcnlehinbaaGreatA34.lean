/- Part of a proof. -/
import Derived.OpenShut
import Derived.Deep.Slices
import Derived.Deep.Fields
import Derived.Test.YtajgpcnlehinbaaGreatA27
namespace Go.Proofs.YtajgpcnlehinbaaGreat
open Tryz Go.RowKit Go.ChangeShapes Go.WideShapes Go.Deep
set_option maxRecDepth 100000
set_option maxHeartbeats 60000000
set_option linter.all false
def lG (W:World):List (Nat × Obj):=W.heap.toList.zipIdx.map fun p=>(p.2,p.1)
theorem Bv {W:World} {b:Nat} {o:Obj}:(b,o)∈lG W↔W.heap[b]? =some o:=by
 unfold lG
 simp only[List.mem_map,Prod.mk.injEq,Prod.exists,List.mem_zipIdx_iff_getElem?]
 constructor
 ·rintro⟨x,n,h,rfl,rfl⟩
  simpa using h
 ·intro h
  exact⟨o,b,by simpa using h,rfl,rfl⟩
theorem LJ (W:World):∀B:List (Nat × Obj),(∀p∈B,W.heap[p.1]? =some p.2)→
 bQ (B.map fun p=>ro p.1 p.2) (fun b=>if b∈B.map (·.1) then(W.heap[b]?).map fun o=>(false,o) else none)
 | [],_=>by
  show emp _
  unfold emp Hp.nil
  funext b
  simp
 |q::B,h=>by
  refine⟨_,_,rfl,LJ W B fun p hp=>h p (List.mem_cons_of_mem _ hp),fun b=>?_⟩
  have hq:=h q List.mem_cons_self
  by_cases hb:b=q.1
  ·subst hb
   by_cases hm:q.1∈B.map (·.1)
   ·exact .inr (.inr ⟨q.2,by simp,by simp only[hm,if_true,hq,Option.map_some],by simp only[List.map_cons,List.mem_cons,true_or,if_true,hq,Option.map_some]⟩)
   ·exact .inr (.inl ⟨by simp only[hm,if_false],by simp only[List.map_cons,List.mem_cons,true_or,if_true,hq,Option.map_some]⟩)
  ·exact .inl ⟨by simp[hb],by simp only[List.map_cons,List.mem_cons,hb,false_or]⟩
theorem Xz (W:World):In W W [bJ (lG W)]:=by
 refine⟨Env.refl W,_,⟨_,Hp.nil,LJ W (lG W) (fun p hp=>Bv.1 hp),rfl,(xY.FP _).comm⟩,fun b m o hb=>?_⟩
 split at hb
 ·cases ho:W.heap[b]? with
  |none=>simp[ho]at hb
  |some x=>simp only[ho,Option.map_some,Option.some.injEq,Prod.mk.injEq]at hb;rw[hb.2]
 ·cases hb
theorem abL {W w:World} {l:List SL} (h:In W w (bJ (lG W)::l)):Below W.heap.size W w:=by
 refine⟨h.env.os,h.env.tape,h.env.output,h.env.size,fun k hk=>?_⟩
 have hx:W.heap[k]? =some W.heap[k]:=by simp[hk]
 exact(h.sO (Bv.2 hx)).trans hx.symm
section
variable {H:Type} {enc:TypeId × Value→H} {W:World} {base:Nat} {spare:Nat→Bool} {held:Bool}
theorem lI {P:Program} {α:Type} (slot:α→List Value) (size:Nat) (hpos:0<size) (Yh:∀x,(slot x).length=size) (Pp:α→Prop) {t e:TypeId} {fuel:Nat} {v:Value} {y:DataW H × List MemPlace}
 (ht:P.underlying t=some (.slice e)) (hC:P.cellsOf e=size)
 (hel:∀(n:Nat) (cs:List Value) (y:DataW H × List MemPlace),DataW.trod enc P W base spare held n e cs=some y→∃x,cs=slot x∧Pp x)
 (h:DataW.trod enc P W base spare held fuel t [v]=some y):∃xs:List α,dQ (lG W) v xs.length (xs.map slot).flatten∧∀x∈xs,Pp x:=by
 rcases open_slice ht h with⟨hcs,_⟩|⟨a,len,cap,m,n,D,Pl,hcs,_,hl,hmax,hm,_,hi⟩
 ·cases hcs
  exact⟨[],⟨Nat.zero_le _,.inl ⟨.inl rfl,rfl,rfl⟩⟩,by simp⟩
 cases hcs
 have hlm:len≤m:=by subst hm;split<;>omega
 by_cases hz:len=0
 ·subst hz
  exact⟨[],⟨Nat.zero_le _,.inl ⟨.inr ⟨_,_,rfl⟩,rfl,rfl⟩⟩,by simp⟩
 have hex:∀i:Fin len,∃x:α,(∀j,j<size→W.cell? ((a.add (i*size)).add j)=(slot x)[j]?)∧Pp x:=fun i=>by
  obtain⟨cs,hc,hd⟩:=hi i (by have:=i.2;omega)
  obtain⟨x,rfl,hp⟩:=hel _ _ _ hd
  rw[hC]at hc
  obtain⟨_,_,hat⟩:=World.cells?_some hc
  exact⟨x,hat,hp⟩
 obtain⟨f,hf⟩:=Classical.axiomOfChoice hex
 obtain⟨g,o,sp⟩:=a
 have h0:=(hf ⟨0,by omega⟩).1 0 hpos
 have hs0:(slot (f ⟨0,by omega⟩))[0]? =some ((slot (f ⟨0,by omega⟩))[0]'(by rw[Yh];exact hpos)):=List.getElem?_eq_getElem _
 rw[hs0]at h0
 simp only[Nat.zero_mul,Addr.add,if_true]at h0
 unfold World.cell? at h0
 simp only at h0
 cases hb:W.heap[g]? with
 |none=>simp[hb]at h0
 |some ob=>
  rw[hb]at h0
  cases ob with
  |cells c T fr=>
   simp only at h0
   cases sp with
   |some k=>simp at h0
   |none=>
    refine⟨List.ofFn f,⟨by simpa using Nat.le_trans hl hmax,.inr ⟨g,o,cap,c,T,fr,by simp,by simpa using hl,Bv.2 hb,fun j u hu=>?_⟩⟩,fun x hx=>?_⟩
    ·have hlen:=jW (dL Yh (List.ofFn f))
     rw[List.length_map,List.length_ofFn]at hlen
     have hj:j<len*size:=by rw[←hlen];exact(List.getElem?_eq_some_iff.1 hu).1
     have hq:j/size<len:=by rw[Nat.div_lt_iff_lt_mul hpos];exact hj
     have hr:=Nat.mod_lt j hpos
     have hjq:j/size*size+j%size=j:=by rw[Nat.mul_comm];exact Nat.div_add_mod j size
     have hfl:=flat_get (dL Yh (List.ofFn f)) (i:=j/size) (x:=slot (f ⟨j/size,hq⟩)) (by simp[hq]) (j%size) hr
     rw[hjq,hu]at hfl
     have hcl:=(hf ⟨j/size,hq⟩).1 (j%size) hr
     rw[←hfl,addr_add',addr_add']at hcl
     unfold World.cell? at hcl
     simp only[hb,Option.isSome_none,Bool.false_eq_true,if_false]at hcl
     rw[Nat.add_assoc,hjq]at hcl
     exact hcl
    ·obtain⟨i,rfl⟩:=List.mem_ofFn.1 hx
     exact(hf i).2
  |_=>simp at h0
theorem KP:prog.cellsOf 3=1:=by kernel_rfl
theorem Kv:prog.cellsOf 38=1:=by kernel_rfl
theorem gu {t t':TypeId} {m:Nat} {X:List Value} {c:Value} {y:DataW H × List MemPlace} (e:prog.cellsOf t=1) (h:DataW.trod enc prog W base spare held m t' (X.take (prog.cellsOf t'))=some y) (ht:t'=t) (hc:X.take 1=[c]):
 DataW.trod enc prog W base spare held m t [c]=some y:=by
 subst ht
 rw[e,hc]at h
 exact h
theorem gX {t:TypeId} {k:IntKind} {n:Nat} {c:Value} {y:DataW H × List MemPlace} (ht:prog.underlying t=some (.int k)) (h:DataW.trod enc prog W base spare held n t [c]=some y):∃x,c= .int k x∧(Lit.int k x).wf=true:=by
 obtain⟨x,e,_,hw⟩:=DataW.trod_int ht h
 exact⟨x,by simpa using e,hw⟩
theorem Rz {n:Nat} {c:Value} {y:DataW H × List MemPlace} (h:DataW.trod enc prog W base spare held n 4 [c]=some y):∃x,c= .bool x:=by
 obtain⟨x,e,_⟩:=DataW.trod_bool underlying4 h
 exact⟨x,by simpa using e⟩
theorem QY {n:Nat} {c:Value} {y:DataW H × List MemPlace} (h:DataW.trod enc prog W base spare held n 44 [c]=some y):∃xs:List Int,dQ (lG W) c xs.length (ints xs):=by
 obtain⟨xs,hx,_⟩:=lI (fun x:Int=>[Value.int .i64 x]) 1 (by decide) (fun _=>rfl) (fun _=>True) underlying44 KP (fun m cs z hz=>by
  obtain⟨x,e,_⟩:=DataW.trod_int underlying3 hz
  exact⟨x,e,trivial⟩) h
 have key:∀xs:List Int,(xs.map fun x:Int=>[Value.int .i64 x]).flatten=ints xs:=by
  intro xs
  unfold ints
  induction xs with
  |nil=>rfl
  |cons x xs ih=>simp only[List.map_cons,List.flatten_cons,List.singleton_append,ih]
 rw[key]at hx
 exact⟨xs,hx⟩
theorem XA {n:Nat} {cs:List Value} {y:DataW H × List MemPlace} (h:DataW.trod enc prog W base spare held n 204 cs=some y):∃x:zx,cs=mG x∧0≤x.mask∧x.mask<4294967296:=by
 obtain⟨xs,m,_,_,hlen,hxl,hf⟩:=DataW.trod_struct underlying204 h
 have hC:prog.cellsOf 204=3:=by kernel_rfl
 rw[hC]at hlen
 match cs,hlen,xs,hxl with
 | [c0,c1,c2],_,[y0,y1,y2],_=>
  have k0:prog.cellsOf 202=1:=by kernel_rfl
  have f0:=gu k0 (hf 0 _ rfl) rfl rfl
  have k1:prog.cellsOf 3=1:=by kernel_rfl
  have f1:=gu k1 (hf 1 _ rfl) rfl rfl
  have k2:prog.cellsOf 38=1:=by kernel_rfl
  have f2:=gu k2 (hf 2 _ rfl) rfl rfl
  obtain⟨n0,rfl,w0⟩:=gX underlying202 f0
  obtain⟨n1,rfl,w1⟩:=gX underlying3 f1
  obtain⟨n2,rfl,w2⟩:=gX underlying38 f2
  exact⟨⟨n0,n1,n2⟩,rfl,(by have b:=bounds_u32 w2;dsimp only;omega)⟩
theorem YQ {n:Nat} {cs:List Value} {y:DataW H × List MemPlace} (h:DataW.trod enc prog W base spare held n 52 cs=some y):∃p:dn × Value,cs=dM p∧dQ (lG W) p.2 p.1.own.length (ints p.1.own)∧(0≤p.1.mask∧p.1.mask<4294967296)∧(0≤p.1.dX∧p.1.dX<4294967296):=by
 obtain⟨xs,m,_,_,hlen,hxl,hf⟩:=DataW.trod_struct underlying52 h
 have hC:prog.cellsOf 52=8:=by kernel_rfl
 rw[hC]at hlen
 match cs,hlen,xs,hxl with
 | [c0,c1,c2,c3,c4,c5,c6,c7],_,[y0,y1,y2,y3,y4,y5,y6,y7],_=>
  have k0:prog.cellsOf 3=1:=by kernel_rfl
  have f0:=gu k0 (hf 0 _ rfl) rfl rfl
  have k1:prog.cellsOf 3=1:=by kernel_rfl
  have f1:=gu k1 (hf 1 _ rfl) rfl rfl
  have k2:prog.cellsOf 4=1:=by kernel_rfl
  have f2:=gu k2 (hf 2 _ rfl) rfl rfl
  have k3:prog.cellsOf 3=1:=by kernel_rfl
  have f3:=gu k3 (hf 3 _ rfl) rfl rfl
  have k4:prog.cellsOf 38=1:=by kernel_rfl
  have f4:=gu k4 (hf 4 _ rfl) rfl rfl
  have k5:prog.cellsOf 3=1:=by kernel_rfl
  have f5:=gu k5 (hf 5 _ rfl) rfl rfl
  have k6:prog.cellsOf 44=1:=by kernel_rfl
  have f6:=gu k6 (hf 6 _ rfl) rfl rfl
  have k7:prog.cellsOf 38=1:=by kernel_rfl
  have f7:=gu k7 (hf 7 _ rfl) rfl rfl
  obtain⟨n0,rfl,w0⟩:=gX underlying3 f0
  obtain⟨n1,rfl,w1⟩:=gX underlying3 f1
  obtain⟨n2,rfl⟩:=Rz f2
  obtain⟨n3,rfl,w3⟩:=gX underlying3 f3
  obtain⟨n4,rfl,w4⟩:=gX underlying38 f4
  obtain⟨n5,rfl,w5⟩:=gX underlying3 f5
  obtain⟨n6,w6⟩:=QY f6
  obtain⟨n7,rfl,w7⟩:=gX underlying38 f7
  exact⟨⟨⟨n0,n1,n2,n3,n4,n5,n6,n7⟩,c6⟩,rfl,w6,(by have b:=bounds_u32 w4;dsimp only;omega),(by have b:=bounds_u32 w7;dsimp only;omega)⟩
theorem Yz {n:Nat} {cs:List Value} {y:DataW H × List MemPlace} (h:DataW.trod enc prog W base spare held n 54 cs=some y):∃x:kS,cs=iR x∧True:=by
 obtain⟨xs,m,_,_,hlen,hxl,hf⟩:=DataW.trod_struct underlying54 h
 have hC:prog.cellsOf 54=2:=by kernel_rfl
 rw[hC]at hlen
 match cs,hlen,xs,hxl with
 | [c0,c1],_,[y0,y1],_=>
  have k0:prog.cellsOf 3=1:=by kernel_rfl
  have f0:=gu k0 (hf 0 _ rfl) rfl rfl
  have k1:prog.cellsOf 3=1:=by kernel_rfl
  have f1:=gu k1 (hf 1 _ rfl) rfl rfl
  obtain⟨n0,rfl,w0⟩:=gX underlying3 f0
  obtain⟨n1,rfl,w1⟩:=gX underlying3 f1
  exact⟨⟨n0,n1⟩,rfl,trivial⟩
theorem abQ {n:Nat} {cs:List Value} {y:DataW H × List MemPlace} (h:DataW.trod enc prog W base spare held n 145 cs=some y):∃x:IA,cs=kw x∧True:=by
 obtain⟨xs,m,_,_,hlen,hxl,hf⟩:=DataW.trod_struct underlying145 h
 have hC:prog.cellsOf 145=2:=by kernel_rfl
 rw[hC]at hlen
 match cs,hlen,xs,hxl with
 | [c0,c1],_,[y0,y1],_=>
  have k0:prog.cellsOf 4=1:=by kernel_rfl
  have f0:=gu k0 (hf 0 _ rfl) rfl rfl
  have k1:prog.cellsOf 3=1:=by kernel_rfl
  have f1:=gu k1 (hf 1 _ rfl) rfl rfl
  obtain⟨n0,rfl⟩:=Rz f0
  obtain⟨n1,rfl,w1⟩:=gX underlying3 f1
  exact⟨⟨n0,n1⟩,rfl,trivial⟩
theorem abz {n:Nat} {cs:List Value} {y:DataW H × List MemPlace} (h:DataW.trod enc prog W base spare held n 263 cs=some y):∃x:xm,cs=iU x∧0≤x.base∧x.base<4294967296:=by
 obtain⟨xs,m,_,_,hlen,hxl,hf⟩:=DataW.trod_struct underlying263 h
 have hC:prog.cellsOf 263=3:=by kernel_rfl
 rw[hC]at hlen
 match cs,hlen,xs,hxl with
 | [c0,c1,c2],_,[y0,y1,y2],_=>
  have k0:prog.cellsOf 38=1:=by kernel_rfl
  have f0:=gu k0 (hf 0 _ rfl) rfl rfl
  have k1:prog.cellsOf 38=1:=by kernel_rfl
  have f1:=gu k1 (hf 1 _ rfl) rfl rfl
  have k2:prog.cellsOf 38=1:=by kernel_rfl
  have f2:=gu k2 (hf 2 _ rfl) rfl rfl
  obtain⟨n0,rfl,w0⟩:=gX underlying38 f0
  obtain⟨n1,rfl,w1⟩:=gX underlying38 f1
  obtain⟨n2,rfl,w2⟩:=gX underlying38 f2
  exact⟨⟨n0,n1,n2⟩,rfl,(by have b:=bounds_u32 w1;dsimp only;omega)⟩
theorem UW {n:Nat} {cs:List Value} {y:DataW H × List MemPlace} (h:DataW.trod enc prog W base spare held n 206 cs=some y):∃x:gq,cs=dR x∧(0≤x.act.mask∧x.act.mask<4294967296)∧(0≤x.dX∧x.dX<4294967296)∧(0≤x.time∧x.time<4294967296)∧(0≤x.cycle∧x.cycle<4294967296):=by
 obtain⟨xs,m,_,_,hlen,hxl,hf⟩:=DataW.trod_struct underlying206 h
 have hC:prog.cellsOf 206=7:=by kernel_rfl
 rw[hC]at hlen
 match cs,hlen,xs,hxl with
 | [c0,c1,c2,c3,c4,c5,c6],_,[y0,y1,y2,y3,y4],_=>
  have k0:prog.cellsOf 3=1:=by kernel_rfl
  have f0:=gu k0 (hf 0 _ rfl) rfl rfl
  have k1:prog.cellsOf 204=3:=by kernel_rfl
  have f1:DataW.trod enc prog W base spare held m 204 [c1,c2,c3]=some y1:=by have e:DataW.trod enc prog W base spare held m 204 ((([c0,c1,c2,c3,c4,c5,c6]:List Value).drop 1).take (prog.cellsOf 204))=some y1:=hf 1 _ rfl;rw[k1]at e;exact e
  have k2:prog.cellsOf 38=1:=by kernel_rfl
  have f2:=gu k2 (hf 2 _ rfl) rfl rfl
  have k3:prog.cellsOf 38=1:=by kernel_rfl
  have f3:=gu k3 (hf 3 _ rfl) rfl rfl
  have k4:prog.cellsOf 38=1:=by kernel_rfl
  have f4:=gu k4 (hf 4 _ rfl) rfl rfl
  obtain⟨n0,rfl,w0⟩:=gX underlying3 f0
  obtain⟨n1,e1,w1⟩:=XA f1
  simp only[mG,List.cons.injEq,and_true]at e1
  obtain⟨rfl,rfl,rfl⟩:=e1
  obtain⟨n2,rfl,w2⟩:=gX underlying38 f2
  obtain⟨n3,rfl,w3⟩:=gX underlying38 f3
  obtain⟨n4,rfl,w4⟩:=gX underlying38 f4
  exact⟨⟨n0,n1,n2,n3,n4⟩,rfl,w1,(by have b:=bounds_u32 w2;dsimp only;omega),(by have b:=bounds_u32 w3;dsimp only;omega),(by have b:=bounds_u32 w4;dsimp only;omega)⟩
theorem abo {n:Nat} {cs:List Value} {y:DataW H × List MemPlace} (h:DataW.trod enc prog W base spare held n 123 cs=some y):∃p:kG × Value,cs=iy p∧dQ (lG W) p.2 p.1.own.length (ints p.1.own):=by
 obtain⟨xs,m,_,_,hlen,hxl,hf⟩:=DataW.trod_struct underlying123 h
 have hC:prog.cellsOf 123=3:=by kernel_rfl
 rw[hC]at hlen
 match cs,hlen,xs,hxl with
 | [c0,c1,c2],_,[y0,y1,y2],_=>
  have k0:prog.cellsOf 3=1:=by kernel_rfl
  have f0:=gu k0 (hf 0 _ rfl) rfl rfl
  have k1:prog.cellsOf 3=1:=by kernel_rfl
  have f1:=gu k1 (hf 1 _ rfl) rfl rfl
  have k2:prog.cellsOf 44=1:=by kernel_rfl
  have f2:=gu k2 (hf 2 _ rfl) rfl rfl
  obtain⟨n0,rfl,w0⟩:=gX underlying3 f0
  obtain⟨n1,rfl,w1⟩:=gX underlying3 f1
  obtain⟨n2,w2⟩:=QY f2
  exact⟨⟨⟨n0,n1,n2⟩,c2⟩,rfl,w2⟩
theorem abJ {n:Nat} {cs:List Value} {y:DataW H × List MemPlace} (h:DataW.trod enc prog W base spare held n 268 cs=some y):∃x:qF,cs=mJ x∧(0≤x.init∧x.init<18446744073709551616)∧(0≤x.act.mask∧x.act.mask<4294967296):=by
 obtain⟨xs,m,_,_,hlen,hxl,hf⟩:=DataW.trod_struct underlying268 h
 have hC:prog.cellsOf 268=8:=by kernel_rfl
 rw[hC]at hlen
 match cs,hlen,xs,hxl with
 | [c0,c1,c2,c3,c4,c5,c6,c7],_,[y0,y1,y2,y3,y4,y5],_=>
  have k0:prog.cellsOf 266=1:=by kernel_rfl
  have f0:=gu k0 (hf 0 _ rfl) rfl rfl
  have k1:prog.cellsOf 3=1:=by kernel_rfl
  have f1:=gu k1 (hf 1 _ rfl) rfl rfl
  have k2:prog.cellsOf 3=1:=by kernel_rfl
  have f2:=gu k2 (hf 2 _ rfl) rfl rfl
  have k3:prog.cellsOf 165=1:=by kernel_rfl
  have f3:=gu k3 (hf 3 _ rfl) rfl rfl
  have k4:prog.cellsOf 3=1:=by kernel_rfl
  have f4:=gu k4 (hf 4 _ rfl) rfl rfl
  have k5:prog.cellsOf 204=3:=by kernel_rfl
  have f5:DataW.trod enc prog W base spare held m 204 [c5,c6,c7]=some y5:=by have e:DataW.trod enc prog W base spare held m 204 ((([c0,c1,c2,c3,c4,c5,c6,c7]:List Value).drop 5).take (prog.cellsOf 204))=some y5:=hf 5 _ rfl;rw[k5]at e;exact e
  obtain⟨n0,rfl,w0⟩:=gX underlying266 f0
  obtain⟨n1,rfl,w1⟩:=gX underlying3 f1
  obtain⟨n2,rfl,w2⟩:=gX underlying3 f2
  obtain⟨n3,rfl,w3⟩:=gX underlying165 f3
  obtain⟨n4,rfl,w4⟩:=gX underlying3 f4
  obtain⟨n5,e5,w5⟩:=XA f5
  simp only[mG,List.cons.injEq,and_true]at e5
  obtain⟨rfl,rfl,rfl⟩:=e5
  exact⟨⟨n0,n1,n2,n3,n4,n5⟩,rfl,(by have b:=bounds_u64 w3;dsimp only;omega),w5⟩
theorem aa9 {n:Nat} {cs:List Value} {y:DataW H × List MemPlace} (h:DataW.trod enc prog W base spare held n 30 cs=some y):∃T x,rF (lG W) (.agg cs.toArray) T x∧T.Num:=by
 obtain⟨xs,m,_,_,hlen,hxl,hf⟩:=DataW.trod_struct underlying30 h
 have hC:prog.cellsOf 30=13:=by kernel_rfl
 rw[hC]at hlen
 match cs,hlen,xs,hxl with
 | [c0,c1,c2,c3,c4,c5,c6,c7,c8,c9,c10,c11,c12],_,[y0,y1,y2,y3,y4,y5,y6,y7,y8,y9,y10,y11,y12],_=>
  have k0:prog.cellsOf 3=1:=by kernel_rfl
  have f0:=gu k0 (hf 0 _ rfl) rfl rfl
  have k1:prog.cellsOf 3=1:=by kernel_rfl
  have f1:=gu k1 (hf 1 _ rfl) rfl rfl
  have k2:prog.cellsOf 22=1:=by kernel_rfl
  have f2:=gu k2 (hf 2 _ rfl) rfl rfl
  have k3:prog.cellsOf 23=1:=by kernel_rfl
  have f3:=gu k3 (hf 3 _ rfl) rfl rfl
  have k4:prog.cellsOf 24=1:=by kernel_rfl
  have f4:=gu k4 (hf 4 _ rfl) rfl rfl
  have k5:prog.cellsOf 25=1:=by kernel_rfl
  have f5:=gu k5 (hf 5 _ rfl) rfl rfl
  have k6:prog.cellsOf 26=1:=by kernel_rfl
  have f6:=gu k6 (hf 6 _ rfl) rfl rfl
  have k7:prog.cellsOf 27=1:=by kernel_rfl
  have f7:=gu k7 (hf 7 _ rfl) rfl rfl
  have k8:prog.cellsOf 28=1:=by kernel_rfl
  have f8:=gu k8 (hf 8 _ rfl) rfl rfl
  have k9:prog.cellsOf 3=1:=by kernel_rfl
  have f9:=gu k9 (hf 9 _ rfl) rfl rfl
  have k10:prog.cellsOf 3=1:=by kernel_rfl
  have f10:=gu k10 (hf 10 _ rfl) rfl rfl
  have k11:prog.cellsOf 3=1:=by kernel_rfl
  have f11:=gu k11 (hf 11 _ rfl) rfl rfl
  have k12:prog.cellsOf 3=1:=by kernel_rfl
  have f12:=gu k12 (hf 12 _ rfl) rfl rfl
  obtain⟨n0,rfl,w0⟩:=gX underlying3 f0
  obtain⟨n1,rfl,w1⟩:=gX underlying3 f1
  obtain⟨l2,r2,w2⟩:=lI dM 8 (by decide) (fun _=>rfl) (fun p:dn × Value=>dQ (lG W) p.2 p.1.own.length (ints p.1.own)∧(0≤p.1.mask∧p.1.mask<4294967296)∧(0≤p.1.dX∧p.1.dX<4294967296)) underlying22 (by kernel_rfl) (fun _ _ _ hz=>YQ hz) f2
  obtain⟨l3,r3,w3⟩:=lI iR 2 (by decide) (fun _=>rfl) (fun _=>True) underlying23 (by kernel_rfl) (fun _ _ _ hz=>Yz hz) f3
  obtain⟨l4,r4,w4⟩:=lI kw 2 (by decide) (fun _=>rfl) (fun _=>True) underlying24 (by kernel_rfl) (fun _ _ _ hz=>abQ hz) f4
  obtain⟨l5,r5,w5⟩:=lI iU 3 (by decide) (fun _=>rfl) (fun x:xm=>0≤x.base∧x.base<4294967296) underlying25 (by kernel_rfl) (fun _ _ _ hz=>abz hz) f5
  obtain⟨l6,r6,w6⟩:=lI dR 7 (by decide) (fun _=>rfl) (fun x:gq=>(0≤x.act.mask∧x.act.mask<4294967296)∧(0≤x.dX∧x.dX<4294967296)∧(0≤x.time∧x.time<4294967296)∧(0≤x.cycle∧x.cycle<4294967296)) underlying26 (by kernel_rfl) (fun _ _ _ hz=>UW hz) f6
  obtain⟨l7,r7,w7⟩:=lI iy 3 (by decide) (fun _=>rfl) (fun p:kG × Value=>dQ (lG W) p.2 p.1.own.length (ints p.1.own)) underlying27 (by kernel_rfl) (fun _ _ _ hz=>abo hz) f7
  obtain⟨l8,r8,w8⟩:=lI mJ 8 (by decide) (fun _=>rfl) (fun x:qF=>(0≤x.init∧x.init<18446744073709551616)∧(0≤x.act.mask∧x.act.mask<4294967296)) underlying28 (by kernel_rfl) (fun _ _ _ hz=>abJ hz) f8
  obtain⟨n9,rfl,w9⟩:=gX underlying3 f9
  obtain⟨n10,rfl,w10⟩:=gX underlying3 f10
  obtain⟨n11,rfl,w11⟩:=gX underlying3 f11
  obtain⟨n12,rfl,w12⟩:=gX underlying3 f12
  refine⟨⟨n0,n1,l2.map (·.1),l3,l4,l5,l6,l7.map (·.1),l8,n9,n10,n11,n12⟩,⟨c2,c3,c4,c5,c6,c7,c8,0,0,0,0,0⟩,⟨rfl,⟨l2,rfl,by simpa using r2,fun p hp=>(w2 p hp).1⟩,r3,r4,r5,r6,⟨l7,rfl,by simpa using r7,w7⟩,r8⟩,⟨fun k hk=>?_,w5,w6,w8⟩⟩
  obtain⟨p,hp,rfl⟩:=List.mem_map.1 hk
  exact(w2 p hp).2
theorem Xk {r:Reach} {b0:Nat} {v:Value} {d:DataW H} {p:List MemPlace} (hv:Value.okWide prog W r b0 30 v) (h:DataW.Trod enc prog W base spare held 30 v d p):∃T x,rF (lG W) v T x∧T.Num:=by
 obtain⟨cs,rfl,_⟩:=okWide_struct underlying30 hv
 obtain⟨fuel,hf⟩:=h
 exact aa9 hf
end
end Go.Proofs.YtajgpcnlehinbaaGreat
