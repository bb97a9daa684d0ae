/- Part of a proof. -/
import Derived.Test.YtajgpcnlehinbaaGreatA13
import Derived.Test.YtajgpcnlehinbaaGreatA17
namespace Go.Proofs.YtajgpcnlehinbaaGreat
open Tryz Go.RowKit
set_option maxRecDepth 100000
set_option maxHeartbeats 60000000
set_option linter.all false
structure ug where
 rings:List Int
 pre:Int
 frames:Int
 errors:Int
 calls:Int
structure aB where
 core:az
 board:aJ
 frames:He oV
 errors:iI aK
 calls:iI Int
 gate:lg
 phase:Int
 mode:Int
 marks:ug
 begun:List aK
 aO:List Int
structure iH where
 kind:Int
 id:Int
 service:Int
 a:Int
 b:Int
 c:Int
structure Uu where
 status:Int
 idle:Bool
 v:Int × Int × Int
 run:aK
 begun:List aK
 aO:List Int
def aK.zero:aK:=⟨0,0,0,0,0⟩
def aK.of (kind id:Int):aK:=⟨kind,id,0,0,0⟩
def lg.wide:lg:=⟨false,0,0⟩
def lg.same (g h:lg):Bool:=decide (g.shut=h.shut)&&decide (g.all=h.all)&&decide (g.os=h.os)
def eQ (i:Int):bK:=⟨true,i⟩
def ah.use (T:ah) (bit:Int):Bool:= !decide (bits .and .i64 T.uses bit=0)
def ah.aV (T:ah):fV:=⟨T.bi,T.ag,T.modes,T.bf.map fun x=>(x.category,x.aI)⟩
def ug.up (m:ug) (rings:List (List Int)) (pre frames errors calls:Nat):ug:=
 ⟨List.zipWith (fun(x:Int) (l:List Int)=>max x (l.length:Int)) m.rings rings,max m.pre pre,max m.frames frames,max m.errors errors,max m.calls calls⟩
def aB.mark (T:ah) (k:aB):aB:={k with marks:=k.marks.up (k.core.look T).rings k.core.before.length k.frames.items.length k.errors.items.length k.calls.items.length}
def aB.ctx (k:aB):oV:=match k.frames.items.getLast? with|some c=>c|none=>⟨.zero,.wide⟩
def aB.top (k:aB):aK:=k.ctx.frame
def aB.begin (T:ah) (k:aB) (f:aK):aB:=
 aB.mark T {k with frames:={k.frames with items:=k.frames.items++ [⟨f,k.gate⟩]},begun:=if 3≤f.kind then k.begun++ [f] else k.begun}
def aB.eH (k:aB):Bool:=k.frames.items.any fun c=>decide (c.frame.kind=4)
def aB.fail (T:ah) (k:aB) (st service jC:Int):aB:=
 if k.eH then k else aB.mark T {k with errors:={k.errors with items:=k.errors.items++ [⟨4,0,st,service,jC⟩]}}
def aB.shut (k:aB):Bool:= !k.gate.same .wide
def aB.leave (T:ah) (k:aB):aB:=if T.use 16 then k.begin T (.of 7 k.core.tk.running) else k
def aB.run (T:ah) (k:aB):aB:=
 match k.core.runs T with
 |none=>k
 |some (n,c)=>let k1:=({k with core:=c}:aB).begin T (.of 1 n)
  if T.use 8 then k1.begin T (.of 6 n) else k1
inductive YB where
 |did (k:aB)
 |pass
 |stop
def aB.above (T:ah) (k:aB):Int:=
 if k.top.kind=1 then T.eU.aI k.core.lock (oL k.top.id) else if k.top.kind=2 then T.eU.aI k.core.lock (eQ k.top.id) else-1
def aB.rule (T:ah) (k:aB):Nat→YB
 |0=>if k.top.kind=4 then .stop else .pass
 |1=>match k.errors.items with
  | []=> .pass
  |f::fs=>let k1:aB:={k with errors:={k.errors with items:=fs}}
   .did (if T.use 2 then k1.begin T f else k1)
 |2=>if k.top.kind=8 then .stop else .pass
 |3=>match k.calls.items with
  | []=> .pass
  |a::rest=> .did (({k with calls:={k.calls with items:=rest}}:aB).begin T (.of 8 a))
 |4=>if 3≤k.top.kind∨k.phase≠1 then .stop else .pass
 |5=>if k.core.leaving=0 then .pass else .did {k with core:=k.core.carry T,frames:={k.frames with items:=k.frames.items.dropLast}}
 |6=>let i:=T.aV.next k.board (k.above T) k.gate
  if 0≤i then .did (({k with board:={k.board with req:=k.board.req.set i.toNat false}}:aB).begin T (.of 2 i)) else .pass
 |7=>if k.top.kind=2 then .stop else .pass
 |8=>if 0≤k.core.tk.running then .pass else if k.core.waiting then .did (k.run T) else .stop
 |9=>if k.shut|| !k.core.due T then .pass else .did (({k with core:=k.core.jQ}:aB).leave T)
 |_=> .stop
inductive jH (T:ah):Nat→aB→aB→Prop
 |over (k:aB):jH T 10 k k
 |stop {i:Nat} {k:aB}:i<10→k.rule T i= .stop→jH T i k (k.mark T)
 |pass {i:Nat} {k r:aB}:i<10→k.rule T i= .pass→jH T (i+1) (k.mark T) r→jH T i k r
 |did {i:Nat} {k k1 r:aB}:i<10→k.rule T i= .did k1→jH T 0 (k1.mark T) r→jH T i k r
def Di (T:ah):Nat→Nat→aB→Option aB
 |0,_,_=>none
 |n+1,i,k=>if i<10 then(match k.rule T i with| .stop=>some (k.mark T)| .pass=>Di T n (i+1) (k.mark T)| .did k1=>Di T n 0 (k1.mark T)) else if i=10 then some k else none
theorem Bc {T:ah}:∀ {n i:Nat} {k r:aB},Di T n i k=some r→jH T i k r
 |0,_,_,_,h=>by cases h
 |n+1,i,k,r,h=>by
  unfold Di at h
  split at h
  ·rename_i hi
   split at h
   ·rename_i e;cases h;exact .stop hi e
   ·rename_i e;exact .pass hi e (Bc h)
   ·rename_i k1 e;exact .did hi e (Bc h)
  ·split at h
   ·rename_i e;subst e;cases h;exact .over _
   ·cases h
theorem jH.det {T:ah} {i:Nat} {k r r':aB} (h:jH T i k r) (h':jH T i k r'):r=r':=by
 induction h with
 |over k=>cases h' with
  |over=>rfl
  |stop hi _=>omega
  |pass hi _ _=>omega
  |did hi _ _=>omega
 |stop hi e=>cases h' with
  |over=>omega
  |stop _ _=>rfl
  |pass _ e' _=>rw[e]at e';cases e'
  |did _ e' _=>rw[e]at e';cases e'
 |pass hi e _ ih=>cases h' with
  |over=>omega
  |stop _ e'=>rw[e]at e';cases e'
  |pass _ _ s=>exact ih s
  |did _ e' _=>rw[e]at e';cases e'
 |did hi e _ ih=>cases h' with
  |over=>omega
  |stop _ e'=>rw[e]at e';cases e'
  |pass _ e' _=>rw[e]at e';cases e'
  |did _ e' s=>rw[e]at e';cases e';exact ih s
def ah.wakes (T:ah) (mode:Int) (i:Nat):Bool:=match T.ay[i]? with|some x=> !decide (bits .and .u32 x.dX (2 ^ mode.toNat)=0)|none=>false
def az.jX (T:ah) (c:az) (mode:Int):Nat→az
 |0=>c
 |n+1=>if T.wakes mode n then((az.jX T c mode n).dB T n).1 else az.jX T c mode n
def aB.start (T:ah) (k:aB) (mode:Int):aB × Int:=
 if mode<0∨T.modes≤mode then(k,3) else
 let k1:aB:={k with phase:=1,mode:=mode,core:=k.core.jX T mode T.ay.length,board:=(aJ.kZ T.aV k.board mode.toNat T.ag.length).1}
 (if T.use 1 then k1.begin T (.of 3 0) else k1,0)
def lD (x:Int):Int:=IntKind.u32.wrap x
def aB.back (T:ah) (k:aB):aB × Int:=
 let x:=k.ctx
 if x.frame.kind=1 then
  let k1:=({k with gate:= .wide}:aB).fail T 9 5 0
  (({k1 with core:=k1.core.oQ.1}:aB).leave T,9)
 else
  let k1:aB:=if x.frame.kind=2 then
   let o:=eQ x.frame.id
   let k2:aB:={k with core:={k.core with lock:=k.core.lock.iC o}}
   let k3:=match (k.core.lock.held o).getLast? with|some r=>k2.fail T 6 17 (lD r)|none=>k2
   if k3.gate.same x.gate then k3 else k3.fail T 10 0 0
   else k
  ({k1 with gate:=x.gate,frames:={k1.frames with items:=k1.frames.items.dropLast}},0)
def aB.act (T:ah) (k:aB) (a:zx) (id:Int):aB:=
 if a.kind=1 then
  let p:=k.core.dB T a.lL
  if p.2=0 then {k with core:=p.1} else({k with core:=p.1}:aB).fail T p.2 4 (lD a.lL)
 else if a.kind=2 then
  let p:=k.core.fA T a.lL a.mask
  if p.2=0 then {k with core:=p.1} else({k with core:=p.1}:aB).fail T p.2 18 (lD a.lL)
 else if a.kind=3 then
  if k.calls.items.contains id then k else {k with calls:={k.calls with items:=k.calls.items++ [id]}}
 else k
def ah.deed (T:ah) (i:Int):zx:=match T.ag[i.toNat]? with|some a=>a.act|none=>⟨0,0,0⟩
def aB.nI (T:ah) (k:aB):List Int→aB
 | []=>k
 |i::is=>aB.nI T (aB.mark T (k.act T (T.deed i) i)) is
def aB.tick (T:ah) (k:aB) (c:Int):aB × Int:=
 if c<0 then(k,3) else match k.board.clocks[c.toNat]? with
 |none=>(k,3)
 |some x=>let l:=T.aV.fired c.toNat x
  (({k with board:=k.board.dA c.toNat x.tick,aO:=l}:aB).nI T l,0)
def jL (p:Int) (n:Nat):Int:=if(n:Int)≤p then-1 else p
def aJ.yR (t:fV) (s:aJ) (i tk cy:Int):aJ × Int:=
 if i<0 then(s,3) else match t.ag[i.toNat]?,s.clocks[t.oZ i.toNat]? with
 |some _,some x=>(s.dA (t.oZ i.toNat) (x.L9 (t.place i.toNat) (x.ag.getD (t.place i.toNat) .off) tk cy),x.Si (x.ag.getD (t.place i.toNat) .off) tk cy)
 |_,_=>(s,3)
def aJ.yS (t:fV) (s:aJ) (i tk cy:Int):aJ × Int:=
 if i<0 then(s,3) else match t.ag[i.toNat]?,s.clocks[t.oZ i.toNat]? with
 |some _,some x=>(s.dA (t.oZ i.toNat) (x.OA (t.place i.toNat) (x.ag.getD (t.place i.toNat) .off) tk cy),x.Ue (x.ag.getD (t.place i.toNat) .off) tk cy)
 |_,_=>(s,3)
def aJ.kV (t:fV) (s:aJ) (i:Int):aJ × Int:=
 if i<0 then(s,3) else match t.ag[i.toNat]?,s.clocks[t.oZ i.toNat]? with
 |some _,some x=>let a:=x.ag.getD (t.place i.toNat) .off
  (s.dA (t.oZ i.toNat) {x with ag:=x.ag.set (t.place i.toNat) a.cancel},if a.set then 0 else 5)
 |_,_=>(s,3)
def aJ.yM (t:fV) (s:aJ) (i:Int):Int × Int:=
 if i<0∨(t.ag.length:Int)≤i then(0,3) else
 let a:=s.wI t i.toNat
 (if a.set then a.left else 0,if a.set then 0 else 5)
def fV.yK (t:fV) (i:Int):(Int × Int × Int) × Int:=
 if i<0∨(t.ag.length:Int)≤i then((0,0,0),3) else match t.bi[t.oZ i.toNat]? with
 |some x=>((x.max,x.base,x.min),0)
 |none=>((0,0,0),3)
def az.uk (T:ah) (s:az) (i:Int):Int × Int:=
 if i<0∨(T.ay.length:Int)≤i then(0,3) else match s.tk.ay[i.toNat]? with
 |some y=>(y.state,0)
 |none=>(0,3)
def aB.shutdown (T:ah) (k:aB) (a:Int):aB:=
 let k1:aB:={k with phase:=2,gate:= .wide,core:=T.mP,board:=k.board.calm T.aV,errors:={k.errors with items:= []},calls:={k.calls with items:= []},frames:={k.frames with items:= []}}
 if T.use 4 then k1.begin T ⟨5,0,a,0,0⟩else k1
def aB.left (T:ah) (k:aB) (p:az × Int):aB × Int:=
 let k1:aB:={k with core:=p.1}
 if p.2=0∧p.1.leaving≠0 then((k1.mark T).leave T,p.2) else(k1,p.2)
def lg.turn (g:lg) (service:Int):lg:=
 if service=10 then {g with shut:=false} else if service=11 then {g with shut:=true}
 else if service=12 then {g with all:=max (g.all-1) 0} else if service=13 then {g with all:=min (g.all+1) 255}
 else if service=14 then {g with os:=max (g.os-1) 0} else {g with os:=min (g.os+1) 255}
def aB.serve (T:ah) (k:aB) (s:iH) (f:aK):aB × (Int × Int × Int) × Int:=
 let nt:=jL s.a T.ay.length
 let na:=jL s.a T.ag.length
 let own:=if f.kind=2 then eQ f.id else oL f.id
 let core:=fun(p:az × Int)=>(({k with core:=p.1}:aB),((0,0,0):Int × Int × Int),p.2)
 let board:=fun(p:aJ × Int)=>(({k with board:=p.1}:aB),((0,0,0):Int × Int × Int),p.2)
 let left:=fun(p:az × Int)=>((k.left T p).1,((0,0,0):Int × Int × Int),(k.left T p).2)
 if s.service=1 then(k,(0,0,0),7)
 else if s.service=2 then(k.shutdown T s.a,(0,0,0),0)
 else if s.service=3 then(k,(lD k.mode,0,0),0)
 else if s.service=4 then core (k.core.dB T nt)
 else if s.service=5 then left k.core.gK
 else if s.service=6 then left (k.core.chain T nt)
 else if s.service=7 then left (k.core.schedule T)
 else if s.service=8 then(k,(lD k.core.tk.running,0,0),0)
 else if s.service=9 then(k,(lD (k.core.uk T nt).1,0,0),(k.core.uk T nt).2)
 else if s.service≤15 then({k with gate:=k.gate.turn s.service},(0,0,0),0)
 else if s.service=16 then core (k.core.get T own (jL s.a T.bP.length))
 else if s.service=17 then core (k.core.release T own (jL s.a T.bP.length))
 else if s.service=18 then core (k.core.fA T nt s.b)
 else if s.service=19 then core (k.core.fF s.a)
 else if s.service=20 then(k,((k.core.mO T nt).1,0,0),(k.core.mO T nt).2)
 else if s.service=21 then left (k.core.fM T s.a)
 else if s.service=22 then(k,(T.aV.yK na).1,(T.aV.yK na).2)
 else if s.service=23 then(k,((k.board.yM T.aV na).1,0,0),(k.board.yM T.aV na).2)
 else if s.service=24 then board (k.board.yR T.aV na s.b s.c)
 else if s.service=25 then board (k.board.yS T.aV na s.b s.c)
 else board (k.board.kV T.aV na)
def Bl:List (Int × Int × Int):=[(1,1,0),(2,1,77),(3,0,253),(4,1,5),(5,0,1),(6,1,1),(7,0,1),(8,0,61),(9,1,61),(10,0,7),(11,0,7),(12,0,319),(13,0,319),(14,0,7),(15,0,7),(16,1,5),(17,1,5),(18,2,5),(19,1,1),(20,1,61),(21,1,1),(22,1,61),(23,1,61),(24,3,5),(25,3,5),(26,1,5),(40,2,261),(41,1,261),(42,1,317),(43,2,261),(44,1,263),(45,1,263)]
def yU (n:Int):Option (Int × Int × Int):=Bl.find? fun r=>decide (r.1=n)
def jG (kind category:Int):Int:=
 if kind=1 then 1 else if kind=2 then(if category=1 then 2 else if category=2 then 3 else 0)
 else if kind=3 then 7 else if kind=4 then 4 else if kind=5 then 8 else if kind=6 then 5 else if kind=7 then 6 else if kind=8 then 9 else 0
def tN (n lv:Int):Bool:=match yU n with
 |some r=>decide (1≤lv)&&decide (lv≤9)&&decide (r.2.2/2 ^ (lv-1).toNat%2=1)
 |none=>false
def oC (n:Int):Int:=match yU n with|some r=>r.2.1|none=>-1
def ah.FN (T:ah) (f:aK):Int:=if f.kind=2 then(match T.bf[f.id.toNat]? with|some x=>x.category|none=>0) else 0
def aB.call (T:ah) (k:aB) (s:iH):aB × (Int × Int × Int) × Int:=
 let f:=k.top
 let there:=decide (1≤s.service)&&decide (s.service≤26)
 let gates:=decide (10≤s.service)&&decide (s.service≤15)
 let p:=if there=false then(k,(0,0,0),3) else if tN s.service (jG f.kind (T.FN f))=false then(k,(0,0,0),2)
  else if k.shut&& !gates then(k,(0,0,0),10) else k.serve T s f
 if p.2.2=0 then p else(p.1.fail T p.2.2 s.service (if there&&decide (0<oC s.service) then s.a else 0),(0,0,0),p.2.2)
def aB.deed (T:ah) (k:aB) (s:iH):Option (aB × (Int × Int × Int) × Int):=
 let up:=decide (k.phase=1)
 let busy:= !k.frames.items.isEmpty
 if s.kind=1 then(if k.phase=0 then some ((k.start T s.id).1,(0,0,0),(k.start T s.id).2) else none)
 else if s.kind=2 then(if busy&&(up||decide (3≤k.top.kind)) then some (k.call T s) else none)
 else if s.kind=3 then(if busy then some ((k.back T).1,(0,0,0),(k.back T).2) else none)
 else if s.kind=4 then(if up then(if s.id<0∨(T.bf.length:Int)≤s.id then some (k,(0,0,0),3) else some ({k with board:={k.board with req:=k.board.req.set s.id.toNat true}},(0,0,0),0)) else none)
 else if s.kind=5 then(if up then some ((k.tick T s.id).1,(0,0,0),(k.tick T s.id).2) else none)
 else none
def aB.clean (k:aB):aB:={k with begun:= [],aO:= []}
inductive aB.Step (T:ah) (k:aB) (s:iH):aB→Uu→Prop
 |idle:k.clean.deed T s=none→aB.Step T k s k.clean ⟨0,true,(0,0,0),k.top, [], []⟩
 |makes {k1 k2:aB} {v:Int × Int × Int} {st:Int}:k.clean.deed T s=some (k1,v,st)→jH T 0 (k1.mark T) k2→aB.Step T k s k2.clean ⟨st,false,v,k2.top,k2.begun,k2.aO⟩
theorem aB.Step.det {T:ah} {k k1 k2:aB} {s:iH} {a1 a2:Uu} (h1:aB.Step T k s k1 a1) (h2:aB.Step T k s k2 a2):k1=k2∧a1=a2:=by
 cases h1 with
 |idle e1=>cases h2 with
  |idle _=>exact⟨rfl,rfl⟩
  |makes e2 _=>rw[e1]at e2;cases e2
 |makes e1 s1=>cases h2 with
  |idle e2=>rw[e1]at e2;cases e2
  |makes e2 s2=>
   rw[e1]at e2
   cases e2
   cases s1.det s2
   exact⟨rfl,rfl⟩
def aJ.zero (t:fV):aJ:=⟨(List.range t.bi.length).map fun c=>match t.bi[c]? with|some x=>⟨x.max,x.min,0,List.replicate (t.fG c).length .off⟩|none=>⟨0,0,0, []⟩,List.replicate 32 false⟩
def ah.zy (T:ah):aB:=
 ⟨T.mP,.zero T.aV,⟨T.frames.toNat, []⟩,⟨T.errors.toNat, []⟩,⟨T.dU.toNat, []⟩,.wide,0,0,⟨List.replicate T.rings.length 0,0,0,0,0⟩, [], []⟩
def rF (B:List (Nat × Obj)) (v:Value) (T:ah) (x:jM):Prop:=xu B v T x.vt x.vr x.vs x.vc x.va x.vi x.vm
section
variable {w0 w:World} {l:List SL} {T:ah} {B:List (Nat × Obj)} {x:jM} {v:Value}
theorem QE {n:Nat} {k:IA} (ht:rF B v T x) (hk:T.bP[n]? =some k):
 ∃g o cap,x.vs= .slice (some ⟨g,o,none⟩) T.bP.length cap∧∀ {w0 w:World} {l:List SL},In w0 w (bJ B::l)→w.cell? ⟨g,o+n*2,none⟩=some (.bool k.internal)∧w.cell? ⟨g,o+n*2+1,none⟩=some (.int .i64 k.gJ):=by
 have hn:=(List.getElem?_eq_some_iff.1 hk).1
 obtain⟨h0,⟨_,e,_⟩|⟨g,o,cap,cells,Ty,fr,e,h2,h3,h4⟩⟩:=ht.bP
 ·omega
 refine⟨g,o,cap,e,fun h=>?_⟩
 have hb:=h.sO h3
 have hcs:∀(j:Nat) (u:Value),(kw k)[j]? =some u→j<2→cells[o+(n*2+j)]? =some u:=fun j u hu hj=>
  h4 _ u ((flat_get (dL (slot:=kw) (size:=2) (fun _=>rfl) T.bP) (i:=n) (x:=kw k) (by simp[hk]) j hj).trans hu)
 simp only at hb
 refine⟨?_,?_⟩
 ·have:=hcs 0 _ rfl (by decide);simp[World.cell?,hb];simpa[Nat.add_assoc]using this
 ·have:=hcs 1 _ rfl (by decide);simp[World.cell?,hb];simpa[Nat.add_assoc]using this
theorem kY (ht:rF B v T x):v= .agg #[.int .i64 T.uses,.int .i64 T.modes,x.vt,x.vr,x.vs,x.vc,x.va,x.vi,x.vm,.int .i64 T.depth,.int .i64 T.frames,.int .i64 T.errors,.int .i64 T.dU]:=ht.val
theorem U2 {u:Value} {xs:List Int} (h:In w0 w (bJ B::l)) (ht:rF B v T x) (hu:dQ B u xs.length (ints xs)) (p:Int):
 aW 150 #[v,u,.int .i64 p] w w0 (.bool (T.yF xs p)) (bJ B::l):=by
 obtain rfl:=kY ht
 obtain⟨au,cu,rfl⟩:=hu.form
 have hmax:=hu.1
 unfold maxLen at hmax
 rcases x with⟨vt,vr,vs,vc,va,vi,vm,q1,q2,q3,q4,q5⟩
 obtain⟨BK,caps,es⟩:=ht.bP.form
 simp only at es
 subst es
 have h1:=h.alloc (dO T vt vr (.slice BK T.bP.length caps) vc va vi vm)
 unfold ah.yF
 generalize hq:mX xs.length (T.Ff xs p)=q
 go_enter func150,ntmps150
 go_upto_region 1 with(fail)
 refine In.abs h1 ?_
 clear h1 h
 generalize w.heap.size=z
 intro w2 h2
 go_upto_region 2 with(fail)
 go_loopw [7,8,11] (fun _ _ c wr=>∃k:Nat,k≤xs.length∧c= .int .i64 k∧mX k (T.Ff xs p)=true∧In w0 wr (pts z (dO T vt vr (.slice BK T.bP.length caps) vc va vi vm)::bJ B::l))
  (fun _ _ c _=>xs.length-(intOf c).toNat)
 case atStart=>exact⟨0,Nat.zero_le _,rfl,rfl,h2⟩
 case round=>
  obtain⟨k,hk,rfl,hall,hw⟩:=hrel
  clear h2
  have hz4:=hw.cells
  by_cases hlt:k<xs.length
  ·have hx:=List.getElem?_eq_getElem hlt
   obtain⟨g,o,cap,eu,_,hcell⟩:=hu.cells (hw.ae p1) (by omega)
   cases eu
   have hck:wr.cell? ⟨g,o+k,none⟩=some (.int .i64 xs[k]):=hcell k _ (by simp[ints,hlt])
   have n1:(k:Int)<xs.length:=by omega
   have hat:T.Ff xs p k=(decide (0≤xs[k])&&decide (xs[k]<T.bP.length)&&(decide (k=0)||decide (xs.getD (k-1) 0<xs[k]))&&(match T.bP[(xs[k]).toNat]? with|some x=> !x.internal&&decide (p≤x.gJ)|none=>false)):=by
    unfold ah.Ff;rw[hx];rfl
   have XW:0<k→wr.cell? ⟨g,o+(k-1),none⟩=some (.int .i64 (xs.getD (k-1) 0)):=fun h0=>hcell (k-1) _ (by simp[ints,show k-1<xs.length by omega])
   generalize xs.getD (k-1) 0=pv at*
   generalize xs[k]=r at*
   clear hcell hx
   rcases k with _|km
   ·clear XW
    rw[show o+0=o from rfl]at hck
    by_cases c1:r<0
    ·obtain rfl:q=false:=hq.symm.trans (dF hlt (by rw[hat];simp;omega))
     go_wp2_with fail
     go_ret
     exact⟨rfl,hw.drop⟩
    have c1':(0:Int)≤r:=by omega
    by_cases c2:(T.bP.length:Int)≤r
    ·obtain rfl:q=false:=hq.symm.trans (dF hlt (by rw[hat];simp;omega))
     go_wp2_with fail
     go_ret
     exact⟨rfl,hw.drop⟩
    have c2':r<T.bP.length:=by omega
    obtain⟨m,rfl⟩:∃m:Nat,r=m:=⟨r.toNat,by omega⟩
    have hm:=List.getElem?_eq_getElem (l:=T.bP) (i:=m) (by omega)
    generalize T.bP[m]'(by omega)=y at hm
    rw[Int.toNat_natCast,hm]at hat
    simp only at hat
    obtain⟨g2,o2,cap2,e2,hc2⟩:=QE ht hm
    simp only at e2
    cases e2
    obtain⟨hy0,hy1⟩:=hc2 (hw.ae p1)
    have hz4:=hw.cells
    cases c5:y.internal with
    |true=>
     rw[c5]at hy0
     obtain rfl:q=false:=hq.symm.trans (dF hlt (by rw[hat];simp[c5]))
     go_wp2_with fail
     go_ret
     exact⟨rfl,hw.drop⟩
    |false=>
     rw[c5]at hy0
     by_cases c6:y.gJ<p
     ·obtain rfl:q=false:=hq.symm.trans (dF hlt (by rw[hat];simp[c5];omega))
      go_wp2_with fail
      go_ret
      exact⟨rfl,hw.drop⟩
     ·have c6':p≤y.gJ:=by omega
      go_wp2_with fail
      go_roundw
      case rel=>exact⟨0+1,hlt,by go_num,lC hall (by rw[hat];simp[c5];omega),hw⟩
      case measure=>simp[intOf]<;>omega
   ·have hpv:=XW (by omega)
    clear XW
    have n2:(0:Int)<((km+1:Nat):Int):=by omega
    have n3:((km+1:Nat):Int)-1=(km:Int):=by omega
    have n4:(km:Int)<xs.length:=by omega
    rw[show km+1-1=km from rfl]at hpv
    simp only[Nat.add_sub_cancel,Nat.succ_ne_zero,decide_false,Bool.false_or]at hat
    by_cases c1:r<0
    ·obtain rfl:q=false:=hq.symm.trans (dF hlt (by rw[hat];simp;omega))
     go_wp2_with fail
     go_ret
     exact⟨rfl,hw.drop⟩
    have c1':(0:Int)≤r:=by omega
    by_cases c2:(T.bP.length:Int)≤r
    ·obtain rfl:q=false:=hq.symm.trans (dF hlt (by rw[hat];simp;omega))
     go_wp2_with fail
     go_ret
     exact⟨rfl,hw.drop⟩
    have c2':r<T.bP.length:=by omega
    obtain⟨m,rfl⟩:∃m:Nat,r=m:=⟨r.toNat,by omega⟩
    have hm:=List.getElem?_eq_getElem (l:=T.bP) (i:=m) (by omega)
    generalize T.bP[m]'(by omega)=y at hm
    rw[Int.toNat_natCast,hm]at hat
    simp only at hat
    obtain⟨g2,o2,cap2,e2,hc2⟩:=QE ht hm
    simp only at e2
    cases e2
    obtain⟨hy0,hy1⟩:=hc2 (hw.ae p1)
    have hz4:=hw.cells
    by_cases c4:(m:Int)≤pv
    ·obtain rfl:q=false:=hq.symm.trans (dF hlt (by rw[hat];simp;omega))
     go_wp2_with fail
     go_ret
     exact⟨rfl,hw.drop⟩
    have c4':pv<(m:Int):=by omega
    cases c5:y.internal with
    |true=>
     rw[c5]at hy0
     obtain rfl:q=false:=hq.symm.trans (dF hlt (by rw[hat];simp[c5]))
     go_wp2_with fail
     go_ret
     exact⟨rfl,hw.drop⟩
    |false=>
     rw[c5]at hy0
     by_cases c6:y.gJ<p
     ·obtain rfl:q=false:=hq.symm.trans (dF hlt (by rw[hat];simp[c5];omega))
      go_wp2_with fail
      go_ret
      exact⟨rfl,hw.drop⟩
     ·have c6':p≤y.gJ:=by omega
      go_wp2_with fail
      go_roundw
      case rel=>exact⟨km+1+1,hlt,by go_num,lC hall (by rw[hat];simp[c5];omega),hw⟩
      case measure=>simp[intOf]<;>omega
  ·have hke:k=xs.length:=by omega
   subst hke
   obtain rfl:q=true:=hq.symm.trans hall
   go_wp2_with fail
   go_ret
   exact⟨rfl,hw.drop⟩
end
section
variable {w0 w:World} {l:List SL} {T:ah} {B:List (Nat × Obj)} {x:jM} {v:Value}
theorem iw {α:Type} {slot:α→List Value} {size:Nat} (hs:∀a,(slot a).length=size) {xs:List α} {n:Nat} {a:α} {u:Value} (hu:dQ B u xs.length (xs.map slot).flatten) (hk:xs[n]? =some a):
 ∃g o cap,u= .slice (some ⟨g,o,none⟩) xs.length cap∧∀ {w0 w:World} {l:List SL},In w0 w (bJ B::l)→
  ∀(j:Nat) (c:Value),(slot a)[j]? =some c→j<size→w.cell? ⟨g,o+n*size+j,none⟩=some c:=by
 have hn:=(List.getElem?_eq_some_iff.1 hk).1
 obtain⟨h0,⟨_,e,_⟩|⟨g,o,cap,cells,Ty,fr,e,h2,h3,h4⟩⟩:=hu
 ·omega
 refine⟨g,o,cap,e,fun h j c hc hj=>?_⟩
 have hb:=h.sO h3
 simp only at hb
 have:=h4 _ c ((flat_get (dL hs xs) (i:=n) (x:=slot a) (by simp[hk]) j hj).trans hc)
 simp[World.cell?,hb,Nat.add_assoc,this]
theorem JO (h:In w0 w l) (n:Int):aW 153 #[.int .u32 n] w w0 (.bool (xX n)) l:=by
 unfold xX
 by_cases c1:1≤n
 ·by_cases c2:n≤2147483647
  ·go_enter func153,ntmps153
   go_wp2_with fail
   go_ret
   exact⟨by simp[c1,c2],h⟩
  ·have c2':2147483647<n:=by omega
   go_enter func153,ntmps153
   go_wp2_with fail
   go_ret
   exact⟨by simp[c1,c2],h⟩
 ·have c1':n<1:=by omega
  go_enter func153,ntmps153
  go_wp2_with fail
  go_ret
  exact⟨by rw[show decide (1≤n)=false from decide_eq_false (by omega)];rfl,h⟩
theorem WF {a:zx} (h:In w0 w (bJ B::l)) (ht:rF B v T x) (lo hi:Int):
 aW 154 #[v,.agg #[.int .i64 a.kind,.int .i64 a.lL,.int .u32 a.mask],.int .i64 lo,.int .i64 hi] w w0 (.bool (T.yT a lo hi)) (bJ B::l):=by
 obtain rfl:=kY ht
 rcases x with⟨vt,vr,vs,vc,va,vi,vm,q1,q2,q3,q4,q5⟩
 obtain⟨tl,t1,t2,t3⟩:=ht.ay
 obtain⟨BK,caps,es⟩:=t2.form
 simp only at es
 subst es
 have h1:=h.alloc2 (dO T (.slice BK T.ay.length caps) vr vs vc va vi vm) (CO a.kind a.lL a.mask)
 unfold ah.yT
 rcases a with⟨kd,tk,mk⟩
 simp only at h1⊢
 generalize hq:(decide (lo≤kd)&&decide (kd≤hi)&&_)=q
 go_enter func154,ntmps154
 go_upto_region 1 with(fail)
 refine In.abs h1 ?_
 clear h1 h
 generalize w.heap.size=z
 intro w2 h2
 have fc_:=h2.facts
 by_cases c1:kd<lo
 ·obtain rfl:q=false:=by rw[←hq];simp;omega
  go_wp2_with fail
  go_ret
  exact⟨rfl,h2.drop.drop⟩
 have c1':lo≤kd:=by omega
 by_cases c2:hi<kd
 ·obtain rfl:q=false:=by rw[←hq];simp;omega
  go_wp2_with fail
  go_ret
  exact⟨rfl,h2.drop.drop⟩
 have c2':kd≤hi:=by omega
 simp only[c1',c2',decide_true,Bool.true_and]at hq
 by_cases k0:kd=1∨kd=2
 ·rw[if_pos k0]at hq
  by_cases c3:tk<0
  ·obtain rfl:q=false:=by rw[←hq];simp;omega
   rcases k0 with rfl|rfl
   all_goals
    go_wp2_with fail
    go_ret
    exact⟨rfl,h2.drop.drop⟩
  have c3':(0:Int)≤tk:=by omega
  by_cases c4:(T.ay.length:Int)≤tk
  ·obtain rfl:q=false:=by rw[←hq];simp;omega
   rcases k0 with rfl|rfl
   all_goals
    go_wp2_with fail
    go_ret
    exact⟨rfl,h2.drop.drop⟩
  have c4':tk<T.ay.length:=by omega
  simp only[c3',c4',decide_true,Bool.true_and]at hq
  obtain⟨m,rfl⟩:∃m:Nat,tk=m:=⟨tk.toNat,by omega⟩
  rcases k0 with rfl|rfl
  ·simp only[if_true]at hq
   go_wp2_with fail
   go_ret
   exact⟨by rw[←hq];rfl,h2.drop.drop⟩
  ·rw[if_neg (by decide)]at hq
   have hm:=List.getElem?_eq_getElem (l:=T.ay) (i:=m) (by omega)
   generalize T.ay[m]'(by omega)=y at hm
   have hmk:T.vz m=y.mask:=by unfold ah.vz;rw[Int.toNat_natCast,hm]
   rw[hmk]at hq
   obtain⟨g2,o2,cap2,e2,hcap2,hc2⟩:=uQ ht hm
   cases e2
   obtain⟨_,_,hy4⟩:=hc2 (h2.ae p2)
   have hz:=h2.cells
   have hz2:=h2.drop.cells
   by_cases m0:mk=0
   ·subst m0
    obtain rfl:q=false:=by rw[←hq];rfl
    go_wp2_with fail
    refine rg ⟨[], []⟩ [.c 0 0,.c 1 1,.c 0 2,.c 0 3,.c 0 4,.c 1 5,.c 0 6,.c 1 7,.c 0 8,.c 1 9,.c 0 10,.c 0 11,.c 1 12,.c 0 13,.c 0 14,.c 0 15,.c 0 16] ?_
    refine lK ?_
    go_wp2_with fail
    go_ret
    exact⟨rfl,h2.drop.drop.drew⟩
   ·have m0b:(mk != 0)=true:=by simpa using m0
    go_wp2_with fail
    refine rg ⟨[], []⟩ [.c 0 0,.c 1 1,.c 0 2,.c 0 3,.c 0 4,.c 1 5,.c 0 6,.c 1 7,.c 0 8,.c 1 9,.c 0 10,.c 0 11,.c 1 12,.c 0 13,.c 0 14,.c 0 15,.c 0 16] ?_
    refine lK ?_
    go_wp2_with fail
    go_ret
    exact⟨by rw[←hq];simp only[m0,decide_false,Bool.not_false,Bool.true_and];rfl,h2.drop.drop.drew⟩
 ·rw[if_neg k0]at hq
  have k1:¬kd=1:=fun e=>k0 (.inl e)
  have k2:¬kd=2:=fun e=>k0 (.inr e)
  have k1b:(kd != 1)=true:=by simpa using k1
  have k2b:(kd != 2)=true:=by simpa using k2
  by_cases m0:tk=0
  ·subst m0
   go_wp2_with fail
   go_ret
   exact⟨by rw[←hq];rfl,h2.drop.drop⟩
  ·obtain rfl:q=false:=by rw[←hq];simp[m0]
   go_wp2_with fail
   go_ret
   exact⟨rfl,h2.drop.drop⟩
end
def dn.act (k:dn):vS:=⟨k.limit, !decide (k.mask=0)⟩
theorem aeb:ig prog 403 405 2 16 (.agg #[.int .i64 0,.bool false]):=⟨underlying403,by kernel_rfl,rfl,by decide,by decide⟩
def Gf (v:Value) (B:List (Nat × Obj)):Prop:=∀ {v0 w:World} {l:List SL},In v0 w (bJ B::l)→aW 24 #[v] w v0 (.int .i64 0) (bJ B::l)
section
variable {w0 w:World} {l:List SL} {r:Nat} {T:ah} {s:az} {B:List (Nat × Obj)} {x:jM} {lv wt:Int}
theorem zW {v vt vr vs vc va vi vm:Value} {n:Nat} {k:dn} (ht:xu B v T vt vr vs vc va vi vm) (hk:T.ay[n]? =some k):
 ∃g o cap u,vt= .slice (some ⟨g,o,none⟩) T.ay.length cap∧T.ay.length≤cap∧dQ B u k.own.length (ints k.own)∧∀ {w0 w:World} {l:List SL},In w0 w (bJ B::l)→
  ∀(j:Nat) (c:Value),(dM (k,u))[j]? =some c→j<8→w.cell? ⟨g,o+(n*8+j),none⟩=some c:=by
 obtain⟨tl,t1,t2,t3⟩:=ht.ay
 have hn:=(List.getElem?_eq_some_iff.1 hk).1
 obtain⟨p,hp⟩:∃p,tl[n]? =some p:=⟨_,List.getElem?_eq_getElem (by rw[←List.length_map (f:=(·.1)),t1];exact hn)⟩
 have hpk:p.1=k:=by rw[←t1,List.getElem?_map,hp]at hk;cases hk;rfl
 obtain⟨h0,⟨_,e,_⟩|⟨g,o,cap,cells,Ty,fr,e,h2,h3,h4⟩⟩:=t2
 ·omega
 have hown:=t3 p (List.mem_of_getElem? hp)
 rcases p with⟨k',u⟩
 simp only at hpk hown
 subst hpk
 refine⟨g,o,cap,u,e,h2,hown,fun h j c hc hj=>?_⟩
 have hb:=h.sO h3
 simp only at hb
 have:=h4 _ c ((flat_get (dL (slot:=dM) (size:=8) (fun _=>rfl) tl) (i:=n) (x:=dM (k',u)) (by simp[hp]) j hj).trans hc)
 simp[World.cell?,hb,this]
theorem W9 {cs:Array Value} {v:Value} (h:In w0 w (pts r (.cells cs 222)::bJ B::l)) (hcs:cs.size=22) (ht:xu B v T x.vt x.vr x.vs x.vc x.va x.vi x.vm) (hT:T.check=true) (hck:Gf v B):
 aW 181 #[r,v] w w0 (.bool true) (Core r T T.mP::bJ B::l):=by
 have hF:=ah.fine hT
 rcases x with⟨vt,vr,vs,vc,va,vi,vm,q1,q2,q3,q4,q5⟩
 simp only at ht
 obtain⟨tl,t1,t2,t3⟩:=ht.ay
 obtain⟨Fa,uH,rfl⟩:=t2.form
 have hval:=ht.val
 have h1:=h.alloc (dO T (.slice Fa T.ay.length uH) vr vs vc va vi vm)
 have h256:=hF.ok.n2
 subst hval
 go_enter func181,ntmps181
 go_upto_region 3 with(fail)
 refine In.abs h1 ?_
 clear h1 h
 generalize w.heap.size=z
 intro w2 h2
 have fc_:=h2.facts
 go_upto_region 4 with(fail)
 have h5:In w0 w2 (Row 405 2 (.slice none 0 0) 0 []::Row 38 1 (.slice none 0 0) 0 []::pts z (dO T (.slice Fa T.ay.length uH) vr vs vc va vi vm)::pts r (.cells cs 222)::bJ B::l):=(h2.dh 38 1).dh 405 2
 clear h2
 go_loopw [5,6,8,22] (fun ul um _ c wr=>∃k:Nat,k≤T.ay.length∧c= .int .i64 k∧
  In w0 wr (Row 405 2 ul k (((T.ay.take k).map dn.act).map yN).flatten::Row 38 1 um k (((T.ay.take k).map (·.mask)).map fun m=> .int .u32 m)::pts z (dO T (.slice Fa T.ay.length uH) vr vs vc va vi vm)::pts r (.cells cs 222)::bJ B::l))
  (fun _ _ _ c _=>T.ay.length-(intOf c).toNat)
 case atStart=>exact⟨0,Nat.zero_le _,rfl,h5⟩
 case round=>
  obtain⟨k,hk,rfl,hw⟩:=hrel
  clear h5
  by_cases hlt:k<T.ay.length
  ·have hkr:=List.getElem?_eq_getElem hlt
   have hnx:=List.take_succ_eq_append_getElem hlt
   generalize T.ay[k]=kr at*
   obtain⟨g0,o0,cap0,uo,e0,hcap0,hown,hcl⟩:=zW ht hkr
   cases e0
   have hcs2:=hcl (hw.ae p4)
   obtain⟨OV,zO,eo⟩:=hown.form
   subst eo
   have hc0:∀j c,(dM (kr,.slice OV kr.own.length zO))[j]? =some c→j<8→wr.cell? ⟨g0,o0+k*8+j,none⟩=some c:=fun j c hc hj=>by have:=hcs2 j c hc hj;rwa[←Nat.add_assoc]at this
   have hd0:=hc0 0 _ rfl (by decide)
   have hd1:=hc0 1 _ rfl (by decide)
   have hd2:=hc0 2 _ rfl (by decide)
   have hd3:=hc0 3 _ rfl (by decide)
   have hd4:=hc0 4 _ rfl (by decide)
   have hd5:=hc0 5 _ rfl (by decide)
   have hd6:=hc0 6 _ rfl (by decide)
   have hd7:=hc0 7 _ rfl (by decide)
   rw[Nat.add_zero]at hd0
   clear hc0 hcs2
   obtain⟨aol,aah,rfl⟩:=hw.aG
   obtain⟨H7,vI,rfl⟩:=(hw.ae p1).aG
   have n1:(k:Int)<T.ay.length:=by omega
   have h6:=hw.alloc (BB kr.aI kr.ring kr.full kr.limit kr.mask kr.internal (.slice OV kr.own.length zO) kr.dX)
   go_upto_region 6 with(fail)
   refine In.abs h6 ?_
   clear h6 hw hd0 hd1 hd2 hd3 hd4 hd5 hd6 hd7
   generalize wr.heap.size=q
   intro w6 h6
   have fc_:=h6.facts
   go_wp2_with (with_reducible apply bH)
   unfold Stop
   refine aZ aeb ((h6.ae p1).alloc (.cells #[.int .i64 kr.limit,.bool (kr.mask != 0)] 405)) rfl (by rfl) (by rfl) (by simp[Value.oneCell']) (by omega) ?_
   intro u7 w7 h7
   obtain⟨Lm,yA,rfl⟩:=h7.aG
   have fc_:=h7.facts
   go_wp2_with (with_reducible apply bH)
   unfold Stop
   refine aZ acX ((h7.ae p2).alloc (Iq kr.mask)) rfl (by rfl) (by rfl) (by simp[Value.oneCell']) (by omega) ?_
   intro u8 w8 h8
   obtain⟨ao8,aez,rfl⟩:=h8.aG
   go_wp2_with fail
   go_roundw
   case rel=>
    refine⟨k+1,hlt,by go_num,?_⟩
    have e1:(((T.ay.take (k+1)).map dn.act).map yN).flatten=(((T.ay.take k).map dn.act).map yN).flatten++ [.int .i64 kr.limit,.bool (kr.mask != 0)]:=by rw[hnx,List.map_append,List.map_append,List.flatten_append];rfl
    have e2:((T.ay.take (k+1)).map (·.mask)).map (fun m=>Value.int .u32 m)=((T.ay.take k).map (·.mask)).map (fun m=>Value.int .u32 m)++ [.int .u32 kr.mask]:=by rw[hnx];simp
    rw[e1,e2]
    exact h8.s
   case measure=>simp[intOf]<;>omega
  ·have hke:k=T.ay.length:=by omega
   subst hke
   rw[List.take_length]at hw
   have hown:∀k∈T.ay,k.own.length≤1024:=fun k hk=>by have:=ah.oH (hF.ay k hk).own;have:=hF.bP;omega
   have aeC:∀k∈T.bf,k.own.length≤1024:=fun k hk=>by have:=ah.oH (hF.bf k hk).own;have:=hF.bP;omega
   have xH:0≤T.depth∧T.depth≤64:=by
    have h0:=hF.room.1
    have h1:=hF.ok.rs
    have:∀n,(iP T.ay n).length≤n:=by
     intro n
     induction n with
     |zero=>simp[iP]
     |succ n ih=>rw[iP,List.length_append];split<;>simp<;>omega
    have h2:=this 64
    rw[h0,h1]
    unfold Ar
    omega
   obtain⟨aol,aah,rfl⟩:=hw.aG
   obtain⟨H7,vI,rfl⟩:=(hw.ae p1).aG
   have fc_:=hw.facts
   have hnn:¬(T.ay.length:Int)<T.ay.length:=by omega
   go_upto_region 10 with(go_at_call 295;refine(abd (hw.ae p4) ht (fun h=>hck h) hF.ok.n2 hF.CJ hF.bP hown aeC).mono ?_;rintro _ w9 ⟨pl,rfl,h9⟩)
   have h9':In w0 w9 (Row 405 2 (.slice aol T.ay.length aah) (T.ay.map dn.act).length ((T.ay.map dn.act).map yN).flatten::lW pl T.eU .fresh::bJ B::Row 38 1 (.slice H7 T.ay.length vI) (T.ay.map (·.mask)).length ((T.ay.map (·.mask)).map fun m=> .int .u32 m)::pts z (dO T (.slice Fa T.ay.length uH) vr vs vc va vi vm)::pts r (.cells cs 222)::l):=by
    rw[List.length_map,List.length_map]
    exact h9.s
   clear h9 hw
   have htn:=abv h9' (by rw[List.length_map];exact h256) (fun y hy=>by
    obtain⟨k,hk,rfl⟩:=List.mem_map.1 hy
    have h1:=hF.ok.lm k hk
    refine⟨h1.1,h1.2,fun he=>?_⟩
    have:k.mask≠0:=by simpa[dn.act]using he
    have:=hF.ok.ex k hk this
    show k.limit≤1
    omega)
   go_upto_region 11 with(go_at_call 296;refine htn.mono ?_;rintro _ w10 ⟨pt,rfl,h10⟩)
   clear h9' htn
   have aeD:=(h10.ae p5).cells
   go_upto_region 12 with(go_at_call 297;refine(XI (h10.ae p3) ht.rings hF.ok.rows).mono ?_;rintro _ w11 ⟨pq,rfl,h11⟩)
   clear h10 aeD
   have aeE:=(h11.ae p6).cells
   have hsn:=Vh h11 T.depth.toNat (by omega)
   rw[show((T.depth.toNat:Nat):Int)=T.depth by omega]at hsn
   go_upto_region 13 with(go_at_call 298;refine hsn.mono ?_;rintro _ w12 ⟨pb,rfl,h12⟩)
   clear h11 aeE hsn
   have hen:=aba (h12.ae p6) (by rw[List.length_map];exact h256)
   go_upto_region 14 with(go_at_call 299;refine hen.mono ?_;rintro _ w13 ⟨pe,rfl,h13⟩)
   clear h12 hen
   obtain⟨Dv,qG,rfl⟩:=ht.rings.form
   obtain⟨BK,caps,rfl⟩:=ht.bP.form
   obtain⟨Az,oD,rfl⟩:=ht.bi.form
   obtain⟨yP,lN,rfl⟩:=ht.ag.form
   obtain⟨_,_,i2,_⟩:=ht.bf
   obtain⟨EN,ry,rfl⟩:=i2.form
   obtain⟨Hu,zS,rfl⟩:=ht.cZ.form
   have afO:=(h13.ae p8).cells
   go_wp2_with (with_reducible apply EK 222)
   unfold Stop
   let X:jM:=⟨.slice Fa T.ay.length uH,.slice Dv T.rings.length qG,.slice BK T.bP.length caps,.slice Az T.bi.length oD,.slice yP T.ag.length lN,.slice EN T.bf.length ry,.slice Hu T.cZ.length zS,pl,pt,pq,pb,pe⟩
   refine xh (h13.ae p9) (cs:=(([X.vt,X.vr,fJ pl,fJ pt,fJ pq,fJ pb,fJ pe,.int .i64 0,.int .u32 0]:List Value)++uB T X).toArray) (by rfl) (by rw[hcs];rfl) (by simp[X,uB,fJ,Value.oneCell']) (by rfl) (by rfl) ?_
   intro w14 lM
   have h15:In w0 w14 (pts r (bM T 0 0 X)::sU pe ((T.ay.map (·.mask)).map fun m=>⟨m,0,0,false⟩)::Row 38 1 (.slice H7 T.ay.length vI) (T.ay.map (·.mask)).length ((T.ay.map (·.mask)).map fun m=> .int .u32 m)::jo pb ⟨T.depth.toNat, []⟩::sS pq (tu T.rings)::bJ B::nN pt ⟨(T.ay.map dn.act).map vS.one,-1⟩::Row 405 2 (.slice aol T.ay.length aah) (T.ay.map dn.act).length ((T.ay.map dn.act).map yN).flatten::lW pl T.eU .fresh::pts z (dO T (.slice Fa T.ay.length uH) (.slice Dv T.rings.length qG) (.slice BK T.bP.length caps) (.slice Az T.bi.length oD) (.slice yP T.ag.length lN) (.slice EN T.bf.length ry) (.slice Hu T.cZ.length zS))::l):=lM
   clear lM h13
   go_wp2_with fail
   go_ret
   refine⟨rfl,?_⟩
   simp only[List.map_map]at h15
   have h16:=(h15.ae p5).xO
   have h17:=h16.pr [2,0,7,5,4,3,1,0] 3
   exact dI (s:=T.mP) (x:=X) ⟨ht,hT,bD.init hF.ok⟩ h17
end
section
variable {P:Program} {ops:Array Oper} {rest:List Oper} {dst:Option Tmp} {ty:TypeId} {pos:String} {after:Array Edge} {a:Act} {Q:Exit→Act→World→Prop}
variable {w0 w:World} {l:List SL} {t E:TypeId} {size bytes:Nat} {z u:Value} {n:Nat} {cs:List Value} {B:List (Nat × Obj)}
theorem fO (hT:ig P t E size bytes z) {s x:Operand} (h:In w0 w (bJ B::l)) (hv:dQ B u n cs) (hl:cs.length=n*size) (h1:∀u∈cs,u.oneCell'=true)
 (hs:a.eval s= .slice none 0 0) (hx:a.eval x=u) (hb:n*(bytes+1)≤140737488355328)
 (k:∀v' w',In w0 w' (Row E size v' n cs::bJ B::l)→wpList P ops Q rest (a.put dst v') w'):
 wpList P ops Q (⟨dst,.call {callee:= .builtin .append,args:=#[s,x],argTypes:=#[t,t]},ty,pos,after,none⟩::rest) a w:=by
 obtain⟨i,hi,hz,hsz,hby⟩:=info_parts hT.info
 obtain⟨hm,⟨rfl|⟨ad,cap,rfl⟩,rfl,rfl⟩|⟨g,o,cap,cells,T,fr,rfl,h2,h3,h4⟩⟩:=hv
 ·refine wpList_plain rfl fun K hK=>?_
  unfold Oper.wp execOp
  have hr:(Builtin.append_ #[t,t] ty #[.slice none 0 0,.slice none 0 0]).run P w= .ok (.slice none 0 0) w:=by
   simp[Builtin.append_,run_underlying hT.und,sizeOf,typeInfo,hi,Builtin.lenOf,Builtin.firstCells,loadCells,loadCellsFrom]
  simp only[resolve,invoke,builtin,Sem.run_bind,Sem.run_pure,Result.andThen_ok,List.map_toArray,List.map_cons,List.map_nil,hs,hx,hr]
  exact hK _ _ (k _ _ (h.dh E size))
 ·refine wpList_plain rfl fun K hK=>?_
  unfold Oper.wp execOp
  have hr:(Builtin.append_ #[t,t] ty #[.slice none 0 0,.slice (some ad) 0 cap]).run P w= .ok (.slice none 0 0) w:=by
   simp[Builtin.append_,run_underlying hT.und,sizeOf,typeInfo,hi,Builtin.lenOf,Builtin.firstCells,loadCells,loadCellsFrom]
  simp only[resolve,invoke,builtin,Sem.run_bind,Sem.run_pure,Result.andThen_ok,List.map_toArray,List.map_cons,List.map_nil,hs,hx,hr]
  exact hK _ _ (k _ _ (h.dh E size))
 ·refine kQ hT (n:=0) (cs:= []) (h.dh E size) hs hx hl (fun j u hu=>?_) h1 (by simpa using hb) (fun v' w' h'=>?_)
  ·rw[addr_add']
   have hb:=h.sO h3
   simp only at hb
   simp[World.cell?,hb,h4 j u hu]
  ·rw[Nat.zero_add,List.nil_append]at h'
   exact k v' w' h'
end
theorem WA:ig prog 22 52 8 80 (.agg #[.int .i64 0,.int .i64 0,.bool false,.int .i64 0,.int .u32 0,.int .i64 0,.slice none 0 0,.int .u32 0]):=⟨underlying22,by kernel_rfl,rfl,by decide,by decide⟩
theorem O9:ig prog 23 54 2 16 (.agg #[.int .i64 0,.int .i64 0]):=⟨underlying23,by kernel_rfl,rfl,by decide,by decide⟩
theorem aaD:ig prog 24 145 2 16 (.agg #[.bool false,.int .i64 0]):=⟨underlying24,by kernel_rfl,rfl,by decide,by decide⟩
theorem WI:ig prog 25 263 3 12 (.agg #[.int .u32 0,.int .u32 0,.int .u32 0]):=⟨underlying25,by kernel_rfl,rfl,by decide,by decide⟩
theorem KG:ig prog 26 206 7 48 (.agg #[.int .i64 0,.int .i64 0,.int .i64 0,.int .u32 0,.int .u32 0,.int .u32 0,.int .u32 0]):=⟨underlying26,by kernel_rfl,rfl,by decide,by decide⟩
theorem aaB:ig prog 27 123 3 40 (.agg #[.int .i64 0,.int .i64 0,.slice none 0 0]):=⟨underlying27,by kernel_rfl,rfl,by decide,by decide⟩
theorem aaw:ig prog 28 268 8 64 (.agg #[.int .i64 0,.int .i64 0,.int .i64 0,.int .u64 0,.int .i64 0,.int .i64 0,.int .i64 0,.int .u32 0]):=⟨underlying28,by kernel_rfl,rfl,by decide,by decide⟩
theorem nU {α:Type} {slot:α→List Value} {size:Nat} (hs:∀x,(slot x).length=size) (xs:List α):(xs.map slot).flatten.length=xs.length*size:=by
 have:=jW (dL hs xs)
 rwa[List.length_map]at this
theorem qN {α:Type} {slot:α→List Value} {xs:List α} (hs:∀x∈xs,∀u∈slot x,u.oneCell'=true):∀u∈(xs.map slot).flatten,u.oneCell'=true:=by
 intro u hu
 obtain⟨y,hy,hu⟩:=List.mem_flatten.1 hu
 obtain⟨x,hx,rfl⟩:=List.mem_map.1 hy
 exact hs x hx u hu
section
variable {w0 w:World} {l:List SL} {T:ah} {B:List (Nat × Obj)} {x:jM} {v:Value}
theorem acP (a b c d:Int) (w:World):(Op.equal 54 (.agg #[.int .i64 a,.int .i64 b]) (.agg #[.int .i64 c,.int .i64 d])).run prog w= .ok (a==c&&b==d) w:=by
 unfold Op.equal Op.maxDepth
 rw[show(10000:Nat)=9999+1 from rfl,run_equalIn_struct (P:=prog) (d:=9999) (t:=54) (ht:=by kernel_rfl) (hp:=by kernel_rfl)]
 have e:(prog.fieldsOf 54).toList=[⟨ "Priority",3,0,false,"","",0⟩,⟨ "Capacity",3,1,false,"","",8⟩]:=by kernel_rfl
 rw[e]
 simp[Op.eqFields,part,go_sem]
 by_cases h1:a=c<;>by_cases h2:b=d<;>simp[h1,h2]
theorem aed (a b c d:Int) (w:World):(binOp .neq 54 (.agg #[.int .i64 a,.int .i64 b]) (.agg #[.int .i64 c,.int .i64 d])).run prog w= .ok (.bool (!(a==c&&b==d))) w:=by
 have h:=acP a b c d w
 simp[binOp,h,go_sem]
theorem aci (a b c:Int) (w:World):(Op.equal 204 (.agg #[.int .i64 a,.int .i64 b,.int .u32 c]) (.agg #[.int .i64 0,.int .i64 0,.int .u32 0])).run prog w= .ok (a==0&&(b==0&&c==0)) w:=by
 unfold Op.equal Op.maxDepth
 rw[show(10000:Nat)=9999+1 from rfl,run_equalIn_struct (P:=prog) (d:=9999) (t:=204) (ht:=by kernel_rfl) (hp:=by kernel_rfl)]
 have e:(prog.fieldsOf 204).toList=[⟨ "Kind",202,0,false,"","",0⟩,⟨ "Task",3,1,false,"","",8⟩,⟨ "Mask",38,2,false,"","",16⟩]:=by kernel_rfl
 rw[e]
 simp[Op.eqFields,part,go_sem]
 by_cases h1:a=0<;>by_cases h2:b=0<;>by_cases h3:c=0<;>simp[h1,h2,h3]
theorem ac5 (a b c:Int) (w:World):(binOp .neq 204 (.agg #[.int .i64 a,.int .i64 b,.int .u32 c]) (.agg #[.int .i64 0,.int .i64 0,.int .u32 0])).run prog w= .ok (.bool (!(a==0&&(b==0&&c==0)))) w:=by
 have h:=aci a b c w
 simp[binOp,h,go_sem]
theorem Va {a b:List kS} {u:Value} (h:In w0 w (bJ B::l)) (hu:dQ B u a.length (a.map iR).flatten) (hv:dQ B v b.length (b.map iR).flatten):
 aW 151 #[u,v] w w0 (.bool (wW a b)) (bJ B::l):=by
 obtain⟨au,cu,rfl⟩:=hu.form
 obtain⟨av,cv,rfl⟩:=hv.form
 have hmax:=hu.1
 unfold maxLen at hmax
 unfold wW
 have he:=aed
 by_cases hl:a.length=b.length
 ·have hli:(a.length:Int)=(b.length:Int):=by omega
  have hlb:((a.length:Int) != (b.length:Int))=false:=by rw[hl];exact bne_self_eq_false _
  rw[hl]at hli hlb
  simp only[hl,decide_true,Bool.true_and]
  generalize hf:(fun i:Nat=>match a[i]?,b[i]? with|some x,some y=>kS.same x y|_,_=>false)=f
  generalize hq:mX b.length f=q
  go_enter func151,ntmps151
  go_upto_region 4 with(fail)
  go_loopw [5,13] (fun _ c wr=>∃k:Nat,k≤b.length∧c= .int .i64 k∧mX k f=true∧In w0 wr (bJ B::l))
   (fun _ c _=>b.length-(intOf c).toNat)
  case atStart=>exact⟨0,Nat.zero_le _,rfl,rfl,h⟩
  case round=>
   obtain⟨k,hk,rfl,hall,hw⟩:=hrel
   clear h
   by_cases hlt:k<b.length
   ·have hxa:=List.getElem?_eq_getElem (l:=a) (i:=k) (by omega)
    have hxb:=List.getElem?_eq_getElem hlt
    have n1:(k:Int)<b.length:=by omega
    generalize a[k]'(by omega)=ra at hxa
    generalize b[k]=rb at hxb
    obtain⟨g,o,cap,e,hc⟩:=iw (slot:=iR) (size:=2) (fun _=>rfl) hu hxa
    obtain⟨g2,o2,cap2,e2,hc2⟩:=iw (slot:=iR) (size:=2) (fun _=>rfl) hv hxb
    cases e
    cases e2
    have hd0:=hc hw 0 _ rfl (by decide)
    have hd1:=hc hw 1 _ rfl (by decide)
    have hf0:=hc2 hw 0 _ rfl (by decide)
    have hf1:=hc2 hw 1 _ rfl (by decide)
    rw[Nat.add_zero]at hd0 hf0
    have hs:f k=ra.same rb:=by rw[←hf];simp only[hxa,hxb]
    by_cases e0:ra.aI=rb.aI∧ra.cap=rb.cap
    ·have e0b:(ra.aI==rb.aI&&ra.cap==rb.cap)=true:=by simp[e0]
     go_wp2_with fail
     refine rg ⟨[], []⟩ [.c 0 0,.c 0 1,.c 0 2,.c 1 3,.c 0 4,.c 0 5,.c 0 6,.c 1 7,.c 0 8] ?_
     refine lK ?_
     go_wp2_with fail
     go_roundw
     case rel=>exact⟨k+1,hlt,by go_num,lC hall (by rw[hs];simp[kS.same,e0]),hw.drew⟩
     case measure=>simp[intOf]<;>omega
    ·obtain rfl:q=false:=hq.symm.trans (dF hlt (by rw[hs];simp only[kS.same];simpa using e0))
     have e0b:(ra.aI==rb.aI&&ra.cap==rb.cap)=false:=by simpa using e0
     go_wp2_with fail
     refine rg ⟨[], []⟩ [.c 0 0,.c 0 1,.c 0 2,.c 1 3,.c 0 4,.c 0 5,.c 0 6,.c 1 7,.c 0 8] ?_
     refine lK ?_
     go_wp2_with fail
     go_ret
     exact⟨rfl,hw.drew⟩
   ·have hke:k=b.length:=by omega
    subst hke
    obtain rfl:q=true:=hq.symm.trans hall
    go_wp2_with fail
    go_ret
    exact⟨rfl,hw⟩
 ·have hlb:((a.length:Int) != (b.length:Int))=true:=by simp;omega
  simp only[hl,decide_false,Bool.false_and]
  go_enter func151,ntmps151
  go_wp2_with fail
  go_ret
  exact⟨rfl,h⟩
end
section
variable {w0 w:World} {l:List SL} {T:ah} {B:List (Nat × Obj)} {x:jM} {v:Value}
theorem Qr {xs:List dn} {k:Nat} {y:dn} (h:xs[k]? =some y) (p:Int):kJ (xs.take (k+1)) p=kJ (xs.take k) p+(if y.aI=p then y.limit else 0):=by
 obtain⟨h1,h2⟩:=List.getElem?_eq_some_iff.1 h
 unfold kJ
 rw[List.take_succ_eq_append_getElem h1,h2]
 simp
theorem Jt {xs:List dn} (hl:∀k∈xs,1≤k.limit∧k.limit≤255) (p:Int):0≤kJ xs p∧kJ xs p≤255*xs.length:=by
 induction xs with
 |nil=>simp[kJ]
 |cons y r ih=>
  have h1:=ih fun k hk=>hl k (List.mem_cons_of_mem _ hk)
  have h2:=hl y (List.mem_cons_self ..)
  have e:kJ (y::r) p=(if y.aI=p then y.limit else 0)+kJ r p:=by simp[kJ]
  rw[e,List.length_cons]
  split<;>omega
theorem UZ (h:In w0 w (bJ B::l)) (ht:rF B v T x) (hn:T.ay.length≤256) (hlim:∀k∈T.ay,1≤k.limit∧k.limit≤255):
 Calls prog 152 #[x.vt] w fun e w'=>∃u,e= .returned u∧In w0 w' (Row 54 2 u (Ar T.ay).length ((Ar T.ay).map iR).flatten::bJ B::l):=by
 rcases x with⟨vt,vr,vs,vc,va,vi,vm,q1,q2,q3,q4,q5⟩
 obtain⟨tl,t1,t2,t3⟩:=ht.ay
 obtain⟨Fa,uH,es⟩:=t2.form
 simp only at es
 subst es
 go_enter func152,ntmps152
 go_upto_region 3 with(fail)
 have h5:In w0 w (Row 54 2 (.slice none 0 0) 0 []::bJ B::l):=h.dh 54 2
 go_loopw [3,4,5,7,14] (fun o p _ _ _ wr=>∃j:Nat,j≤64∧p= .int .i64 (63-j)∧In w0 wr (Row 54 2 o (iP T.ay j).length ((iP T.ay j).map iR).flatten::bJ B::l))
  (fun _ p _ _ _ _=>(intOf p+1).toNat)
 case atStart=>exact⟨0,Nat.zero_le _,rfl,h5⟩
 case round=>
  obtain⟨j,hj,rfl,hw⟩:=hrel
  clear h5 h
  by_cases hlt:j<64
  ·have n1:(0:Int)≤63-j:=by omega
   have n2:(63:Int)-j≤63:=by omega
   obtain⟨OV,zO,rfl⟩:=hw.aG
   generalize hp:(63:Int)-j=p at*
   go_upto_region 7 with(fail)
   go_loopw [5,7,14] (fun n _ c wr=>∃k:Nat,k≤T.ay.length∧c= .int .i64 k∧n= .int .i64 (kJ (T.ay.take k) p)∧In w0 wr (Row 54 2 (.slice OV (iP T.ay j).length zO) (iP T.ay j).length ((iP T.ay j).map iR).flatten::bJ B::l))
    (fun _ _ c _=>T.ay.length-(intOf c).toNat)
   case atStart=>exact⟨0,Nat.zero_le _,rfl,rfl,hw⟩
   case round=>
    obtain⟨k,hk,rfl,rfl,hw⟩:=hrel
    by_cases hlt2:k<T.ay.length
    ·have hkr:=List.getElem?_eq_getElem hlt2
     have hsum:=Qr hkr p
     have hb:=Jt (xs:=T.ay.take k) (fun y hy=>hlim y (List.mem_of_mem_take hy)) p
     have hlk:=hlim _ (List.getElem_mem hlt2)
     rw[List.length_take]at hb
     generalize T.ay[k]=kr at*
     obtain⟨g0,o0,cap0,uo,e0,hcap0,hown,hcl⟩:=zW ht hkr
     cases e0
     have hcs2:=hcl (hw.ae p1)
     obtain⟨XY,Hw,eo⟩:=hown.form
     subst eo
     have hc0:∀j c,(dM (kr,.slice XY kr.own.length Hw))[j]? =some c→j<8→wr.cell? ⟨g0,o0+k*8+j,none⟩=some c:=fun j c hc hj=>by have:=hcs2 j c hc hj;rwa[←Nat.add_assoc]at this
     have hd0:=hc0 0 _ rfl (by decide)
     have hd1:=hc0 1 _ rfl (by decide)
     have hd2:=hc0 2 _ rfl (by decide)
     have hd3:=hc0 3 _ rfl (by decide)
     have hd4:=hc0 4 _ rfl (by decide)
     have hd5:=hc0 5 _ rfl (by decide)
     have hd6:=hc0 6 _ rfl (by decide)
     have hd7:=hc0 7 _ rfl (by decide)
     rw[Nat.add_zero]at hd0
     clear hc0 hcs2
     have n3:(k:Int)<T.ay.length:=by omega
     have h6:=hw.alloc (BB kr.aI kr.ring kr.full kr.limit kr.mask kr.internal (.slice XY kr.own.length Hw) kr.dX)
     generalize kJ (T.ay.take k) p=sm at*
     go_upto_region 9 with(fail)
     refine In.abs h6 ?_
     clear h6 hw hd0 hd1 hd2 hd3 hd4 hd5 hd6 hd7
     generalize wr.heap.size=q
     intro w6 h6
     have fc_:=h6.facts
     by_cases ep:kr.aI=p
     ·rw[if_pos ep]at hsum
      have hlo: -9223372036854775808≤sm+kr.limit:=by omega
      have hhi:sm+kr.limit≤9223372036854775807:=by omega
      go_wp2_with fail
      go_roundw
      case rel=>exact⟨k+1,hlt2,by go_num,by rw[hsum],h6.drop⟩
      case measure=>simp[intOf]<;>omega
     ·rw[if_neg ep,Int.add_zero]at hsum
      go_wp2_with fail
      go_roundw
      case rel=>exact⟨k+1,hlt2,by go_num,by rw[hsum],h6.drop⟩
      case measure=>simp[intOf]<;>omega
    ·have hke:k=T.ay.length:=by omega
     subst hke
     rw[List.take_length]
     have hb:=Jt hlim p
     have hlast:iP T.ay (j+1)=iP T.ay j++(if 0<kJ T.ay p then[⟨p,kJ T.ay p⟩] else []):=by rw[iP,hp]
     have hlen:=dL (slot:=iR) (size:=2) (fun _=>rfl) (iP T.ay j)
     have hle:(iP T.ay j).length≤64:=by
      have:∀n,(iP T.ay n).length≤n:=by
       intro n
       induction n with
       |zero=>simp[iP]
       |succ n ih=>rw[iP,List.length_append];split<;>simp<;>omega
      exact Nat.le_trans (this j) hj
     have hnn:¬(T.ay.length:Int)<T.ay.length:=by omega
     generalize kJ T.ay p=sm at*
     have n4:p-1=63-((j+1:Nat):Int):=by omega
     have hlo: -9223372036854775808≤p-1:=by omega
     have hhi:p-1≤9223372036854775807:=by omega
     by_cases es:0<sm
     ·rw[if_pos es]at hlast
      go_wp2_with (with_reducible apply bH)
      unfold Stop
      refine aZ O9 (hw.alloc (Ik p sm)) rfl (by rfl) (by rfl) (by simp[Value.oneCell']) (by omega) ?_
      intro u7 w7 h7
      go_wp2_with fail
      go_roundw
      case rel=>
       refine⟨j+1,hlt,by rw[show(63:Int)-((j:Int)+1)=63-((j+1:Nat):Int) from by omega],?_⟩
       rw[hlast,List.length_append,List.map_append,List.flatten_append,show([⟨p,sm⟩]:List kS).length=1 from rfl,show(List.map iR [⟨p,sm⟩]).flatten=[.int .i64 p,.int .i64 sm] from rfl]
       exact h7.s
      case measure=>simp[intOf]<;>omega
     ·rw[if_neg es,List.append_nil]at hlast
      go_wp2_with fail
      go_roundw
      case rel=>
       refine⟨j+1,hlt,by rw[show(63:Int)-((j:Int)+1)=63-((j+1:Nat):Int) from by omega],?_⟩
       rw[hlast]
       exact hw
      case measure=>simp[intOf]<;>omega
  ·have hje:j=64:=by omega
   subst hje
   obtain⟨OV,zO,rfl⟩:=hw.aG
   have n1:((63:Int)-(64:Nat))= -1:=rfl
   go_wp2_with fail
   go_ret
   exact⟨_,rfl,hw⟩
end
end Go.Proofs.YtajgpcnlehinbaaGreat
