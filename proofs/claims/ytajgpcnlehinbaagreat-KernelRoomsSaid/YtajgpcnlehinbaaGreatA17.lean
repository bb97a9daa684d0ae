/- Part of a proof. -/
import Derived.Test.YtajgpcnlehinbaaGreatA16
namespace Go.Proofs.YtajgpcnlehinbaaGreat
open Tryz Go.RowKit
set_option maxRecDepth 100000
set_option maxHeartbeats 60000000
set_option linter.all false
structure jh where
 state:Int
 aI:Int
 bI:Int
 set:Int
 waits:Int
 held:List Int
 internal:Bool
structure RZ where
 ay:List jh
 rings:List (List Int)
 acK:List Int
 leaving:Int
def EvS.seen (d:EvS):Int:=if d.mask=0 then 0 else d.set
def EvS.sits (d:EvS):Int:=if d.mask=0 then 0 else d.waits
def az.vG (T:ah) (s:az) (i:Nat):jh:=
 match s.tk.ay[i]?,s.ev[i]? with
 |some y,some d=>⟨y.state,s.aI T i,y.bI,d.seen,if s.leaving=3∧(i:Int)=s.tk.running then s.wants else d.sits,s.lock.held (oL i),s.lock.entered i⟩
 |_,_=>⟨0,0,0,0,0, [],false⟩
def dC.nP (q:dC) (p:Nat):List Int:=match q[p]? with|some (some g)=>g.items|_=> []
def az.look (T:ah) (s:az):RZ:=⟨(List.range T.ay.length).map (s.vG T),T.rings.map fun x=>s.q.nP x.aI.toNat,s.before,s.leaving⟩
def uq (p:jh × Value):List Value:=[.int .i64 p.1.state,.int .i64 p.1.aI,.int .i64 p.1.bI,.int .u32 p.1.set,.int .u32 p.1.waits,p.2,.bool p.1.internal]
def xN (B:List (Nat × Obj)) (pl:List (jh × Value)):Prop:=∀p∈pl,dQ B p.2 p.1.held.length (ints p.1.held)
def oM (v:Value) (tl:List jh):SL:=ex fun B=>ex fun pl:List (jh × Value)=>bQ [AQ (pl.map (·.1)=tl∧xN B pl),bJ B,Row 138 7 v pl.length (pl.map uq).flatten]
def lJ (v:Value) (ll:List (List Int)):SL:=ex fun B=>ex fun pl:List (List Int × Value)=>bQ [AQ (pl.map (·.1)=ll∧∀p∈pl,dQ B p.2 p.1.length (ints p.1)),bJ B,Row 44 1 v pl.length (pl.map fun p=>p.2)]
theorem acf:ig prog 61 138 7 64 (.agg #[.int .i64 0,.int .i64 0,.int .i64 0,.int .u32 0,.int .u32 0,.slice none 0 0,.bool false]):=⟨underlying61,by kernel_rfl,rfl,by decide,by decide⟩
theorem ac9:ig prog 62 44 1 24 (.slice none 0 0):=⟨underlying62,by kernel_rfl,rfl,by decide,by decide⟩
section
variable {w0 w:World} {l:List SL} {r:Nat} {T:ah} {s:az} {B:List (Nat × Obj)} {x:jM} {lv wt:Int}
theorem Ag (xs:List Int):(xs.map jf).flatten=ints xs:=Nb xs
theorem In.nZ {v:Value} {xs:List Int} (h:In w0 w (Ints v xs::bJ B::l)):∃C,B ⊆ C∧dQ C v xs.length (ints xs)∧In w0 w (bJ C::l):=by
 unfold Ints at h
 rw[Ag]at h
 exact h.dY
theorem O4 {v:Value} {pl:List (jh × Value)} (hp:xN B pl) (h:In w0 w (bJ B::Row 138 7 v pl.length (pl.map uq).flatten::l)):In w0 w (oM v (pl.map (·.1))::l):=
 In.aY.2 ⟨B,In.aY.2 ⟨pl,In.bn.2 (In.dw.2 ⟨⟨rfl,hp⟩,h⟩)⟩⟩
theorem Gu {v:Value} {pl:List (List Int × Value)} (hp:∀p∈pl,dQ B p.2 p.1.length (ints p.1)) (h:In w0 w (bJ B::Row 44 1 v pl.length (pl.map fun p=>p.2)::l)):In w0 w (lJ v (pl.map (·.1))::l):=
 In.aY.2 ⟨B,In.aY.2 ⟨pl,In.bn.2 (In.dw.2 ⟨⟨rfl,hp⟩,h⟩)⟩⟩
theorem bD.Fe (hT:T.Ok) (h:bD T s) {y:kS} (hy:y∈T.rings):∃(p:Nat) (g:iI Int),y.aI=p∧s.q[p]? =some (some g):=by
 have hb:=hT.rows.bound y hy
 have h1:=Ol T.rings hT.rows y hy
 have h2:((tu T.rings).map (Option.map (·.room)))[y.aI.toNat]? =some (some y.ring.room):=by rw[List.getElem?_map,h1];rfl
 rw[←h.q.shape,List.getElem?_map]at h2
 refine⟨y.aI.toNat,?_⟩
 cases hq:s.q[y.aI.toNat]? with
 |none=>rw[hq]at h2;cases h2
 |some o=>
  rw[hq]at h2
  cases o with
  |none=>simp at h2
  |some g=>exact⟨g,by omega,rfl⟩
theorem yL {P:Program} {fn:Func} {R:Ending→World→Prop} {a:Act} {w0 w:World} {v:Value} {D:Nat} {L:List SL} (hin:In w0 w (pts D (.deferred (some []))::L)) (hd:a.defers=[⟨.collected D,#[]⟩])
 (hr:∀w',In w0 w' L→(results fn a.tmps).run P w'= .ok v w') (h:∀w',In w0 w' L→R (.returned v) w') (e:Exit) (he:e= .ret∨e= .normal):
 Ah P fn R e a w:=by
 have hL:=(hin.putObj (o':= .deferred none)).drop
 rcases he with rfl|rfl<;>(show LeavesInM _ _ _ _ _ _ a.defers _ _;rw[hd];exact⟨by simp,.inl ⟨D,_,rfl,run_takeDeferred hin.block,v,hr _ hL,h _ hL⟩⟩)
theorem QF (h:In w0 w (Core r T s::l)):Calls prog 40 #[r] w fun e w'=>
 ∃vT vR vP,e= .returned (.agg #[vT,vR,vP,.int .i64 s.leaving])∧In w0 w' (oM vT (s.look T).ay::lJ vR (s.look T).rings::Ints vP s.before::Core r T s::l):=by
 have h1:=h.alloc (JX 0)
 refine ku func40 rfl ?_
 simp only[ntmps40,List.size_toArray,List.length_cons,List.length_nil,Nat.reduceAdd,Nat.reduceSub,Array.replicate_succ,Array.replicate_zero,List.push_toArray,List.append_toArray,List.nil_append,List.cons_append]
 go_upto_region 1 with(fail)
 refine In.abs h1 ?_
 clear h1 h
 generalize w.heap.size=z2
 intro w2 h2
 have hmd:=jZ (h2.ae p1)
 obtain⟨B,x,a,h3⟩:=dE (h2.ae p1)
 clear h2
 have AY:=bu h3 7 rfl
 have hc0:=bu h3 0 rfl
 obtain⟨tl,t1,t2,t3⟩:=a.tab.ay
 obtain⟨Fa,uH,et⟩:=t2.form
 rw[et]at hc0
 have afb:=a.fine.ok.n2
 have h4:=h3.alloc (JX s.leaving)
 go_upto_region 4 with(go_at_call 108;refine bW hmd ?_)
 refine In.abs h4 ?_
 clear h4 h3 hmd hc0 AY
 generalize w2.heap.size=z3
 intro w4 h4
 have hc0:=bu (h4.ae p1) 0 rfl
 rw[et]at hc0
 go_upto_region 5 with(fail)
 have h5:In w0 w4 (Row 138 7 (.slice none 0 0) 0 []::pts z3 (JX s.leaving)::pts r (bM T s.leaving s.wants x)::bJ B::lW x.pl T.eU s.lock::nN x.pt s.tk::sS x.pq s.q::jo x.pb ⟨T.depth.toNat,s.before⟩::sU x.pe s.ev::bJ []::pts z2 (JX 0)::l):=
  ((h4.sW).dh 138 7).s
 clear h4 hc0
 go_loopw [4,5,6,7,8,9,29] (fun _ _ _ _ _ _ c wr=>∃(k:Nat) (C:List (Nat × Obj)) (pl:List (jh × Value)) (u:Value),k≤T.ay.length∧c= .int .i64 k∧pl.length=k∧pl.map (·.1)=(List.range k).map (s.vG T)∧xN C pl∧
  In w0 wr (Row 138 7 u k (pl.map uq).flatten::pts z3 (Xe u s.leaving)::pts r (bM T s.leaving s.wants x)::bJ B::lW x.pl T.eU s.lock::nN x.pt s.tk::sS x.pq s.q::jo x.pb ⟨T.depth.toNat,s.before⟩::sU x.pe s.ev::bJ C::pts z2 (JX 0)::l))
  (fun _ _ _ _ _ _ c _=>T.ay.length-(intOf c).toNat)
 case atStart=>exact⟨0, [], [],_,Nat.zero_le _,rfl,rfl,rfl,fun p hp=>by simp at hp,h5⟩
 case round=>
  obtain⟨k,C,pl,u,hk,rfl,hpl,hmap,hlo,hw⟩:=hrel
  clear h5
  by_cases hlt:k<T.ay.length
  ·have hkr:=List.getElem?_eq_getElem hlt
   obtain⟨y,hy⟩:=a.inv.t.one hkr
   generalize T.ay[k]=kr at hkr
   have hrow:=qA hkr
   have hel:k<s.ev.length:=by rw[a.inv.e.len];exact hlt
   have hd:=List.getElem?_eq_getElem hel
   generalize s.ev[k]'hel=d at hd
   have hfew:=a.inv.lk.few hrow
   have h65:=(a.fine.row hrow).1
   have n1:(k:Int)<T.ay.length:=by omega
   have hpr:=fun{w:World} {l:List SL} (h:In w0 w (lW x.pl T.eU s.lock::l))=>tC h hrow (fun i hi=>(a.fine.row hrow).2 i (a.inv.lk.own _ _ hrow i hi))
   have Hq:=fun{w:World} {l:List SL} (h:In w0 w (lW x.pl T.eU s.lock::l))=>JV h hrow (by omega)
   have hget:∀ {w:World} {l:List SL},In w0 w (sU x.pe s.ev::l)→Calls prog 110 #[.pointer (some ⟨x.pe,0,none⟩),.int .i64 k] w fun e w'=>(∃st,e= .returned (.tuple #[.int .u32 d.seen,.int .i64 st]))∧w=w':=fun h=>(J4 h hd).mono fun e w' q=>⟨by
    unfold EvS.seen
    by_cases h0:d.mask=0
    ·rw[if_pos h0];rw[if_pos h0]at q;exact⟨_,q.1⟩
    ·rw[if_neg h0];rw[if_neg h0]at q;exact⟨_,q.1⟩,q.2⟩
   have aet:∀ {w:World} {l:List SL},In w0 w (sU x.pe s.ev::l)→Calls prog 114 #[.pointer (some ⟨x.pe,0,none⟩),.int .i64 k] w fun e w'=>e= .returned (.int .u32 d.sits)∧w=w':=fun h=>(Ws h hd).mono fun e w' q=>⟨by
    unfold EvS.sits
    by_cases h0:d.mask=0
    ·rw[if_pos h0];rw[if_pos h0]at q;exact q.1
    ·rw[if_neg h0];rw[if_neg h0]at q;exact q.1,q.2⟩
   have hlook:s.vG T k=⟨y.state,T.eU.aI s.lock ⟨false,(k:Int)⟩,y.bI,d.seen,if s.leaving=3∧(k:Int)=s.tk.running then s.wants else d.sits,s.lock.held ⟨false,(k:Int)⟩,s.lock.entered k⟩:=by unfold az.vG;rw[hy,hd];rfl
   obtain⟨Dz,rH,rfl⟩:=hw.aG
   have hc:=jy (hw.ae p2)
   obtain⟨hc2,hc3,hc5,hc6,hc8⟩:=hc
   have hst:=GR (hw.ae p5) hy
   have hhas:=fun{w:World} {l:List SL} (h:In w0 w (lW x.pl T.eU s.lock::l))=>acg h (k:Int)
   generalize d.seen=qs at*
   generalize d.sits=qw at*
   generalize T.eU.aI s.lock ⟨false,(k:Int)⟩=qp at*
   unfold dJ at hpr Hq
   go_upto_region 8 with(go_at_call 109;refine bF hst ?_;intro w6 h6)
   obtain⟨hd2,hd3,hd5,hd6,hd8⟩:=jy (h6.ae p3)
   have hge:=hget (h6.ae p8)
   go_wp2_with (go_at_call 110;refine hge.mono ?_;rintro _ _ ⟨⟨st,rfl⟩,rfl⟩)
   have hLk:∀w',In w0 w' [pts r (bM T s.leaving s.wants x)]→w'.cell? ⟨r,2,none⟩=some (.pointer (some ⟨x.pl,0,none⟩))∧w'.cell? ⟨r,3,none⟩=some (.pointer (some ⟨x.pt,0,none⟩))∧w'.cell? ⟨r,5,none⟩=some (.pointer (some ⟨x.pb,0,none⟩))∧w'.cell? ⟨r,6,none⟩=some (.pointer (some ⟨x.pe,0,none⟩))∧w'.cell? ⟨r,8,none⟩=some (.int .u32 s.wants):=fun w' h=>jy h
   have hpu:=h6.pr [3,3,3,0,2,2,2,2,0,0,0]
   rename_i K0 hK0
   apply ael (α:=Nat) (β:=Option Addr) (γ:=Nat) (K:=K0) (Pre:=fun zz ao cap wz=>In w0 wz (pts zz (.cells #[.int .i64 y.state,.int .i64 qp,.int .i64 y.bI,.int .u32 qs,.int .u32 qw,.slice ao (s.lock.held ⟨false,(k:Int)⟩).length cap,.bool (s.lock.entered k)] 138)::Ints (.slice ao (s.lock.held ⟨false,(k:Int)⟩).length cap) (s.lock.held ⟨false,(k:Int)⟩)::lW x.pl T.eU s.lock::pts r (bM T s.leaving s.wants x)::bJ B::nN x.pt s.tk::sS x.pq s.q::jo x.pb ⟨T.depth.toNat,s.before⟩::sU x.pe s.ev::bJ C::Row 138 7 (.slice Dz k rH) k (pl.map uq).flatten::pts z3 (Xe (.slice Dz k rH) s.leaving)::pts z2 (JX 0)::l))
   case main=>
    intro rest
    refine qi (fun w'=>In w0 w' [pts r (bM T s.leaving s.wants x)]) ⟨[7,8,14,21,28,29,36,38,39], []⟩ (by kernel_rfl) ?_
    rintro _ rfl
    refine In.abs (hpu.drew) ?_
    intro wq hpu
    have hS0:=hpu.ps [0]
    all_goals(first|refine jk 10 [.c 0 0,.c 0 1,.c 0 2,.c 0 3,.c 0 4,.c 2 5,.c 0 6,.c 0 9,.c 0 10,.c 0 11,.c 2 12,.c 0 13,.c 0 15,.c 0 16,.c 0 17,.c 0 18,.c 2 19,.c 0 20,.c 0 22,.c 0 23,.c 0 24,.c 0 25,.c 2 26,.c 0 27,.c 0 30,.c 0 31,.c 0 32,.c 0 33,.c 2 34,.c 0 35] (by kernel_rfl) (by decide+kernel) (by kernel_rfl) ?_ |refine jk 9 [.c 0 0,.c 0 1,.c 0 2,.c 0 3,.c 0 4,.c 2 5,.c 0 6,.c 0 9,.c 0 10,.c 0 11,.c 2 12,.c 0 13,.c 0 15,.c 0 16,.c 0 17,.c 0 18,.c 2 19,.c 0 20,.c 0 22,.c 0 23,.c 0 24,.c 0 25,.c 2 26,.c 0 27,.c 0 30,.c 0 31,.c 0 32,.c 0 33,.c 2 34,.c 0 35] (by kernel_rfl) (by decide+kernel) (by kernel_rfl) ?_)
    all_goals(refine uu ?_)
    all_goals(refine lu ?_)
    all_goals(first|(refine dH (c:=7) (by decide+kernel) rfl rfl ?_;intro K hK)|(refine jR (c:=7) (j:=38) (by decide+kernel) rfl rfl rfl rfl ?_ ?_;rotate_left;(intro K hK);rotate_left;(intro K hK;go_wp2_with fail;refine df hK ((hS0.alloc _).drop) fun hS0=>?_;have hpu:=hpu.jK (NY 0 0 0 0 0 false) p11;generalize Array.size (World.heap _)=zz at*;refine dH (c:=7) (by decide+kernel) rfl rfl ?_;intro K hK)))
    all_goals(go_wp2_with (go_at_call 112;refine bF (qg hpu (k:Int)) ?_;intro w7 h7))
    all_goals(refine df hK (h7.s) fun hS0=>?_)
    all_goals(first|(refine dH (c:=8) (by decide+kernel) rfl rfl ?_;intro K hK)|(refine jR (c:=8) (j:=38) (by decide+kernel) rfl rfl rfl rfl ?_ ?_;rotate_left;(intro K hK);rotate_left;(intro K hK;go_wp2_with fail;refine df hK ((hS0.alloc _).drop) fun hS0=>?_;have h7:=h7.jK (NY 0 0 0 0 0 false) p11;generalize Array.size (World.heap _)=zz at*;refine dH (c:=8) (by decide+kernel) rfl rfl ?_;intro K hK)))
    all_goals(go_wp2_with (go_at_call 111;refine bF (hpr (h7.ae p2)) ?_;intro w8 h8))
    all_goals(refine df hK (h8.s) fun hS0=>?_)
    all_goals(first|(refine dH (c:=14) (by decide+kernel) rfl rfl ?_;intro K hK)|(refine jR (c:=14) (j:=38) (by decide+kernel) rfl rfl rfl rfl ?_ ?_;rotate_left;(intro K hK);rotate_left;(intro K hK;go_wp2_with fail;refine df hK ((hS0.alloc _).drop) fun hS0=>?_;have h8:=h8.jK (NY 0 0 0 0 0 false) p11;generalize Array.size (World.heap _)=zz at*;refine dH (c:=14) (by decide+kernel) rfl rfl ?_;intro K hK)))
    all_goals(go_wp2_with (go_at_call 113;refine bW (Un (h8.ae p3) hy) ?_))
    all_goals(refine df hK (h8.s) fun hS0=>?_)
    all_goals(first|(refine dH (c:=21) (by decide+kernel) rfl rfl ?_;intro K hK)|(refine jR (c:=21) (j:=38) (by decide+kernel) rfl rfl rfl rfl ?_ ?_;rotate_left;(intro K hK);rotate_left;(intro K hK;go_wp2_with fail;refine df hK ((hS0.alloc _).drop) fun hS0=>?_;have h8:=h8.jK (NY 0 0 0 0 0 false) p11;generalize Array.size (World.heap _)=zz at*;refine dH (c:=21) (by decide+kernel) rfl rfl ?_;intro K hK)))
    all_goals(go_wp2_with (go_at_call 114;refine bW (aet (h8.ae p6)) ?_))
    all_goals(refine df hK (h8.s) fun hS0=>?_)
    all_goals(first|(refine dH (c:=28) (by decide+kernel) rfl rfl ?_;intro K hK)|(refine jR (c:=28) (j:=38) (by decide+kernel) rfl rfl rfl rfl ?_ ?_;rotate_left;(intro K hK);rotate_left;(intro K hK;go_wp2_with fail;refine df hK ((hS0.alloc _).drop) fun hS0=>?_;have h8:=h8.jK (NY 0 0 0 0 0 false) p11;generalize Array.size (World.heap _)=zz at*;refine dH (c:=28) (by decide+kernel) rfl rfl ?_;intro K hK)))
    all_goals(go_wp2_with (go_at_call 112;refine bF (qg h8 (k:Int)) ?_;intro w9 h9))
    all_goals(refine df hK (h9.s) fun hS0=>?_)
    all_goals(first|(refine dH (c:=29) (by decide+kernel) rfl rfl ?_;intro K hK)|(refine jR (c:=29) (j:=38) (by decide+kernel) rfl rfl rfl rfl ?_ ?_;rotate_left;(intro K hK);rotate_left;(intro K hK;go_wp2_with fail;refine df hK ((hS0.alloc _).drop) fun hS0=>?_;have h9:=h9.jK (NY 0 0 0 0 0 false) p11;generalize Array.size (World.heap _)=zz at*;refine dH (c:=29) (by decide+kernel) rfl rfl ?_;intro K hK)))
    all_goals(go_wp2_with (go_at_call 115;refine(Hq h9).mono ?_;rintro _ w10 ⟨v,rfl,h10⟩;obtain⟨aoh,Lj,rfl⟩:=In.aG (E:=3) (size:=1) h10))
    all_goals(refine df hK (h10.s) fun hS0=>?_)
    all_goals(first|(refine dH (c:=36) (by decide+kernel) rfl rfl ?_;intro K hK)|(refine jR (c:=36) (j:=38) (by decide+kernel) rfl rfl rfl rfl ?_ ?_;rotate_left;(intro K hK);rotate_left;(intro K hK;go_wp2_with fail;refine df hK ((hS0.alloc _).drop) fun hS0=>?_;have h10:=h10.jK (NY 0 0 0 0 0 false) p12;generalize Array.size (World.heap _)=zz at*;refine dH (c:=36) (by decide+kernel) rfl rfl ?_;intro K hK)))
    all_goals(go_wp2_with (go_at_call 116;refine bW (hhas (h10.ae p1)) ?_))
    all_goals(refine df hK (h10.s) fun hS0=>?_)
    all_goals(first|refine jk 2 [.c 0 37] (by kernel_rfl) (by decide+kernel) (by kernel_rfl) ?_ |refine jk 1 [.c 0 37] (by kernel_rfl) (by decide+kernel) (by kernel_rfl) ?_)
    all_goals(refine uu ?_)
    all_goals(refine lu ?_)
    all_goals(try(refine dH (c:=38) (by decide+kernel) rfl rfl ?_;intro K hK;go_wp2_with fail;refine df hK ((hS0.alloc _).drop) fun hS0=>?_;have h10:=h10.jK (NY 0 0 0 0 0 false) p12;generalize Array.size (World.heap _)=zz at*))
    all_goals(refine dH (c:=39) (by decide+kernel) rfl rfl ?_;intro K hK)
    all_goals(have hz:=h10.ae p12;have hzc:=hz.cells;have Hr:=hz.free;have hz2:=hz.fill [.int .i64 y.state,.int .i64 qp,.int .i64 y.bI,.int .u32 qs,.int .u32 qw,.slice aoh (s.lock.held ⟨false,(k:Int)⟩).length Lj,.bool (s.lock.entered k)] rfl;simp only[dm]at hz2;go_wp2_with fail)
    all_goals(refine df hK (hz2.s) fun hS0=>?_)
    all_goals(refine any_nil (by kernel_rfl) ?_)
    all_goals exact rest _ _ _ _ hz2
   case rest=>
    intro zz aoh Lj wz hz
    have hx7:=bu (hz.ae p3) 7 rfl
    have hx8:=(jy (hz.ae p3)).2.2.2.2
    have hx3:=(jy (hz.ae p3)).2.1
    have hrn:=uY (hz.ae p5)
    have fc_:=hz.facts
    have hz3:=(hz.ae p11).cells
    have Ll:=(hz.ae p11).free
    refine hK0 _ _ ?_
    clear hK0
    by_cases c1:s.leaving=3
    ·rw[c1]at hx7
     by_cases c2:s.tk.running=(k:Int)
     ·rw[if_pos ⟨c1,c2.symm⟩]at hlook
      rw[c2]at hrn
      clear c1 c2
      go_upto_region 12 with(go_at_call 117;refine bW hrn ?_)
      have hs4:In w0 _ (pts zz (.cells #[.int .i64 y.state,.int .i64 qp,.int .i64 y.bI,.int .u32 qs,.int .u32 s.wants,.slice aoh (s.lock.held ⟨false,(k:Int)⟩).length Lj,.bool (s.lock.entered k)] 138)::_):=hz.setCell (off:=4) (.int .u32 s.wants)
      refine In.abs hs4 ?_
      clear hs4 hz hz3 Ll
      intro wy hz
      have fc_:=hz.facts
      have hz3:=(hz.ae p11).cells
      have Ll:=(hz.ae p11).free
      go_wp2_with (with_reducible apply bH)
      unfold Stop
      refine aZ acf ((hz.ae p10).alloc (.cells (uq (⟨y.state,qp,y.bI,qs,s.wants,s.lock.held ⟨false,(k:Int)⟩,s.lock.entered k⟩,.slice aoh (s.lock.held ⟨false,(k:Int)⟩).length Lj)).toArray 138)) rfl rfl (by rfl) (by simp[uq,Value.oneCell']) (by omega) ?_
      intro u9 w9 h9
      obtain⟨Du,rC,rfl⟩:=h9.aG
      obtain⟨C2,Lt,hro,h10⟩:=(((h9.ae p10).ae p3)).nZ
      have fc_:=h9.facts
      have hz3:=(h9.ae p11).cells
      have Ll:=(h9.ae p11).free
      go_wp2_with fail
      have h11:In w0 _ (pts z3 (Xe (.slice Du (k+1) rC) s.leaving)::_):=(h9.ae p11).setCell (off:=0) (.slice Du (k+1) rC)
      obtain⟨C2,Lt,hro,h12⟩:=(((h11.ae p11).ae p4)).nZ
      go_roundw
      case rel=>
       refine⟨k+1,C2,pl++ [(s.vG T k,.slice aoh (s.lock.held ⟨false,(k:Int)⟩).length Lj)],.slice Du (k+1) rC,hlt,by go_num,by simp[hpl],?_,?_,?_⟩
       ·rw[List.map_append,hmap,List.range_succ,List.map_append];rfl
       ·intro p hp
        rcases List.mem_append.1 hp with hp|hp
        ·exact(hlo p hp).mono Lt
        ·simp at hp;subst hp
         rw[hlook];exact hro
       ·rw[List.map_append,List.flatten_append]
        simp only[List.map_cons,List.map_nil,List.flatten_cons,List.flatten_nil,List.append_nil]
        rw[hlook]
        exact h12.s
      case measure=>simp[intOf]<;>omega
     ·rw[if_neg (fun h=>c2 h.2.symm)]at hlook
      have c3:¬((k:Int)=s.tk.running):=fun h=>c2 h.symm
      clear c1 c2
      go_upto_region 12 with(go_at_call 117;refine bW hrn ?_)
      go_wp2_with (with_reducible apply bH)
      unfold Stop
      refine aZ acf ((hz.ae p10).alloc (.cells (uq (⟨y.state,qp,y.bI,qs,qw,s.lock.held ⟨false,(k:Int)⟩,s.lock.entered k⟩,.slice aoh (s.lock.held ⟨false,(k:Int)⟩).length Lj)).toArray 138)) rfl rfl (by rfl) (by simp[uq,Value.oneCell']) (by omega) ?_
      intro u9 w9 h9
      obtain⟨Du,rC,rfl⟩:=h9.aG
      obtain⟨C2,Lt,hro,h10⟩:=(((h9.ae p10).ae p3)).nZ
      have fc_:=h9.facts
      have hz3:=(h9.ae p11).cells
      have Ll:=(h9.ae p11).free
      go_wp2_with fail
      have h11:In w0 _ (pts z3 (Xe (.slice Du (k+1) rC) s.leaving)::_):=(h9.ae p11).setCell (off:=0) (.slice Du (k+1) rC)
      obtain⟨C2,Lt,hro,h12⟩:=(((h11.ae p11).ae p4)).nZ
      go_roundw
      case rel=>
       refine⟨k+1,C2,pl++ [(s.vG T k,.slice aoh (s.lock.held ⟨false,(k:Int)⟩).length Lj)],.slice Du (k+1) rC,hlt,by go_num,by simp[hpl],?_,?_,?_⟩
       ·rw[List.map_append,hmap,List.range_succ,List.map_append];rfl
       ·intro p hp
        rcases List.mem_append.1 hp with hp|hp
        ·exact(hlo p hp).mono Lt
        ·simp at hp;subst hp
         rw[hlook];exact hro
       ·rw[List.map_append,List.flatten_append]
        simp only[List.map_cons,List.map_nil,List.flatten_cons,List.flatten_nil,List.append_nil]
        rw[hlook]
        exact h12.s
      case measure=>simp[intOf]<;>omega
    ·rw[if_neg (fun h=>c1 h.1)]at hlook
     have c3:¬(s.leaving=3):=c1
     go_upto_region 12 with(fail)
     go_wp2_with (with_reducible apply bH)
     unfold Stop
     refine aZ acf ((hz.ae p10).alloc (.cells (uq (⟨y.state,qp,y.bI,qs,qw,s.lock.held ⟨false,(k:Int)⟩,s.lock.entered k⟩,.slice aoh (s.lock.held ⟨false,(k:Int)⟩).length Lj)).toArray 138)) rfl rfl (by rfl) (by simp[uq,Value.oneCell']) (by omega) ?_
     intro u9 w9 h9
     obtain⟨Du,rC,rfl⟩:=h9.aG
     obtain⟨C2,Lt,hro,h10⟩:=(((h9.ae p10).ae p3)).nZ
     have fc_:=h9.facts
     have hz3:=(h9.ae p11).cells
     have Ll:=(h9.ae p11).free
     go_wp2_with fail
     have h11:In w0 _ (pts z3 (Xe (.slice Du (k+1) rC) s.leaving)::_):=(h9.ae p11).setCell (off:=0) (.slice Du (k+1) rC)
     obtain⟨C2,Lt,hro,h12⟩:=(((h11.ae p11).ae p4)).nZ
     go_roundw
     case rel=>
      refine⟨k+1,C2,pl++ [(s.vG T k,.slice aoh (s.lock.held ⟨false,(k:Int)⟩).length Lj)],.slice Du (k+1) rC,hlt,by go_num,by simp[hpl],?_,?_,?_⟩
      ·rw[List.map_append,hmap,List.range_succ,List.map_append];rfl
      ·intro p hp
       rcases List.mem_append.1 hp with hp|hp
       ·exact(hlo p hp).mono Lt
       ·simp at hp;subst hp
        rw[hlook];exact hro
      ·rw[List.map_append,List.flatten_append]
       simp only[List.map_cons,List.map_nil,List.flatten_cons,List.flatten_nil,List.append_nil]
       rw[hlook]
       exact h12.s
     case measure=>simp[intOf]<;>omega
  ·have hke:k=T.ay.length:=by omega
   subst hke
   have hT1:pl.map (·.1)=(s.look T).ay:=hmap
   rw[←hpl]at hw
   have hw2:=O4 hlo (hw.ae p9)
   rw[hT1]at hw2
   obtain⟨au,cu,rfl⟩:=hw.aG
   obtain⟨Dv,qG,er⟩:=a.tab.rings.form
   have hx1:=bu (hw.ae p2) 1 rfl
   rw[er]at hx1
   have hbr:T.rings.length≤64:=by
    have h1:=a.fine.ok.rs
    rw[h1]
    have:∀n,(iP T.ay n).length≤n:=by
     intro n
     induction n with
     |zero=>simp[iP]
     |succ n ih=>rw[iP,List.length_append];split<;>simp<;>omega
    exact this 64
   generalize hqv:Value.slice au pl.length cu=qu at*
   have h5:=((hw2.sW).dh 44 1).pr [0,2,1,1,1,1,1,1,1,1,0,0]
   clear hw hw2 hlo hmap
   have hqc:∃a b c,qu= .slice a b c:=⟨_,_,_,hqv.symm⟩
   clear hqv
   have hnl:¬(pl.length:Int)<T.ay.length:=by omega
   go_upto_region 15 with(fail)
   go_loopw [11,119] (fun _ c wr=>∃(k:Nat) (C:List (Nat × Obj)) (pm:List (List Int × Value)) (v:Value),k≤T.rings.length∧c= .int .i64 k∧pm.length=k∧pm.map (·.1)=(T.rings.take k).map (fun y=>s.q.nP y.aI.toNat)∧(∀p∈pm,dQ C p.2 p.1.length (ints p.1))∧
    In w0 wr (Row 44 1 v k (pm.map fun p=>p.2)::pts z3 (.cells #[qu,v,.slice none 0 0,.int .i64 s.leaving] 109)::oM qu (s.look T).ay::pts r (bM T s.leaving s.wants x)::bJ B::lW x.pl T.eU s.lock::nN x.pt s.tk::sS x.pq s.q::jo x.pb ⟨T.depth.toNat,s.before⟩::sU x.pe s.ev::bJ C::pts z2 (JX 0)::l))
    (fun _ c _=>T.rings.length-(intOf c).toNat)
   case atStart=>exact⟨0, [], [],_,Nat.zero_le _,rfl,rfl,rfl,fun p hp=>by simp at hp,h5⟩
   case round=>
    obtain⟨k,C,pm,v,hk2,rfl,hpm,hmap,hlo,hw⟩:=hrel
    clear h5
    by_cases hlt:k<T.rings.length
    ·have hy:=List.getElem?_eq_getElem hlt
     have hnx:=List.take_succ_eq_append_getElem hlt
     obtain⟨p,g,hyp,hg⟩:=a.inv.Fe a.fine.ok (List.getElem_mem hlt)
     have hrg:s.q.nP (T.rings[k]).aI.toNat=g.items:=by unfold dC.nP;rw[hyp,Int.toNat_natCast,hg]
     obtain⟨g0,o0,cap0,e0,hcap0,hcell0⟩:=a.tab.rings.cells (hw.ae p4) (by omega)
     rw[er]at e0
     cases e0
     have hcs:∀(j:Nat) (u:Value),(iR T.rings[k])[j]? =some u→j<2→wr.cell? ⟨g0,o0+(k*2+j),none⟩=some u:=fun j u hu hj=>
      hcell0 _ u ((flat_get (dL (slot:=iR) (size:=2) (fun _=>rfl) T.rings) (i:=k) (x:=iR T.rings[k]) (by simp[hlt]) j hj).trans hu)
     have hc0:wr.cell? ⟨g0,o0+k*2,none⟩=some (.int .i64 (p:Nat)):=by have:=hcs 0 _ rfl (by decide);rw[hyp]at this;simpa[Nat.add_assoc]using this
     have hc1:wr.cell? ⟨g0,o0+k*2+1,none⟩=some (.int .i64 (T.rings[k]).cap):=by have:=hcs 1 _ rfl (by decide);simpa[Nat.add_assoc]using this
     clear hcs
     generalize (T.rings[k]).cap=yc at*
     have afE:g.items.length≤65536:=by
      have h1:=(hw.ae p7)
      obtain⟨ps,b,c,hp,h64,hc,h3⟩:=JM h1 hg
      obtain⟨v9,gV,m,sl,high,ha,_⟩:=kL h3
      exact Nat.le_trans ha.fits ha.rM
     obtain⟨aov,acn,rfl⟩:=hw.aG
     have n1:(k:Int)<T.rings.length:=by omega
     have h6:=hw.alloc (Ik (p:Nat) yc)
     go_upto_region 17 with(fail)
     refine In.abs h6 ?_
     clear h6 hw hc0 hc1 hx1
     generalize wr.heap.size=qb
     intro w6 h6
     have hrd:=WB ((h6.drew).ae p8) hg
     have fc_:=h6.facts
     have hLk:∀w',In w0 w' [pts r (bM T s.leaving s.wants x),pts z3 (.cells #[qu,.slice aov k acn,.slice none 0 0,.int .i64 s.leaving] 109),pts qb (Ik (p:Nat) yc)]→w'.cell? ⟨r,4,none⟩=some (.pointer (some ⟨x.pq,0,none⟩)):=fun w' h=>bu h 4 rfl
     have hS0:=(h6.drew).ps [4,2,0]
     refine nK hS0 ⟨[8,9],[10,12]⟩ [.c 0 0,.c 2 1,.c 0 2,.c 0 3,.c 0 4,.c 1 5,.c 0 6,.c 1 7,.e 8,.e 9,.e 10,.c 0 11,.e 12] ?_
     refine nD ?_;intro K hK
     go_wp2_with (go_at_call 118;refine hrd.mono ?_;rintro _ w7 ⟨v7,rfl,h7⟩;obtain⟨Lm,yA,rfl⟩:=In.aG (E:=3) (size:=1) h7)
     go_wp2_with fail
     refine df hK ((h7).s) fun hS0=>?_
     refine gz rfl rfl fun K hK=>?_
     go_wp2_with fail
     refine df hK ((hS0.alloc _).drop) fun hS0=>?_
     refine bG rfl rfl fun K hK=>?_
     refine aZ ac9 ((h7.ae p3).alloc (.cells #[.slice Lm g.items.length yA] 44)) rfl (by rfl) (by rfl) (by simp[Value.oneCell']) (by omega) ?_
     intro u9 w9 h9
     obtain⟨Du,rC,rfl⟩:=h9.aG
     have hz3:=(h9.ae p4).cells
     have Ll:=(h9.ae p4).free
     go_wp2_with fail
     refine uw ?_;intro K hK
     go_wp2_with fail
     try refine aS ?_
     go_wp2_with fail
     have h11:In w0 _ (pts z3 (.cells #[qu,.slice Du (k+1) rC,.slice none 0 0,.int .i64 s.leaving] 109)::_):=(h9.ae p4).setCell (off:=1) (.slice Du (k+1) rC)
     obtain⟨C2,Lt,hro,h12⟩:=(((h11.ae p12).ae p3)).nZ
     go_roundw
     case rel=>
      refine⟨k+1,C2,pm++ [(g.items,.slice Lm g.items.length yA)],.slice Du (k+1) rC,hlt,by go_num,by simp[hpm],?_,?_,?_⟩
      ·rw[List.map_append,hmap,hnx,List.map_append];simp[hrg]
      ·intro p hp
       rcases List.mem_append.1 hp with hp|hp
       ·exact(hlo p hp).mono Lt
       ·simp at hp;subst hp;exact hro
      ·simp only[List.map_append,List.map_cons,List.map_nil]
       exact h12.s
     case measure=>simp[intOf]<;>omega
    ·have hke:k=T.rings.length:=by omega
     subst hke
     rw[List.take_length]at hmap
     have hT2:pm.map (·.1)=(s.look T).rings:=hmap
     rw[←hpm]at hw
     obtain⟨av,cv,rfl⟩:=hw.aG
     have hw2:=Gu hlo (hw.ae p10)
     rw[hT2]at hw2
     generalize adh:Value.slice av pm.length cv=qr at*
     have hqr:∃a b c,qr= .slice a b c:=⟨_,_,_,adh.symm⟩
     clear adh hlo hmap
     have h13:=hw2.alloc (.cells #[.slice none 0 0] 44)
     have hnr:¬(pm.length:Int)<T.rings.length:=by omega
     go_upto_region 20 with(fail)
     refine In.abs h13 ?_
     clear h13 hw2 hw
     generalize wr.heap.size=zd
     intro w13 h13
     have hx5:=(jy (h13.ae p4)).2.2.1
     go_wp2_with (go_at_call 119;refine(D9 _ h13).mono ?_;rintro _ w14 ⟨d,rfl,lM⟩)
     have h15:In w0 w14 (star (jo x.pb ⟨T.depth.toNat,s.before⟩) (pts d (.cells #[.pointer (some ⟨x.pb,0,none⟩)] 219 (0,0)))::sV zd []::pts z3 (.cells #[qu,qr,.slice none 0 0,.int .i64 s.leaving] 109)::lJ qr (s.look T).rings::oM qu (s.look T).ay::pts r (bM T s.leaving s.wants x)::bJ B::lW x.pl T.eU s.lock::nN x.pt s.tk::sS x.pq s.q::sU x.pe s.ev::pts z2 (JX 0)::l):=by
      refine In.dP.2 ?_
      have h16:=mg (xs:= []) (((lM.ae p1).dh 3 1).ae p1)
      exact h16.s
     clear lM h13
     have hbl:s.before.length≤64:=by
      have:=a.inv.deep a.fine.ok
      unfold az.line at this
      rw[List.length_append]at this
      omega
     refine pY (fun pre=>sV zd pre) (fun _ _=>AQ False) (EY ⟨T.depth.toNat,s.before⟩ x.pb d) h15 rfl (by rfl) (fun _ _=>rfl) (by simp[gy,lQ]) (by simp) ?_ ?_ ?_
     ·intro pre i w5 R hpre h9
      obtain⟨v2,h10⟩:=mf h9
      have hpl2:pre.length+1≤s.before.length:=by
       have:=hpre.length_le
       rw[List.length_append,List.length_singleton,List.length_reverse]at this
       exact this
      have fc_:=h10.facts
      refine qf (sJ ?_)
      simp only[List.setIfInBounds_toArray,List.set_cons_zero,List.set_cons_succ]
      go_wp2_with (with_reducible apply bH)
      unfold Stop
      refine aZ Es ((h10.ae p1).alloc (.cells (jf i).toArray 3)) rfl rfl rfl (qx i) (by omega) ?_
      intro u w6 h11
      obtain⟨rE,cap2,rfl⟩:=h11.aG
      have fc_:=h11.facts
      go_wp2_with fail
      have h12:In w0 _ (pts zd (.cells #[.slice rE (pre.length+1) cap2] 44)::_):=(h11.ae p1).setCell (off:=0) (.slice rE (pre.length+1) cap2)
      have e:Row 3 1 (.slice rE (pre.length+1) cap2) (pre.length+1) ((pre.map jf).flatten++jf i)=Ints (.slice rE (pre.length+1) cap2) (pre++ [i]):=by unfold Ints;simp
      rw[e]at h12
      exact mg h12
     ·intro D w5 h6
      obtain⟨v2,h7⟩:=mf (h6.ae p2)
      have h8:=In.dP.1 (h7.ae p3)
      have hrl:(s.before.reverse).length=s.before.length:=List.length_reverse
      unfold Ints at h8
      rw[hrl]at h8
      obtain⟨rE,cap2,rfl⟩:=(h8.ae p3).aG
      have hz3:=(h8.ae p2).cells
      have fc_:=h8.facts
      go_upto_region 24 with(fail)
      rw[Ag]at h8
      have h20:=(h8.dh 3 1).pr [0,5,2,2,2,0,1,1,1,1,1,1,1,1,1] 1
      clear h8 h7 h6
      go_loopw [14] (fun c wr=>∃(j:Nat) (u:Value),j≤s.before.length∧c= .int .i64 ((s.before.length:Int)-1-j)∧
       In w0 wr (Row 3 1 u j (ints (s.before.take j))::pts z3 (EP qu qr u s.leaving)::pts zd (.cells #[.slice rE s.before.length cap2] 44)::Row 3 1 (.slice rE s.before.length cap2) s.before.length (ints s.before.reverse)::pts D (.deferred (some []))::jo x.pb ⟨T.depth.toNat,s.before⟩::lJ qr (s.look T).rings::oM qu (s.look T).ay::pts r (bM T s.leaving s.wants x)::bJ B::lW x.pl T.eU s.lock::nN x.pt s.tk::sS x.pq s.q::sU x.pe s.ev::pts z2 (JX 0)::l))
       (fun c _=>(intOf c+1).toNat)
      case atStart=>exact⟨0,_,Nat.zero_le _,by simp,h20⟩
      case round=>
       obtain⟨j,u,hj,rfl,hw⟩:=hrel
       clear h20 hz3
       by_cases hlt:j<s.before.length
       ·obtain⟨m,hm⟩:∃m:Nat,(s.before.length:Int)-1-j=m:=⟨s.before.length-1-j,by omega⟩
        rw[hm]
        have hml:m<s.before.length:=by omega
        have hb1:=List.getElem?_eq_getElem hlt
        have hnx:=List.take_succ_eq_append_getElem hlt
        generalize s.before[j]=bj at*
        have hrv:(ints s.before.reverse)[m]? =some (.int .i64 bj):=by
         unfold ints
         rw[List.getElem?_map,List.getElem?_reverse hml,show s.before.length-1-m=j by omega,hb1]
         rfl
        rcases(hw.ae p3).aU with⟨_,e,_⟩|⟨ga,lN,exta,ea,_⟩
        ·omega
        cases ea
        obtain⟨Dz,rH,rfl⟩:=hw.aG
        have hLk:∀w',In w0 w' [pts z3 (EP qu qr (.slice Dz j rH) s.leaving),pts zd (.cells #[.slice (some ⟨ga,0,none⟩) s.before.length cap2] 44),Row 3 1 (.slice (some ⟨ga,0,none⟩) s.before.length cap2) s.before.length (ints s.before.reverse)]→w'.cell? ⟨ga,m,none⟩=some (.int .i64 bj):=fun w' h=>(h.ae p2).gI hrv
        have n1:(m:Int)<s.before.length:=by omega
        have fc_:=hw.facts
        go_wp2_with fail
        have hS0:=(hw.drew).ps [1,1,1]
        refine nK hS0 ⟨[6],[7,9]⟩ [.c 0 0,.c 2 1,.c 1 2,.c 0 3,.c 0 4,.c 1 5,.e 6,.e 7,.c 0 8,.e 9] ?_
        refine nD ?_;intro K hK
        go_wp2_with fail
        refine df hK ((hS0.alloc _).drop) fun hS0=>?_
        refine bG rfl rfl fun K hK=>?_
        refine aZ Es ((hw.alloc (wC bj)).drew) rfl (by rfl) (by rfl) (by simp[Value.oneCell']) (by omega) ?_
        intro u9 w9 h9
        obtain⟨Du,rC,rfl⟩:=h9.aG
        have hz3:=(h9.ae p1).cells
        have Ll:=(h9.ae p1).free
        go_wp2_with fail
        refine uw ?_;intro K hK
        go_wp2_with fail
        try refine aS ?_
        go_wp2_with fail
        have h11:In w0 _ (pts z3 (EP qu qr (.slice Du (j+1) rC) s.leaving)::_):=(h9.ae p1).setCell (off:=2) (.slice Du (j+1) rC)
        go_roundw
        case rel=>
         refine⟨j+1,.slice Du (j+1) rC,hlt,by go_num,?_⟩
         have e1:ints (s.before.take (j+1))=ints (s.before.take j)++ [.int .i64 bj]:=by rw[hnx];simp[ints]
         rw[e1]
         exact h11.s
        case measure=>simp[intOf]<;>omega
       ·have hje:j=s.before.length:=by omega
        subst hje
        rw[List.take_length]at hw
        obtain⟨Dz,rH,rfl⟩:=hw.aG
        have e9:(s.before.length:Int)-1-s.before.length= -1:=by omega
        rw[e9]
        have hz3:=(hw.ae p1).cells
        have hz2:=(hw.ae p14).cells
        have aev:=(hw.ae p14).free
        obtain⟨a1,a2,a3,rfl⟩:=hqc
        obtain⟨b1,b2,b3,rfl⟩:=hqr
        have h30:=(hw.ae p14).fill [.slice a1 a2 a3,.slice b1 b2 b3,.slice Dz s.before.length rH,.int .i64 s.leaving] rfl
        simp only[dm]at h30
        go_wp2_with fail
        refine yL (v:= .agg #[.slice a1 a2 a3,.slice b1 b2 b3,.slice Dz s.before.length rH,.int .i64 s.leaving]) (L:=pts z2 (EP (.slice a1 a2 a3) (.slice b1 b2 b3) (.slice Dz s.before.length rH) s.leaving)::oM (.slice a1 a2 a3) (s.look T).ay::lJ (.slice b1 b2 b3) (s.look T).rings::Row 3 1 (.slice Dz s.before.length rH) s.before.length (ints s.before)::pts r (bM T s.leaving s.wants x)::bJ B::lW x.pl T.eU s.lock::nN x.pt s.tk::sS x.pq s.q::jo x.pb ⟨T.depth.toNat,s.before⟩::sU x.pe s.ev::l) (h30.s) (by rfl) (fun w' hw'=>?_) (fun w' hw'=>?_) .ret (.inl rfl)
        ·have hcc:=hw'.cells
         simp[results,results40,go_sem,hcc]
        ·refine⟨_,_,_,rfl,?_⟩
         have h40:=hw'.pr [4,4,4,4,4,4,4,1,1,1] 1
         have h41:=dI a h40
         have e10:Row 3 1 (.slice Dz s.before.length rH) s.before.length (ints s.before)=Ints (.slice Dz s.before.length rH) s.before:=by unfold Ints;rw[Ag]
         rw[e10]at h41
         exact h41.s
     ·intro D c' pre w5 hpre h6
      exact(In.dw.1 (h6.ae p2)).1.elim
end
def nums (l:List Nat):List Value:=l.map fun(n:Nat)=>Value.int .i64 (n:Int)
def wJ (p:Nat × Value):List Value:=[fJ p.1,p.2]
def yj (p:Int × Int):List Value:=[.int .i64 p.1,.int .i64 p.2]
structure Be (B:List (Nat × Obj)) (t:fV) (lV:List Nat) (vr va vp vc vi:Value):Prop where
 rows:dQ B vr t.bi.length (t.bi.map iU).flatten
 ag:dQ B va t.ag.length (t.ag.map dR).flatten
 places:dQ B vp t.ag.length (nums ((List.range t.ag.length).map t.place))
 bi:∃cl:List (Nat × Value),cl.map (·.1)=lV∧cl.length=t.bi.length∧dQ B vc t.bi.length (cl.map wJ).flatten∧∀(c:Nat) p,cl[c]? =some p→dQ B p.2 (t.fG c).length (nums (t.fG c))
 bf:dQ B vi t.bf.length (t.bf.map yj).flatten
 ok:t.Ok
def jg (t:fV) (req:List Bool) (vr va vp vc vi:Value):Obj:=
 .cells ([vr,va,vp,vc,.int .i64 t.modes,vi]++req.map (fun b=>Value.bool b)++ [Value.bool true]).toArray 198 (0,0)
def je (r:Nat) (t:fV) (s:aJ):SL:=
 ex fun B=>ex fun lV:List Nat=>ex fun vr=>ex fun va=>ex fun vp=>ex fun vc=>ex fun vi=>
  bQ [AQ (Be B t lV vr va vp vc vi∧s.Ok t),pts r (jg t s.req vr va vp vc vi),bJ B,bQ (List.zipWith lY lV s.clocks)]
section
variable {w0 w:World} {l:List SL} {r:Nat} {t:fV} {s:aJ}
theorem iM (h:In w0 w (je r t s::l)):∃B,∃lV:List Nat,∃vr va vp vc vi,Be B t lV vr va vp vc vi∧s.Ok t∧In w0 w (pts r (jg t s.req vr va vp vc vi)::bJ B::bQ (List.zipWith lY lV s.clocks)::l):=by
 obtain⟨B,h⟩:=In.aY.1 h
 obtain⟨lV,h⟩:=In.aY.1 h
 obtain⟨vr,h⟩:=In.aY.1 h
 obtain⟨va,h⟩:=In.aY.1 h
 obtain⟨vp,h⟩:=In.aY.1 h
 obtain⟨vc,h⟩:=In.aY.1 h
 obtain⟨vi,h⟩:=In.aY.1 h
 obtain⟨⟨a1,a2⟩,h⟩:=In.dw.1 (In.bn.1 h)
 exact⟨B,lV,vr,va,vp,vc,vi,a1,a2,h⟩
theorem lT {B:List (Nat × Obj)} {lV:List Nat} {vr va vp vc vi:Value} (a1:Be B t lV vr va vp vc vi) (a2:s.Ok t) (h:In w0 w (pts r (jg t s.req vr va vp vc vi)::bJ B::bQ (List.zipWith lY lV s.clocks)::l)):In w0 w (je r t s::l):=
 In.aY.2 ⟨B,In.aY.2 ⟨lV,In.aY.2 ⟨vr,In.aY.2 ⟨va,In.aY.2 ⟨vp,In.aY.2 ⟨vc,In.aY.2 ⟨vi,In.bn.2 (In.dw.2 ⟨⟨a1,a2⟩,h⟩)⟩⟩⟩⟩⟩⟩⟩
theorem jJ {vr va vp vc vi:Value} {req:List Bool} (h:In w0 w (pts r (jg t req vr va vp vc vi)::l)) {k:Nat} {u:Value} (hu:([vr,va,vp,vc,.int .i64 t.modes,vi]:List Value)[k]? =some u):w.cell? ⟨r,k,none⟩=some u:=by
 unfold jg at h
 rw[List.append_assoc]at h
 exact h.MN hu
theorem Oq {vr va vp vc vi:Value} {req:List Bool} (hr:req.length=32) (h:In w0 w (pts r (jg t req vr va vp vc vi)::l)):w.cell? ⟨r,38,none⟩=some (.bool true):=by
 unfold jg at h
 rw[h.cell,List.getElem?_toArray,List.getElem?_append_right (by simp[hr])]
 simp[hr]
theorem nY (h:In w0 w (je r t s::l)):
 Calls prog 92 #[r] w fun e w'=>e= .returned (.bool true)∧w=w':=by
 obtain⟨B,lV,vr,va,vp,vc,vi,hp,hs,h1⟩:=iM h
 have hm:=Oq hs.req h1
 go_enter func92,ntmps92
 go_wp2_with fail
 go_ret
 exact⟨rfl,rfl⟩
theorem SQ {req:List Bool} {vr va vp vc vi:Value} (hr:req.length=32) (h1:In w0 w (pts r (jg t req vr va vp vc vi)::l)):
 Calls prog 92 #[r] w fun e w'=>e= .returned (.bool true)∧w=w':=by
 have hm:=Oq hr h1
 go_enter func92,ntmps92
 go_wp2_with fail
 go_ret
 exact⟨rfl,rfl⟩
theorem wY {i:Int} (h:In w0 w (je r t s::l)) (hi:i<0∨(t.ag.length:Int)≤i):
 Calls prog 121 #[r,.int .i64 i] w fun e w'=>e= .returned (.tuple #[.pointer none,.int .i64 0])∧w=w':=by
 have hal:=nY h
 obtain⟨B,lV,vr,va,vp,vc,vi,hp,hs,h1⟩:=iM h
 obtain⟨yP,lN,rfl⟩:=hp.ag.form
 have hc1:=jJ h1 (k:=1) rfl
 go_enter func121,ntmps121
 by_cases h0:i<0
 ·go_wp2_with (go_at_call 92;refine bW hal ?_)
  go_ret2
  exact⟨rfl,rfl⟩
 ·have h2:(t.ag.length:Int)≤i:=hi.resolve_left h0
  go_wp2_with (go_at_call 92;refine bW hal ?_)
  go_ret2
  exact⟨rfl,rfl⟩
theorem GN {B:List (Nat × Obj)} {lV:List Nat} {vr va vp vc vi:Value} {i:Nat} {a:gq} (hp:Be B t lV vr va vp vc vi) (hs:s.Ok t) (ha:t.ag[i]? =some a)
 (h1:In w0 w (pts r (jg t s.req vr va vp vc vi)::bJ B::l)):
 Calls prog 121 #[r,.int .i64 i] w fun e w'=>
  ∃(g o cp:Nat),e= .returned (.tuple #[.pointer (some ⟨g,o,none⟩),.int .i64 (t.place i:Nat)])∧lV[t.oZ i]? =some cp∧(∀ {v0 w:World} {l:List SL},In v0 w (bJ B::l)→w.cell? ⟨g,o,none⟩=some (fJ cp))∧In w0 w' (pts r (jg t s.req vr va vp vc vi)::bJ B::l):=by
 have hal:=SQ hs.req h1
 have hi:=(List.getElem?_eq_some_iff.1 ha).1
 have hb:=hp.ok.inr a (List.mem_of_getElem? ha)
 have hB:=h1.ae p1
 obtain⟨ga,oa,ca,rfl,hca,zQ⟩:=hp.ag.cells hB (by omega)
 obtain⟨gp,op,cp0,rfl,hcp,aco⟩:=hp.places.cells hB (by omega)
 obtain⟨cl,l1,l2,l3,l4⟩:=hp.bi
 obtain⟨gc,oc,cc,rfl,hcc,Lh⟩:=l3.cells hB (by omega)
 have hc1:=jJ h1 (k:=1) rfl
 have hc2:=jJ h1 (k:=2) rfl
 have hc3:=jJ h1 (k:=3) rfl
 have hA:w.cell? ⟨ga,oa+i*7,none⟩=some (.int .i64 a.counter):=
  zQ (i*7+0) _ (flat_get (dL (slot:=dR) (size:=7) (fun _=>rfl) t.ag) (i:=i) (x:=dR a) (by simp[ha]) 0 (by decide))
 have hP:w.cell? ⟨gp,op+i,none⟩=some (.int .i64 (t.place i:Nat)):=aco i _ (by simp[nums,hi])
 obtain⟨c,hc⟩:∃c:Nat,a.counter=c:=⟨a.counter.toNat,by omega⟩
 have XU:t.oZ i=c:=by unfold fV.oZ;rw[ha];simp only [];rw[hc];rfl
 rw[hc]at hA
 have hcl:c<cl.length:=by omega
 have aex:=List.getElem?_eq_getElem hcl
 have n1:(i:Int)<t.ag.length:=by omega
 have n2:(c:Int)<t.bi.length:=by omega
 generalize t.place i=pl at*
 rw[XU]
 clear ha
 go_enter func121,ntmps121
 go_wp2_with (go_at_call 92;refine bW hal ?_)
 refine rg ⟨[], []⟩ [.c 0 0,.c 0 1,.c 0 2,.c 1 3,.c 0 4,.c 0 5,.c 0 6,.c 1 7,.c 0 8,.c 0 9,.c 0 10,.c 1 11,.c 0 12,.c 0 13,.c 0 14,.c 0 15,.c 1 16,.c 0 17,.c 0 18,.c 1 19,.c 0 20,.c 0 21] ?_
 refine lK ?_
 go_wp2_with fail
 go_ret2
 refine⟨_,_,cl[c].1,rfl,by rw[←l1,List.getElem?_map,aex];rfl,fun hB'=>?_,h1.drew⟩
 obtain⟨g9,o9,c9,e9,_,acp⟩:=l3.cells hB' (by omega)
 cases e9
 exact acp (c*2+0) _ (flat_get (dL (slot:=wJ) (size:=2) (fun _=>rfl) cl) (i:=c) (x:=wJ cl[c]) (by simp[hcl]) 0 (by decide))
theorem sH {lV:List Nat} {cs:List dS} {c cp:Nat} {x:dS} (h:In w0 w (bQ (List.zipWith lY lV cs)::l)) (hc:lV[c]? =some cp) (hx:cs[c]? =some x):In w0 w (lY cp x::bQ ((List.zipWith lY lV cs).eraseIdx c)::l):=
 In.hole h (by rw[List.getElem?_zipWith,hc,hx])
theorem xA {lV:List Nat} {cs:List dS} {c cp:Nat} {x y:dS} (hc:lV[c]? =some cp) (hx:cs[c]? =some x) (h:In w0 w (lY cp y::bQ ((List.zipWith lY lV cs).eraseIdx c)::l)):In w0 w (bQ (List.zipWith lY lV (cs.set c y))::l):=by
 have hcl:=(List.getElem?_eq_some_iff.1 hc).1
 have hxl:=(List.getElem?_eq_some_iff.1 hx).1
 have hl:c<(List.zipWith lY lV cs).length:=by rw[List.length_zipWith];omega
 have h2:=In.Pn h hl
 have e:(List.zipWith lY lV cs).set c (lY cp y)=List.zipWith lY lV (cs.set c y):=by
  apply List.ext_getElem?
  intro i
  by_cases hi:i=c
  ·subst hi
   rw[List.getElem?_set_self hl,List.getElem?_zipWith,hc,List.getElem?_set_self hxl]
  ·rw[List.getElem?_set_ne (by omega),List.getElem?_zipWith,List.getElem?_zipWith,List.getElem?_set_ne (by omega)]
 rwa[e]at h2
theorem aJ.Ok.set {c:Nat} {x y:dS} (h:s.Ok t) (hx:s.clocks[c]? =some x) (hy:y.ag.length=x.ag.length):aJ.Ok t {s with clocks:=s.clocks.set c y}:=by
 have hl:=(List.getElem?_eq_some_iff.1 hx).1
 refine⟨by simpa using h.len,h.req,fun d z hd=>?_⟩
 by_cases hdc:d=c
 ·subst hdc
  have:y=z:=by simpa[hl]using hd
  rw[←this,hy]
  exact h.al d x hx
 ·exact h.al d z (by simpa[List.getElem?_set_ne (show c≠d by omega)]using hd)
def aJ.dA (s:aJ) (c:Nat) (y:dS):aJ:={s with clocks:=s.clocks.set c y}
def dS.L9 (x:dS) (i:Nat) (a:eX) (tk cy:Int):dS:=if a.set|| !x.qX tk cy then x else {x with ag:=x.ag.set i ⟨true,tk,cy⟩}
def dS.Si (x:dS) (a:eX) (tk cy:Int):Int:=if a.set then 7 else if x.qX tk cy then 0 else 8
def dS.OA (x:dS) (i:Nat) (a:eX) (tk cy:Int):dS:=if a.set|| !x.pF tk cy then x else {x with ag:=x.ag.set i ⟨true,x.until tk,cy⟩}
def dS.Ue (x:dS) (a:eX) (tk cy:Int):Int:=if a.set then 7 else if x.pF tk cy then 0 else 8
theorem abH {i:Nat} {ar:gq} {x:dS} {a:eX} {tk cy:Int} (h:In w0 w (je r t s::l)) (ha:t.ag[i]? =some ar) (hx:s.clocks[t.oZ i]? =some x) (hal:x.ag[t.place i]? =some a) (t0:0≤tk) (t1:tk≤4294967295) (c0:0≤cy):
 aW 327 #[r,.int .i64 i,.int .u32 tk,.int .u32 cy] w w0 (.int .i64 (x.Si a tk cy)) (je r t (s.dA (t.oZ i) (x.L9 (t.place i) a tk cy))::l):=by
 obtain⟨B,lV,vr,va,vp,vc,vi,hp,hs,h1⟩:=iM h
 have hof:=GN hp hs ha h1
 have hlen:(x.L9 (t.place i) a tk cy).ag.length=x.ag.length:=by unfold dS.L9;split<;>simp
 have hcl:∀ {w:World} {cp:Nat} {l:List SL},In w0 w (lY cp x::l)→aW 387 #[cp,.int .i64 (t.place i:Nat),.int .u32 tk,.int .u32 cy] w w0 (.int .i64 (x.Si a tk cy)) (lY cp (x.L9 (t.place i) a tk cy)::l):=
  fun h=>abU h hal t0 t1 c0
 generalize x.Si a tk cy=q at*
 generalize x.L9 (t.place i) a tk cy=y at*
 generalize t.place i=pl at*
 clear ha h hal
 go_enter func327,ntmps327
 go_upto_region 4 with(go_at_call 121;refine hof.mono ?_;rintro _ w2 ⟨g,o,cp,rfl,hcp,hcell,h2⟩)
 have hca:=hcell (h2.ae p1)
 simp only[fJ]at hca
 have h3:=sH (h2.ae p2) hcp hx
 clear hof h1
 go_wp2_with (go_at_call 387;refine bF (hcl h3) ?_;intro w5 h5)
 go_ret
 have h6:=(xA hcp hx h5).pr [1,1,0]
 exact⟨rfl,lT (s:=s.dA (t.oZ i) y) hp (hs.set hx hlen) h6⟩
theorem abS {i:Nat} {ar:gq} {x:dS} {a:eX} {tk cy:Int} (h:In w0 w (je r t s::l)) (ha:t.ag[i]? =some ar) (hx:s.clocks[t.oZ i]? =some x) (hal:x.ag[t.place i]? =some a) (t0:0≤tk) (t1:tk≤4294967295) (c0:0≤cy):
 aW 328 #[r,.int .i64 i,.int .u32 tk,.int .u32 cy] w w0 (.int .i64 (x.Ue a tk cy)) (je r t (s.dA (t.oZ i) (x.OA (t.place i) a tk cy))::l):=by
 obtain⟨B,lV,vr,va,vp,vc,vi,hp,hs,h1⟩:=iM h
 have hof:=GN hp hs ha h1
 have hlen:(x.OA (t.place i) a tk cy).ag.length=x.ag.length:=by unfold dS.OA;split<;>simp
 have hcl:∀ {w:World} {cp:Nat} {l:List SL},In w0 w (lY cp x::l)→aW 388 #[cp,.int .i64 (t.place i:Nat),.int .u32 tk,.int .u32 cy] w w0 (.int .i64 (x.Ue a tk cy)) (lY cp (x.OA (t.place i) a tk cy)::l):=
  fun h=>abx h hal t0 t1 c0
 generalize x.Ue a tk cy=q at*
 generalize x.OA (t.place i) a tk cy=y at*
 generalize t.place i=pl at*
 clear ha h hal
 go_enter func328,ntmps328
 go_upto_region 4 with(go_at_call 121;refine hof.mono ?_;rintro _ w2 ⟨g,o,cp,rfl,hcp,hcell,h2⟩)
 have hca:=hcell (h2.ae p1)
 simp only[fJ]at hca
 have h3:=sH (h2.ae p2) hcp hx
 clear hof h1
 go_wp2_with (go_at_call 388;refine bF (hcl h3) ?_;intro w5 h5)
 go_ret
 have h6:=(xA hcp hx h5).pr [1,1,0]
 exact⟨rfl,lT (s:=s.dA (t.oZ i) y) hp (hs.set hx hlen) h6⟩
end
section
variable {w0 w:World} {l:List SL} {r:Nat} {t:fV} {s:aJ}
theorem I7 {i:Nat} {ar:gq} {x:dS} {a:eX} (h:In w0 w (je r t s::l)) (ha:t.ag[i]? =some ar) (hx:s.clocks[t.oZ i]? =some x) (hal:x.ag[t.place i]? =some a):
 Calls prog 329 #[r,.int .i64 i] w fun e w'=>e= .returned (.int .i64 (if a.set then 0 else 5))∧
  In w0 w' (je r t (s.dA (t.oZ i) {x with ag:=x.ag.set (t.place i) a.cancel})::l):=by
 obtain⟨B,lV,vr,va,vp,vc,vi,hp,hs,h1⟩:=iM h
 have hof:=GN hp hs ha h1
 have hlen:({x with ag:=x.ag.set (t.place i) a.cancel}:dS).ag.length=x.ag.length:=by simp
 have hcl:∀ {w:World} {cp:Nat} {l:List SL},In w0 w (lY cp x::l)→aW 389 #[cp,.int .i64 (t.place i:Nat)] w w0 (.int .i64 (if a.set then 0 else 5)) (lY cp {x with ag:=x.ag.set (t.place i) a.cancel}::l):=
  fun h=>(Tt h hal).mono fun e w' q=>⟨by rw[q.1];cases a.set<;>rfl,q.2⟩
 generalize (if a.set then(0:Int) else 5)=q at*
 generalize ({x with ag:=x.ag.set (t.place i) a.cancel}:dS)=y at*
 generalize t.place i=pl at*
 clear ha h hal
 go_enter func329,ntmps329
 go_upto_region 4 with(go_at_call 121;refine hof.mono ?_;rintro _ w2 ⟨g,o,cp,rfl,hcp,hcell,h2⟩)
 have hca:=hcell (h2.ae p1)
 simp only[fJ]at hca
 have h3:=sH (h2.ae p2) hcp hx
 clear hof h1
 go_wp2_with (go_at_call 389;refine bF (hcl h3) ?_;intro w5 h5)
 go_ret
 have h6:=(xA hcp hx h5).pr [1,1,0]
 exact⟨rfl,lT (s:=s.dA (t.oZ i) y) hp (hs.set hx hlen) h6⟩
theorem MS {lV:List Nat} {cs:List dS} {c cp:Nat} {x:dS} (hc:lV[c]? =some cp) (hx:cs[c]? =some x) (h:In w0 w (lY cp x::bQ ((List.zipWith lY lV cs).eraseIdx c)::l)):In w0 w (bQ (List.zipWith lY lV cs)::l):=by
 have h2:=xA hc hx h
 obtain⟨hl,e⟩:=List.getElem?_eq_some_iff.1 hx
 rw[←e,List.set_getElem_self]at h2
 exact h2
theorem Zj {i:Nat} {ar:gq} {x:dS} {a:eX} (h:In w0 w (je r t s::l)) (ha:t.ag[i]? =some ar) (hx:s.clocks[t.oZ i]? =some x) (hal:x.ag[t.place i]? =some a) (b0:0≤a.left) (b1:a.left≤4294967295):
 aW 326 #[r,.int .i64 i] w w0 (.tuple #[.int .u32 (if a.set then a.left else 0),.int .i64 (if a.set then 0 else 5)]) (je r t s::l):=by
 obtain⟨B,lV,vr,va,vp,vc,vi,hp,hs,h1⟩:=iM h
 have hof:=GN hp hs ha h1
 have hcl:∀ {w:World} {cp:Nat} {l:List SL},In w0 w (lY cp x::l)→aW 122 #[cp,.int .i64 (t.place i:Nat)] w w0 (.tuple #[.int .u64 (if a.set then a.left else 0),.int .i64 (if a.set then 0 else 5)]) (lY cp x::l):=
  fun h=>(Rn h hal).mono fun e w' q=>⟨by rw[q.1];cases a.set<;>rfl,q.2⟩
 have q0:0≤(if a.set then a.left else 0):=by split<;>omega
 have q1:(if a.set then a.left else 0)≤4294967295:=by split<;>omega
 generalize (if a.set then(0:Int) else 5)=q at*
 generalize (if a.set then a.left else 0)=n at*
 generalize t.place i=pl at*
 clear ha h hal
 go_enter func326,ntmps326
 go_upto_region 4 with(go_at_call 121;refine hof.mono ?_;rintro _ w2 ⟨g,o,cp,rfl,hcp,hcell,h2⟩)
 have hca:=hcell (h2.ae p1)
 simp only[fJ]at hca
 have h3:=sH (h2.ae p2) hcp hx
 clear hof h1
 go_wp2_with (go_at_call 122;refine bF (hcl h3) ?_;intro w5 h5)
 go_ret2
 exact⟨rfl,lT hp hs ((MS hcp hx h5).s)⟩
theorem O7 {i:Int} {tk cy:Int} (h:In w0 w (je r t s::l)) (hi:i<0∨(t.ag.length:Int)≤i):
 Calls prog 327 #[r,.int .i64 i,.int .u32 tk,.int .u32 cy] w fun e w'=>e= .returned (.int .i64 3)∧w=w':=by
 have hof:=wY h hi
 clear hi
 go_enter func327,ntmps327
 go_wp2_with (go_at_call 121;refine bW hof ?_)
 go_ret
 exact⟨rfl,rfl⟩
theorem Qo {i:Int} {tk cy:Int} (h:In w0 w (je r t s::l)) (hi:i<0∨(t.ag.length:Int)≤i):
 Calls prog 328 #[r,.int .i64 i,.int .u32 tk,.int .u32 cy] w fun e w'=>e= .returned (.int .i64 3)∧w=w':=by
 have hof:=wY h hi
 clear hi
 go_enter func328,ntmps328
 go_wp2_with (go_at_call 121;refine bW hof ?_)
 go_ret
 exact⟨rfl,rfl⟩
theorem H9 {i:Int} (h:In w0 w (je r t s::l)) (hi:i<0∨(t.ag.length:Int)≤i):
 Calls prog 329 #[r,.int .i64 i] w fun e w'=>e= .returned (.int .i64 3)∧w=w':=by
 have hof:=wY h hi
 clear hi
 go_enter func329,ntmps329
 go_wp2_with (go_at_call 121;refine bW hof ?_)
 go_ret
 exact⟨rfl,rfl⟩
theorem NI {i:Int} (h:In w0 w (je r t s::l)) (hi:i<0∨(t.ag.length:Int)≤i):
 Calls prog 326 #[r,.int .i64 i] w fun e w'=>e= .returned (.tuple #[.int .u32 0,.int .i64 3])∧w=w':=by
 have hof:=wY h hi
 clear hi
 go_enter func326,ntmps326
 go_wp2_with (go_at_call 121;refine bW hof ?_)
 go_ret2
 exact⟨rfl,rfl⟩
end
section
variable {w0 w:World} {l:List SL} {r:Nat} {t:fV} {s:aJ}
theorem KT {vr va vp vc vi:Value} {req:List Bool} {i:Nat} {b:Bool} (h:In w0 w (pts r (jg t req vr va vp vc vi)::l)) (hb:req[i]? =some b):w.cell? ⟨r,6+i,none⟩=some (.bool b):=by
 have hi:=(List.getElem?_eq_some_iff.1 hb).1
 unfold jg at h
 rw[h.cell,List.getElem?_toArray,List.getElem?_append_left (by simp;omega),List.getElem?_append_right (by simp)]
 have e:6+i- [vr,va,vp,vc,Value.int IntKind.i64 t.modes,vi].length=i:=by simp
 rw[e,List.getElem?_map,hb]
 rfl
theorem Hm {vr va vp vc vi:Value} {req:List Bool} {i:Nat} (b:Bool) (h:In w0 w (pts r (jg t req vr va vp vc vi)::l)) (hi:i<req.length):
 In w0 (w.setCell ⟨r,6+i,none⟩ (.bool b)) (pts r (jg t (req.set i b) vr va vp vc vi)::l):=by
 have h1:=h.setCell (off:=6+i) (.bool b)
 have e:(([vr,va,vp,vc,Value.int IntKind.i64 t.modes,vi]++req.map (fun b=>Value.bool b)++ [Value.bool true]).toArray).setIfInBounds (6+i) (.bool b)=([vr,va,vp,vc,Value.int IntKind.i64 t.modes,vi]++(req.set i b).map (fun b=>Value.bool b)++ [Value.bool true]).toArray:=by
  rw[List.setIfInBounds_toArray,List.set_append_left _ _ (by simp;omega),List.set_append_right _ _ (by simp)]
  have e:6+i- [vr,va,vp,vc,Value.int IntKind.i64 t.modes,vi].length=i:=by simp
  rw[e,←List.map_set]
 rw[e]at h1
 exact h1
theorem Qg {i:Nat} (h:In w0 w (je r t s::l)) (hi:i<t.bf.length):
 aW 36 #[r,.int .i64 i] w w0 (.int .i64 0) (je r t {s with req:=s.req.set i true}::l):=by
 have hal:=nY h
 obtain⟨B,lV,vr,va,vp,vc,vi,hp,hs,h1⟩:=iM h
 obtain⟨EN,ry,rfl⟩:=hp.bf.form
 have hc5:=jJ h1 (k:=5) rfl
 have hfew:=hp.ok.few
 have hil:i<s.req.length:=by rw[hs.req];omega
 have hcr:=KT h1 (List.getElem?_eq_getElem hil)
 have hfz:=h1.free
 have h2:=Hm true h1 hil
 have n0:(0:Int)≤(i:Int):=by omega
 have n1:(i:Int)<t.bf.length:=by omega
 have n2:(i:Int)<32:=by omega
 generalize s.req[i]=b at hcr
 clear h1
 go_enter func36,ntmps36
 go_wp2_with (go_at_call 92;refine bW hal ?_)
 go_ret
 exact⟨rfl,lT (s:={s with req:=s.req.set i true}) hp ⟨hs.len,by simpa using hs.req,hs.al⟩ h2⟩
theorem Ha {i:Int} (h:In w0 w (je r t s::l)) (hi:i<0∨(t.bf.length:Int)≤i):
 Calls prog 36 #[r,.int .i64 i] w fun e w'=>e= .returned (.int .i64 3)∧w=w':=by
 have hal:=nY h
 obtain⟨B,lV,vr,va,vp,vc,vi,hp,hs,h1⟩:=iM h
 obtain⟨EN,ry,rfl⟩:=hp.bf.form
 have hc5:=jJ h1 (k:=5) rfl
 clear h1
 go_enter func36,ntmps36
 by_cases h0:i<0
 ·go_wp2_with (go_at_call 92;refine bW hal ?_)
  go_ret
  exact⟨rfl,rfl⟩
 ·have h2:(t.bf.length:Int)≤i:=hi.resolve_left h0
  go_wp2_with (go_at_call 92;refine bW hal ?_)
  go_ret
  exact⟨rfl,rfl⟩
theorem GL {i:Nat} (h:In w0 w (je r t s::l)) (hi:i<t.bf.length) (hr:s.req[i]? =some true):
 aW 247 #[r,.int .i64 i] w w0 (.int .i64 0) (je r t {s with req:=s.req.set i false}::l):=by
 have hal:=nY h
 obtain⟨B,lV,vr,va,vp,vc,vi,hp,hs,h1⟩:=iM h
 obtain⟨EN,ry,rfl⟩:=hp.bf.form
 have hc5:=jJ h1 (k:=5) rfl
 have hfew:=hp.ok.few
 have hil:i<s.req.length:=by rw[hs.req];omega
 have hcr:=KT h1 hr
 have hfz:=h1.free
 have h2:=Hm false h1 hil
 have n0:(0:Int)≤(i:Int):=by omega
 have n1:(i:Int)<t.bf.length:=by omega
 have n2:(i:Int)<32:=by omega
 clear h1 hr
 go_enter func247,ntmps247
 go_wp2_with (go_at_call 92;refine bW hal ?_)
 go_ret
 exact⟨rfl,lT (s:={s with req:=s.req.set i false}) hp ⟨hs.len,by simpa using hs.req,hs.al⟩ h2⟩
theorem ac7 {req:List Bool} {i:Nat} {b:Bool} (w:World) (hl:req.length=32) (hb:req[i]? =some b):(Instr.index 196 (.agg (req.map (fun b=>Value.bool b)).toArray) (.int .i64 i)).run prog w= .ok (.bool b) w:=by
 have hp:i<32:=by rw[←hl];exact(List.getElem?_eq_some_iff.1 hb).1
 have e1:(0:Int)≤(i:Int):=by omega
 have e2:(i:Int)<32:=by omega
 have hc:(req.map (fun b=>Value.bool b))[i]? =some (.bool b):=by simp[hb]
 simp[Instr.index,part,go_sem,e1,e2,hc,hb,hp,Nat.not_le.2 hp]
def aJ.wanted (s:aJ):List Int:=(bV (fun b:Bool=>b) 0 s.req).map fun(n:Nat)=>(n:Int)
theorem CQ (h:In w0 w (je r t s::l)):
 Calls prog 41 #[r] w fun e w'=>∃v,e= .returned v∧In w0 w' (Ints v s.wanted::je r t s::l):=by
 have hal:=nY h
 obtain⟨B,lV,vr,va,vp,vc,vi,hp,hs,h1⟩:=iM h
 have hrg:w.rangeAt r 6 (s.req.map (fun b=>Value.bool b)):=by
  intro j v hj
  have hx:∃x,s.req[j]? =some x∧Value.bool x=v:=by simpa using hj
  obtain⟨x,hx,rfl⟩:=hx
  exact KT h1 hx
 have h2:=h.dh 3 1
 clear h1
 go_enter func41,ntmps41
 go_wp2_with (first|(go_at_call 92;refine bW hal ?_)|(with_reducible apply JD 196))
 unfold Stop
 refine wpList_load_mid rfl _ _ rfl r 6 (by rfl) (s.req.map (fun b=>Value.bool b)) _ hrg underlying196 rfl (by rw[List.length_map,hs.req];kernel_rfl) ?_
 have hix:=fun(i:Nat) (b:Bool) (w:World) (hb:s.req[i]? =some b)=>ac7 w hs.req hb
 clear hrg
 go_upto_region 4 with(fail)
 go_loopw [3,4,5,12] (fun u _ _ c wr=>∃k:Nat,k≤32∧c= .int .i64 k∧In w0 wr (Ints u ((bV (fun b:Bool=>b) 0 (s.req.take k)).map fun(n:Nat)=>(n:Int))::je r t s::l))
  (fun _ _ _ c _=>32-(intOf c).toNat)
 case atStart=>exact⟨0,Nat.zero_le _,rfl,h2⟩
 case round=>
  obtain⟨k,hk,rfl,hw⟩:=hrel
  clear h2 h hal
  by_cases hlt:k<32
  ·have hkr:k<s.req.length:=by rw[hs.req];exact hlt
   have hi:=fun w=>hix k _ w (List.getElem?_eq_getElem hkr)
   have hpl:=pG (fun b:Bool=>b) s.req[k] (s.req.take k) 0
   have hpn:=gU (fun b:Bool=>b) (s.req.take k) 0
   rw[←List.take_succ_eq_append_getElem hkr,List.length_take,Nat.min_eq_left (by omega),Nat.zero_add]at hpl
   rw[List.length_take]at hpn
   have e1:(k:Int)<32:=by omega
   generalize s.req[k]=b at*
   clear hix
   have hw':=hw
   unfold Ints at hw'
   rw[List.length_map]at hw'
   obtain⟨ao,cap,rfl⟩:=hw'.aG
   cases b
   ·go_wp2_with fail
    go_roundw
    case rel=>
     refine⟨k+1,hlt,by go_num,?_⟩
     rw[hpl]
     simpa using hw
    case measure=>simp[intOf]<;>omega
   ·go_upto_region 7 with(fail)
    go_wp2_with (with_reducible apply bH)
    unfold Stop
    refine aZ Es (hw'.alloc (.cells (jf (k:Int)).toArray 3)) rfl rfl rfl (qx _) (by omega) ?_
    intro u6 w6 h6
    obtain⟨rE,cap2,rfl⟩:=h6.aG
    go_wp2_with fail
    go_roundw
    case rel=>
     refine⟨k+1,hlt,by go_num,?_⟩
     rw[hpl]
     unfold Ints
     simpa using h6
    case measure=>simp[intOf]<;>omega
  ·have aey:k=32:=by omega
   subst aey
   have e1:¬((32:Nat):Int)<32:=by omega
   rw[List.take_of_length_le (by rw[hs.req];exact Nat.le_refl _)]at hw
   go_wp2_with fail
   go_ret
   exact⟨_,rfl,hw⟩
end
def fV.jB (t:fV) (g:lg) (p:Int × Int) (i:Int):Int × Int:=
 match t.bf[i.toNat]? with
 |some x=>if p.2<x.2∧g.shut=false∧g.all=0∧(x.1≠2∨g.os=0) then(i,x.2) else p
 |none=>p
def fV.next (t:fV) (s:aJ) (level:Int) (g:lg):Int:=(s.wanted.foldl (t.jB g) (-1,level)).1
section
variable {w0 w:World} {l:List SL} {r:Nat} {t:fV} {s:aJ}
theorem Ku {level:Int} {g:lg} (h:In w0 w (je r t s::l)) (hin:∀i∈s.wanted,∃n:Nat,i=n∧n<t.bf.length):
 Calls prog 246 #[r,.int .i64 level,.agg #[.bool g.shut,.int .i64 g.all,.int .i64 g.os]] w fun e w'=>
  e= .returned (.tuple #[.int .i64 (t.next s level g),.bool (decide (0≤t.next s level g))])∧In w0 w' (je r t s::l):=by
 have h1:=h.alloc (.cells #[.bool g.shut,.int .i64 g.all,.int .i64 g.os] 90)
 obtain⟨nx,hnx⟩:∃nx,t.next s level g=nx:=⟨_,rfl⟩
 rw[hnx]
 rcases g with⟨gs,ga,go⟩
 go_enter func246,ntmps246
 go_upto_region 2 with(fail)
 refine In.abs h1 ?_
 clear h1 h
 generalize w.heap.size=z
 intro w2 h2
 have hrq:=CQ (h2.ae p1)
 go_wp2_with (go_at_call 41;refine hrq.mono ?_;rintro _ w3 ⟨v,rfl,h3⟩;obtain⟨ao,cap,rfl⟩:=In.aG (E:=3) (size:=1) h3)
 clear h2 hrq
 have hmax:=(show In w0 w3 (Row 3 1 _ s.wanted.length _::_) from h3).pJ.2
 unfold maxLen at hmax
 go_loopw [1,8,10,11,15] (fun lv bs _ _ c wr=>∃k:Nat,k≤s.wanted.length∧c= .int .i64 k∧bs= .int .i64 ((s.wanted.take k).foldl (t.jB ⟨gs,ga,go⟩) (-1,level)).1∧lv= .int .i64 ((s.wanted.take k).foldl (t.jB ⟨gs,ga,go⟩) (-1,level)).2∧
  In w0 wr (Ints (.slice ao s.wanted.length cap) s.wanted::je r t s::pts z (.cells #[.bool gs,.int .i64 ga,.int .i64 go] 90)::l))
  (fun _ _ _ _ c _=>s.wanted.length-(intOf c).toNat)
 case atStart=>exact⟨0,Nat.zero_le _,rfl,rfl,rfl,h3⟩
 case round=>
  obtain⟨k,hk,rfl,rfl,rfl,hw⟩:=hrel
  clear h3
  by_cases hlt:k<s.wanted.length
  ·have hnext:=List.take_succ_eq_append_getElem hlt
   obtain⟨n,hn,hnl⟩:=hin _ (List.getElem_mem hlt)
   rw[hn]at hnext
   have hst:(s.wanted.take (k+1)).foldl (t.jB ⟨gs,ga,go⟩) (-1,level)=t.jB ⟨gs,ga,go⟩ ((s.wanted.take k).foldl (t.jB ⟨gs,ga,go⟩) (-1,level)) n:=by rw[hnext,List.foldl_append];rfl
   have hw':=hw
   unfold Ints at hw'
   rcases hw'.aU with⟨_,e,_⟩|⟨ga2,cap2,ext,e,_⟩
   ·omega
   cases e
   have hc:wr.cell? ⟨ga2,k,none⟩=some (.int .i64 n):=hw'.gI (by
    rw[show(s.wanted.map jf).flatten=s.wanted.map (fun i=>Value.int .i64 i) from Nb _,List.getElem?_map,List.getElem?_eq_getElem hlt,hn];rfl)
   obtain⟨B,lV,vr,va,vp,vc,vi,hp,hs,h4⟩:=iM (hw.ae p1)
   obtain⟨gi,oi,ci,rfl,hci,acr⟩:=hp.bf.cells (h4.ae p1) (by omega)
   have hget:=List.getElem?_eq_getElem hnl
   have hcs:∀(j:Nat) (u:Value),(yj t.bf[n])[j]? =some u→j<2→wr.cell? ⟨gi,oi+(n*2+j),none⟩=some u:=fun j u hu hj=>
    acr _ u ((flat_get (dL (slot:=yj) (size:=2) (fun _=>rfl) t.bf) (i:=n) (x:=yj t.bf[n]) (by simp[hnl]) j hj).trans hu)
   have hstep:∀p,t.jB ⟨gs,ga,go⟩ p n=if p.2<t.bf[n].2∧gs=false∧ga=0∧(t.bf[n].1≠2∨go=0) then((n:Int),t.bf[n].2) else p:=by
    intro p;unfold fV.jB;rw[Int.toNat_natCast,hget]
   rw[hstep]at hst
   generalize t.bf[n]=x at*
   rcases x with⟨cat,pr⟩
   have hc0:wr.cell? ⟨gi,oi+n*2,none⟩=some (.int .i64 cat):=by have:=hcs 0 _ rfl (by decide);simpa[Nat.add_assoc]using this
   have hc1:wr.cell? ⟨gi,oi+n*2+1,none⟩=some (.int .i64 pr):=by have:=hcs 1 _ rfl (by decide);simpa[Nat.add_assoc]using this
   have hc5:=jJ h4 (k:=5) rfl
   have n1:(n:Int)<t.bf.length:=by omega
   have h6:=hw.alloc (.cells #[.int .i64 cat,.int .i64 pr] 303)
   clear hcs hstep hget hn
   generalize hfo:(s.wanted.take k).foldl (t.jB ⟨gs,ga,go⟩) (-1,level)=p at*
   rcases p with⟨bs,lv⟩
   simp only at hst
   go_upto_region 6 with(fail)
   refine In.abs h6 ?_
   clear h6 hw hw' hc hc0 hc1 hc5 h4
   generalize wr.heap.size=q
   intro w6 h6
   have fc_:=h6.facts
   have fin:In w0 w6 (Ints (.slice (some ⟨ga2,0,none⟩) s.wanted.length cap) s.wanted::je r t s::pts z (.cells #[.bool gs,.int .i64 ga,.int .i64 go] 90)::l):=h6.drop
   by_cases c1:lv<pr
   ·cases gs
    ·by_cases c2:ga=0
     ·subst c2
      by_cases c3:cat=2
      ·subst c3
       by_cases c4:go=0
       ·subst c4
        rw[if_pos (by simp;omega)]at hst
        go_upto_region 7 with(fail)
        refine rg ⟨[], []⟩ [.c 0 0,.c 0 1,.c 1 2,.c 0 3,.c 0 4] ?_
        refine lK ?_
        go_wp2_with fail
        go_roundw
        case rel=>exact⟨k+1,hlt,by go_num,by rw[hst],by rw[hst],fin.drew⟩
        case measure=>simp[intOf]<;>omega
       ·have c4':¬(go=0):=c4
        rw[if_neg (by simp[c4'])]at hst
        go_wp2_with fail
        go_roundw
        case rel=>exact⟨k+1,hlt,by go_num,by rw[hst],by rw[hst],fin⟩
        case measure=>simp[intOf]<;>omega
      ·have c3':¬(cat=2):=c3
       rw[if_pos (by simp[c3'];omega)]at hst
       go_upto_region 7 with(fail)
       refine rg ⟨[], []⟩ [.c 0 0,.c 0 1,.c 1 2,.c 0 3,.c 0 4] ?_
       refine lK ?_
       go_wp2_with fail
       go_roundw
       case rel=>exact⟨k+1,hlt,by go_num,by rw[hst],by rw[hst],fin.drew⟩
       case measure=>simp[intOf]<;>omega
     ·have c2':¬(ga=0):=c2
      rw[if_neg (by simp[c2'])]at hst
      go_wp2_with fail
      go_roundw
      case rel=>exact⟨k+1,hlt,by go_num,by rw[hst],by rw[hst],fin⟩
      case measure=>simp[intOf]<;>omega
    ·have c9:True:=trivial
     rw[if_neg (by simp)]at hst
     go_wp2_with fail
     go_roundw
     case rel=>exact⟨k+1,hlt,by go_num,by rw[hst],by rw[hst],fin⟩
     case measure=>simp[intOf]<;>omega
   ·rw[if_neg (by simp only[not_and];omega)]at hst
    go_wp2_with fail
    go_roundw
    case rel=>exact⟨k+1,hlt,by go_num,by rw[hst],by rw[hst],fin⟩
    case measure=>simp[intOf]<;>omega
  ·have hke:k=s.wanted.length:=by omega
   subst hke
   rw[List.take_length]
   have hnx':(s.wanted.foldl (t.jB ⟨gs,ga,go⟩) (-1,level)).1=nx:=hnx
   rw[hnx']
   go_wp2_with fail
   go_ret2
   exact⟨rfl,(hw.drop.ae p1).drop⟩
end
theorem acX:ig prog 63 38 1 4 (.int .u32 0):=⟨underlying63,by kernel_rfl,rfl,by decide,by decide⟩
def yt (l:List Int):List Value:=l.map fun i=> .int .u32 i
section
variable {w0 w:World} {l:List SL} {r:Nat} {t:fV} {s:aJ}
theorem LG (h:In w0 w (je r t s::l)) (hfew:t.bi.length≤16):
 Calls prog 42 #[r] w fun e w'=>∃v,e= .returned v∧In w0 w' (Row 38 1 v s.clocks.length (yt (s.clocks.map (·.value)))::je r t s::l):=by
 have hal:=nY h
 obtain⟨B,lV,vr,va,vp,vc,vi,hp,hs,h1⟩:=iM h
 obtain⟨cl,l1,l2,l3,l4⟩:=hp.bi
 obtain⟨Az,oD,rfl⟩:=l3.form
 have hc3:=jJ h1 (k:=3) rfl
 have h2:=h1.dh 38 1
 clear h h1
 go_enter func42,ntmps42
 go_upto_region 4 with(go_at_call 92;refine bW hal ?_)
 go_loopw [3,5,13] (fun u _ c wr=>∃k:Nat,k≤t.bi.length∧c= .int .i64 k∧In w0 wr (Row 38 1 u k (yt ((s.clocks.take k).map (·.value)))::pts r (jg t s.req vr va vp (.slice Az t.bi.length oD) vi)::bJ B::bQ (List.zipWith lY lV s.clocks)::l))
  (fun _ _ c _=>t.bi.length-(intOf c).toNat)
 case atStart=>exact⟨0,Nat.zero_le _,rfl,h2⟩
 case round=>
  obtain⟨k,hk,rfl,hw⟩:=hrel
  clear h2 hal
  by_cases hlt:k<t.bi.length
  ·have hkc:k<s.clocks.length:=by rw[hs.len];exact hlt
   have hkl:k<cl.length:=by omega
   have hnx:=List.take_succ_eq_append_getElem hkc
   have hx:=List.getElem?_eq_getElem hkc
   have hcl:=List.getElem?_eq_getElem hkl
   have hown:=l4 k _ hcl
   obtain⟨g0,o0,cap0,eq0,hcap0,hcell0⟩:=l3.cells (hw.ae p2) (by omega)
   cases eq0
   have hcs:∀(j:Nat) (u:Value),(wJ cl[k])[j]? =some u→j<2→wr.cell? ⟨g0,o0+(k*2+j),none⟩=some u:=fun j u hu hj=>
    hcell0 _ u ((flat_get (dL (slot:=wJ) (size:=2) (fun _=>rfl) cl) (i:=k) (x:=wJ cl[k]) (by simp[hkl]) j hj).trans hu)
   have hcp:lV[k]? =some cl[k].1:=by rw[←l1,List.getElem?_map,hcl];rfl
   generalize cl[k]=p at*
   generalize s.clocks[k]=x at*
   rcases p with⟨cp,va2⟩
   obtain⟨rE,cap2,e2⟩:=hown.form
   simp only at e2 hcp
   subst e2
   have hc0:wr.cell? ⟨g0,o0+k*2,none⟩=some (.pointer (some ⟨cp,0,none⟩)):=by have:=hcs 0 _ rfl (by decide);simpa[Nat.add_assoc,fJ]using this
   have hc1:wr.cell? ⟨g0,o0+k*2+1,none⟩=some (.slice rE (t.fG k).length cap2):=by have:=hcs 1 _ rfl (by decide);simpa[Nat.add_assoc]using this
   clear hcs
   obtain⟨ao,cap,rfl⟩:=hw.aG
   have h6:=hw.alloc (.cells #[cp,.slice rE (t.fG k).length cap2] 236)
   go_upto_region 6 with(fail)
   refine In.abs h6 ?_
   clear h6 hw hc0 hc1
   generalize wr.heap.size=q
   intro w6 h6
   have fc_:=h6.facts
   have hv:=Vd (sH (h6.ae p4) hcp hx)
   go_wp2_with (first|(go_at_call 120;refine bW hv ?_)|(with_reducible apply bH))
   unfold Stop
   refine aZ acX ((h6.ae p1).alloc (Iq x.value)) rfl rfl rfl (by simp[Value.oneCell']) (by omega) ?_
   intro u7 w7 h7
   obtain⟨Lm,yA,rfl⟩:=h7.aG
   go_wp2_with fail
   go_roundw
   case rel=>
    refine⟨k+1,hlt,by go_num,?_⟩
    have e9:yt ((s.clocks.take (k+1)).map (·.value))=yt ((s.clocks.take k).map (·.value))++ [.int .u32 x.value]:=by rw[hnx];simp[yt]
    rw[e9]
    exact h7.s
   case measure=>simp[intOf]<;>omega
  ·have hke:k=t.bi.length:=by omega
   subst hke
   rw[List.take_of_length_le (by rw[hs.len];exact Nat.le_refl _)]at hw
   go_wp2_with fail
   go_ret
   refine⟨_,rfl,?_⟩
   rw[hs.len]
   exact(lT hp hs (((hw.ae p3).ae p3).ae p3)).ae p1
end
def fV.fired (t:fV) (c:Nat) (x:dS):List Int:=x.aO.map fun p=>((t.fG c).getD p 0:Nat)
section
variable {w0 w:World} {l:List SL} {r:Nat} {t:fV} {s:aJ}
theorem NK {i:Int} (h:In w0 w (je r t s::l)) (hi:i<0∨(t.bi.length:Int)≤i):
 Calls prog 93 #[r,.int .i64 i] w fun e w'=>e= .returned (.tuple #[.slice none 0 0,.int .i64 2])∧w=w':=by
 have hal:=nY h
 obtain⟨B,lV,vr,va,vp,vc,vi,hp,hs,h1⟩:=iM h
 obtain⟨cl,l1,l2,l3,l4⟩:=hp.bi
 obtain⟨Az,oD,rfl⟩:=l3.form
 have hc3:=jJ h1 (k:=3) rfl
 clear h1
 go_enter func93,ntmps93
 by_cases h0:i<0
 ·go_wp2_with (go_at_call 92;refine bW hal ?_)
  go_ret2
  exact⟨rfl,rfl⟩
 ·have h2:(t.bi.length:Int)≤i:=hi.resolve_left h0
  go_wp2_with (go_at_call 92;refine bW hal ?_)
  go_ret2
  exact⟨rfl,rfl⟩
theorem Zg {c:Nat} {x:dS} (h:In w0 w (je r t s::l)) (hx:s.clocks[c]? =some x):
 Calls prog 93 #[r,.int .i64 c] w fun e w'=>∃v,e= .returned (.tuple #[v,.int .i64 0])∧In w0 w' (Ints v (t.fired c x)::je r t (s.dA c x.tick)::l):=by
 have hal:=nY h
 obtain⟨B,lV,vr,va,vp,vc,vi,hp,hs,h1⟩:=iM h
 obtain⟨cl,l1,l2,l3,l4⟩:=hp.bi
 have hcs0:=(List.getElem?_eq_some_iff.1 hx).1
 have hlt:c<t.bi.length:=by rw[←hs.len];exact hcs0
 have hkl:c<cl.length:=by omega
 have hcl:=List.getElem?_eq_getElem hkl
 have hown:=l4 c _ hcl
 obtain⟨g0,o0,cap0,rfl,hcap0,hcell0⟩:=l3.cells (h1.ae p1) (by omega)
 have hcs:∀(j:Nat) (u:Value),(wJ cl[c])[j]? =some u→j<2→w.cell? ⟨g0,o0+(c*2+j),none⟩=some u:=fun j u hu hj=>
  hcell0 _ u ((flat_get (dL (slot:=wJ) (size:=2) (fun _=>rfl) cl) (i:=c) (x:=wJ cl[c]) (by simp[hkl]) j hj).trans hu)
 have hcp:lV[c]? =some cl[c].1:=by rw[←l1,List.getElem?_map,hcl];rfl
 have hexp:∀p∈x.aO,p<(t.fG c).length:=fun p hp'=>by
  have:=wF eX.due x.ag 0 p hp'
  rw[hs.al c x hx]at this
  omega
 have hel:x.aO.length≤x.ag.length:=gU _ _ _
 generalize cl[c]=p at*
 rcases p with⟨cp,va2⟩
 obtain⟨rE,cap2,e2⟩:=hown.form
 simp only at e2 hcp hown
 subst e2
 have hc0:w.cell? ⟨g0,o0+c*2,none⟩=some (.pointer (some ⟨cp,0,none⟩)):=by have:=hcs 0 _ rfl (by decide);simpa[Nat.add_assoc,fJ]using this
 have hc1:w.cell? ⟨g0,o0+c*2+1,none⟩=some (.slice rE (t.fG c).length cap2):=by have:=hcs 1 _ rfl (by decide);simpa[Nat.add_assoc]using this
 clear hcs
 have hc3:=jJ h1 (k:=3) rfl
 have n0:(0:Int)≤(c:Int):=by omega
 have n1:(c:Int)<t.bi.length:=by omega
 have h6:=h1.alloc (.cells #[cp,.slice rE (t.fG c).length cap2] 236)
 clear h h1
 go_enter func93,ntmps93
 go_upto_region 7 with(go_at_call 92;refine bW hal ?_)
 refine In.abs h6 ?_
 clear h6 hc0 hc1 hc3 hal
 generalize w.heap.size=q
 intro w6 h6
 have fc_:=h6.facts
 have afc:=(mY (sH (h6.ae p3) hcp hx)).choose_spec.choose_spec.1.few
 have htk:=YU (sH (h6.ae p3) hcp hx)
 go_wp2_with (go_at_call 237;refine htk.mono ?_;rintro _ w7 ⟨v7,rfl,h7⟩;obtain⟨Lm,yA,rfl⟩:=In.aG (E:=3) (size:=1) (h7.ae p1))
 clear h6 htk
 have h8:In w0 w7 (Row 3 1 (.slice none 0 0) 0 []::Nums (.slice Lm x.aO.length yA) x.aO::pts q (.cells #[cp,.slice rE (t.fG c).length cap2] 236)::bJ B::je r t (s.dA c x.tick)::l):=by
  have hdup:=(h7.ae p5).xO
  have a1:=hdup.pr [2,3,0,0,0,0,0]
  have a2:=xA hcp hx a1
  have a3:=a2.pr [5,1,0,1,1,0]
  have a4:=lT (s:=s.dA c x.tick) hp (hs.set hx (by simp[dS.tick])) a3
  exact(((a4.ae p3).ae p3).ae p3).dh _ _
 clear h7
 go_loopw [7,9,37] (fun u _ i wr=>∃k:Nat,k≤x.aO.length∧i= .int .i64 k∧In w0 wr (Ints u ((x.aO.take k).map fun p=>((t.fG c).getD p 0:Nat))::Nums (.slice Lm x.aO.length yA) x.aO::pts q (.cells #[cp,.slice rE (t.fG c).length cap2] 236)::bJ B::je r t (s.dA c x.tick)::l))
  (fun _ _ i _=>x.aO.length-(intOf i).toNat)
 case atStart=>exact⟨0,Nat.zero_le _,rfl,h8⟩
 case round=>
  obtain⟨k,hk,rfl,hw⟩:=hrel
  clear h8
  by_cases hlt2:k<x.aO.length
  ·have hnx:=List.take_succ_eq_append_getElem hlt2
   have hpl:=hexp _ (List.getElem_mem hlt2)
   have hw':=hw.ae p1
   unfold Nums at hw'
   rcases hw'.aU with⟨_,e,_⟩|⟨g7,aez,ext,e,_⟩
   ·omega
   cases e
   have hcn:wr.cell? ⟨g7,k,none⟩=some (.int .i64 (x.aO[k]:Nat)):=hw'.gI (by
    have:=flat_get (dL (slot:=EE) (size:=1) (fun _=>rfl) x.aO) (i:=k) (x:=EE x.aO[k]) (by simp[hlt2]) 0 (by decide)
    simpa[EE]using this)
   obtain⟨ga,oa,ca,ea,hca,zQ⟩:=hown.cells (hw.ae p3) (by omega)
   cases ea
   generalize h7p:x.aO[k]=p at*
   have aag:wr.cell? ⟨ga,oa+p,none⟩=some (.int .i64 ((t.fG c).getD p 0:Nat)):=zQ p _ (by simp[nums,hpl])
   have n2:(p:Int)<(t.fG c).length:=by omega
   have n3:(k:Int)<x.aO.length:=by omega
   have hw2:=hw
   unfold Ints at hw2
   rw[List.length_map,List.length_take,Nat.min_eq_left hk]at hw2
   obtain⟨ao,cap,rfl⟩:=hw2.aG
   generalize h7m:(t.fG c).getD p 0=m at aag
   have fc_:=hw.facts
   clear hw'
   go_wp2_with (with_reducible apply bH)
   unfold Stop
   refine aZ Es (hw2.alloc (.cells (jf (m:Int)).toArray 3)) rfl rfl rfl (qx _) (by omega) ?_
   intro u9 w9 h9
   obtain⟨Du,rC,rfl⟩:=h9.aG
   go_wp2_with fail
   go_roundw
   case rel=>
    refine⟨k+1,hlt2,by go_num,?_⟩
    unfold Ints
    rw[hnx,List.map_append,List.map_append]
    simp only[List.map_cons,List.map_nil]
    rw[h7m]
    have e1:(List.map (fun p=>(((t.fG c).getD p 0:Nat):Int)) (List.take k x.aO)++ [(m:Int)]).length=k+1:=by
     rw[List.length_append,List.length_map,List.length_take,Nat.min_eq_left hk];rfl
    rw[e1,List.flatten_append]
    simpa using h9
   case measure=>simp[intOf]<;>omega
  ·have hke:k=x.aO.length:=by omega
   subst hke
   rw[List.take_length]at hw
   go_wp2_with fail
   go_ret2
   exact⟨_,rfl,((((((hw.ae p1).drop).ae p1).drop).ae p1).drop)⟩
end
theorem cell_lt {w:World} {b o:Nat} {u:Value} (h:w.cell? ⟨b,o,none⟩=some u):b<w.heap.size:=by
 by_cases hb:b<w.heap.size
 ·exact hb
 ·exfalso
  have:w.heap[b]? =none:=Array.getElem?_eq_none (by omega)
  simp[World.cell?,this]at h
section
variable {w0 w:World} {l:List SL} {r:Nat} {t:fV} {s:aJ}
theorem OE {i:Int} (h:In w0 w (je r t s::l)) (hi:i<0∨(t.ag.length:Int)≤i):
 aW 325 #[r,.int .i64 i] w w0 (.tuple #[.agg #[.int .u32 0,.int .u32 0,.int .u32 0],.int .i64 3]) (je r t s::l):=by
 have h1:=h.alloc wL
 go_enter func325,ntmps325
 go_upto_region 1 with(fail)
 refine In.abs h1 ?_
 clear h1
 generalize w.heap.size=q at*
 intro w2 h1
 have fc_:=h1.facts
 have hof:=wY (h1.ae p1) hi
 have h3:=h1.fill [.int .u32 0,.int .u32 0,.int .u32 0] rfl
 simp only[dm]at h3
 clear hi
 go_wp2_with (go_at_call 121;refine bW hof ?_)
 have hcc:=h3.cells
 refine bodyPost_ret (v:= .tuple #[.agg #[.int .u32 0,.int .u32 0,.int .u32 0],.int .i64 3]) (by simp[results,results325,go_sem,hcc]) rfl ?_
 exact⟨rfl,h3.drop⟩
theorem Y6 {i:Nat} {ar:gq} {x:xm} (h:In w0 w (je r t s::l)) (ha:t.ag[i]? =some ar) (hx:t.bi[t.oZ i]? =some x):
 aW 325 #[r,.int .i64 i] w w0 (.tuple #[.agg #[.int .u32 x.max,.int .u32 x.base,.int .u32 x.min],.int .i64 0]) (je r t s::l):=by
 obtain⟨B,lV,vr,va,vp,vc,vi,hp,hs,h0⟩:=iM h
 have h1:=h0.alloc wL
 have hi:=(List.getElem?_eq_some_iff.1 ha).1
 have hb:=hp.ok.inr ar (List.mem_of_getElem? ha)
 have hxl:=(List.getElem?_eq_some_iff.1 hx).1
 clear h h0
 go_enter func325,ntmps325
 go_upto_region 1 with(fail)
 refine In.abs h1 ?_
 clear h1
 generalize w.heap.size=q at*
 intro w2 h1
 have h2:=h1.pr [1,1,0,0]
 have hof:=GN hp hs ha h2
 generalize t.place i=pl at*
 go_upto_region 4 with(go_at_call 121;refine hof.mono ?_;rintro _ w4 ⟨g,o,cp,rfl,-,-,h4⟩)
 have hB:=h4.ae p1
 obtain⟨ga,oa,ca,rfl,hca,zQ⟩:=hp.ag.cells hB (by omega)
 obtain⟨gr,or,cr,rfl,hcr,XV⟩:=hp.rows.cells hB (by omega)
 have hc0:=jJ h4 (k:=0) rfl
 have hc1:=jJ h4 (k:=1) rfl
 have hA:w4.cell? ⟨ga,oa+i*7,none⟩=some (.int .i64 ar.counter):=
  zQ (i*7+0) _ (flat_get (dL (slot:=dR) (size:=7) (fun _=>rfl) t.ag) (i:=i) (x:=dR ar) (by simp[ha]) 0 (by decide))
 obtain⟨c,hc⟩:∃c:Nat,ar.counter=c:=⟨ar.counter.toNat,by omega⟩
 have XU:t.oZ i=c:=by unfold fV.oZ;rw[ha];simp only [];rw[hc];rfl
 rw[hc]at hA
 rw[XU]at hx hxl
 have hR:∀(j:Nat) (u:Value),(iU x)[j]? =some u→j<3→w4.cell? ⟨gr,or+(c*3+j),none⟩=some u:=fun j u hu hj=>
  XV _ u ((flat_get (dL (slot:=iU) (size:=3) (fun _=>rfl) t.bi) (i:=c) (x:=iU x) (by simp[hx]) j hj).trans hu)
 have hr0:w4.cell? ⟨gr,or+c*3,none⟩=some (.int .u32 x.max):=hR 0 _ rfl (by decide)
 have hr1:w4.cell? ⟨gr,or+c*3+1,none⟩=some (.int .u32 x.base):=by have:=hR 1 _ rfl (by decide);simpa[Nat.add_assoc]using this
 have hr2:w4.cell? ⟨gr,or+c*3+2,none⟩=some (.int .u32 x.min):=by have:=hR 2 _ rfl (by decide);simpa[Nat.add_assoc]using this
 have n1:(i:Int)<t.ag.length:=by omega
 have n2:(c:Int)<t.bi.length:=by omega
 clear hR zQ XV hof ha hx
 have z0:=cell_lt hc0
 have z1:=cell_lt hA
 have z2:=cell_lt hr0
 have hS0:∀b,b<w4.heap.size→∀o,w4.drew.cell? ⟨b,o,none⟩=w4.cell? ⟨b,o,none⟩:=fun _ _ _=>rfl
 refine rgS (fun w'=>∀b,b<w4.heap.size→∀o,w'.cell? ⟨b,o,none⟩=w4.cell? ⟨b,o,none⟩) ⟨[14],[15]⟩ [.c 0 0,.c 0 1,.c 0 2,.c 2 3,.c 0 4,.c 0 5,.c 0 6,.c 2 7,.c 0 8,.c 0 9,.c 0 10,.c 2 11,.c 0 12,.c 2 13,.e 14,.e 15] ?_
 refine cS_ ?_;intro K hK
 go_wp2_with fail
 refine hK _ _ (by intro b hb o;first|rfl|exact DZ hb _ _) ?_
 refine bG rfl rfl fun K hK=>?_
 go_wp2_with fail
 try refine aS ?_
 have h5:=(h4.alloc (Il x.max x.base x.min)).drew
 clear hS0 z0 z1 z2 hr0 hr1 hr2 hA hc0 hc1 hK
 go_upto_region 5 with(fail)
 refine In.abs h5 ?_
 clear h5 h4 h1 h2 hB
 generalize w4.heap.size=q5
 intro w5 h5
 have fc_:=h5.facts
 have h6:=(h5.ae p3).fill [.int .u32 x.max,.int .u32 x.base,.int .u32 x.min] rfl
 simp only[dm]at h6
 go_wp2_with fail
 have hcc:=h6.cells
 refine bodyPost_ret (v:= .tuple #[.agg #[.int .u32 x.max,.int .u32 x.base,.int .u32 x.min],.int .i64 0]) (by simp[results,results325,go_sem,hcc]) rfl ?_
 exact⟨rfl,lT hp hs (h6.s)⟩
end
def aJ.wI (s:aJ) (t:fV) (i:Nat):eX:=match s.clocks[t.oZ i]? with|some x=>x.ag.getD (t.place i) .off|none=> .off
def ji (a:eX):List Value:=[.bool a.set,.int .u32 (if a.set then a.left else 0),.int .u32 (if a.set then a.cycle else 0)]
theorem abw:ig prog 64 125 3 12 (.agg #[.bool false,.int .u32 0,.int .u32 0]):=⟨underlying64,by kernel_rfl,rfl,by decide,by decide⟩
def aJ.looks (s:aJ) (t:fV):List eX:=(List.range t.ag.length).map (s.wI t)
section
variable {w0 w:World} {l:List SL} {r:Nat} {t:fV} {s:aJ}
theorem TT (h:In w0 w (je r t s::l)):
 Calls prog 43 #[r] w fun e w'=>∃v,e= .returned v∧In w0 w' (Row 125 3 v t.ag.length ((s.looks t).map ji).flatten::je r t s::l):=by
 have hal:=nY h
 obtain⟨B,lV,vr,va,vp,vc,vi,hp,hs,h1⟩:=iM h
 obtain⟨yP,lN,rfl⟩:=hp.ag.form
 have hc1:=jJ h1 (k:=1) rfl
 have hfew:=hp.ok.abb
 have h2:=h1.dh 125 3
 clear h h1
 go_enter func43,ntmps43
 go_upto_region 4 with(go_at_call 92;refine bW hal ?_)
 go_loopw [3,4,5,6,7,8,9,10,18] (fun u _ _ _ _ _ _ _ c wr=>∃k:Nat,k≤t.ag.length∧c= .int .i64 k∧In w0 wr (Row 125 3 u k (((List.range k).map (s.wI t)).map ji).flatten::pts r (jg t s.req vr (.slice yP t.ag.length lN) vp vc vi)::bJ B::bQ (List.zipWith lY lV s.clocks)::l))
  (fun _ _ _ _ _ _ _ _ c _=>t.ag.length-(intOf c).toNat)
 case atStart=>exact⟨0,Nat.zero_le _,rfl,h2⟩
 case round=>
  obtain⟨k,hk,rfl,hw⟩:=hrel
  clear h2 hal
  by_cases hlt:k<t.ag.length
  ·have ha:=List.getElem?_eq_getElem hlt
   obtain⟨x,hx,hpl⟩:=hs.at hp.ok ha
   have hxa:=List.getElem?_eq_getElem hpl
   have Ht:s.wI t k=x.ag[t.place k]:=by unfold aJ.wI;rw[hx];simp[hpl]
   obtain⟨cs,hcs⟩:∃cs,(((List.range k).map (s.wI t)).map ji).flatten=cs:=⟨_,rfl⟩
   rw[hcs]at hw
   obtain⟨aoL,capL,rfl⟩:=hw.aG
   have hw2:=hw.pr [1,1,0,0]
   have hof:=GN hp hs ha hw2
   have hcl:∀ {w:World} {cp:Nat} {l:List SL},In w0 w (lY cp x::l)→aW 122 #[cp,.int .i64 (t.place k:Nat)] w w0 (.tuple #[.int .u64 (if(s.wI t k).set then(s.wI t k).left else 0),.int .i64 (if(s.wI t k).set then 0 else 5)]) (lY cp x::l):=
    fun h=>(Rn h hxa).mono fun e w' q=>⟨by rw[q.1,Ht];cases x.ag[t.place k].set<;>rfl,q.2⟩
   have hcy:∀ {w:World} {cp:Nat} {l:List SL},In w0 w (lY cp x::l)→aW 123 #[cp,.int .i64 (t.place k:Nat)] w w0 (.tuple #[.int .u32 (if(s.wI t k).set then(s.wI t k).cycle else 0),.int .i64 (if(s.wI t k).set then 0 else 5)]) (lY cp x::l):=
    fun h=>(VJ h hxa).mono fun e w' q=>⟨by rw[q.1,Ht];cases x.ag[t.place k].set<;>rfl,q.2⟩
   have hbd:∀ {w:World} {cp:Nat} {l:List SL},In w0 w (lY cp x::l)→0≤(if(s.wI t k).set then(s.wI t k).left else 0)∧(if(s.wI t k).set then(s.wI t k).left else 0)≤4294967295:=by
    intro w cp l h
    have hok:=(mY h).choose_spec.choose_spec.1
    have:=hok.al _ (List.getElem_mem hpl)
    have:=hok.le3
    rw[Ht]
    split<;>omega
   have hlook:ji (s.wI t k)=[.bool (s.wI t k).set,.int .u32 (if(s.wI t k).set then(s.wI t k).left else 0),.int .u32 (if(s.wI t k).set then(s.wI t k).cycle else 0)]:=rfl
   have hst:(if(s.wI t k).set=true then(0:Int) else 5)=0↔(s.wI t k).set=true:=by cases (s.wI t k).set<;>simp
   have hnext:(((List.range (k+1)).map (s.wI t)).map ji).flatten=cs++ji (s.wI t k):=by rw[List.range_succ,←hcs];simp
   generalize (if(s.wI t k).set then(s.wI t k).left else 0)=qL at*
   generalize (if(s.wI t k).set then(s.wI t k).cycle else 0)=qC at*
   generalize hqs:(if(s.wI t k).set=true then(0:Int) else 5)=qS at*
   have hdec:(qS==0)=(s.wI t k).set:=by rw[←hqs];cases (s.wI t k).set<;>rfl
   clear hqs Ht hpl hxa hst
   generalize (s.wI t k).set=qB at*
   generalize t.place k=pl at*
   clear hw ha
   go_upto_region 7 with(go_at_call 121;refine hof.mono ?_;rintro _ w6 ⟨g,o,cp,rfl,hcp,hcell,h6⟩)
   have hca:=hcell (h6.ae p1)
   simp only[fJ]at hca
   have h7:=sH (h6.ae p3) hcp hx
   clear hof hw2 h6
   go_upto_region 8 with(go_at_call 122;refine bF (hcl h7) ?_;intro w7 h8)
   have aag:=hcell (h8.ae p3)
   simp only[fJ]at aag
   clear hca h7
   obtain⟨b0,b1⟩:=hbd h8
   go_upto_region 9 with(go_at_call 123;refine bF (hcy h8) ?_;intro w8 h9)
   clear aag h8
   go_wp2_with (with_reducible apply bH)
   unfold Stop
   refine aZ abw ((h9.ae p4).alloc (.cells ([.bool qB,.int .u32 qL,.int .u32 qC]:List Value).toArray 125)) rfl rfl rfl (by simp[Value.oneCell']) (by omega) ?_
   intro u9 w9 h10
   obtain⟨Du,rC,rfl⟩:=h10.aG
   go_wp2_with fail
   go_roundw
   case rel=>
    refine⟨k+1,hlt,by go_num,?_⟩
    rw[hnext,hlook]
    have h11:=h10.pr [1,1,0,0,0]
    exact(MS hcp hx h11).s
   case measure=>simp[intOf]<;>omega
  ·have hke:k=t.ag.length:=by omega
   subst hke
   go_wp2_with fail
   go_ret
   refine⟨_,rfl,?_⟩
   exact(lT hp hs (((hw.ae p3).ae p3).ae p3)).ae p1
end
def Rf (a:Int) (m:Nat):Int:=bits .and .u32 (a/2 ^ m) 1
def aJ.zZ (t:fV) (m i:Nat) (p:aJ × Nat):aJ × Nat:=
 match t.ag[i]?,p.1.clocks[t.oZ i]? with
 |some ar,some x=>if Rf ar.dX m=0 then p else
  if(p.1.wI t i).set then p else if x.kM ar.time ar.cycle then(p.1.dA (t.oZ i) {x with ag:=x.ag.set (t.place i) ⟨true,ar.time,ar.cycle⟩},p.2+1) else p
 |_,_=>p
def aJ.kZ (t:fV) (s:aJ) (m:Nat):Nat→aJ × Nat
 |0=>(s,0)
 |k+1=>aJ.zZ t m k (aJ.kZ t s m k)
theorem aJ.Qj {t:fV} {m i:Nat} {p:aJ × Nat}:(aJ.zZ t m i p).2≤p.2+1:=by
 unfold aJ.zZ
 repeat' split
 all_goals simp
theorem aJ.LP {t:fV} {s:aJ} {m:Nat}:∀k,(aJ.kZ t s m k).2≤k
 |0=>Nat.le_refl _
 |k+1=>Nat.le_trans aJ.Qj (Nat.succ_le_succ (aJ.LP k))
theorem aJ.G5 {s:aJ} {c:Nat} {x:dS} (hx:s.clocks[c]? =some x):s.dA c x=s:=by
 obtain⟨hl,e⟩:=List.getElem?_eq_some_iff.1 hx
 unfold aJ.dA
 rw[←e,List.set_getElem_self]
section
variable {w0 w:World} {l:List SL} {r:Nat} {t:fV} {s:aJ}
theorem QM {m:Nat} (h:In w0 w (je r t s::l)) (hm:(m:Int)<t.modes) (afK:m≤32):
 aW 78 #[r,.int .i64 m] w w0 (.tuple #[.int .i64 (aJ.kZ t s m t.ag.length).2,.int .i64 0]) (je r t (aJ.kZ t s m t.ag.length).1::l):=by
 have hal:=nY h
 obtain⟨B,lV,vr,va,vp,vc,vi,hp,hs,h1⟩:=iM h
 obtain⟨yP,lN,rfl⟩:=hp.ag.form
 have hc1:=jJ h1 (k:=1) rfl
 have hc4:=jJ h1 (k:=4) rfl
 have hfew:=hp.ok.abb
 have n0:(0:Int)≤m:=by omega
 have hstart:∃B lV vr vp vc vi,Be B t lV vr (.slice yP t.ag.length lN) vp vc vi∧(aJ.kZ t s m 0).1.Ok t∧In w0 w (pts r (jg t (aJ.kZ t s m 0).1.req vr (.slice yP t.ag.length lN) vp vc vi)::bJ B::bQ (List.zipWith lY lV (aJ.kZ t s m 0).1.clocks)::l):=⟨_,_,_,_,_,_,hp,hs,h1⟩
 clear h h1 hp
 go_enter func78,ntmps78
 go_upto_region 7 with(go_at_call 92;refine bW hal ?_)
 go_loopw [6,7,8,9,10,31] (fun u _ _ _ _ c wr=>∃k:Nat,k≤t.ag.length∧c= .int .i64 k∧u= .int .i64 (aJ.kZ t s m k).2∧∃B lV vr vp vc vi,Be B t lV vr (.slice yP t.ag.length lN) vp vc vi∧(aJ.kZ t s m k).1.Ok t∧In w0 wr (pts r (jg t (aJ.kZ t s m k).1.req vr (.slice yP t.ag.length lN) vp vc vi)::bJ B::bQ (List.zipWith lY lV (aJ.kZ t s m k).1.clocks)::l))
  (fun _ _ _ _ _ c _=>t.ag.length-(intOf c).toNat)
 case atStart=>exact⟨0,Nat.zero_le _,rfl,rfl,hstart⟩
 case round=>
  obtain⟨k,hk,rfl,rfl,B,lV,vr,vp,vc,vi,hp,hs,hw⟩:=hrel
  clear hstart hal hc1 hc4
  by_cases hlt:k<t.ag.length
  ·have hle:=aJ.LP (t:=t) (s:=s) (m:=m) k
   have hnx:aJ.kZ t s m (k+1)=aJ.zZ t m k (aJ.kZ t s m k):=rfl
   generalize aJ.kZ t s m k=st at*
   rcases st with⟨sk,nk⟩
   simp only at hw hle hs
   have ha:=List.getElem?_eq_getElem hlt
   obtain⟨x,hx,hpl⟩:=hs.at hp.ok ha
   have hxa:=List.getElem?_eq_getElem hpl
   have Ht:sk.wI t k=x.ag[t.place k]:=by unfold aJ.wI;rw[hx];simp[hpl]
   have Ux:=hp.ok.rng _ (List.mem_of_getElem? ha)
   unfold aJ.zZ at hnx
   rw[ha,hx,Ht]at hnx
   simp only at hnx
   obtain⟨ga,oa,ca,ea,hca,zQ⟩:=hp.ag.cells (hw.ae p1) (by omega)
   cases ea
   have hA:∀(j:Nat) (u:Value),(dR t.ag[k])[j]? =some u→j<7→wr.cell? ⟨ga,oa+(k*7+j),none⟩=some u:=fun j u hu hj=>
    zQ _ u ((flat_get (dL (slot:=dR) (size:=7) (fun _=>rfl) t.ag) (i:=k) (x:=dR t.ag[k]) (by simp[hlt]) j hj).trans hu)
   have n1:(k:Int)<t.ag.length:=by omega
   have hw2:=hw.alloc (.cells (dR t.ag[k]).toArray 206)
   generalize t.ag[k]=ar at*
   rcases ar with⟨oZ,⟨ak,at_,am⟩,dX,time,cyc⟩
   simp only[dR,mG,List.cons_append,List.nil_append]at hA hw2
   have ha0:wr.cell? ⟨ga,oa+k*7,none⟩=some (.int .i64 oZ):=hA 0 _ rfl (by decide)
   have ha1:wr.cell? ⟨ga,oa+k*7+1,none⟩=some (.int .i64 ak):=by have:=hA 1 _ rfl (by decide);simpa[Nat.add_assoc]using this
   have ha2:wr.cell? ⟨ga,oa+k*7+2,none⟩=some (.int .i64 at_):=by have:=hA 2 _ rfl (by decide);simpa[Nat.add_assoc]using this
   have ha3:wr.cell? ⟨ga,oa+k*7+3,none⟩=some (.int .u32 am):=by have:=hA 3 _ rfl (by decide);simpa[Nat.add_assoc]using this
   have ha4:wr.cell? ⟨ga,oa+k*7+4,none⟩=some (.int .u32 dX):=by have:=hA 4 _ rfl (by decide);simpa[Nat.add_assoc]using this
   have ha5:wr.cell? ⟨ga,oa+k*7+5,none⟩=some (.int .u32 time):=by have:=hA 5 _ rfl (by decide);simpa[Nat.add_assoc]using this
   have ha6:wr.cell? ⟨ga,oa+k*7+6,none⟩=some (.int .u32 cyc):=by have:=hA 6 _ rfl (by decide);simpa[Nat.add_assoc]using this
   clear hA
   go_upto_region 9 with(fail)
   refine In.abs hw2 ?_
   clear hw2 ha0 ha1 ha2 ha3 ha4 ha5 ha6
   generalize wr.heap.size=q
   intro w9 h9
   have fc_:=h9.facts
   by_cases hb:Rf dX m=0
   ·rw[if_pos hb]at hnx
    unfold Rf at hb
    clear hxa Ht hpl hx Ux
    go_wp2_with fail
    go_roundw
    case rel=>
     refine⟨k+1,hlt,by go_num,by rw[hnx],?_⟩
     rw[hnx]
     exact⟨_,_,_,_,_,_,hp,hs,h9.drop⟩
    case measure=>simp[intOf]<;>omega
   ·rw[if_neg hb]at hnx
    unfold Rf at hb
    have hset:∀ {w:World} {cp:Nat} {l:List SL},In w0 w (lY cp x::l)→Calls prog 210 #[cp,.int .i64 (t.place k:Nat),.int .u32 time,.int .u32 cyc] w fun e w'=>
     e= .returned (.int .i64 (if x.ag[t.place k].set then 7 else if x.kM time cyc then 0 else 8))∧In w0 w' (lY cp (if x.ag[t.place k].set|| !x.kM time cyc then x else {x with ag:=x.ag.set (t.place k) ⟨true,time,cyc⟩})::l):=
     fun h=>abW h hxa Ux.2.2.1 Ux.2.2.2.1 Ux.2.2.2.2.1
    have hst2:aJ.kZ t s m (k+1)=(sk.dA (t.oZ k) (if x.ag[t.place k].set|| !x.kM time cyc then x else {x with ag:=x.ag.set (t.place k) ⟨true,time,cyc⟩}),nk+(if(if x.ag[t.place k].set then(7:Int) else if x.kM time cyc then 0 else 8)=0 then 1 else 0)):=by
     rw[hnx]
     have hsame:=aJ.G5 hx
     cases x.ag[t.place k].set<;>cases x.kM time cyc<;>simp[hsame]
    have hyl:(if x.ag[t.place k].set|| !x.kM time cyc then x else {x with ag:=x.ag.set (t.place k) ⟨true,time,cyc⟩}:dS).ag.length=x.ag.length:=by split<;>simp
    generalize (if x.ag[t.place k].set|| !x.kM time cyc then x else {x with ag:=x.ag.set (t.place k) ⟨true,time,cyc⟩}:dS)=y at*
    generalize (if x.ag[t.place k].set then(7:Int) else if x.kM time cyc then 0 else 8)=qv at*
    have h9b:=h9.pr [1,1,0,0]
    have hof:=GN hp hs ha h9b
    clear hxa Ht hnx hpl hw h9 Ux ha
    generalize t.place k=pl at*
    go_upto_region 11 with(go_at_call 121;refine hof.mono ?_;rintro _ w10 ⟨g,o,cp,rfl,hcp,hcell,h10⟩)
    clear hof h9b hb
    have fc_:=h10.facts
    have aaL:=hcell (h10.ae p1)
    simp only[fJ]at aaL
    have h11:=sH (h10.ae p3) hcp hx
    refine rg ⟨[],[9]⟩ [.c 0 0,.c 0 1,.c 0 2,.c 1 3,.c 0 4,.c 0 5,.c 1 6,.c 0 7,.c 1 8,.e 9,.c 0 10] ?_
    refine rG ?_;intro K hK
    go_wp2_with (go_at_call 210;refine bF (hset h11.drew) ?_;intro w11 h12)
    go_wp2_with fail
    refine lK ?_
    have hfin:(aJ.kZ t s m (k+1)).1.Ok t∧In w0 w11 (pts r (jg t (aJ.kZ t s m (k+1)).1.req vr (.slice (some ⟨ga,oa,none⟩) t.ag.length lN) vp vc vi)::bJ B::bQ (List.zipWith lY lV (aJ.kZ t s m (k+1)).1.clocks)::l):=by
     rw[hst2]
     refine⟨hs.set hx hyl,?_⟩
     have h13:=xA hcp hx h12
     have lM:=h13.pr [1,1,0] 1
     exact lM
    clear h12 h11 h10 hset hcell aaL hx hs
    by_cases hq:qv=0
    ·subst hq
     go_wp2_with fail
     go_roundw
     case rel=>
      refine⟨k+1,hlt,by go_num,by rw[hst2];simp,_,_,_,_,_,_,hp,hfin.1,hfin.2⟩
     case measure=>simp[intOf]<;>omega
    ·have hqb:(qv==0)=false:=by simp[hq]
     rw[if_neg hq]at hst2
     go_wp2_with fail
     go_roundw
     case rel=>
      refine⟨k+1,hlt,by go_num,by rw[hst2];simp,_,_,_,_,_,_,hp,hfin.1,hfin.2⟩
     case measure=>simp[intOf]<;>omega
  ·have hke:k=t.ag.length:=by omega
   subst hke
   go_wp2_with fail
   go_ret2
   exact⟨rfl,lT hp hs hw⟩
end
section
variable {P:Program} {ops:Array Oper} {rest:List Oper} {dst:Option Tmp} {ty:TypeId} {pos:String} {after:Array Edge} {a:Act} {Q:Exit→Act→World→Prop}
variable {w0 w:World} {l:List SL} {t E:TypeId} {size bytes:Nat} {z:Value} {cs:List Value}
theorem Eg {T:TypeId} (hT:ig P t E size bytes z) {x:Operand} {g off m c:Nat}
 (h:In w0 w (pts g (.cells cs.toArray T (0,0))::l)) (hx:a.eval x= .slice (some ⟨g,off,none⟩) m c) (hpos:0<m) (hoff:off+m*size≤cs.length)
 (hone:∀u∈zeros z m,u.oneCell'=true)
 (k:∀w',In w0 w' (pts g (.cells (cs.take off++zeros z m++cs.drop (off+m*size)).toArray T (0,0))::l)→wpList P ops Q rest (a.put dst (.tuple #[])) w'):
 wpList P ops Q (⟨dst,.call {callee:= .builtin .clear,args:=#[x],argTypes:=#[t]},ty,pos,after,none⟩::rest) a w:=by
 obtain⟨i,hi,hz,hsz,hby⟩:=info_parts hT.info
 refine wpList_plain rfl fun K hK=>?_
 have hzl:(zeros z m).length=m*size:=by rw[zeros_length,hT.zs]
 have hst:=run_storeCells_at P g off T (zeros z m) 0 cs.toArray w h.block (by simp;omega) hone
 simp only[Nat.add_zero]at hst
 have h6:=h.turn (w':=w.setRow g (cs.take off++zeros z m++cs.drop (off+(zeros z m).length)).toArray) ⟨rfl,rfl,rfl,by simp⟩
  (setRow_heap w g _ _ T _ h.block) (fun k _ hk=>setRow_other w g k _ hk)
 have hzc:(Builtin.zeroCells z.cells m).toList=zeros z m:=rfl
 have hr:(Builtin.clear_ #[t] ty #[.slice (some ⟨g,off,none⟩) m c]).run P w= .ok (.tuple #[]) (w.setRow g (cs.take off++zeros z m++cs.drop (off+(zeros z m).length)).toArray):=by
  obtain⟨m',rfl⟩:∃m',m=m'+1:=⟨m-1,by omega⟩
  simp[Builtin.clear_,run_underlying hT.und,zeroValue,typeInfo,hi,hz,hzc,hst]
 unfold Oper.wp execOp
 simp only[resolve,invoke,builtin,Sem.run_bind,Sem.run_pure,Result.andThen_ok,List.map_toArray,List.map_cons,List.map_nil,hx,hr,Oper.upon]
 rw[hzl]at h6⊢
 exact hK _ _ (k _ h6)
end
def aJ.J9 (t:fV) (i:Nat) (s:aJ):aJ:=
 match s.clocks[t.oZ i]? with
 |some x=>s.dA (t.oZ i) {x with ag:=x.ag.set (t.place i) (s.wI t i).cancel}
 |none=>s
def aJ.BQ (t:fV) (s:aJ):Nat→aJ
 |0=>s
 |k+1=>aJ.J9 t k (aJ.BQ t s k)
def aJ.calm (t:fV) (s:aJ):aJ:={aJ.BQ t s t.ag.length with req:=List.replicate 32 false}
theorem abA:ig prog 133 4 1 1 (.bool false):=⟨underlying133,by kernel_rfl,rfl,by decide,by decide⟩
section
variable {w0 w:World} {l:List SL} {r:Nat} {t:fV} {s:aJ}
theorem Rq (h:In w0 w (je r t s::l)):
 aW 308 #[r] w w0 (.int .i64 0) (je r t (s.calm t)::l):=by
 have hal:=nY h
 obtain⟨B,lV,vr,va,vp,vc,vi,hp,hs,h1⟩:=iM h
 obtain⟨yP,lN,rfl⟩:=hp.ag.form
 have hc1:=jJ h1 (k:=1) rfl
 have hfew:=hp.ok.abb
 have hok:=hp.ok
 have hstart:In w0 w (je r t (aJ.BQ t s 0)::l):=h
 clear h h1 hp
 go_enter func308,ntmps308
 go_upto_region 4 with(go_at_call 92;refine bW hal ?_)
 go_loopw [3,12] (fun _ c wr=>∃k:Nat,k≤t.ag.length∧c= .int .i64 k∧In w0 wr (je r t (aJ.BQ t s k)::l))
  (fun _ c _=>t.ag.length-(intOf c).toNat)
 case atStart=>exact⟨0,Nat.zero_le _,rfl,hstart⟩
 case round=>
  obtain⟨k,hk,rfl,hw⟩:=hrel
  clear hstart hal hc1
  by_cases hlt:k<t.ag.length
  ·have hnx:aJ.BQ t s (k+1)=aJ.J9 t k (aJ.BQ t s k):=rfl
   generalize aJ.BQ t s k=sk at*
   obtain⟨B,lV,vr,va,vp,vc,vi,hp,hsk,h1⟩:=iM hw
   clear h1
   have ha:=List.getElem?_eq_getElem hlt
   obtain⟨x,hx,hpl⟩:=hsk.at hp.ok ha
   have hxa:=List.getElem?_eq_getElem hpl
   have Ht:sk.wI t k=x.ag[t.place k]:=by unfold aJ.wI;rw[hx];simp[hpl]
   have hcn:=I7 hw ha hx hxa
   unfold aJ.J9 at hnx
   rw[hx,Ht]at hnx
   simp only at hnx
   rw[←hnx]at hcn
   generalize (if x.ag[t.place k].set then(0:Int) else 5)=qv at*
   have n1:(k:Int)<t.ag.length:=by omega
   clear hxa Ht hpl hx ha hw hnx
   go_wp2_with (go_at_call 329;refine bF hcn ?_;intro w11 h12)
   go_roundw
   case rel=>exact⟨k+1,hlt,by go_num,h12⟩
   case measure=>simp[intOf]<;>omega
  ·have hke:k=t.ag.length:=by omega
   subst hke
   obtain⟨B,lV,vr,va0,vp,vc,vi,hp,hsk,h1⟩:=iM hw
   go_wp2_with (with_reducible apply uS)
   unfold Stop
   unfold jg at h1
   refine Eg abA h1 rfl (by decide) (by simp[hsk.req]) (uI (by decide) (by simp[Value.cells,Value.oneCell'])) ?_
   intro w9 h9
   go_wp2_with fail
   go_ret
   refine⟨rfl,lT (s:=s.calm t) hp ⟨hsk.len,by simp[aJ.calm],hsk.al⟩ ?_⟩
   have hz:zeros (.bool false) 32=(List.replicate 32 false).map (fun b=>Value.bool b):=by rw[kP _ _ (by decide)];rfl
   rw[hz]at h9
   have e1:List.take 6 ([vr,va0,vp,vc,Value.int IntKind.i64 t.modes,vi]++List.map (fun b=>Value.bool b) (aJ.BQ t s t.ag.length).req++ [Value.bool true])=[vr,va0,vp,vc,Value.int IntKind.i64 t.modes,vi]:=rfl
   have e2:List.drop (6+32*1) ([vr,va0,vp,vc,Value.int IntKind.i64 t.modes,vi]++List.map (fun b=>Value.bool b) (aJ.BQ t s t.ag.length).req++ [Value.bool true])=[Value.bool true]:=by
    rw[List.drop_append,List.drop_of_length_le (by simp[hsk.req])]
    simp[hsk.req]
   rw[e1,e2]at h9
   exact h9
end
end Go.Proofs.YtajgpcnlehinbaaGreat
