/- Part of a proof. -/
import Derived.ChangeKeysEq
import Derived.Test.YtajgpcnlehinbaaGreatA06
import Derived.Test.YtajgpcnlehinbaaGreatA09
import Derived.Test.YtajgpcnlehinbaaGreatA12
namespace Go.Proofs.YtajgpcnlehinbaaGreat
open Tryz Go.RowKit
set_option maxRecDepth 100000
set_option maxHeartbeats 60000000
set_option linter.all false
def dJ (o:bK):Value:= .agg #[.bool o.isr,.int .i64 o.id]
def gZ (i:Int):Value:= .int .i64 i
theorem nG:yu prog 3 gZ:=yu.of_int underlying3
theorem S9 (e:Bool) (a:bK) (w:World):(Instr.checkKey e 10000 116 (dJ a)).run prog w= .ok () w:=by
 kernel_rfl
theorem VZ (a b:bK) (w:World):(Op.equal 116 (dJ a) (dJ b)).run prog w= .ok (decide (b=a)) w:=by
 unfold Op.equal Op.maxDepth dJ
 rw[show(10000:Nat)=9999+1 from rfl,run_equalIn_struct (P:=prog) (d:=9999) (t:=116) (ht:=by kernel_rfl) (hp:=by kernel_rfl)]
 have e:(prog.fieldsOf 116).toList=[⟨ "Isr",4,0,false,"","",0⟩,⟨ "ID",3,1,false,"","",8⟩]:=by kernel_rfl
 rw[e]
 simp[Op.eqFields,part,go_sem]
 rcases a with⟨a,i⟩
 rcases b with⟨b,j⟩
 simp only[bK.mk.injEq]
 by_cases h1:a=b<;>by_cases h2:i=j<;>simp[h1,h2]
 ·exact fun e=>absurd e.symm h2
 ·exact fun e=>absurd e.symm h1
 ·exact fun e=>absurd e.symm h1
theorem CG:yu prog 116 dJ:=
 yu.acU underlying116 S9 (fun a=>⟨_,rfl⟩) VZ (fun a=>by simp[dJ,Instr.sameBits])
def ints (l:List Int):List Value:=l.map fun i=> .int .i64 i
def bools (l:List Bool):List Value:=l.map fun b=> .bool b
def Kz (x:mD × Value):Value:= .agg #[.int .i64 x.1.aI,x.2,.int .i64 x.1.internal,.int .i64 x.1.category]
def fJ (c:Nat):Value:= .pointer (some ⟨c,0,none⟩)
def mM (b:Bool):Value:= .bool b
structure uF (B:List (Nat × Obj)) (tab:kR) (m:Nat) (vi vc:Value):Prop where
 rows:∃g:bK→Option (mD × Value),IsMap B m dJ Kz g∧(∀o,(g o).map (·.1)=tab.rows o)∧∀o x v,g o=some (x,v)→dQ B v x.own.length (ints x.own)
 int:dQ B vi tab.internal.length (bools tab.internal)
 ceil:dQ B vc tab.fE.length (ints tab.fE)
 same:tab.internal.length=tab.fE.length
 nodup:tab.dom.Nodup
 dom:∀o,tab.rows o≠none→o∈tab.dom
def dZ (m:Nat) (vi vc:Value) (bh bo be:Nat):Obj:=
 .cells #[.map (some m),vi,vc,.map (some bh),.map (some bo),.map (some be),.bool false,.int .i64 0,.int .i64 0] 365 (0,0)
def iO (tab:kR) (s:di) (f:bK→Option Nat) (o:bK):SL:=
 match f o with|some c=>jo c ⟨tab.depth o,s.held o⟩|none=>emp
def gB (s:di):Int→Option Bool:=fun t=>if s.entered t then some true else none
def lW (r:Nat) (tab:kR) (s:di):SL:=
 ex fun B=>ex fun m=>ex fun vi=>ex fun vc=>ex fun bh=>ex fun bo=>ex fun be=>ex fun f:bK→Option Nat=>
  bQ [AQ (uF B tab m vi vc∧∀o,f o=none→s.held o= []),pts r (dZ m vi vc bh bo be),bJ B,fC bh dJ fJ f,bQ (tab.dom.map (iO tab s f)),fC bo gZ dJ s.holder,fC be gZ mM (gB s)]
section
variable {w0 w:World} {l:List SL} {r:Nat} {tab:kR} {s:di}
theorem pz (h:In w0 w (lW r tab s::l)):∃B m vi vc bh bo be,∃f:bK→Option Nat,uF B tab m vi vc∧(∀o,f o=none→s.held o= [])∧
 In w0 w (pts r (dZ m vi vc bh bo be)::bJ B::fC bh dJ fJ f::bQ (tab.dom.map (iO tab s f))::fC bo gZ dJ s.holder::fC be gZ mM (gB s)::l):=by
 obtain⟨B,h⟩:=In.aY.1 h
 obtain⟨m,h⟩:=In.aY.1 h
 obtain⟨vi,h⟩:=In.aY.1 h
 obtain⟨vc,h⟩:=In.aY.1 h
 obtain⟨bh,h⟩:=In.aY.1 h
 obtain⟨bo,h⟩:=In.aY.1 h
 obtain⟨be,h⟩:=In.aY.1 h
 obtain⟨f,h⟩:=In.aY.1 h
 obtain⟨⟨p1,p2⟩,h⟩:=In.dw.1 (In.bn.1 h)
 exact⟨B,m,vi,vc,bh,bo,be,f,p1,p2,h⟩
theorem qK {B m vi vc bh bo be} {f:bK→Option Nat} (h1:uF B tab m vi vc) (h2:∀o,f o=none→s.held o= [])
 (h:In w0 w (pts r (dZ m vi vc bh bo be)::bJ B::fC bh dJ fJ f::bQ (tab.dom.map (iO tab s f))::fC bo gZ dJ s.holder::fC be gZ mM (gB s)::l)):In w0 w (lW r tab s::l):=
 In.aY.2 ⟨B,In.aY.2 ⟨m,In.aY.2 ⟨vi,In.aY.2 ⟨vc,In.aY.2 ⟨bh,In.aY.2 ⟨bo,In.aY.2 ⟨be,In.aY.2 ⟨f,In.bn.2 (In.dw.2 ⟨⟨h1,h2⟩,h⟩)⟩⟩⟩⟩⟩⟩⟩⟩
theorem G8 (w:World):(zeroValue 4).run prog w= .ok (.bool false) w:=by kernel_rfl
theorem QZ (w:World):(zeroValue 358).run prog w= .ok (.agg #[.int .i64 0,.slice none 0 0,.int .i64 0,.int .i64 0]) w:=by kernel_rfl
theorem Uo (w:World):(zeroValue 116).run prog w= .ok (.agg #[.bool false,.int .i64 0]) w:=by kernel_rfl
theorem ww (w:World):(zeroValue 219).run prog w= .ok (.pointer none) w:=by kernel_rfl
theorem UY (m:Nat) (w:World):(binOp .neq 360 (.map (some m)) (.map none)).run prog w= .ok (.bool true) w:=by kernel_rfl
theorem yx (t:Int):ut (gB s t) mM (.bool false) false= .bool (s.entered t):=by
 unfold gB
 cases s.entered t<;>rfl
theorem xM (h:In w0 w (lW r tab s::l)):
 Calls prog 254 #[r] w fun e w'=>e= .returned (.bool true)∧w=w':=by
 obtain⟨B,m,vi,vc,bh,bo,be,f,hp,hf,h1⟩:=pz h
 have fc_:=h1.facts
 have hne:=UY m
 go_enter func254,ntmps254
 go_wp2_with fail
 go_ret
 exact⟨rfl,rfl⟩
theorem acg (h:In w0 w (lW r tab s::l)) (t:Int):
 Calls prog 116 #[r,.int .i64 t] w fun e w'=>e= .returned (.bool (s.entered t))∧w=w':=by
 have hm:=xM h
 obtain⟨B,m,vi,vc,bh,bo,be,f,hp,hf,h1⟩:=pz h
 have hl:=fU nG underlying363 G8 (h1.ae p5) t false
 simp only[gZ]at hl
 rw[yx]at hl
 have fc_:=h1.facts
 go_enter func116,ntmps116
 go_wp2_with (go_at_call 254;refine bW hm ?_)
 go_ret
 exact⟨rfl,rfl⟩
theorem JH (t:Int) (x:Bool):gB {s with entered:=iE s.entered t x}=upd (gB s) t (if x then some true else none):=by
 funext c
 unfold gB iE upd
 simp only
 by_cases h:c=t<;>simp[h]
theorem uF.look {B:List (Nat × Obj)} {m:Nat} {vi vc:Value} (hp:uF B tab m vi vc) (o:bK):
 ∃x:Option mD,∃u:Value,tab.rows o=x∧(∀ {v0 w:World} {l:List SL},In v0 w (bJ B::l)→∀c,(Instr.lookup 360 (.map (some m)) (dJ o) c).run prog w= .ok (if c then .tuple #[u,.bool x.isSome] else u) w)∧
  ((x=none∧u= .agg #[.int .i64 0,.slice none 0 0,.int .i64 0,.int .i64 0])∨∃y v,x=some y∧u=Kz (y,v)∧dQ B v y.own.length (ints y.own)):=by
 obtain⟨g,h1,h2,h3⟩:=hp.rows
 have h4:=h2 o
 cases hg:g o with
 |none=>
  rw[hg]at h4
  refine⟨none,_,h4.symm,fun hB c=>?_,.inl ⟨rfl,rfl⟩⟩
  have hl:=h1.lookup hB CG underlying360 QZ o c
  rw[hg]at hl
  exact hl
 |some xv=>
  obtain⟨x,v⟩:=xv
  rw[hg]at h4
  refine⟨some x,_,h4.symm,fun hB c=>?_,.inr ⟨x,v,rfl,rfl,h3 o x v hg⟩⟩
  have hl:=h1.lookup hB CG underlying360 QZ o c
  rw[hg]at hl
  exact hl
theorem Oc {t:Int} {x:mD} (h:In w0 w (lW r tab s::l)) (hx:tab.rows ⟨false,t⟩=some x) (b:Bool):
 aW 395 #[r,.int .i64 t,.bool b] w w0 (.int .i64 0) (lW r tab {s with entered:=iE s.entered t (b&&decide (0≤x.internal))}::l):=by
 have hm:=xM h
 obtain⟨B,m,vi,vc,bh,bo,be,f,hp,hf,h1⟩:=pz h
 obtain⟨x',u,e,hl,⟨rfl,_⟩|⟨y,v,rfl,rfl,hv⟩⟩:=hp.look ⟨false,t⟩
 ·rw[hx]at e;cases e
 ·rw[hx]at e
  cases e
  obtain⟨ao,cap,rfl⟩:=hv.form
  have hl1:=hl (h1.ae p1) true
  simp only[Option.isSome_some]at hl1
  simp only[if_true,dJ,Kz]at hl1
  have h2:=h1.alloc (DR x.aI (.slice ao x.own.length cap) x.internal x.category)
  have fc_:=h1.facts
  clear hl
  go_enter func395,ntmps395
  go_upto_region 4 with(go_at_call 254;refine bW hm ?_)
  refine In.abs h2 ?_
  clear h2 h1 h hm hl1
  generalize w.heap.size=z
  intro w2 h2
  have fc_:=h2.facts
  have fin:∀ {wx:World} (y:Bool),In w0 wx (fC be gZ mM (upd (gB s) t (if y then some true else none))::pts z (DR x.aI (.slice ao x.own.length cap) x.internal x.category)::pts r (dZ m vi vc bh bo be)::bJ B::fC bh dJ fJ f::bQ (tab.dom.map (iO tab s f))::fC bo gZ dJ s.holder::l)→
   In w0 wx (lW r tab {s with entered:=iE s.entered t y}::l):=fun y h=>by
   rw[←JH]at h
   have h3:=(h.ae p1).drop
   exact qK hp hf ((((((h3.ae p5).ae p5).ae p5).ae p5).ae p5))
  by_cases hb:b=true
  ·subst hb
   by_cases hi:0≤x.internal
   ·go_wp2_with (with_reducible apply Md)
    unfold Stop
    refine o6 nG underlying363 (h2.ae p6) t true (by rfl) (by rfl) (by rfl) ?_
    intro w3 h3
    go_wp2_with fail
    go_ret
    have e9:(true&&decide (0≤x.internal))=true:=by simp[hi]
    refine⟨rfl,?_⟩
    rw[e9]
    exact fin true h3
   ·go_wp2_with (with_reducible apply vY)
    unfold Stop
    refine oW nG underlying363 (h2.ae p6) t (by rfl) (by rfl) ?_
    intro w3 h3
    go_wp2_with fail
    go_ret
    have e9:(true&&decide (0≤x.internal))=false:=by simp[hi]
    refine⟨rfl,?_⟩
    rw[e9]
    exact fin false h3
  ·have hb':b=false:=by simpa using hb
   subst hb'
   go_wp2_with (with_reducible apply vY)
   unfold Stop
   refine oW nG underlying363 (h2.ae p6) t (by rfl) (by rfl) ?_
   intro w3 h3
   go_wp2_with fail
   go_ret
   exact⟨rfl,fin false h3⟩
theorem BP {t:Int} {x:mD} (h:In w0 w (lW r tab s::l)) (hx:tab.rows ⟨false,t⟩=some x):
 aW 405 #[r,.int .i64 t] w w0 (.int .i64 0) (lW r tab {s with entered:=iE s.entered t (decide (0≤x.internal))}::l):=by
 have he:=Oc h hx true
 rw[Bool.true_and]at he
 clear hx
 go_enter func405,ntmps405
 go_wp2_with (go_at_call 395;refine bF he ?_;intro w2 h2)
 go_ret
 exact⟨rfl,h2⟩
theorem VR {t:Int} {x:mD} (h:In w0 w (lW r tab s::l)) (hx:tab.rows ⟨false,t⟩=some x):
 aW 343 #[r,.int .i64 t] w w0 (.int .i64 0) (lW r tab {s with entered:=iE s.entered t false}::l):=by
 have he:=Oc h hx false
 rw[Bool.false_and]at he
 clear hx
 go_enter func343,ntmps343
 go_wp2_with (go_at_call 395;refine bF he ?_;intro w2 h2)
 go_ret
 exact⟨rfl,h2⟩
end
section
variable {w0 w:World} {l:List SL} {r:Nat} {tab:kR} {s:di}
theorem Ci {o:bK} {i:Int} (h:In w0 w (lW r tab s::l)):
 aW 413 #[r,dJ o,.int .i64 i] w w0 (.bool (tab.known o i)) (lW r tab s::l):=by
 have h1:=h.alloc (mi o.isr o.id)
 rcases o with⟨oi,od⟩
 generalize hkn:tab.known ⟨oi,od⟩ i=kn
 unfold dJ
 go_enter func413,ntmps413
 go_upto_region 1 with(fail)
 refine In.abs h1 ?_
 clear h1 h
 generalize w.heap.size=z
 intro w2 h2
 have hm:=xM (h2.ae p1)
 obtain⟨B,m,vi,vc,bh,bo,be,f,hp,hf,h3⟩:=pz (h2.ae p1)
 have fc_:=h3.facts
 go_upto_region 3 with(go_at_call 254;refine bW hm ?_)
 obtain⟨x,u,e,hl,hu⟩:=hp.look ⟨oi,od⟩
 have hLk:∀w',In w0 w' [pts z (mi oi od),pts r (dZ m vi vc bh bo be),bJ B]→(Instr.lookup 360 (.map (some m)) (.agg #[.bool oi,.int .i64 od]) true).run prog w'= .ok (.tuple #[u,.bool x.isSome]) w':=
  fun w' hw=>hl (hw.ae p2) true
 have hcs:∃(a:Int) (ao:Option Addr) (n cap:Nat) (b c:Int),u= .agg #[.int .i64 a,.slice ao n cap,.int .i64 b,.int .i64 c]:=by
  rcases hu with⟨_,rfl⟩|⟨y,v,_,rfl,hv⟩
  ·exact⟨_,_,_,_,_,_,rfl⟩
  ·obtain⟨ao,cap,rfl⟩:=hv.form
   exact⟨_,_,_,_,_,_,rfl⟩
 obtain⟨c0,ao,n,cap,c2,c3,rfl⟩:=hcs
 clear h2
 have hS0:=(h3.drew).ps [6,0,0]
 refine nK hS0 ⟨[9],[10]⟩ [.c 0 0,.c 0 1,.c 0 2,.c 2 3,.c 2 4,.c 2 5,.c 0 6,.c 0 7,.c 0 8,.e 9,.e 10,.c 0 11] ?_
 refine nD ?_;intro K hK
 go_wp2_with fail
 refine df hK ((hS0.alloc _).drop) fun hS0=>?_
 refine bG rfl rfl fun K hK=>?_
 go_wp2_with fail
 refine wM ?_
 go_upto_region 4 with(fail)
 have h5:=(h3.alloc (DR c0 (.slice ao n cap) c2 c3)).drew
 refine In.abs h5 ?_
 clear h5 h3 hLk hl hm
 intro w3 h5
 have fin:In w0 w3 (lW r tab s::l):=((qK hp hf h5.drop).ae p1).drop
 have hB:=h5.ae p2
 obtain⟨Az,oD,rfl⟩:=hp.ceil.form
 obtain⟨EN,ry,rfl⟩:=hp.int.form
 have hsame:=hp.same
 have fc_:=h5.facts
 have hk:(x.isSome&&decide (0≤i∧i<tab.fE.length)&& !(tab.internal.getD i.toNat true))=kn:=by rw[←e];exact hkn
 clear hkn e
 cases x with
 |none=>
  have hk':kn=false:=by rw[←hk];rfl
  subst hk'
  go_wp2_with fail
  go_ret
  exact⟨rfl,fin⟩
 |some y=>
  by_cases hi:0≤i
  ·by_cases hj:i<tab.fE.length
   ·obtain⟨k,rfl⟩:∃k:Nat,i=k:=⟨i.toNat,by omega⟩
    have hkl:k<tab.internal.length:=by omega
    obtain⟨g,o,cap2,eq,hcap,hcell⟩:=hp.int.cells hB (by omega)
    cases eq
    have hcb:w3.cell? ⟨g,o+k,none⟩=some (.bool tab.internal[k]):=hcell k _ (by simp[bools,hkl])
    have hgd:tab.internal.getD k true=tab.internal[k]:=by simp[hkl]
    have hk':kn= !tab.internal[k]:=by rw[←hk,Int.toNat_natCast,hgd];simp[hj]
    generalize tab.internal[k]=b at*
    subst hk'
    have n1:(k:Int)<tab.internal.length:=by omega
    go_wp2_with fail
    go_ret
    exact⟨rfl,fin⟩
   ·have hk':kn=false:=by rw[←hk];simp[hj]
    subst hk'
    go_wp2_with fail
    go_ret
    exact⟨rfl,fin⟩
  ·have hk':kn=false:=by rw[←hk];simp[hi]
   subst hk'
   go_wp2_with fail
   go_ret
   exact⟨rfl,fin⟩
def TU (r:Nat) (tab:kR) (s:di) (o:bK) (c:Nat):SL:=
 ex fun B=>ex fun m=>ex fun vi=>ex fun vc=>ex fun bh=>ex fun bo=>ex fun be=>ex fun f:bK→Option Nat=>
  bQ [AQ (uF B tab m vi vc∧(∀o,f o=none→s.held o= [])∧f o=some c∧o∈tab.dom),pts r (dZ m vi vc bh bo be),bJ B,fC bh dJ fJ f,bQ ((tab.dom.erase o).map (iO tab s f)),fC bo gZ dJ s.holder,fC be gZ mM (gB s)]
theorem En {o:bK} {c:Nat} (h:In w0 w (TU r tab s o c::l)):∃B m vi vc bh bo be,∃f:bK→Option Nat,uF B tab m vi vc∧(∀o,f o=none→s.held o= [])∧f o=some c∧o∈tab.dom∧
 In w0 w (pts r (dZ m vi vc bh bo be)::bJ B::fC bh dJ fJ f::bQ ((tab.dom.erase o).map (iO tab s f))::fC bo gZ dJ s.holder::fC be gZ mM (gB s)::l):=by
 obtain⟨B,h⟩:=In.aY.1 h
 obtain⟨m,h⟩:=In.aY.1 h
 obtain⟨vi,h⟩:=In.aY.1 h
 obtain⟨vc,h⟩:=In.aY.1 h
 obtain⟨bh,h⟩:=In.aY.1 h
 obtain⟨bo,h⟩:=In.aY.1 h
 obtain⟨be,h⟩:=In.aY.1 h
 obtain⟨f,h⟩:=In.aY.1 h
 obtain⟨⟨p1,p2,p3,p4⟩,h⟩:=In.dw.1 (In.bn.1 h)
 exact⟨B,m,vi,vc,bh,bo,be,f,p1,p2,p3,p4,h⟩
theorem uP {o:bK} {c:Nat} {B m vi vc bh bo be} {f:bK→Option Nat} (h1:uF B tab m vi vc) (h2:∀o,f o=none→s.held o= []) (h3:f o=some c) (h4:o∈tab.dom)
 (h:In w0 w (pts r (dZ m vi vc bh bo be)::bJ B::fC bh dJ fJ f::bQ ((tab.dom.erase o).map (iO tab s f))::fC bo gZ dJ s.holder::fC be gZ mM (gB s)::l)):In w0 w (TU r tab s o c::l):=
 In.aY.2 ⟨B,In.aY.2 ⟨m,In.aY.2 ⟨vi,In.aY.2 ⟨vc,In.aY.2 ⟨bh,In.aY.2 ⟨bo,In.aY.2 ⟨be,In.aY.2 ⟨f,In.bn.2 (In.dw.2 ⟨⟨h1,h2,h3,h4⟩,h⟩)⟩⟩⟩⟩⟩⟩⟩⟩
theorem DU {o:bK} {c:Nat} {L:List Int} (h:In w0 w (jo c ⟨tab.depth o,L⟩::TU r tab s o c::l)):In w0 w (lW r tab {s with held:=iE s.held o L}::l):=by
 obtain⟨B,m,vi,vc,bh,bo,be,f,a1,a2,a3,a4,h1⟩:=En (h.ae p1)
 have h2:=(h1.ae p6).ae p4
 have h3:In w0 w (iO tab {s with held:=iE s.held o L} f o::bQ ((tab.dom.erase o).map (iO tab s f))::pts r (dZ m vi vc bh bo be)::bJ B::fC bh dJ fJ f::fC bo gZ dJ s.holder::fC be gZ mM (gB s)::l):=by
  unfold iO
  rw[a3]
  simp only[iE,if_true]
  exact h2.ae p1
 have h4:=In.Px (F':=iO tab {s with held:=iE s.held o L} f) h3 a4 a1.nodup (fun d hd=>by unfold iO;simp[iE,hd])
 refine qK (s:={s with held:=iE s.held o L}) a1 (fun d hd=>?_) (((h4.ae p3).ae p3).ae p3)
 have hdo:d≠o:=fun e=>by subst e;rw[a3]at hd;cases hd
 simp only[iE,hdo,if_false]
 exact a2 d hd
theorem wo (x:Option Nat):ut x fJ (.pointer none) false=nO x:=by cases x<;>rfl
theorem TD (a v b c:Value) (w:World):(Instr.field 358 (.agg #[a,v,b,c]) 1).run prog w= .ok v w:=by kernel_rfl
theorem FO {o:bK} {x:mD} (h:In w0 w (lW r tab s::l)) (hx:tab.rows o=some x) (hd:x.own.length≤1024):
 Calls prog 414 #[r,dJ o] w fun e w'=>∃c,e= .returned (fJ c)∧In w0 w' (jo c ⟨tab.depth o,s.held o⟩::TU r tab s o c::l):=by
 have h1:=h.alloc (mi o.isr o.id)
 have xH:tab.depth o=x.own.length:=by unfold kR.depth;rw[hx]
 rcases o with⟨oi,od⟩
 unfold dJ
 go_enter func414,ntmps414
 go_upto_region 1 with(fail)
 refine In.abs h1 ?_
 clear h1 h
 generalize w.heap.size=z
 intro w2 h2
 obtain⟨B,m,vi,vc,bh,bo,be,f,hp,hf,h3⟩:=pz (h2.ae p1)
 clear h2
 have hdom:(⟨oi,od⟩:bK)∈tab.dom:=hp.dom _ (by rw[hx];simp)
 have hl:=fU CG underlying361 ww ((h3.ae p2).drew) ⟨oi,od⟩ false
 rw[wo]at hl
 unfold dJ at hl
 have fc_:=h3.facts
 cases hfo:f ⟨oi,od⟩with
 |some c=>
  rw[hfo]at hl
  simp only[nO,Option.map_some]at hl
  have hl2:=fU CG underlying361 ww ((h3.ae p2).drew.drew) ⟨oi,od⟩ false
  rw[wo,hfo]at hl2
  simp only[nO,Option.map_some]at hl2
  unfold dJ at hl2
  refine rg ⟨[], []⟩ [.c 0 0,.c 0 1,.c 0 2,.c 1 3,.c 1 4,.c 1 5,.c 0 6] ?_
  refine lK ?_
  go_upto_region 3 with(fail)
  refine rg ⟨[], []⟩ [.c 0 0,.c 0 1,.c 0 2,.c 1 3,.c 1 4,.c 1 5,.c 0 6] ?_
  refine lK ?_
  go_wp2_with fail
  go_ret
  refine⟨c,rfl,?_⟩
  have h4:=In.xR (h3.ae p3) hdom
  have e4:iO tab s f ⟨oi,od⟩=jo c ⟨x.own.length,s.held ⟨oi,od⟩⟩:=by unfold iO;rw[hfo,xH]
  rw[e4]at h4
  exact(uP (l:=jo c ⟨x.own.length,s.held ⟨oi,od⟩⟩::l) hp hf hfo hdom (h4.drew.drew.s)).ae p1
 |none=>
  rw[hfo]at hl
  simp only[nO,Option.map_none]at hl
  refine rg ⟨[], []⟩ [.c 0 0,.c 0 1,.c 0 2,.c 1 3,.c 1 4,.c 1 5,.c 0 6] ?_
  refine lK ?_
  go_upto_region 2 with(fail)
  obtain⟨x',u,e,hlr,⟨rfl,_⟩|⟨y,v,rfl,rfl,hv⟩⟩:=hp.look ⟨oi,od⟩
  ·rw[hx]at e;cases e
  rw[hx]at e
  cases e
  obtain⟨ao,cap,rfl⟩:=hv.form
  have hLk:∀w',In w0 w' [pts z (mi oi od),pts r (dZ m vi vc bh bo be),bJ B]→(Instr.lookup 360 (.map (some m)) (.agg #[.bool oi,.int .i64 od]) false).run prog w'= .ok (.agg #[.int .i64 x.aI,.slice ao x.own.length cap,.int .i64 x.internal,.int .i64 x.category]) w':=
   fun w' hw=>hlr (hw.ae p2) false
  have hfl:=TD
  have hS0:=(h3.drew.drew).ps [6,0,0]
  refine nK hS0 ⟨[13],[17]⟩ [.c 0 0,.c 0 1,.c 0 2,.c 2 3,.c 2 4,.c 0 5,.c 0 6,.c 0 7,.c 1 8,.c 1 9,.c 1 10,.c 0 11,.c 0 12,.e 13,.c 0 14,.c 0 15,.c 0 16,.e 17] ?_
  refine nD ?_;intro K hK
  go_wp2_with (go_at_call 298;refine(Vh h3.drew.drew x.own.length hd).mono ?_;rintro _ w5 ⟨c,rfl,h5⟩)
  go_wp2_with fail
  refine df hK ((h5).s) fun hS0=>?_
  refine uw ?_;intro K hK
  try refine aS ?_
  refine o6 CG underlying361 (h5.ae p3) ⟨oi,od⟩ c (by rfl) (by rfl) (by rfl) ?_
  intro w6 h6
  go_wp2_with fail
  try refine aS ?_
  have hl3:=fU CG underlying361 ww (h6.drew) ⟨oi,od⟩ false
  rw[wo]at hl3
  simp only[upd,if_true,nO,Option.map_some]at hl3
  unfold dJ at hl3
  clear hl h5 h3
  have fc_:=h6.facts
  go_upto_region 3 with(fail)
  refine rg ⟨[], []⟩ [.c 0 0,.c 0 1,.c 0 2,.c 1 3,.c 1 4,.c 1 5,.c 0 6] ?_
  refine lK ?_
  go_wp2_with fail
  go_ret
  refine⟨c,rfl,?_⟩
  have h7:=In.xR (h6.drew.ae p4) hdom
  have e7:(tab.dom.erase ⟨oi,od⟩).map (iO tab s f)=(tab.dom.erase ⟨oi,od⟩).map (iO tab s (upd f ⟨oi,od⟩ (some c))):=List.map_congr_left fun d hd=>by
   have:d≠⟨oi,od⟩:=fun e=>by subst e;exact(List.Nodup.not_mem_erase hp.nodup) hd
   unfold iO upd
   rw[if_neg this]
  rw[e7]at h7
  exact(uP (l:=jo c ⟨x.own.length, []⟩::l) (f:=upd f ⟨oi,od⟩ (some c)) hp (fun d hd=>hf d (by unfold upd at hd;split at hd<;>first|exact hd|cases hd)) (by simp[upd]) hdom (h7.s)).ae p1
theorem VA {B:List (Nat × Obj)} {v:Value} {xs:List Int} (h:In w0 w (bJ B::l)) (hv:dQ B v xs.length (ints xs)) (a:Int):
 Calls prog 293 #[v,.int .i64 a] w fun e w'=>(∃j:Int,e= .returned (.int .i64 j)∧(0≤j↔a∈xs))∧w=w':=by
 obtain⟨ao,cap,rfl⟩:=hv.form
 have hmax:=hv.1
 unfold maxLen at hmax
 go_enter func293,ntmps293
 go_upto_region 2 with(fail)
 go_loopw [5,8] (fun _ c wr=>∃k:Nat,k≤xs.length∧c= .int .i64 k∧(∀y∈xs.take k,y≠a)∧wr=w)
  (fun _ c _=>xs.length-(intOf c).toNat)
 case atStart=>exact⟨0,Nat.zero_le _,rfl,by simp,rfl⟩
 case round=>
  obtain⟨k,hk,rfl,hno,rfl⟩:=hrel
  by_cases hlt:k<xs.length
  ·obtain⟨g,o,cap2,eq,hcap,hcell⟩:=hv.cells h (by omega)
   cases eq
   have hc:wr.cell? ⟨g,o+k,none⟩=some (.int .i64 xs[k]):=hcell k _ (by simp[ints,hlt])
   have hmem:=List.getElem_mem hlt
   have htk:=List.take_succ_eq_append_getElem hlt
   generalize xs[k]=y at*
   by_cases hy:a=y
   ·subst hy
    go_wp2_with fail
    go_ret
    exact⟨⟨k,rfl,by simp[hmem]⟩,rfl⟩
   ·go_wp2_with fail
    go_roundw
    case rel=>
     refine⟨k+1,hlt,by go_num,fun z hz=>?_,by trivial⟩
     rw[htk]at hz
     rcases List.mem_append.1 hz with hz|hz
     ·exact hno z hz
     ·simp at hz;subst hz;exact fun e=>hy e.symm
    case measure=>simp[intOf]<;>omega
  ·have:k=xs.length:=by omega
   subst this
   rw[List.take_length]at hno
   go_wp2_with fail
   go_ret
   exact⟨⟨-1,rfl,⟨fun hh=>by omega,fun hh=>absurd rfl (hno a hh)⟩⟩,rfl⟩
theorem Et {B:List (Nat × Obj)} {v:Value} {xs:List Int} (h:In w0 w (bJ B::l)) (hv:dQ B v xs.length (ints xs)) (a:Int):
 Calls prog 155 #[v,.int .i64 a] w fun e w'=>e= .returned (.bool (decide (a∈xs)))∧w=w':=by
 have hi:=VA h hv a
 go_enter func155,ntmps155
 go_wp2_with (go_at_call 293;refine hi.mono ?_;rintro _ _ ⟨⟨j,rfl,hj⟩,rfl⟩)
 go_ret
 exact⟨rfl,rfl⟩
end
section
variable {w0 w:World} {l:List SL} {r:Nat} {tab:kR} {s:di}
theorem DC {o:bK} {i:Int} (h:tab.known o i=true):∃x,tab.rows o=some x∧0≤i∧i<tab.fE.length:=by
 unfold kR.known at h
 simp only[Bool.and_eq_true,decide_eq_true_eq]at h
 obtain⟨⟨h1,h2,h3⟩,_⟩:=h
 cases hx:tab.rows o with
 |none=>rw[hx]at h1;cases h1
 |some x=>exact⟨x,rfl,h2,h3⟩
theorem SB {o:bK} {i:Int} (h:In w0 w (lW r tab s::l)) (hk:tab.known o i=false):
 aW 383 #[r,dJ o,.int .i64 i] w w0 (.int .i64 3) (lW r tab s::l):=by
 have h1:=h.alloc (mi o.isr o.id)
 rcases o with⟨oi,od⟩
 unfold dJ
 go_enter func383,ntmps383
 go_upto_region 1 with(fail)
 refine In.abs h1 ?_
 clear h1 h
 generalize w.heap.size=z
 intro w2 h2
 have hkn:=Ci (i:=i) (o:=⟨oi,od⟩) (h2.ae p1)
 rw[hk]at hkn
 unfold dJ at hkn
 have fc_:=h2.facts
 go_wp2_with (go_at_call 413;refine bF hkn ?_;intro w3 h3)
 go_ret
 exact⟨rfl,(h3.ae p1).drop⟩
theorem aaZ {o:bK} {i:Int} {x:mD} (h:In w0 w (lW r tab s::l)) (hk:tab.known o i=true) (hx:tab.rows o=some x) (hd:x.own.length≤1024) (hroom:tab.free s x i=true→(s.held o).length<x.own.length):
 Calls prog 383 #[r,dJ o,.int .i64 i] w fun e w'=>
  e= .returned (.int .i64 (if tab.free s x i then 0 else 1))∧In w0 w' (lW r tab (if tab.free s x i then s.take o i else s)::l):=by
 have h1:=h.alloc (mi o.isr o.id)
 rcases o with⟨oi,od⟩
 obtain⟨_,_,i0,i1⟩:=DC hk
 generalize hfr:tab.free s x i=fr
 have hfr0:=hfr
 unfold dJ
 go_enter func383,ntmps383
 go_upto_region 1 with(fail)
 refine In.abs h1 ?_
 clear h1 h
 generalize w.heap.size=z
 intro w2 h2
 have hkn:=Ci (i:=i) (o:=⟨oi,od⟩) (h2.ae p1)
 rw[hk]at hkn
 unfold dJ at hkn
 have fc_:=h2.facts
 go_upto_region 3 with(go_at_call 413;refine bF hkn ?_;intro w3 h3)
 clear h2 hkn
 obtain⟨B,m,vi,vc,bh,bo,be,f,hp,hf,h4⟩:=pz h3
 clear h3
 obtain⟨x',u,e,hlr,⟨rfl,_⟩|⟨y,v,rfl,rfl,hv⟩⟩:=hp.look ⟨oi,od⟩
 ·rw[hx]at e;cases e
 rw[hx]at e
 cases e
 obtain⟨ao,cap,rfl⟩:=hv.form
 have fc_:=h4.facts
 have hLk:∀w',In w0 w' [pts z (mi oi od),pts r (dZ m vi vc bh bo be),bJ B]→(Instr.lookup 360 (.map (some m)) (.agg #[.bool oi,.int .i64 od]) false).run prog w'= .ok (.agg #[.int .i64 x.aI,.slice ao x.own.length cap,.int .i64 x.internal,.int .i64 x.category]) w':=
  fun w' hw=>hlr (hw.ae p2) false
 have hS0:=(h4.drew).ps [6,0,0]
 refine nK hS0 ⟨[6],[7]⟩ [.c 0 0,.c 0 1,.c 0 2,.c 2 3,.c 2 4,.c 2 5,.e 6,.e 7] ?_
 refine nD ?_;intro K hK
 go_wp2_with fail
 refine df hK ((hS0.alloc _).drop) fun hS0=>?_
 refine bG rfl rfl fun K hK=>?_
 go_wp2_with fail
 try refine aS ?_
 go_upto_region 4 with(fail)
 have h5:=(h4.alloc (DR x.aI (.slice ao x.own.length cap) x.internal x.category)).drew
 refine In.abs h5 ?_
 clear h5 h4 hLk hlr
 generalize w3.heap.size=q
 intro w4 h5
 have fin:∀ {wx:World} {L:List SL},In w0 wx (L++(pts q (DR x.aI (.slice ao x.own.length cap) x.internal x.category)::pts r (dZ m vi vc bh bo be)::bJ B::fC bh dJ fJ f::bQ (tab.dom.map (iO tab s f))::fC bo gZ dJ s.holder::fC be gZ mM (gB s)::pts z (mi oi od)::l))→In w0 wx (lW r tab s::pts z (mi oi od)::l):=
  fun{wx L} h=>qK hp hf (In.drops L h).drop
 have hB:=h5.ae p2
 have hl:=fU nG underlying362 Uo (h5.ae p5) i true
 simp only[gZ]at hl
 obtain⟨k,rfl⟩:∃k:Nat,i=k:=⟨i.toNat,by omega⟩
 have hkl:k<tab.fE.length:=by omega
 unfold kR.free at hfr
 cases hh:s.holder k with
 |some o'=>
  rw[hh]at hl hfr
  have hfr':fr=false:=by rw[←hfr];rfl
  subst hfr'
  simp only[ut,if_true,dJ]at hl
  have fc_:=h5.facts
  have h6:=h5.alloc (mi o'.isr o'.id)
  go_upto_region 5 with(fail)
  refine In.abs h6 ?_
  clear h6 h5 hB
  generalize w4.heap.size=q2
  intro w5 h6
  have fc_:=h6.facts
  refine rg ⟨[], []⟩ [.c 0 0,.c 0 1,.c 0 2,.c 1 3,.c 0 4,.e 5,.c 0 6,.c 0 7,.c 0 8,.c 0 9,.c 1 10,.c 0 11,.c 0 12,.c 0 13,.c 1 14,.c 0 15,.c 0 16,.c 1 17,.c 0 18,.c 0 19] ?_
  refine P8 ?_;intro K hK
  go_wp2_with fail
  go_wp2_with fail
  refine lK ?_
  go_wp2_with fail
  go_ret
  exact⟨rfl,((fin (L:=[_]) h6.drew).ae p1).drop⟩
 |none=>
  rw[hh]at hl hfr
  simp only[ut,if_true]at hl
  have fc_:=h5.facts
  have h6:=h5.alloc (mi false 0)
  go_upto_region 5 with(fail)
  refine In.abs h6 ?_
  clear h6 h5 hB
  generalize w4.heap.size=q2
  intro w5 h6
  have hct:=Et (h6.drew.ae p3) hv k
  have fc_:=h6.facts
  obtain⟨gc,oc,oD,eqc,ade,Lh⟩:=hp.ceil.cells (h6.ae p3) (by omega)
  have hcc:w5.cell? ⟨gc,oc+k,none⟩=some (.int .i64 tab.fE[k]):=Lh k _ (by simp[ints,hkl])
  have hgd:tab.fE.getD k 0=tab.fE[k]:=by simp[hkl]
  rw[Int.toNat_natCast,hgd]at hfr
  have n1:(k:Int)<tab.fE.length:=by omega
  subst eqc
  generalize tab.fE[k]=ce at*
  by_cases hin:(k:Int)∈x.own
  ·by_cases hpc:ce<x.aI
   ·have hfr':fr=false:=by rw[←hfr];simp[hpc]
    subst hfr'
    refine rg ⟨[], []⟩ [.c 0 0,.c 0 1,.c 0 2,.c 1 3,.c 0 4,.e 5,.c 0 6,.c 0 7,.c 0 8,.c 0 9,.c 1 10,.c 0 11,.c 0 12,.c 0 13,.c 1 14,.c 0 15,.c 0 16,.c 1 17,.c 0 18,.c 0 19] ?_
    refine P8 ?_;intro K hK
    go_wp2_with (go_at_call 155;refine bW hct ?_)
    go_wp2_with fail
    refine lK ?_
    go_wp2_with fail
    go_ret
    exact⟨rfl,((fin (L:=[_]) h6.drew).ae p1).drop⟩
   ·have hfr':fr=true:=by rw[←hfr];simp[hin];omega
    subst hfr'
    refine rg ⟨[], []⟩ [.c 0 0,.c 0 1,.c 0 2,.c 1 3,.c 0 4,.e 5,.c 0 6,.c 0 7,.c 0 8,.c 0 9,.c 1 10,.c 0 11,.c 0 12,.c 0 13,.c 1 14,.c 0 15,.c 0 16,.c 1 17,.c 0 18,.c 0 19] ?_
    refine P8 ?_;intro K hK
    go_wp2_with (go_at_call 155;refine bW hct ?_)
    go_wp2_with fail
    refine lK ?_
    go_upto_region 7 with(fail)
    have h7:=fin (L:=[_]) h6.drew
    have hso:=FO h7 hx hd
    have xH:tab.depth ⟨oi,od⟩=x.own.length:=by unfold kR.depth;rw[hx]
    rw[xH]at hso
    simp only[fJ]at hso
    unfold dJ at hso
    clear h6 hct
    have fc_:=h7.facts
    go_upto_region 8 with(first|(go_at_call 414;refine hso.mono ?_;rintro _ w7 ⟨c,rfl,h8⟩)|(go_at_call 401;refine bF (Q9 (k:Int) h8 (hroom hfr0)) ?_;intro w8 h9))
    clear h7 hso h8
    obtain⟨B2,m2,vi2,vc2,bh2,bo2,be2,f2,a1,a2,a3,a4,h10⟩:=En (h9.ae p1)
    have fc_:=h10.facts
    refine rg ⟨[],[6]⟩ [.c 0 0,.c 0 1,.c 0 2,.c 1 3,.c 0 4,.c 1 5,.e 6] ?_
    refine rG ?_;intro K hK
    try refine aS ?_
    refine o6 nG underlying362 (h10.drew.ae p4) k ⟨oi,od⟩ (by rfl) (by rfl) (by rfl) ?_
    intro w9 h11
    go_wp2_with fail
    try refine aS ?_
    go_wp2_with fail
    go_ret
    refine⟨rfl,?_⟩
    have h12:=h11.pr [1,1,1,1,0,0,0] 1
    have h13:=uP (s:={s with holder:=upd s.holder k (some ⟨oi,od⟩)}) a1 a2 a3 a4 h12
    rw[←xH]at h13
    exact DU (h13.ae p1)
  ·have hfr':fr=false:=by rw[←hfr];simp[hin]
   subst hfr'
   refine rg ⟨[], []⟩ [.c 0 0,.c 0 1,.c 0 2,.c 1 3,.c 0 4,.e 5,.c 0 6,.c 0 7,.c 0 8,.c 0 9,.c 1 10,.c 0 11,.c 0 12,.c 0 13,.c 1 14,.c 0 15,.c 0 16,.c 1 17,.c 0 18,.c 0 19] ?_
   refine P8 ?_;intro K hK
   go_wp2_with (go_at_call 155;refine bW hct ?_)
   go_wp2_with fail
   refine lK ?_
   go_wp2_with fail
   go_ret
   exact⟨rfl,((fin (L:=[_]) h6.drew).ae p1).drop⟩
theorem Bz {o:bK} {c:Nat} (h:In w0 w (jo c ⟨tab.depth o,s.held o⟩::TU r tab s o c::l)):In w0 w (lW r tab s::l):=by
 have h1:=DU h
 have e:iE s.held o (s.held o)=s.held:=by
  funext c
  unfold iE
  split
  ·rename_i h;rw[h]
  ·rfl
 rw[e]at h1
 exact h1
theorem Iw {o:bK} {i:Int} (h:In w0 w (lW r tab s::l)) (hk:tab.known o i=false):
 aW 384 #[r,dJ o,.int .i64 i] w w0 (.int .i64 3) (lW r tab s::l):=by
 have h1:=h.alloc (mi o.isr o.id)
 rcases o with⟨oi,od⟩
 unfold dJ
 go_enter func384,ntmps384
 go_upto_region 1 with(fail)
 refine In.abs h1 ?_
 clear h1 h
 generalize w.heap.size=z
 intro w2 h2
 have hkn:=Ci (i:=i) (o:=⟨oi,od⟩) (h2.ae p1)
 rw[hk]at hkn
 unfold dJ at hkn
 have fc_:=h2.facts
 go_wp2_with (go_at_call 413;refine bF hkn ?_;intro w3 h3)
 go_ret
 exact⟨rfl,(h3.ae p1).drop⟩
theorem Ho {o:bK} {i:Int} {x:mD} (h:In w0 w (lW r tab s::l)) (hk:tab.known o i=true) (hx:tab.rows o=some x) (hd:x.own.length≤1024) {st:Int} {s':di}
 (hs:(st=5∧s'=s∧∀xs,s.held o≠xs++ [i])∨(st=0∧∃xs,s.held o=xs++ [i]∧s'=s.give o i xs)):
 aW 384 #[r,dJ o,.int .i64 i] w w0 (.int .i64 st) (lW r tab s'::l):=by
 have h1:=h.alloc (mi o.isr o.id)
 rcases o with⟨oi,od⟩
 unfold dJ
 go_enter func384,ntmps384
 go_upto_region 1 with(fail)
 refine In.abs h1 ?_
 clear h1 h
 generalize w.heap.size=z
 intro w2 h2
 have hkn:=Ci (i:=i) (o:=⟨oi,od⟩) (h2.ae p1)
 rw[hk]at hkn
 unfold dJ at hkn
 have fc_:=h2.facts
 have xH:tab.depth ⟨oi,od⟩=x.own.length:=by unfold kR.depth;rw[hx]
 go_upto_region 3 with(go_at_call 413;refine bF hkn ?_;intro w3 h3)
 clear h2 hkn
 have hso:=FO h3 hx hd
 rw[xH]at hso
 simp only[fJ]at hso
 unfold dJ at hso
 have fc_:=h3.facts
 go_upto_region 4 with(go_at_call 414;refine hso.mono ?_;rintro _ w4 ⟨c,rfl,h4⟩)
 clear h3 hso
 have back:∀ {wx:World},In w0 wx (jo c ⟨x.own.length,s.held ⟨oi,od⟩⟩::TU r tab s ⟨oi,od⟩ c::pts z (mi oi od)::l)→In w0 wx (lW r tab s::l):=fun h=>by
  rw[←xH]at h
  exact((Bz h).ae p1).drop
 rcases hs with⟨rfl,rfl,hno⟩|⟨rfl,xs,hxs,rfl⟩
 ·rcases List.eq_nil_or_concat (s'.held ⟨oi,od⟩)with he|⟨xs,t,he⟩
  ·have htop:=zJ h4 he
   go_wp2_with (go_at_call 334;refine bW htop ?_)
   go_ret
   exact⟨rfl,back h4⟩
  ·rw[List.concat_eq_append]at he
   have htop:=FU h4 he
   have hne:¬t=i:=fun e=>hno xs (by rw[he,e])
   clear he hno
   go_wp2_with (go_at_call 334;refine bF htop ?_;intro w5 h5)
   go_ret
   exact⟨rfl,back h5⟩
 ·have htop:=FU h4 hxs
  go_upto_region 8 with(first|(go_at_call 334;refine bF htop ?_;intro w5 h5)|(go_at_call 402;refine bF (PU h5 hxs) ?_;intro w6 h6))
  clear h5 h4 htop
  obtain⟨B2,m2,vi2,vc2,bh2,bo2,be2,f2,a1,a2,a3,a4,h10⟩:=En (h6.ae p1)
  have fc_:=h10.facts
  go_wp2_with (with_reducible apply vY)
  unfold Stop
  refine oW nG underlying362 (h10.ae p4) i (by rfl) (by rfl) ?_
  intro w9 h11
  go_wp2_with fail
  go_ret
  refine⟨rfl,?_⟩
  have h12:=h11.pr [1,1,1,1,0,0,0] 1
  have h13:=uP (s:={s with holder:=upd s.holder i none}) a1 a2 a3 a4 h12
  rw[←xH]at h13
  exact DU (h13.ae p1)
end
theorem IM (b:Bool) (i:Int) (w:World):(binOp .eql 116 (.agg #[.bool b,.int .i64 i]) (.agg #[.bool false,.int .i64 i])).run prog w= .ok (.bool (!b)) w:=by
 have h:=VZ ⟨b,i⟩ ⟨false,i⟩ w
 unfold dJ at h
 have e:decide ((⟨false,i⟩:bK)=⟨b,i⟩)= !b:=by cases b<;>simp
 rw[e]at h
 simp[binOp,h,go_sem]
theorem In.stars4' {w0 w:World} {l:List SL} {A B C D:SL} (h:In w0 w (bQ [A,B,C,D]::l)):In w0 w (A::B::C::D::l):=In.bn.1 h
theorem In.Vf {w0 w:World} {l:List SL} {A B C D:SL} (h:In w0 w (A::B::C::D::l)):In w0 w (bQ [A,B,C,D]::l):=In.bn.2 h
section
variable {w0 w:World} {l:List SL} {r:Nat} {tab:kR} {s:di}
theorem tC {o:bK} {x:mD} (h:In w0 w (lW r tab s::l)) (hx:tab.rows o=some x) (hres:∀i∈s.held o,0≤i∧i<tab.fE.length):
 aW 111 #[r,dJ o] w w0 (.int .i64 (tab.aI s o)) (lW r tab s::l):=by
 have h1:=h.alloc2 (.cells #[r] 214) (mi o.isr o.id)
 rcases o with⟨oi,od⟩
 generalize hpr:tab.aI s ⟨oi,od⟩=pr
 unfold dJ
 refine ku func111 rfl ?_
 simp only[ntmps111,List.size_toArray,List.length_cons,List.length_nil,Nat.reduceAdd,Nat.reduceSub,Array.replicate_succ,Array.replicate_zero,List.push_toArray,List.append_toArray,List.nil_append,List.cons_append]
 go_upto_region 1 with(fail)
 refine In.abs h1 ?_
 clear h1 h
 generalize w.heap.size=z
 intro w2 h2
 have hm:=xM (h2.ae p2)
 have fc_:=h2.facts
 go_upto_region 3 with(go_at_call 254;refine bW hm ?_)
 obtain⟨B,m,vi,vc,bh,bo,be,f,hp,hf,h3⟩:=pz (h2.ae p2)
 clear h2 hm
 obtain⟨x',u,e,hlr,⟨rfl,_⟩|⟨y,v,rfl,rfl,hv⟩⟩:=hp.look ⟨oi,od⟩
 ·rw[hx]at e;cases e
 rw[hx]at e
 cases e
 obtain⟨ao,cap,rfl⟩:=hv.form
 have fc_:=h3.facts
 have hLk:∀w',In w0 w' [pts (z+1) (mi oi od),pts z (.cells #[r] 214),pts r (dZ m vi vc bh bo be),bJ B]→(Instr.lookup 360 (.map (some m)) (.agg #[.bool oi,.int .i64 od]) true).run prog w'= .ok (.tuple #[.agg #[.int .i64 x.aI,.slice ao x.own.length cap,.int .i64 x.internal,.int .i64 x.category],.bool true]) w':=
  fun w' hw=>hlr (hw.ae p3) true
 have hS0:=(h3.drew).ps [6,6,0,0]
 refine nK hS0 ⟨[9],[10]⟩ [.c 2 0,.c 0 1,.c 0 2,.c 2 3,.c 2 4,.c 2 5,.c 0 6,.c 0 7,.c 0 8,.e 9,.e 10,.c 0 11] ?_
 refine nD ?_;intro K hK
 go_wp2_with fail
 refine df hK ((hS0.alloc _).drop) fun hS0=>?_
 refine bG rfl rfl fun K hK=>?_
 go_wp2_with fail
 refine wM ?_
 go_upto_region 6 with(fail)
 have h4:=(h3.alloc (DR x.aI (.slice ao x.own.length cap) x.internal x.category)).drew
 refine In.abs h4 ?_
 clear h4 h3 hLk hlr
 generalize w2.heap.size=q
 intro w3 h4
 have fc_:=h4.facts
 have h5:=h4.alloc (wC x.aI)
 go_upto_region 7 with(fail)
 refine In.abs h5 ?_
 clear h5 h4
 generalize w3.heap.size=b7
 intro w4 h5
 have hl:=fU CG underlying361 ww ((h5.ae p4).drew) ⟨oi,od⟩ false
 rw[wo]at hl
 unfold dJ at hl
 have fc_:=h5.facts
 have acl:=(h5.ae p8).cells
 have hcb2:=(h5.ae p9).cells
 have hdom:(⟨oi,od⟩:bK)∈tab.dom:=hp.dom _ (by rw[hx];simp)
 cases hfo:f ⟨oi,od⟩with
 |some c=>
  rw[hfo]at hl
  simp only[nO,Option.map_some]at hl
  have xH:tab.depth ⟨oi,od⟩=x.own.length:=by unfold kR.depth;rw[hx]
  have h6:=(In.xR (h5.ae p5) hdom).drew
  have e6:iO tab s f ⟨oi,od⟩=jo c ⟨x.own.length,s.held ⟨oi,od⟩⟩:=by unfold iO;rw[hfo,xH]
  rw[e6]at h6
  clear xH
  refine rg ⟨[],[6]⟩ [.c 1 0,.c 0 1,.c 0 2,.c 1 3,.c 1 4,.c 1 5,.e 6] ?_
  refine rG ?_;intro K hK
  try refine aS ?_
  go_wp2_with (go_at_call 119;refine(D9 _ h6).mono ?_;rintro _ w6 ⟨d,rfl,h7⟩)
  clear h6 h5
  go_wp2_with fail
  try refine aS ?_
  go_wp2_with fail
  have h8:In w0 w6 (star (jo c ⟨x.own.length,s.held ⟨oi,od⟩⟩) (pts d (.cells #[c] 219 (0,0)))::bQ [pts b7 (wC x.aI),pts z (.cells #[r] 214),pts r (dZ m vi vc bh bo be),bJ B]::
   bQ ((tab.dom.erase ⟨oi,od⟩).map (iO tab s f))::pts q (DR x.aI (.slice ao x.own.length cap) x.internal x.category)::fC bh dJ fJ f::fC bo gZ dJ s.holder::fC be gZ mM (gB s)::pts (z+1) (mi oi od)::l):=
   In.dP.2 ((In.bn.2 (h7.s:In w0 w6 ([pts b7 (wC x.aI),pts z (.cells #[r] 214),pts r (dZ m vi vc bh bo be),bJ B]++(jo c ⟨x.own.length,s.held ⟨oi,od⟩⟩::pts d (.cells #[c] 219 (0,0))::bQ ((tab.dom.erase ⟨oi,od⟩).map (iO tab s f))::pts q (DR x.aI (.slice ao x.own.length cap) x.internal x.category)::fC bh dJ fJ f::fC bo gZ dJ s.holder::fC be gZ mM (gB s)::pts (z+1) (mi oi od)::l)))).s)
  refine pY (fun pre=>bQ [pts b7 (wC (pre.foldl (fun p i=>max p (tab.fE.getD i.toNat 0)) x.aI)),pts z (.cells #[r] 214),pts r (dZ m vi vc bh bo be),bJ B]) (fun _ _=>AQ False) (EY ⟨x.own.length,s.held ⟨oi,od⟩⟩ c d) h8 rfl (by rfl) (fun _ _=>rfl) (by simp[gy,lQ]) (by simp) ?_ ?_ ?_
  ·intro pre i w5 R hpre h9
   have h10:=In.bn.1 h9
   have hmem:i∈s.held ⟨oi,od⟩:=by
    have:i∈(s.held ⟨oi,od⟩).reverse:=hpre.subset (by simp)
    simpa using this
   obtain⟨i0,i1⟩:=hres i hmem
   obtain⟨k,rfl⟩:∃k:Nat,i=k:=⟨i.toNat,by omega⟩
   have hkl:k<tab.fE.length:=by omega
   obtain⟨gc,oc,oD,eqc,ade,Lh⟩:=hp.ceil.cells (h10.ae p3) (by omega)
   have hcc:w5.cell? ⟨gc,oc+k,none⟩=some (.int .i64 tab.fE[k]):=Lh k _ (by simp[ints,hkl])
   have hgd:tab.fE.getD k 0=tab.fE[k]:=by simp[hkl]
   have n1:(k:Int)<tab.fE.length:=by omega
   rw[List.foldl_append]
   simp only[List.foldl_cons,List.foldl_nil,Int.toNat_natCast,hgd]
   subst eqc
   generalize tab.fE[k]=ce at*
   generalize pre.foldl (fun p i=>max p (tab.fE.getD i.toNat 0)) x.aI=p at*
   have fc_:=h10.facts
   clear hl
   refine qf ?_
   simp only[List.setIfInBounds_toArray,List.set_cons_zero,List.set_cons_succ]
   refine rgR ⟨[],[9]⟩ [.c 1 0,.c 1 1,.c 0 2,.c 0 3,.c 1 4,.c 0 5,.c 0 6,.c 1 7,.c 0 8,.e 9] ?_
   refine rG ?_;intro K hK
   go_wp2_with fail
   try refine aS ?_
   have h11:=(h10.setCell (off:=0) (.int .i64 (max p ce))).drew
   refine TY ?_
   exact In.Vf h11
  ·intro D w5 h9
   have e9:(s.held ⟨oi,od⟩).reverse.foldl (fun p i=>max p (tab.fE.getD i.toNat 0)) x.aI=(s.held ⟨oi,od⟩).foldr (fun i p=>max p (tab.fE.getD i.toNat 0)) x.aI:=by rw[List.foldl_reverse]
   simp only[e9]at h9
   obtain⟨pf,hpf⟩:∃pf,(s.held ⟨oi,od⟩).foldr (fun i p=>max p (tab.fE.getD i.toNat 0)) x.aI=pf:=⟨_,rfl⟩
   rw[hpf]at h9
   have back:∀ {wx:World} {A:SL},In w0 wx (A::pts q (DR x.aI (.slice ao x.own.length cap) x.internal x.category)::pts (z+1) (mi oi od)::pts z (.cells #[r] 214)::pts r (dZ m vi vc bh bo be)::fC be gZ mM (gB s)::bJ B::jo c ⟨x.own.length,s.held ⟨oi,od⟩⟩::bQ ((tab.dom.erase ⟨oi,od⟩).map (iO tab s f))::fC bh dJ fJ f::fC bo gZ dJ s.holder::l)→In w0 wx (lW r tab s::l):=fun h=>by
    have xH:tab.depth ⟨oi,od⟩=x.own.length:=by unfold kR.depth;rw[hx]
    have h1:=uP (l:=jo c ⟨x.own.length,s.held ⟨oi,od⟩⟩::l) hp hf hfo hdom (h.s)
    rw[←xH]at h1
    exact Bz (h1.ae p1)
   have h10:In w0 w5 (pts D (.deferred (some []))::pts b7 (wC pf)::pts q (DR x.aI (.slice ao x.own.length cap) x.internal x.category)::pts (z+1) (mi oi od)::pts z (.cells #[r] 214)::pts r (dZ m vi vc bh bo be)::fC be gZ mM (gB s)::bJ B::jo c ⟨x.own.length,s.held ⟨oi,od⟩⟩::bQ ((tab.dom.erase ⟨oi,od⟩).map (iO tab s f))::fC bh dJ fJ f::fC bo gZ dJ s.holder::l):=(In.bn.1 ((In.dP.1 (h9.ae p1)).ae p3)).s
   have hle:=fU nG underlying363 G8 (h10.drew.ae p6) od false
   rw[yx]at hle
   simp only[gZ]at hle
   have hop:=IM oi od
   have h10':=h10
   have fc_:=h10.facts
   clear hl
   have Qw:(if oi=false∧s.entered od=true then max pf x.internal else pf)=pr:=by rw[←hpr,←hpf];unfold kR.aI;rw[hx]
   by_cases hoi:oi=true
   ·subst hoi
    have hpr':pf=pr:=by rw[←Qw];simp
    subst hpr'
    go_upto_region 10 with(fail)
    refine rg ⟨[], []⟩ [.c 1 0,.c 0 1,.c 1 2,.c 0 3,.c 0 4,.c 0 5,.c 1 6,.c 0 7,.c 0 8,.c 1 9,.c 0 10,.c 1 11,.c 1 12,.c 0 13] ?_
    refine lK ?_
    go_wp2_with fail
    refine fP h10'.drew (by rfl) (fun w'=>results_tmp rfl _ _ _) (fun w' hw'=>⟨rfl,?_⟩) .ret (.inl rfl)
    exact back hw'
   ·have hoi':oi=false:=by simpa using hoi
    subst hoi'
    by_cases hen:s.entered od=true
    ·rw[hen]at hle
     have hpr':max pf x.internal=pr:=by rw[←Qw];simp[hen]
     subst hpr'
     have h11:=(((h10'.ae p1).setCell (off:=0) (.int .i64 (max pf x.internal))).ae p1).drew
     go_upto_region 10 with(fail)
     refine rg ⟨[], []⟩ [.c 1 0,.c 0 1,.c 1 2,.c 0 3,.c 0 4,.c 0 5,.c 1 6,.c 0 7,.c 0 8,.c 1 9,.c 0 10,.c 1 11,.c 1 12,.c 0 13] ?_
     refine lK ?_
     go_wp2_with fail
     refine fP h11 (by rfl) (fun w'=>results_tmp rfl _ _ _) (fun w' hw'=>⟨rfl,?_⟩) .ret (.inl rfl)
     exact back hw'
    ·have hen':s.entered od=false:=by simpa using hen
     rw[hen']at hle
     have hpr':pf=pr:=by rw[←Qw];simp[hen']
     subst hpr'
     go_upto_region 10 with(fail)
     refine rg ⟨[], []⟩ [.c 1 0,.c 0 1,.c 1 2,.c 0 3,.c 0 4,.c 0 5,.c 1 6,.c 0 7,.c 0 8,.c 1 9,.c 0 10,.c 1 11,.c 1 12,.c 0 13] ?_
     refine lK ?_
     go_wp2_with fail
     refine fP h10'.drew (by rfl) (fun w'=>results_tmp rfl _ _ _) (fun w' hw'=>⟨rfl,?_⟩) .ret (.inl rfl)
     exact back hw'
  ·intro D c' pre w5 hpre h6
   exact(In.dw.1 (h6.ae p2)).1.elim
 |none=>
  have hnil:s.held ⟨oi,od⟩= []:=hf _ hfo
  rw[hfo]at hl
  simp only[nO,Option.map_none]at hl
  have h6:=h5.drew
  refine rg ⟨[],[6]⟩ [.c 1 0,.c 0 1,.c 0 2,.c 1 3,.c 1 4,.c 1 5,.e 6] ?_
  refine rG ?_;intro K hK
  try refine aS ?_
  go_wp2_with (go_at_call 119;refine(D9 _ h6).mono ?_;rintro _ w6 ⟨d,rfl,h7⟩)
  clear h6 h5
  go_wp2_with fail
  try refine aS ?_
  go_wp2_with fail
  have h8:In w0 w6 (pts d (.cells #[.pointer none] 219 (0,0))::bQ [pts b7 (wC x.aI),pts z (.cells #[r] 214),pts r (dZ m vi vc bh bo be),bJ B]::
   bQ (tab.dom.map (iO tab s f))::pts q (DR x.aI (.slice ao x.own.length cap) x.internal x.category)::fC bh dJ fJ f::fC bo gZ dJ s.holder::fC be gZ mM (gB s)::pts (z+1) (mi oi od)::l):=
   (In.Vf ((h7.s:In w0 w6 (pts b7 (wC x.aI)::pts z (.cells #[r] 214)::pts r (dZ m vi vc bh bo be)::bJ B::pts d (.cells #[.pointer none] 219 (0,0))::bQ (tab.dom.map (iO tab s f))::pts q (DR x.aI (.slice ao x.own.length cap) x.internal x.category)::fC bh dJ fJ f::fC bo gZ dJ s.holder::fC be gZ mM (gB s)::pts (z+1) (mi oi od)::l)))).ae p1
  refine pY (fun _=>bQ [pts b7 (wC x.aI),pts z (.cells #[r] 214),pts r (dZ m vi vc bh bo be),bJ B]) (fun _ _=>AQ False) (LD d) h8 rfl (by rfl) (fun _ _=>rfl) (by simp[gy,lQ]) (by simp) ?_ ?_ ?_
  ·intro pre i w5 R hpre h9
   have:=hpre.length_le
   simp at this
  ·intro D w5 h9
   have back:∀ {wx:World} {A:SL},In w0 wx (A::pts q (DR x.aI (.slice ao x.own.length cap) x.internal x.category)::pts (z+1) (mi oi od)::pts z (.cells #[r] 214)::pts r (dZ m vi vc bh bo be)::fC be gZ mM (gB s)::bJ B::bQ (tab.dom.map (iO tab s f))::fC bh dJ fJ f::fC bo gZ dJ s.holder::l)→In w0 wx (lW r tab s::l):=fun h=>by
    exact qK hp hf (h.s)
   have h10:=(In.stars4' (h9.ae p2)).pr [4,0,5,8,0,0,5,0,1,1,1] 1
   have hle:=fU nG underlying363 G8 (h10.drew.ae p6) od false
   rw[yx]at hle
   simp only[gZ]at hle
   have hop:=IM oi od
   have h10':=h10
   have fc_:=h10.facts
   clear hl
   have Qw:(if oi=false∧s.entered od=true then max x.aI x.internal else x.aI)=pr:=by rw[←hpr];unfold kR.aI;rw[hx];simp only[hnil,List.foldr_nil]
   by_cases hoi:oi=true
   ·subst hoi
    have hpr':x.aI=pr:=by rw[←Qw];simp
    subst hpr'
    go_upto_region 10 with(fail)
    refine rg ⟨[], []⟩ [.c 1 0,.c 0 1,.c 1 2,.c 0 3,.c 0 4,.c 0 5,.c 1 6,.c 0 7,.c 0 8,.c 1 9,.c 0 10,.c 1 11,.c 1 12,.c 0 13] ?_
    refine lK ?_
    go_wp2_with fail
    refine fP h10'.drew (by rfl) (fun w'=>results_tmp rfl _ _ _) (fun w' hw'=>⟨rfl,?_⟩) .ret (.inl rfl)
    exact back hw'
   ·have hoi':oi=false:=by simpa using hoi
    subst hoi'
    by_cases hen:s.entered od=true
    ·rw[hen]at hle
     have hpr':max x.aI x.internal=pr:=by rw[←Qw];simp[hen]
     subst hpr'
     have h11:=(((h10'.ae p1).setCell (off:=0) (.int .i64 (max x.aI x.internal))).ae p1).drew
     go_upto_region 10 with(fail)
     refine rg ⟨[], []⟩ [.c 1 0,.c 0 1,.c 1 2,.c 0 3,.c 0 4,.c 0 5,.c 1 6,.c 0 7,.c 0 8,.c 1 9,.c 0 10,.c 1 11,.c 1 12,.c 0 13] ?_
     refine lK ?_
     go_wp2_with fail
     refine fP h11 (by rfl) (fun w'=>results_tmp rfl _ _ _) (fun w' hw'=>⟨rfl,?_⟩) .ret (.inl rfl)
     exact back hw'
    ·have hen':s.entered od=false:=by simpa using hen
     rw[hen']at hle
     have hpr':x.aI=pr:=by rw[←Qw];simp[hen']
     subst hpr'
     go_upto_region 10 with(fail)
     refine rg ⟨[], []⟩ [.c 1 0,.c 0 1,.c 1 2,.c 0 3,.c 0 4,.c 0 5,.c 1 6,.c 0 7,.c 0 8,.c 1 9,.c 0 10,.c 1 11,.c 1 12,.c 0 13] ?_
     refine lK ?_
     go_wp2_with fail
     refine fP h10'.drew (by rfl) (fun w'=>results_tmp rfl _ _ _) (fun w' hw'=>⟨rfl,?_⟩) .ret (.inl rfl)
     exact back hw'
  ·intro D c' pre w5 hpre h6
   exact(In.dw.1 (h6.ae p2)).1.elim
end
section
variable {w0 w:World} {l:List SL} {r:Nat} {tab:kR} {s:di}
theorem JV {o:bK} {x:mD} (h:In w0 w (lW r tab s::l)) (hx:tab.rows o=some x) (hsm:(s.held o).length≤1024):
 Calls prog 115 #[r,dJ o] w fun e w'=>∃v,e= .returned v∧In w0 w' (Ints v (s.held o)::lW r tab s::l):=by
 have h1:=h.alloc (mi o.isr o.id)
 rcases o with⟨oi,od⟩
 unfold dJ
 refine ku func115 rfl ?_
 simp only[ntmps115,List.size_toArray,List.length_cons,List.length_nil,Nat.reduceAdd,Nat.reduceSub,Array.replicate_succ,Array.replicate_zero,List.push_toArray,List.append_toArray,List.nil_append,List.cons_append]
 go_upto_region 1 with(fail)
 refine In.abs h1 ?_
 clear h1 h
 generalize w.heap.size=z
 intro w2 h2
 have hm:=xM (h2.ae p1)
 have fc_:=h2.facts
 go_upto_region 3 with(go_at_call 254;refine bW hm ?_)
 obtain⟨B,m,vi,vc,bh,bo,be,f,hp,hf,h3⟩:=pz (h2.ae p1)
 clear h2 hm
 have hdom:(⟨oi,od⟩:bK)∈tab.dom:=hp.dom _ (by rw[hx];simp)
 have h4:=h3.alloc (.cells #[.slice none 0 0] 44)
 go_upto_region 4 with(fail)
 refine In.abs h4 ?_
 clear h4 h3
 generalize w2.heap.size=q
 intro w4 h5
 have hl:=fU CG underlying361 ww ((h5.ae p3).drew) ⟨oi,od⟩ false
 rw[wo]at hl
 unfold dJ at hl
 have fc_:=h5.facts
 cases hfo:f ⟨oi,od⟩with
 |some c=>
  rw[hfo]at hl
  simp only[nO,Option.map_some]at hl
  have xH:tab.depth ⟨oi,od⟩=x.own.length:=by unfold kR.depth;rw[hx]
  have h6:=(In.xR (h5.ae p4) hdom).drew
  have e6:iO tab s f ⟨oi,od⟩=jo c ⟨x.own.length,s.held ⟨oi,od⟩⟩:=by unfold iO;rw[hfo,xH]
  rw[e6]at h6
  clear xH
  refine rg ⟨[],[6]⟩ [.c 0 0,.c 0 1,.c 0 2,.c 1 3,.c 1 4,.c 1 5,.e 6] ?_
  refine rG ?_;intro K hK
  try refine aS ?_
  go_wp2_with (go_at_call 119;refine(D9 _ h6).mono ?_;rintro _ w6 ⟨d,rfl,h7⟩)
  clear h6 h5
  go_wp2_with fail
  try refine aS ?_
  go_wp2_with fail
  have h8:In w0 w6 (star (jo c ⟨x.own.length,s.held ⟨oi,od⟩⟩) (pts d (.cells #[c] 219 (0,0)))::pts q (.cells #[.slice none 0 0] 44)::bQ ((tab.dom.erase ⟨oi,od⟩).map (iO tab s f))::fC bh dJ fJ f::fC bo gZ dJ s.holder::fC be gZ mM (gB s)::bJ B::pts r (dZ m vi vc bh bo be)::pts z (mi oi od)::l):=In.dP.2 (h7.s)
  have h8':In w0 w6 (star (jo c ⟨x.own.length,s.held ⟨oi,od⟩⟩) (pts d (.cells #[c] 219 (0,0)))::sV q []::bQ ((tab.dom.erase ⟨oi,od⟩).map (iO tab s f))::fC bh dJ fJ f::fC bo gZ dJ s.holder::fC be gZ mM (gB s)::bJ B::pts r (dZ m vi vc bh bo be)::pts z (mi oi od)::l):=(mg ((h8.ae p1).dh 3 1 |>.ae p1)).ae p1
  clear h8
  refine pY (fun pre=>sV q pre) (fun _ _=>AQ False) (EY ⟨x.own.length,s.held ⟨oi,od⟩⟩ c d) h8' rfl (by rfl) (fun _ _=>rfl) (by simp[gy,lQ]) (by simp) ?_ ?_ ?_
  ·intro pre i w5 R hpre h9
   obtain⟨v2,h10⟩:=mf h9
   have hpl:=hpre.length_le
   rw[List.length_append,List.length_singleton,List.length_reverse]at hpl
   have fc_:=h10.facts
   refine qf (sJ ?_)
   simp only[List.setIfInBounds_toArray,List.set_cons_zero,List.set_cons_succ]
   go_wp2_with (with_reducible apply bH)
   unfold Stop
   refine aZ Es ((h10.ae p1).alloc (.cells (jf i).toArray 3)) rfl rfl rfl (qx i) (by omega) ?_
   intro u w6 h11
   obtain⟨rE,cap2,rfl⟩:=h11.aG
   have fc_:=h11.facts
   go_wp2_with fail
   have h12:In w0 _ (pts q (.cells #[.slice rE (pre.length+1) cap2] 44)::_):=(h11.ae p1).setCell (off:=0) (.slice rE (pre.length+1) cap2)
   have e:Row 3 1 (.slice rE (pre.length+1) cap2) (pre.length+1) ((pre.map jf).flatten++jf i)=Ints (.slice rE (pre.length+1) cap2) (pre++ [i]):=by unfold Ints;simp
   rw[e]at h12
   exact mg h12
  ·intro D w5 h9
   obtain⟨v2,h10⟩:=mf (h9.ae p2)
   have hrv:=Gv (h10.ae p1)
   have hcq:=h10.cells
   obtain⟨rE,cap2,e2⟩:=In.aG (E:=3) (size:=1) (h10.ae p1)
   rw[List.length_reverse]at e2
   subst e2
   clear hl
   go_upto_region 8 with(go_at_call 255;refine hrv.mono ?_;rintro _ w7 ⟨⟨u,rfl⟩,h11⟩)
   rw[List.reverse_reverse]at h11
   have hcq:=(h11.ae p1).cells
   have h11':=h11.ae p2
   go_wp2_with fail
   refine fP h11' (by rfl) (fun w'=>results_tmp rfl _ _ _) (fun w' hw'=>⟨_,rfl,?_⟩) .ret (.inl rfl)
   obtain⟨v2,hv2⟩:∃v2,v2=Value.slice rE (s.held ⟨oi,od⟩).length cap2:=⟨_,rfl⟩
   rw[←hv2]at hw'⊢
   have xH:tab.depth ⟨oi,od⟩=x.own.length:=by unfold kR.depth;rw[hx]
   have h12:=uP (l:=jo c ⟨x.own.length,s.held ⟨oi,od⟩⟩::Ints v2 (s.held ⟨oi,od⟩)::l) hp hf hfo hdom ((In.dP.1 (hw'.ae p2)).s)
   rw[←xH]at h12
   exact(Bz (h12.ae p1)).ae p1
  ·intro D c' pre w5 hpre h6
   exact(In.dw.1 (h6.ae p2)).1.elim
 |none=>
  rw[hfo]at hl
  have hnil:s.held ⟨oi,od⟩= []:=hf _ hfo
  simp only[nO,Option.map_none]at hl
  have h6:=h5.drew
  refine rg ⟨[],[6]⟩ [.c 0 0,.c 0 1,.c 0 2,.c 1 3,.c 1 4,.c 1 5,.e 6] ?_
  refine rG ?_;intro K hK
  try refine aS ?_
  go_wp2_with (go_at_call 119;refine(D9 _ h6).mono ?_;rintro _ w6 ⟨d,rfl,h7⟩)
  clear h6 h5
  go_wp2_with fail
  try refine aS ?_
  go_wp2_with fail
  have h8:=h7.pr [0,0,3,2,2,2,1,0,0]
  have h8':In w0 w6 (pts d (.cells #[.pointer none] 219 (0,0))::sV q []::bQ (tab.dom.map (iO tab s f))::fC bh dJ fJ f::fC bo gZ dJ s.holder::fC be gZ mM (gB s)::bJ B::pts r (dZ m vi vc bh bo be)::pts z (mi oi od)::l):=(mg ((h8.ae p1).dh 3 1 |>.ae p1)).ae p1
  clear h8
  refine pY (fun pre=>sV q pre) (fun _ _=>AQ False) (LD d) h8' rfl (by rfl) (fun _ _=>rfl) (by simp[gy,lQ]) (by simp) ?_ ?_ ?_
  ·intro pre i w5 R hpre h9
   have:=hpre.length_le
   simp at this
  ·intro D w5 h9
   obtain⟨v2,h10⟩:=mf (h9.ae p2)
   have hrv:=Gv (h10.ae p1)
   have hcq:=h10.cells
   obtain⟨rE,cap2,e2⟩:=In.aG (E:=3) (size:=1) (h10.ae p1)
   rw[List.length_nil]at e2
   subst e2
   clear hl
   go_upto_region 8 with(go_at_call 255;refine hrv.mono ?_;rintro _ w7 ⟨⟨u,rfl⟩,h11⟩)
   rw[List.reverse_nil]at h11
   have hcq:=(h11.ae p1).cells
   have h11':=h11.ae p2
   go_wp2_with fail
   refine fP h11' (by rfl) (fun w'=>results_tmp rfl _ _ _) (fun w' hw'=>⟨_,rfl,?_⟩) .ret (.inl rfl)
   obtain⟨v2,hv2⟩:∃v2,v2=Value.slice rE 0 cap2:=⟨_,rfl⟩
   rw[←hv2]at hw'⊢
   rw[hnil]
   exact(qK (l:=Ints v2 []::l) hp hf (hw'.s)).ae p1
  ·intro D c' pre w5 hpre h6
   exact(In.dw.1 (h6.ae p2)).1.elim
end
theorem In.Vy {w0 w:World} {l:List SL} {A B C:SL} (h:In w0 w (A::B::C::l)):In w0 w (bQ [A,B,C]::l):=In.bn.2 h
theorem In.stars3' {w0 w:World} {l:List SL} {A B C:SL} (h:In w0 w (bQ [A,B,C]::l)):In w0 w (A::B::C::l):=In.bn.1 h
theorem kH {κ ν:Type} [DecidableEq κ] {w0 w:World} {l:List SL} {b:Nat} (ek:κ→Value) (ev:ν→Value) (h:In w0 w (pts b (.map #[] 0)::l)):In w0 w (fC b ek ev (fun _=>none)::l):=
 xn (L:= []) (clock:=0) ⟨by simp,by simp,by simp,fun a=>rfl⟩ h
section
variable {w0 w:World} {l:List SL} {r:Nat} {tab:kR} {s:di}
def sK (m:Nat) (vi vc x1 x2 x3:Value) (g1:Bool) (g2 g3:Int):Obj:=
 .cells #[.map (some m),vi,vc,x1,x2,x3,.bool g1,.int .i64 g2,.int .i64 g3] 365 (0,0)
theorem Xf {m:Nat} {vi vc x1 x2 x3:Value} {g1:Bool} {g2 g3:Int} (h:In w0 w (pts r (sK m vi vc x1 x2 x3 g1 g2 g3)::l)):
 Calls prog 254 #[r] w fun e w'=>e= .returned (.bool true)∧w=w':=by
 have fc_:=h.facts
 have hne:=UY m
 go_enter func254,ntmps254
 go_wp2_with fail
 go_ret
 exact⟨rfl,rfl⟩
theorem VF {m:Nat} {vi vc x1 x2 x3:Value} {g1:Bool} {g2 g3:Int} (h:In w0 w (pts r (sK m vi vc x1 x2 x3 g1 g2 g3)::l)):
 Calls prog 292 #[r] w fun e w'=>e= .returned (.int .i64 0)∧
  ∃bh bo be,In w0 w' (pts r (dZ m vi vc bh bo be)::fC bh dJ fJ (fun _=>none)::fC bo gZ dJ (fun _=>none)::fC be gZ mM (fun _=>none)::l):=by
 have hm:=Xf h
 have hmm:=@run_makeMap prog
 have h3:=h.iQ (.map #[] 0) (.map #[] 0) (.map #[] 0)
 have fc_:=h.facts
 have hne1:=h.ne1
 have hlt:=h.lt
 go_enter func292,ntmps292
 go_upto_region 3 with(go_at_call 254;refine bW hm ?_)
 go_wp2_with (with_reducible apply Qm)
 unfold Stop
 refine In.abs h3 ?_
 clear h3 h hne1 hlt hm hmm
 generalize w.heap.size=b
 intro w3 h3
 have h4:=(((((h3.ae p3).setCell (off:=3) (.map (some b))).setCell (off:=4) (.map (some (b+1)))).setCell (off:=5) (.map (some (b+2)))).setCell (off:=6) (.bool false)).setCell (off:=7) (.int .i64 0) |>.setCell (off:=8) (.int .i64 0)
 have hr:=(h3.ae p3).cells
 have hf:=(h3.ae p3).free
 go_wp2_with fail
 go_ret
 have h5:In w0 _ (pts r (dZ m vi vc b (b+1) (b+2))::pts (b+2) (.map #[] 0)::pts (b+1) (.map #[] 0)::pts b (.map #[] 0)::l):=h4
 have h6:=kH dJ fJ (h5.ae p3)
 have h7:=kH gZ dJ (h6.ae p3)
 have h8:=kH gZ mM (h7.ae p3)
 exact⟨rfl,b,b+1,b+2,((h8.ae p1).ae p2).ae p3⟩
def di.drop (s:di) (o:bK):di:={s with held:=iE s.held o [],holder:=fun i=>if i∈s.held o then none else s.holder i}
theorem VX {o:bK} {x:mD} (h:In w0 w (lW r tab s::l)) (hx:tab.rows o=some x) (hh:s.held o= []):
 aW 235 #[r,dJ o] w w0 (.tuple #[.int .i64 (-1),.bool false]) (lW r tab s::l):=by
 have h1:=h.alloc2 (.cells #[r] 214) (mi o.isr o.id)
 rcases o with⟨oi,od⟩
 unfold dJ
 refine ku func235 rfl ?_
 simp only[ntmps235,List.size_toArray,List.length_cons,List.length_nil,Nat.reduceAdd,Nat.reduceSub,Array.replicate_succ,Array.replicate_zero,List.push_toArray,List.append_toArray,List.nil_append,List.cons_append]
 go_upto_region 1 with(fail)
 refine In.abs h1 ?_
 clear h1 h
 generalize w.heap.size=z
 intro w2 h2
 have hm:=xM (h2.ae p2)
 have fc_:=h2.facts
 go_upto_region 3 with(go_at_call 254;refine bW hm ?_)
 obtain⟨B,m,vi,vc,bh,bo,be,f,hp,hf,h3⟩:=pz (h2.ae p2)
 clear h2 hm
 have hl:=fU CG underlying361 ww ((h3.ae p2).drew) ⟨oi,od⟩ false
 rw[wo]at hl
 unfold dJ at hl
 have fin:∀ {wx:World},In w0 wx (pts r (dZ m vi vc bh bo be)::bJ B::fC bh dJ fJ f::bQ (tab.dom.map (iO tab s f))::fC bo gZ dJ s.holder::fC be gZ mM (gB s)::pts (z+1) (mi oi od)::pts z (.cells #[r] 214)::l)→In w0 wx (lW r tab s::l):=fun h=>(((qK hp hf h).ae p1).drop.ae p1).drop
 have fc_:=h3.facts
 cases hfo:f ⟨oi,od⟩with
 |none=>
  rw[hfo]at hl
  simp only[nO,Option.map_none]at hl
  refine rg ⟨[],[6]⟩ [.c 1 0,.c 0 1,.c 0 2,.c 1 3,.c 1 4,.c 1 5,.e 6,.c 0 7,.c 0 8,.c 0 9,.c 0 10,.c 0 11] ?_
  refine rG ?_;intro K hK
  go_wp2_with (go_at_call 334;refine bW (YZ _) ?_)
  go_wp2_with fail
  refine lK ?_
  go_wp2_with fail
  exact yH (by rfl) (results_tmp2 rfl _ _ _) ⟨rfl,fin h3.drew⟩ .ret (.inl rfl)
 |some c=>
  have hdom:(⟨oi,od⟩:bK)∈tab.dom:=hp.dom _ (by rw[hx];simp)
  rw[hfo]at hl
  simp only[nO,Option.map_some]at hl
  have h6:=(In.xR (h3.ae p3) hdom).drew
  have e6:iO tab s f ⟨oi,od⟩=jo c ⟨tab.depth ⟨oi,od⟩, []⟩:=by unfold iO;rw[hfo,hh]
  rw[e6]at h6
  have htop:=zJ h6 rfl
  refine rg ⟨[],[6]⟩ [.c 1 0,.c 0 1,.c 0 2,.c 1 3,.c 1 4,.c 1 5,.e 6,.c 0 7,.c 0 8,.c 0 9,.c 0 10,.c 0 11] ?_
  refine rG ?_;intro K hK
  go_wp2_with (go_at_call 334;refine bW htop ?_)
  go_wp2_with fail
  refine lK ?_
  go_wp2_with fail
  exact yH (by rfl) (results_tmp2 rfl _ _ _) ⟨rfl,fin h3.drew⟩ .ret (.inl rfl)
theorem ZG {o:bK} {x:mD} {t:Int} {xs:List Int} (h:In w0 w (lW r tab s::l)) (hx:tab.rows o=some x) (hh:s.held o=xs++ [t]):
 aW 235 #[r,dJ o] w w0 (.tuple #[.int .i64 t,.bool true]) (lW r tab (s.drop o)::l):=by
 have h1:=h.alloc2 (.cells #[r] 214) (mi o.isr o.id)
 rcases o with⟨oi,od⟩
 unfold dJ
 refine ku func235 rfl ?_
 simp only[ntmps235,List.size_toArray,List.length_cons,List.length_nil,Nat.reduceAdd,Nat.reduceSub,Array.replicate_succ,Array.replicate_zero,List.push_toArray,List.append_toArray,List.nil_append,List.cons_append]
 go_upto_region 1 with(fail)
 refine In.abs h1 ?_
 clear h1 h
 generalize w.heap.size=z
 intro w2 h2
 have hm:=xM (h2.ae p2)
 have fc_:=h2.facts
 go_upto_region 3 with(go_at_call 254;refine bW hm ?_)
 obtain⟨B,m,vi,vc,bh,bo,be,f,hp,hf,h3⟩:=pz (h2.ae p2)
 clear h2 hm
 have hl:=fU CG underlying361 ww ((h3.ae p2).drew) ⟨oi,od⟩ false
 rw[wo]at hl
 unfold dJ at hl
 have fc_:=h3.facts
 have hdom:(⟨oi,od⟩:bK)∈tab.dom:=hp.dom _ (by rw[hx];simp)
 cases hfo:f ⟨oi,od⟩with
 |none=>have:=hf _ hfo;rw[hh]at this;simp at this
 |some c=>
  rw[hfo]at hl
  simp only[nO,Option.map_some]at hl
  have h6:=(In.xR (h3.ae p3) hdom).drew
  have e6:iO tab s f ⟨oi,od⟩=jo c ⟨tab.depth ⟨oi,od⟩,xs++ [t]⟩:=by unfold iO;rw[hfo,hh]
  rw[e6]at h6
  have htop:=FU h6 rfl
  refine rg ⟨[],[6]⟩ [.c 1 0,.c 0 1,.c 0 2,.c 1 3,.c 1 4,.c 1 5,.e 6,.c 0 7,.c 0 8,.c 0 9,.c 0 10,.c 0 11] ?_
  refine rG ?_;intro K hK
  go_wp2_with (go_at_call 334;refine bF htop ?_;intro w3 h7)
  clear h6 h3 hl htop
  go_wp2_with fail
  refine lK ?_
  have hl:=fU CG underlying361 ww ((h7.ae p4).drew) ⟨oi,od⟩ false
  rw[wo,hfo]at hl
  simp only[nO,Option.map_some]at hl
  unfold dJ at hl
  have fc_:=h7.facts
  have hcz:=(h7.ae p8).cells
  go_upto_region 6 with(fail)
  have h8:=h7.drew
  refine rg ⟨[],[6]⟩ [.c 1 0,.c 0 1,.c 0 2,.c 1 3,.c 1 4,.c 1 5,.e 6] ?_
  refine rG ?_;intro K hK
  try refine aS ?_
  go_wp2_with (go_at_call 119;refine(D9 _ h8).mono ?_;rintro _ w4 ⟨d,rfl,h9⟩)
  clear h8 h7
  go_wp2_with fail
  try refine aS ?_
  go_wp2_with fail
  have eh:(fun i=>if i∈([]:List Int) then none else s.holder i)=s.holder:=by funext i;simp
  have h10:In w0 w4 (star (jo c ⟨tab.depth ⟨oi,od⟩,xs++ [t]⟩) (pts d (.cells #[c] 219 (0,0)))::bQ [fC bo gZ dJ (fun i=>if i∈([]:List Int) then none else s.holder i),pts z (.cells #[r] 214),pts r (dZ m vi vc bh bo be)]::
   bQ ((tab.dom.erase ⟨oi,od⟩).map (iO tab s f))::bJ B::fC bh dJ fJ f::fC be gZ mM (gB s)::pts (z+1) (mi oi od)::l):=by
   rw[eh]
   have a1:=h9.pr [6,8,3,1,0,0,0,0,0,0]
   exact In.dP.2 ((In.Vy a1).ae p2 |>.ae p2)
  clear h9 hl
  refine pY (fun pre=>bQ [fC bo gZ dJ (fun i=>if i∈pre then none else s.holder i),pts z (.cells #[r] 214),pts r (dZ m vi vc bh bo be)]) (fun _ _=>AQ False) (EY ⟨tab.depth ⟨oi,od⟩,xs++ [t]⟩ c d) h10 rfl (by rfl) (fun _ _=>rfl) (by simp[gy,lQ]) (by simp) ?_ ?_ ?_
  ·intro pre i w5 R hpre h11
   have h12:=In.stars3' h11
   have fc_:=h12.facts
   refine qf (sJ ?_)
   simp only[List.setIfInBounds_toArray,List.set_cons_zero,List.set_cons_succ]
   go_wp2_with (with_reducible apply vY)
   unfold Stop
   refine oW nG underlying362 h12 i (by rfl) (by rfl) ?_
   intro w6 h13
   go_wp2_with fail
   have e7:upd (fun i=>if i∈pre then none else s.holder i) i none=fun j=>if j∈pre∨j=i then none else s.holder j:=by
    funext j
    unfold upd
    by_cases hj:j=i
    ·simp[hj]
    ·simp[hj]
   rw[e7]at h13
   exact In.Vy h13
  ·intro D w5 h11
   have h12:=In.stars3' ((In.dP.1 (h11.ae p1)).ae p3)
   have e8:(fun i=>if i∈(xs++ [t]).reverse then none else s.holder i)=(s.drop ⟨oi,od⟩).holder:=by
    funext i
    show _=if i∈s.held ⟨oi,od⟩then none else s.holder i
    rw[hh]
    simp only[List.mem_reverse]
   simp only[e8]at h12
   have h13:=h12.pr [5,1,1,7,5,0,2,2,2] 2
   have fc_:=h13.facts
   go_upto_region 9 with(fail)
   have lM:=h13.drew
   refine rg ⟨[],[5]⟩ [.c 1 0,.c 0 1,.c 0 2,.c 1 3,.c 1 4,.e 5] ?_
   refine rG ?_;intro K hK
   try refine aS ?_
   refine oW CG underlying361 (lM.ae p4) ⟨oi,od⟩ (by rfl) (by rfl) ?_
   intro w6 h15
   go_wp2_with fail
   try refine aS ?_
   go_wp2_with fail
   refine fP (h15.ae p1) (by rfl) (fun w'=>results_tmp2 rfl _ _ _) (fun w' hw'=>⟨rfl,?_⟩) .ret (.inl rfl)
   have h16:In w0 w' (iO tab (s.drop ⟨oi,od⟩) (upd f ⟨oi,od⟩ none) ⟨oi,od⟩::bQ ((tab.dom.erase ⟨oi,od⟩).map (iO tab s f))::pts r (dZ m vi vc bh bo be)::bJ B::fC bh dJ fJ (upd f ⟨oi,od⟩ none)::fC bo gZ dJ (s.drop ⟨oi,od⟩).holder::fC be gZ mM (gB s)::l):=by
    have:iO tab (s.drop ⟨oi,od⟩) (upd f ⟨oi,od⟩ none) ⟨oi,od⟩=emp:=by unfold iO upd;simp
    rw[this]
    exact In.Ce.2 (hw'.s)
   have h17:=In.Px (F':=iO tab (s.drop ⟨oi,od⟩) (upd f ⟨oi,od⟩ none)) h16 hdom hp.nodup (fun e he=>by unfold iO upd di.drop iE;simp[he])
   refine qK (s:=s.drop ⟨oi,od⟩) (f:=upd f ⟨oi,od⟩ none) hp (fun e he=>?_) (((h17.ae p3).ae p3).ae p3)
   show iE s.held ⟨oi,od⟩ [] e= []
   unfold iE
   unfold upd at he
   split
   ·rfl
   ·rename_i hne
    rw[if_neg hne]at he
    exact hf e he
  ·intro D c' pre w5 hpre h6
   exact(In.dw.1 (h6.ae p2)).1.elim
end
def dM (p:dn × Value):List Value:=[.int .i64 p.1.aI,.int .i64 p.1.ring,.bool p.1.full,.int .i64 p.1.limit,.int .u32 p.1.mask,.int .i64 p.1.internal,p.2,.int .u32 p.1.dX]
def iy (p:kG × Value):List Value:=[.int .i64 p.1.category,.int .i64 p.1.aI,p.2]
def kw (x:IA):List Value:=[.bool x.internal,.int .i64 x.gJ]
def iU (x:xm):List Value:=[.int .u32 x.max,.int .u32 x.base,.int .u32 x.min]
def mG (x:zx):List Value:=[.int .i64 x.kind,.int .i64 x.lL,.int .u32 x.mask]
def dR (x:gq):List Value:=[.int .i64 x.counter]++mG x.act++ [.int .u32 x.dX,.int .u32 x.time,.int .u32 x.cycle]
def mJ (x:qF):List Value:=[.int .i64 x.kind,.int .i64 x.length,.int .i64 x.src,.int .u64 x.init,.int .i64 x.queue]++mG x.act
structure xu (B:List (Nat × Obj)) (v:Value) (T:ah) (vt vr vs vc va vi vm:Value):Prop where
 val:v= .agg #[.int .i64 T.uses,.int .i64 T.modes,vt,vr,vs,vc,va,vi,vm,.int .i64 T.depth,.int .i64 T.frames,.int .i64 T.errors,.int .i64 T.dU]
 ay:∃tl:List (dn × Value),tl.map (·.1)=T.ay∧dQ B vt T.ay.length (tl.map dM).flatten∧∀p∈tl,dQ B p.2 p.1.own.length (ints p.1.own)
 rings:dQ B vr T.rings.length (T.rings.map iR).flatten
 bP:dQ B vs T.bP.length (T.bP.map kw).flatten
 bi:dQ B vc T.bi.length (T.bi.map iU).flatten
 ag:dQ B va T.ag.length (T.ag.map dR).flatten
 bf:∃il:List (kG × Value),il.map (·.1)=T.bf∧dQ B vi T.bf.length (il.map iy).flatten∧∀p∈il,dQ B p.2 p.1.own.length (ints p.1.own)
 cZ:dQ B vm T.cZ.length (T.cZ.map mJ).flatten
theorem xu.mono {B C:List (Nat × Obj)} {v:Value} {T:ah} {vt vr vs vc va vi vm:Value} (h:xu B v T vt vr vs vc va vi vm) (hs:B ⊆ C):xu C v T vt vr vs vc va vi vm:=by
 obtain⟨tl,t1,t2,t3⟩:=h.ay
 obtain⟨il,i1,i2,i3⟩:=h.bf
 exact⟨h.val,⟨tl,t1,t2.mono hs,fun p hp=>(t3 p hp).mono hs⟩,h.rings.mono hs,h.bP.mono hs,h.bi.mono hs,h.ag.mono hs,⟨il,i1,i2.mono hs,fun p hp=>(i3 p hp).mono hs⟩,h.cZ.mono hs⟩
section
variable {w0 w:World} {l:List SL}
theorem GG (xs:List Int):∀u∈ints xs,u.oneCell'=true:=by
 intro u hu
 obtain⟨x,_,rfl⟩:=List.mem_map.1 hu
 rfl
theorem Yo (ad:Addr) (n cap:Nat) (w:World):(binOp .eql 44 (.slice (some ad) n cap) (.slice none 0 0)).run prog w= .ok (.bool false) w:=by kernel_rfl
theorem Yt (w:World):(binOp .eql 44 (.slice none 0 0) (.slice none 0 0)).run prog w= .ok (.bool true) w:=by kernel_rfl
theorem MQ {B:List (Nat × Obj)} {v:Value} {xs:List Int} (h:In w0 w (bJ B::l)) (hv:dQ B v xs.length (ints xs)) (hn:xs.length≤65536):
 Calls prog 378 #[v] w fun e w'=>∃u,e= .returned u∧In w0 w' (Row 3 1 u xs.length (ints xs)::bJ B::l):=by
 have hv0:=hv
 have hform:(v= .slice none 0 0∧xs.length=0∧ints xs= [])∨∃(ad:Addr) (cap:Nat),v= .slice (some ad) xs.length cap∧
  ∀ {w':World} {l':List SL},In w0 w' (bJ B::l')→∀j u,(ints xs)[j]? =some u→w'.cell? (ad.add j)=some u:=by
  obtain⟨_,⟨rfl|⟨ad,cap,rfl⟩,h0,h1⟩|⟨g,o,cap,cells,T,fr,rfl,h2,h3,h4⟩⟩:=hv
  ·exact .inl ⟨rfl,h0,h1⟩
  ·exact .inr ⟨ad,cap,by rw[h0],fun _ j u hu=>by rw[h1]at hu;simp at hu⟩
  ·refine .inr ⟨_,cap,rfl,fun hw j u hu=>?_⟩
   rw[addr_add']
   have hb:=hw.sO h3
   simp only at hb
   simp[World.cell?,hb,h4 j u hu]
 rcases hform with⟨rfl,h0,h1⟩|⟨ad,cap,rfl,hcell⟩
 ·have he:=Yt
  go_enter func378,ntmps378
  go_wp2_with fail
  go_ret
  refine⟨_,rfl,?_⟩
  rw[h0,h1]
  exact h.dh _ _
 ·have he:=Yo
  have h5:=h.alloc (.cells #[] 3)
  have h6:In w0 (w.alloc (.cells #[] 3)) (Row 3 1 (.slice (some ⟨w.heap.size,0,none⟩) 0 0) 0 []::bJ B::l):=
   In.nJ (cs:= []) (ext:= []) h5 rfl (Nat.le_refl _) (Nat.zero_le _) rfl (by simp)
  have hc:∀j u,(ints xs)[j]? =some u→(w.alloc (.cells #[] 3)).cell? (ad.add j)=some u:=hcell (h5.ae p1)
  go_enter func378,ntmps378
  go_wp2_with (with_reducible apply bH)
  unfold Stop
  refine kQ Es h6 (by rfl) (by rfl) (by simp[ints]) hc (GG xs) (by omega) ?_
  intro v' w' h7
  obtain⟨ao,cap2,rfl⟩:=h7.aG
  go_wp2_with fail
  go_ret
  refine⟨_,rfl,?_⟩
  simpa using h7
end
def dO (T:ah) (vt vr vs vc va vi vm:Value):Obj:= .cells #[.int .i64 T.uses,.int .i64 T.modes,vt,vr,vs,vc,va,vi,vm,.int .i64 T.depth,.int .i64 T.frames,.int .i64 T.errors,.int .i64 T.dU] 30 (0,0)
structure zi (B:List (Nat × Obj)) (g:bK→Option (mD × Value)) (f:bK→Option mD):Prop where
 fst:∀o,(g o).map (·.1)=f o
 own:∀o x v,g o=some (x,v)→dQ B v x.own.length (ints x.own)
theorem zi.mono {B C:List (Nat × Obj)} {g:bK→Option (mD × Value)} {f:bK→Option mD} (h:zi B g f) (hs:B ⊆ C):zi C g f:=⟨h.fst,fun o x v e=>(h.own o x v e).mono hs⟩
theorem zi.put {B:List (Nat × Obj)} {g:bK→Option (mD × Value)} {f f':bK→Option mD} (h:zi B g f) {o:bK} {x:mD} {v:Value} (hv:dQ B v x.own.length (ints x.own)) (hf:∀c,f' c=if c=o then some x else f c):zi B (upd g o (some (x,v))) f':=by
 refine⟨fun c=>?_,fun c y u e=>?_⟩
 ·rw[hf c]
  unfold upd
  split
  ·rfl
  ·exact h.fst c
 ·unfold upd at e
  split at e
  ·simp only[Option.some.injEq,Prod.mk.injEq]at e
   obtain⟨rfl,rfl⟩:=e
   exact hv
  ·exact h.own c y u e
section
variable {w0 w:World} {l:List SL} {B:List (Nat × Obj)} {T:ah} {v vt vr vs vc va vi vm:Value}
theorem ac3:ig prog 133 4 1 1 (.bool false):=⟨underlying133,by kernel_rfl,rfl,by decide,by decide⟩
theorem abd (h:In w0 w (bJ B::l)) (ht:xu B v T vt vr vs vc va vi vm)
 (hck:∀ {v0 w:World} {l:List SL},In v0 w (bJ B::l)→aW 24 #[v] w v0 (.int .i64 0) (bJ B::l))
 (n1:T.ay.length≤256) (n2:T.bf.length≤32) (n3:T.bP.length≤65) (n4:∀x∈T.ay,x.own.length≤1024) (n5:∀x∈T.bf,x.own.length≤1024):
 Calls prog 295 #[v] w fun e w'=>∃r,e= .returned (.tuple #[.pointer (some ⟨r,0,none⟩),.int .i64 0])∧In w0 w' (lW r T.eU .fresh::bJ B::l):=by
 have hval:=ht.val
 subst hval
 have h1:=h.alloc (dO T vt vr vs vc va vi vm)
 have hmm:=@run_makeMap prog
 go_enter func295,ntmps295
 go_upto_region 1 with(fail)
 refine In.abs h1 ?_
 clear h1 h
 generalize w.heap.size=z
 intro w2 h2
 have hc:=hck (h2.ae p1)
 have fc_:=h2.facts
 go_upto_region 3 with(go_at_call 24;refine bF hc ?_;intro w3 h3)
 clear h2 hc
 have h4:=(h3.alloc2 (.map #[] 0) (sK w3.heap.size (.slice none 0 0) (.slice none 0 0) (.map none) (.map none) (.map none) false 0 0))
 go_upto_region 4 with(fail)
 refine In.abs h4 ?_
 clear h4 h3
 generalize w3.heap.size=bm
 intro w4 h4
 have h5:In w0 w4 (fC bm dJ Kz (fun _=>none)::bJ B::pts z (dO T vt vr vs vc va vi vm)::pts (bm+1) (sK bm (.slice none 0 0) (.slice none 0 0) (.map none) (.map none) (.map none) false 0 0)::l):=
  (kH dJ Kz (h4.ae p1)).s
 clear h4
 obtain⟨tl,t1,t2,t3⟩:=ht.ay
 obtain⟨il,i1,i2,i3⟩:=ht.bf
 obtain⟨Fa,uH,rfl⟩:=t2.form
 obtain⟨EN,ry,rfl⟩:=i2.form
 obtain⟨BK,caps,rfl⟩:=ht.bP.form
 have fc_:=h5.facts
 go_upto_region 5 with(fail)
 have hA0:∀o,T.xx 0 0 o=none:=T.PP
 go_loopw [5,6,20] (fun _ _ c wr=>∃(k:Nat) (Bk:List (Nat × Obj)) (g:bK→Option (mD × Value)),k≤T.ay.length∧c= .int .i64 k∧B ⊆ Bk∧zi Bk g (T.xx k 0)∧
  In w0 wr (fC bm dJ Kz g::bJ Bk::pts z (dO T (.slice Fa T.ay.length uH) vr (.slice BK T.bP.length caps) vc va (.slice EN T.bf.length ry) vm)::pts (bm+1) (sK bm (.slice none 0 0) (.slice none 0 0) (.map none) (.map none) (.map none) false 0 0)::l))
  (fun _ _ c _=>T.ay.length-(intOf c).toNat)
 case atStart=>exact⟨0,B,fun _=>none,Nat.zero_le _,rfl,fun _ h=>h,⟨fun o=>by rw[hA0];rfl,fun o x v e=>by cases e⟩,h5⟩
 case round=>
  obtain⟨k,Bk,g,hk,rfl,hsub,hrows,hw⟩:=hrel
  clear h5
  by_cases hlt:k<T.ay.length
  ·have hp:∃p,tl[k]? =some p:=⟨_,List.getElem?_eq_getElem (by rw[←List.length_map (f:=(·.1)),t1];exact hlt)⟩
   obtain⟨p,hp⟩:=hp
   have hpT:T.ay[k]? =some p.1:=by rw[←t1,List.getElem?_map,hp];rfl
   have hpm:p∈tl:=List.mem_of_getElem? hp
   have hown:=(t3 p hpm).mono hsub
   have hsm:=n4 p.1 (List.mem_of_getElem? hpT)
   have hB:=hw.ae p1
   obtain⟨g0,o0,cap0,eq0,hcap0,hcell0⟩:=(t2.mono hsub).cells hB (by omega)
   cases eq0
   have hcs:∀(j:Nat) (u:Value),(dM p)[j]? =some u→j<8→wr.cell? ⟨g0,o0+(k*8+j),none⟩=some u:=fun j u hu hj=>
    hcell0 _ u ((flat_get (dL (slot:=dM) (size:=8) (fun _=>rfl) tl) (i:=k) (x:=dM p) (by simp[hp]) j hj).trans hu)
   have hc0:wr.cell? ⟨g0,o0+k*8,none⟩=some (.int .i64 p.1.aI):=by have:=hcs 0 _ rfl (by decide);simpa[Nat.add_assoc]using this
   have hc1:wr.cell? ⟨g0,o0+k*8+1,none⟩=some (.int .i64 p.1.ring):=by have:=hcs 1 _ rfl (by decide);simpa[Nat.add_assoc]using this
   have hc2:wr.cell? ⟨g0,o0+k*8+2,none⟩=some (.bool p.1.full):=by have:=hcs 2 _ rfl (by decide);simpa[Nat.add_assoc]using this
   have hc3:wr.cell? ⟨g0,o0+k*8+3,none⟩=some (.int .i64 p.1.limit):=by have:=hcs 3 _ rfl (by decide);simpa[Nat.add_assoc]using this
   have hc4:wr.cell? ⟨g0,o0+k*8+4,none⟩=some (.int .u32 p.1.mask):=by have:=hcs 4 _ rfl (by decide);simpa[Nat.add_assoc]using this
   have hc5:wr.cell? ⟨g0,o0+k*8+5,none⟩=some (.int .i64 p.1.internal):=by have:=hcs 5 _ rfl (by decide);simpa[Nat.add_assoc]using this
   have hc6:wr.cell? ⟨g0,o0+k*8+6,none⟩=some (p.2):=by have:=hcs 6 _ rfl (by decide);simpa[Nat.add_assoc]using this
   have AY:wr.cell? ⟨g0,o0+k*8+7,none⟩=some (.int .u32 p.1.dX):=by have:=hcs 7 _ rfl (by decide);simpa[Nat.add_assoc]using this
   clear hcs
   obtain⟨OV,zO,eo⟩:=hown.form
   rcases p with⟨x,u⟩
   simp only at eo hown hsm hpT hc0 hc1 hc2 hc3 hc4 hc5 hc6 AY
   subst eo
   have Qx:=T.PT (b:=0) hpT
   have h6:=hw.alloc (BB x.aI x.ring x.full x.limit x.mask x.internal (.slice OV x.own.length zO) x.dX)
   go_upto_region 7 with(fail)
   refine In.abs h6 ?_
   clear h6 hw hB hc0 hc1 hc2 hc3 hc4 hc5 hc6 AY
   generalize wr.heap.size=q
   intro w6 h6
   have fc_:=h6.facts
   have hS0:=(h6.drew).ps [0,3]
   refine nK hS0 ⟨[10],[14]⟩ [.c 0 0,.c 0 1,.c 0 2,.c 2 3,.c 0 4,.c 0 5,.c 0 6,.c 2 7,.c 0 8,.c 1 9,.c 0 11,.c 2 12,.e 10,.c 0 13,.e 14] ?_
   refine nD ?_;intro K hK
   go_wp2_with (go_at_call 378;refine(MQ (h6.drew.ae p2) hown (by omega)).mono ?_;rintro _ w7 ⟨u2,rfl,h7⟩)
   clear h6
   obtain⟨rE,cap2,rfl⟩:=h7.aG
   go_wp2_with fail
   refine df hK ((h7).s) fun hS0=>?_
   refine uw ?_;intro K hK
   try refine aS ?_
   refine o6 CG underlying360 (h7.ae p3) ⟨false,(k:Int)⟩ (x.vU,.slice rE x.own.length cap2) (by rfl) (by rfl) (by rfl) ?_
   intro w8 h8
   go_wp2_with fail
   try refine aS ?_
   obtain⟨C,hC,hCv,h9⟩:=((h8.ae p2).ae p2).dY
   go_wp2_with fail
   go_roundw
   case rel=>
    exact⟨k+1,C,upd g ⟨false,(k:Int)⟩ (some (x.vU,.slice rE x.own.length cap2)),hlt,by go_num,fun a ha=>hC (hsub ha),(hrows.mono hC).put hCv Qx,h9.s⟩
   case measure=>simp[intOf]<;>omega
  ·have hkt:k=T.ay.length:=by omega
   subst hkt
   have fc_:=hw.facts
   go_upto_region 10 with(fail)
   go_loopw [7,8,43] (fun _ _ c wr=>∃(k:Nat) (Bk:List (Nat × Obj)) (g:bK→Option (mD × Value)),k≤T.bf.length∧c= .int .i64 k∧B ⊆ Bk∧zi Bk g (T.xx T.ay.length k)∧
    In w0 wr (fC bm dJ Kz g::bJ Bk::pts z (dO T (.slice Fa T.ay.length uH) vr (.slice BK T.bP.length caps) vc va (.slice EN T.bf.length ry) vm)::pts (bm+1) (sK bm (.slice none 0 0) (.slice none 0 0) (.map none) (.map none) (.map none) false 0 0)::l))
    (fun _ _ c _=>T.bf.length-(intOf c).toNat)
   case atStart=>exact⟨0,Bk,g,Nat.zero_le _,rfl,hsub,hrows,hw⟩
   case round=>
    obtain⟨k,Bk2,g2,hk2,rfl,hsub2,hrows2,hw2⟩:=hrel
    clear hw
    by_cases hlt:k<T.bf.length
    ·have hp:∃p,il[k]? =some p:=⟨_,List.getElem?_eq_getElem (by rw[←List.length_map (f:=(·.1)),i1];exact hlt)⟩
     obtain⟨p,hp⟩:=hp
     have hpT:T.bf[k]? =some p.1:=by rw[←i1,List.getElem?_map,hp];rfl
     have hpm:p∈il:=List.mem_of_getElem? hp
     have hown:=(i3 p hpm).mono hsub2
     have hsm:=n5 p.1 (List.mem_of_getElem? hpT)
     have hB:=hw2.ae p1
     obtain⟨g0,o0,cap0,eq0,hcap0,hcell0⟩:=(i2.mono hsub2).cells hB (by omega)
     cases eq0
     have hcs:∀(j:Nat) (u:Value),(iy p)[j]? =some u→j<3→wr.cell? ⟨g0,o0+(k*3+j),none⟩=some u:=fun j u hu hj=>
      hcell0 _ u ((flat_get (dL (slot:=iy) (size:=3) (fun _=>rfl) il) (i:=k) (x:=iy p) (by simp[hp]) j hj).trans hu)
     have hc0:wr.cell? ⟨g0,o0+k*3,none⟩=some (.int .i64 p.1.category):=by have:=hcs 0 _ rfl (by decide);simpa[Nat.add_assoc]using this
     have hc1:wr.cell? ⟨g0,o0+k*3+1,none⟩=some (.int .i64 p.1.aI):=by have:=hcs 1 _ rfl (by decide);simpa[Nat.add_assoc]using this
     have hc2:wr.cell? ⟨g0,o0+k*3+2,none⟩=some (p.2):=by have:=hcs 2 _ rfl (by decide);simpa[Nat.add_assoc]using this
     clear hcs
     obtain⟨OV,zO,eo⟩:=hown.form
     rcases p with⟨x,u⟩
     simp only at eo hown hsm hpT hc0 hc1 hc2
     subst eo
     have Qx:=T.TK (a:=T.ay.length) hpT
     have h6:=hw2.alloc (Ic x.category x.aI (.slice OV x.own.length zO))
     go_upto_region 12 with(fail)
     refine In.abs h6 ?_
     clear h6 hw2 hB hc0 hc1 hc2
     generalize wr.heap.size=q
     intro w6 h6
     have fc_:=h6.facts
     have hS0:=(h6.drew).ps [0,3]
     refine nK hS0 ⟨[10],[14]⟩ [.c 0 0,.c 0 1,.c 0 2,.c 2 3,.c 0 4,.c 0 5,.c 0 6,.c 2 7,.c 0 8,.c 1 9,.c 0 11,.c 2 12,.e 10,.c 0 13,.e 14] ?_
     refine nD ?_;intro K hK
     go_wp2_with (go_at_call 378;refine(MQ (h6.drew.ae p2) hown (by omega)).mono ?_;rintro _ w7 ⟨u2,rfl,h7⟩)
     clear h6
     obtain⟨rE,cap2,rfl⟩:=h7.aG
     go_wp2_with fail
     refine df hK ((h7).s) fun hS0=>?_
     refine uw ?_;intro K hK
     try refine aS ?_
     refine o6 CG underlying360 (h7.ae p3) ⟨true,(k:Int)⟩ (x.vU,.slice rE x.own.length cap2) (by rfl) (by rfl) (by rfl) ?_
     intro w8 h8
     go_wp2_with fail
     try refine aS ?_
     obtain⟨C,hC,hCv,h9⟩:=((h8.ae p2).ae p2).dY
     go_wp2_with fail
     go_roundw
     case rel=>
      exact⟨k+1,C,upd g2 ⟨true,(k:Int)⟩ (some (x.vU,.slice rE x.own.length cap2)),hlt,by go_num,fun a ha=>hC (hsub2 ha),(hrows2.mono hC).put hCv Qx,h9.s⟩
     case measure=>simp[intOf]<;>omega
    ·have hki:k=T.bf.length:=by omega
     subst hki
     have fc_:=hw2.facts
     go_upto_region 15 with(fail)
     have hw0:In w0 wr (Row 4 1 (.slice none 0 0) 0 []::Row 3 1 (.slice none 0 0) 0 []::fC bm dJ Kz g2::bJ Bk2::pts z (dO T (.slice Fa T.ay.length uH) vr (.slice BK T.bP.length caps) vc va (.slice EN T.bf.length ry) vm)::pts (bm+1) (sK bm (.slice none 0 0) (.slice none 0 0) (.map none) (.map none) (.map none) false 0 0)::l):=
      (hw2.dh 3 1).dh 4 1
     go_loopw [10,66] (fun _ c w9=>∃(k:Nat) (yi yc:Value),k≤T.bP.length∧c= .int .i64 k∧
      In w0 w9 (Row 4 1 yi k (bools ((T.bP.take k).map (·.internal)))::Row 3 1 yc k (ints ((T.bP.take k).map (·.gJ)))::fC bm dJ Kz g2::bJ Bk2::pts z (dO T (.slice Fa T.ay.length uH) vr (.slice BK T.bP.length caps) vc va (.slice EN T.bf.length ry) vm)::pts (bm+1) (sK bm (yi) (yc) (.map none) (.map none) (.map none) false 0 0)::l))
      (fun _ c _=>T.bP.length-(intOf c).toNat)
     case atStart=>exact⟨0,_,_,Nat.zero_le _,rfl,hw0⟩
     case round=>
      obtain⟨k,yi,yc,hk3,rfl,hw3⟩:=hrel
      clear hw0 hw2
      by_cases hlt:k<T.bP.length
      ·obtain⟨g0,o0,cap0,eq0,hcap0,hcell0⟩:=(ht.bP.mono hsub2).cells (hw3.ae p3) (by omega)
       cases eq0
       have hnx:=List.take_succ_eq_append_getElem hlt
       have hcs:∀(j:Nat) (u:Value),(kw T.bP[k])[j]? =some u→j<2→wr.cell? ⟨g0,o0+(k*2+j),none⟩=some u:=fun j u hu hj=>
        hcell0 _ u ((flat_get (dL (slot:=kw) (size:=2) (fun _=>rfl) T.bP) (i:=k) (x:=kw T.bP[k]) (by simp[hlt]) j hj).trans hu)
       generalize T.bP[k]=x at*
       have hc0:wr.cell? ⟨g0,o0+k*2,none⟩=some (.bool x.internal):=by have:=hcs 0 _ rfl (by decide);simpa[Nat.add_assoc]using this
       have hc1:wr.cell? ⟨g0,o0+k*2+1,none⟩=some (.int .i64 x.gJ):=by have:=hcs 1 _ rfl (by decide);simpa[Nat.add_assoc]using this
       clear hcs
       obtain⟨ai,ci,rfl⟩:=hw3.aG
       obtain⟨ac,cc,rfl⟩:=(hw3.ae p1).aG
       have h6:=hw3.alloc (L6 x.internal x.gJ)
       go_upto_region 17 with(fail)
       refine In.abs h6 ?_
       clear h6 hw3 hc0 hc1
       generalize wr.heap.size=q
       intro w6 h6
       have fc_:=h6.facts
       have hS0:=(h6.drew).ps [0,5]
       refine nK hS0 ⟨[7],[8,11]⟩ [.c 0 0,.c 0 1,.c 0 2,.c 0 3,.c 2 4,.c 0 5,.c 1 6,.e 7,.e 8,.c 0 9,.c 0 10,.e 11] ?_
       refine nD ?_;intro K hK
       go_wp2_with fail
       refine df hK ((hS0.alloc _).drop) fun hS0=>?_
       refine bG rfl rfl fun K hK=>?_
       refine aZ ac3 ((h6.drew.ae p1).alloc (.cells #[.bool x.internal] 4)) rfl rfl rfl (by simp[Value.oneCell']) (by omega) ?_
       intro u7 w7 h7
       obtain⟨ai2,ci2,rfl⟩:=h7.aG
       have fc_:=h7.facts
       go_wp2_with fail
       refine uw ?_;intro K hK
       go_wp2_with fail
       try refine aS ?_
       go_upto_region 18 with(fail)
       have h8:In w0 _ (pts (bm+1) (sK bm (.slice ai2 (k+1) ci2) (.slice ac k cc) (.map none) (.map none) (.map none) false 0 0)::_):=(h7.ae p6).setCell (off:=1) (.slice ai2 (k+1) ci2)
       refine In.abs h8 ?_
       clear h8 h7 h6
       intro w8 h8
       have fc_:=h8.facts
       have hS0:=(h8.drew).ps [2,0]
       refine nK hS0 ⟨[7],[8,11]⟩ [.c 0 0,.c 0 1,.c 0 2,.c 0 3,.c 2 4,.c 0 5,.c 1 6,.e 7,.e 8,.c 0 9,.c 0 10,.e 11] ?_
       refine nD ?_;intro K hK
       go_wp2_with fail
       refine df hK ((hS0.alloc _).drop) fun hS0=>?_
       refine bG rfl rfl fun K hK=>?_
       refine aZ Es ((h8.drew.ae p3).alloc (wC x.gJ)) rfl rfl rfl (by simp[Value.oneCell']) (by omega) ?_
       intro u9 w9 h9
       obtain⟨ac2,cc2,rfl⟩:=h9.aG
       have fc_:=h9.facts
       go_wp2_with fail
       refine uw ?_;intro K hK
       go_wp2_with fail
       try refine aS ?_
       have h10:In w0 _ (pts (bm+1) (sK bm (.slice ai2 (k+1) ci2) (.slice ac2 (k+1) cc2) (.map none) (.map none) (.map none) false 0 0)::_):=(h9.ae p1).setCell (off:=2) (.slice ac2 (k+1) cc2)
       go_wp2_with fail
       go_roundw
       case rel=>
        refine⟨k+1,.slice ai2 (k+1) ci2,.slice ac2 (k+1) cc2,hlt,by go_num,?_⟩
        have e1:bools ((T.bP.take (k+1)).map (·.internal))=bools ((T.bP.take k).map (·.internal))++ [.bool x.internal]:=by rw[hnx];simp[bools]
        have e2:ints ((T.bP.take (k+1)).map (·.gJ))=ints ((T.bP.take k).map (·.gJ))++ [.int .i64 x.gJ]:=by rw[hnx];simp[ints]
        rw[e1,e2]
        exact h10.s
       case measure=>simp[intOf]<;>omega
      ·have hkr:k=T.bP.length:=by omega
       subst hkr
       rw[List.take_length]at hw3
       obtain⟨C1,RD,hCi,h11⟩:=((hw3.ae p3).ae p1).dY
       obtain⟨C2,hC2,hCc,h12⟩:=(h11.ae p1).dY
       obtain⟨C3,hC3,hCm,h13⟩:=((h12.ae p1).ae p0).ZP
       have hrs:=VF (h13.ae p2)
       go_wp2_with (go_at_call 292;refine hrs.mono ?_;rintro _ w9 ⟨rfl,bh,bo,be,lM⟩)
       go_ret2
       refine⟨bm+1,rfl,?_⟩
       have IE:B ⊆ C3:=fun a ha=>hC3 (hC2 (RD (hsub2 ha)))
       have h15:=((lM.ae p4).xO).Ad IE
       have hLT:uF C3 T.eU bm yi yc:=by
        refine⟨⟨g2,hCm,fun o=>?_,fun o y u e=>(hrows2.own o y u e).mono (fun a ha=>hC3 (hC2 (RD ha)))⟩,?_,?_,?_,T.Uc,fun o ho=>T.YY o ho⟩
        ·rw[hrows2.fst o,T.Uw];rfl
        ·have:=hCi.mono (fun a ha=>hC3 (hC2 ha))
         show dQ C3 yi (T.bP.map (·.internal)).length _
         rw[List.length_map]
         exact this
        ·have:=hCc.mono hC3
         show dQ C3 yc (T.bP.map (·.gJ)).length _
         rw[List.length_map]
         exact this
        ·show(T.bP.map (·.internal)).length=(T.bP.map (·.gJ)).length
         rw[List.length_map,List.length_map]
       have e3:T.eU.dom.map (iO T.eU .fresh (fun _=>none))=List.replicate T.eU.dom.length emp:=by
        rw[←List.map_const']
        rfl
       have e4:gB .fresh=fun _=>none:=by funext t;rfl
       have h16:=Gp (n:=T.eU.dom.length) h15
       rw[←e3]at h16
       have h17:=h16.pr [3,2,2,0,1,1,0] 1
       rw[←e4]at h17
       exact qK (s:= .fresh) hLT (fun _ _=>rfl) h17
end
end Go.Proofs.YtajgpcnlehinbaaGreat
