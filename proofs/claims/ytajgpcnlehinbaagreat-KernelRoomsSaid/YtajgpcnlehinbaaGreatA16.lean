/- Part of a proof. -/
import Derived.Test.YtajgpcnlehinbaaGreatA15
namespace Go.Proofs.YtajgpcnlehinbaaGreat
open Tryz Go.RowKit
set_option maxRecDepth 100000
set_option maxHeartbeats 60000000
set_option linter.all false
section
variable {w0 w:World} {l:List SL} {r:Nat} {T:ah} {s:az} {B:List (Nat × Obj)} {x:jM}
theorem Vz {n:Int} (h:¬(0≤n∧n<T.ay.length)):s.zL T n=3:=by
 unfold az.zL
 split
 ·rfl
 ·rw[List.getElem?_eq_none (by omega)]
theorem ZB {n:Nat} {k:dn} {y:eY} (hk:T.ay[n]? =some k) (hy:s.tk.ay[n]? =some y):s.zL T n=if k.mask=0 then 1 else if y.state=3 then 7 else 0:=by
 unfold az.zL
 rw[if_neg (by omega),Int.toNat_natCast,hk,hy]
theorem OB (h:In w0 w (Core r T s::l)) (n:Int):aW 336 #[r,.int .i64 n] w w0 (.int .i64 (s.zL T n)) (Core r T s::l):=by
 have hok:=jY h
 have hhas:=Qu h n
 by_cases hb:0≤n∧n<T.ay.length
 ·obtain⟨m,rfl⟩:∃m:Nat,n=m:=⟨n.toNat,by omega⟩
  have hd:decide (0≤(m:Int)∧(m:Int)<T.ay.length)=true:=by simpa using hb
  rw[hd]at hhas
  have hk:=List.getElem?_eq_getElem (l:=T.ay) (i:=m) (by omega)
  obtain⟨y,hy⟩:=hok.2.t.one hk
  generalize T.ay[m]'(by omega)=k at hk
  rw[ZB hk hy]
  have hex:=Ew h hk
  by_cases h0:k.mask=0
  ·rw[if_pos h0]
   rw[h0]at hex
   go_enter func336,ntmps336
   go_wp2_with (first|(go_at_call 206;refine bW hhas ?_)|(go_at_call 386;refine bW hex ?_))
   go_ret
   exact⟨rfl,h⟩
  ·rw[if_neg h0]
   have hd0:(!decide (k.mask=0))=true:=by simp[h0]
   rw[hd0]at hex
   obtain⟨B,x,a,h1⟩:=dE h
   have hc3:=bu h1 3 rfl
   simp only[fJ]at hc3
   have hst:=GR (h1.ae p3) hy
   by_cases h3:y.state=3
   ·rw[if_pos h3]
    rw[h3]at hst
    go_enter func336,ntmps336
    go_wp2_with (first|(go_at_call 206;refine bW hhas ?_)|(go_at_call 386;refine bW hex ?_)|(go_at_call 109;refine bF hst ?_;intro w3 h4))
    go_ret
    exact⟨rfl,dI a (h4.s)⟩
   ·rw[if_neg h3]
    go_enter func336,ntmps336
    go_wp2_with (first|(go_at_call 206;refine bW hhas ?_)|(go_at_call 386;refine bW hex ?_)|(go_at_call 109;refine bF hst ?_;intro w3 h4))
    go_ret
    exact⟨rfl,dI a (h4.s)⟩
 ·have hd:decide (0≤n∧n<T.ay.length)=false:=by simpa using hb
  rw[hd]at hhas
  rw[Vz hb]
  go_enter func336,ntmps336
  go_wp2_with (go_at_call 206;refine bW hhas ?_)
  go_ret
  exact⟨rfl,h⟩
theorem EL (h:In w0 w (Core r T s::l)) (n m:Int):aW 238 #[r,.int .i64 n,.int .u32 m] w w0 (.int .i64 (s.fA T n m).2) (Core r T (s.fA T n m).1::l):=by
 have hok:=jY h
 have hal:=OB h n
 have hinv':=hok.2.fA hok.1.ok n m
 by_cases h0:s.zL T n=0
 ·obtain⟨j,k,y,rfl,hk,hy,hm,hs⟩:=az.Em h0
  have hel:j<s.ev.length:=by rw[hok.2.e.len];exact(List.getElem?_eq_some_iff.1 hk).1
  have Au:=List.getElem?_eq_getElem hel
  generalize s.ev[j]'hel=d at Au
  have hdm:¬d.mask=0:=by rw[hok.2.e.mask j d k Au hk];exact hm
  rw[h0]at hal
  cases hwk:d.woken m with
  |false=>
   have e0:s.fA T j m=({s with ev:=s.ev.set j (d.put m)},0):=by unfold az.fA;rw[if_pos h0,Int.toNat_natCast,Au,hy];simp only[hwk];rfl
   rw[e0]at hinv'⊢
   go_enter func238,ntmps238
   go_upto_region 4 with(go_at_call 336;refine bF hal ?_;intro w2 h2)
   obtain⟨B,x,a,h1⟩:=dE h2
   have hc6:=bu h1 6 rfl
   simp only[fJ]at hc6
   have hst:=XM (m:=m) (h1.ae p6) Au hdm
   rw[hwk]at hst
   go_wp2_with (go_at_call 337;refine bF hst ?_;intro w3 h3)
   go_ret
   exact⟨rfl,dI (a.turn hinv') (h3.s)⟩
  |true=>
   have e0:s.fA T j m=({s with ev:=s.ev.set j (d.put m),tk:={s.tk with ay:=s.tk.ay.set j {y with state:=2}},q:=T.join s.q j},0):=by unfold az.fA;rw[if_pos h0,Int.toNat_natCast,Au,hy];simp only[hwk,if_true]
   rw[e0]at hinv'⊢
   have hwt:=(hok.2.e.wait j d y Au hy).1 (EvS.IV hwk).1
   obtain⟨g,hg,hroom⟩:=hok.2.q.nP hok.1.ok (List.mem_of_getElem? hk)
   have hti:=hok.2.t.each j y k hy hk
   have hr:=hok.2.q.room hok.1.ok hok.2.t hy hk hg (by
    have h1:y.out j s.before=1:=by unfold eY.out;rw[if_pos (.inr (.inl hwt))]
    have h2:=hti.a1
    have h3:=hok.1.ok.lm k (List.mem_of_getElem? hk)
    rw[hti.lim]at h2
    omega)
   go_enter func238,ntmps238
   go_upto_region 4 with(go_at_call 336;refine bF hal ?_;intro w2 h2)
   obtain⟨B,x,a,h1⟩:=dE h2
   have hc6:=bu h1 6 rfl
   simp only[fJ]at hc6
   have hst:=XM (m:=m) (h1.ae p6) Au hdm
   rw[hwk]at hst
   go_upto_region 6 with(go_at_call 337;refine bF hst ?_;intro w3 h3)
   have hc3:=bu (h3.ae p1) 3 rfl
   simp only[fJ]at hc3
   have hrl:=GK (h3.ae p4) hy hwt
   go_upto_region 7 with(go_at_call 338;refine bF hrl ?_;intro w4 h4)
   have hjn:=xP a hk hg hr (h4.s:In w0 w4 (pts r (bM T s.leaving s.wants x)::bJ B::sS x.pq s.q::nN x.pt {s.tk with ay:=s.tk.ay.set j {y with state:=2}}::lW x.pl T.eU s.lock::jo x.pb ⟨T.depth.toNat,s.before⟩::sU x.pe (s.ev.set j (d.put m))::l))
   go_wp2_with (go_at_call 209;refine bF hjn ?_;intro w5 h5)
   go_ret
   exact⟨rfl,dI (a.turn hinv') (h5.s)⟩
 ·have e0:s.fA T n m=(s,s.zL T n):=by unfold az.fA;rw[if_neg h0]
  rw[e0]
  simp only
  generalize s.zL T n=q at*
  go_enter func238,ntmps238
  go_wp2_with (go_at_call 336;refine bF hal ?_;intro w2 h2)
  go_ret
  exact⟨rfl,h2⟩
theorem Na (h:In w0 w (Core r T s::l)) (n:Int):aW 323 #[r,.int .i64 n] w w0 (.tuple #[.int .u32 (s.mO T n).1,.int .i64 (s.mO T n).2]) (Core r T s::l):=by
 have hok:=jY h
 have hal:=OB h n
 by_cases h0:s.zL T n=0
 ·obtain⟨j,k,y,rfl,hk,hy,hm,hs⟩:=az.Em h0
  have hel:j<s.ev.length:=by rw[hok.2.e.len];exact(List.getElem?_eq_some_iff.1 hk).1
  have Au:=List.getElem?_eq_getElem hel
  generalize s.ev[j]'hel=d at Au
  have hdm:¬d.mask=0:=by rw[hok.2.e.mask j d k Au hk];exact hm
  rw[h0]at hal
  have e0:s.mO T j=(d.set,0):=by unfold az.mO;rw[if_pos h0,Int.toNat_natCast,Au]
  rw[e0]
  go_enter func323,ntmps323
  go_upto_region 4 with(go_at_call 336;refine bF hal ?_;intro w2 h2)
  obtain⟨B,x,a,h1⟩:=dE h2
  have hc6:=bu h1 6 rfl
  simp only[fJ]at hc6
  have hst:=J4 (h1.ae p6) Au
  rw[if_neg hdm]at hst
  go_wp2_with (go_at_call 110;refine bW hst ?_)
  go_ret2
  exact⟨rfl,h2⟩
 ·have e0:s.mO T n=(0,s.zL T n):=by unfold az.mO;rw[if_neg h0]
  rw[e0]
  simp only
  generalize s.zL T n=q at*
  go_enter func323,ntmps323
  go_wp2_with (go_at_call 336;refine bF hal ?_;intro w2 h2)
  go_ret2
  exact⟨rfl,h2⟩
theorem Iu (h:In w0 w (Core r T s::l)) (m:Int):aW 322 #[r,.int .u32 m] w w0 (.int .i64 (s.fF m).2) (Core r T (s.fF m).1::l):=by
 have hok:=jY h
 have hmd:=jZ h
 have hinv':=hok.2.fF m
 cases hm:s.me with
 |false=>
  have hme:=tZ h hm
  have e0:s.fF m=(s,2):=by unfold az.fF;rw[if_pos hm]
  rw[e0]
  go_enter func322,ntmps322
  go_wp2_with (first|(go_at_call 234;refine hme.mono ?_;rintro _ _ ⟨⟨i,rfl⟩,rfl⟩)|(go_at_call 108;refine bW hmd ?_))
  go_ret
  exact⟨rfl,h⟩
 |true=>
  obtain⟨n,y,k,hn,hy,hk,_⟩:=hok.2.BJ hm
  have hme:=qj h hm hn
  have hel:n<s.ev.length:=by rw[hok.2.e.len];exact(List.getElem?_eq_some_iff.1 hk).1
  have Au:=List.getElem?_eq_getElem hel
  generalize s.ev[n]'hel=d at Au
  have e0:s.fF m=if d.mask=0 then(s,1) else({s with ev:=s.ev.set n {d with set:=bits .andNot .u32 d.set m}},0):=by
   unfold az.fF;rw[if_neg (by rw[hm];decide),hn,Int.toNat_natCast,Au]
  rw[e0]at hinv'⊢
  obtain⟨B,x,a,h1⟩:=dE h
  have hc6:=bu h1 6 rfl
  simp only[fJ]at hc6
  by_cases h0:d.mask=0
  ·rw[if_pos h0]at hinv'⊢
   have hcl:=Ti (m:=m) (h1.ae p6) Au h0
   go_enter func322,ntmps322
   go_wp2_with (first|(go_at_call 234;refine bW hme ?_)|(go_at_call 108;refine bW hmd ?_)|(go_at_call 385;refine bW hcl ?_))
   go_ret
   exact⟨rfl,h⟩
  ·rw[if_neg h0]at hinv'⊢
   have hcl:=WL (m:=m) (h1.ae p6) Au h0
   go_enter func322,ntmps322
   go_wp2_with (first|(go_at_call 234;refine bW hme ?_)|(go_at_call 108;refine bW hmd ?_)|(go_at_call 385;refine bF hcl ?_;intro w3 h3))
   go_ret
   exact⟨rfl,dI (a.turn hinv') (h3.s)⟩
theorem TF {lv wt:Int} (v:Int) (h:In w0 w (pts r (bM T lv wt x)::l)):In w0 (w.setCell ⟨r,8,none⟩ (.int .u32 v)) (pts r (bM T lv v x)::l):=h.setCell (off:=8) (.int .u32 v)
theorem KZ (h:In w0 w (Core r T s::l)) (m:Int):aW 324 #[r,.int .u32 m] w w0 (.int .i64 (s.fM T m).2) (Core r T (s.fM T m).1::l):=by
 have hok:=jY h
 have hmd:=jZ h
 have hinv':=hok.2.fM m
 cases hm:s.me with
 |false=>
  have hme:=tZ h hm
  have e0:s.fM T m=(s,2):=by unfold az.fM;rw[if_pos hm]
  rw[e0]
  go_enter func324,ntmps324
  go_wp2_with (first|(go_at_call 234;refine hme.mono ?_;rintro _ _ ⟨⟨i,rfl⟩,rfl⟩)|(go_at_call 108;refine bW hmd ?_))
  go_ret
  exact⟨rfl,h⟩
 |true=>
  obtain⟨n,y,k,hn,hy,hk,_⟩:=hok.2.BJ hm
  have hme:=qj h hm hn
  have hex:=Ew h hk
  by_cases h0:k.mask=0
  ·have e0:s.fM T m=(s,1):=by unfold az.fM;rw[if_neg (by rw[hm];decide),hn,T.sF hk,if_pos h0]
   rw[e0]
   rw[h0]at hex
   go_enter func324,ntmps324
   go_wp2_with (first|(go_at_call 234;refine bW hme ?_)|(go_at_call 108;refine bW hmd ?_)|(go_at_call 386;refine bW hex ?_))
   go_ret
   exact⟨rfl,h⟩
  have hd0:(!decide (k.mask=0))=true:=by simp[h0]
  rw[hd0]at hex
  have hfr:=EW h hk
  have ef:s.free=(s.lock.held (oL n)).isEmpty:=by unfold az.free;rw[hn]
  rw[←ef]at hfr
  cases hf:s.free with
  |false=>
   have e0:s.fM T m=(s,6):=by unfold az.fM;rw[if_neg (by rw[hm];decide),hn,T.sF hk,if_neg h0,if_pos hf]
   rw[e0]
   rw[hf]at hfr
   go_enter func324,ntmps324
   go_wp2_with (first|(go_at_call 234;refine bW hme ?_)|(go_at_call 108;refine bW hmd ?_)|(go_at_call 386;refine bW hex ?_)|(go_at_call 382;refine bF hfr ?_;intro w3 h3))
   go_ret
   exact⟨rfl,h3⟩
  |true=>
   rw[hf]at hfr
   have hel:n<s.ev.length:=by rw[hok.2.e.len];exact(List.getElem?_eq_some_iff.1 hk).1
   have Au:=List.getElem?_eq_getElem hel
   generalize s.ev[n]'hel=d at Au
   have hdm:¬d.mask=0:=by rw[hok.2.e.mask n d k Au hk];exact h0
   have e0:s.fM T m=if bits .and .u32 d.set m=0 then({s with leaving:=3,wants:=m},0) else(s,0):=by
    unfold az.fM;rw[if_neg (by rw[hm];decide),hn,T.sF hk,if_neg h0,if_neg (by rw[hf];decide),Int.toNat_natCast,Au]
   rw[e0]at hinv'⊢
   by_cases hbt:bits .and .u32 d.set m=0
   ·rw[if_pos hbt]at hinv'⊢
    go_enter func324,ntmps324
    go_upto_region 10 with(first|(go_at_call 234;refine bW hme ?_)|(go_at_call 108;refine bW hmd ?_)|(go_at_call 386;refine bW hex ?_)|(go_at_call 382;refine bF hfr ?_;intro w3 h3))
    obtain⟨B,x,a,h4⟩:=dE h3
    have hc6:=bu h4 6 rfl
    have AY:=bu h4 7 rfl
    have hc8:=bu h4 8 rfl
    have hf7:=oJ (off:=7) h4
    have hf8:=oJ (off:=8) h4
    simp only[fJ]at hc6
    have hgt:=J4 (h4.ae p6) Au
    rw[if_neg hdm]at hgt
    go_wp2_with (go_at_call 110;refine bW hgt ?_)
    go_ret
    exact⟨rfl,dI (a.turn hinv') (TF m (kF 3 h4))⟩
   ·rw[if_neg hbt]at hinv'⊢
    go_enter func324,ntmps324
    go_upto_region 10 with(first|(go_at_call 234;refine bW hme ?_)|(go_at_call 108;refine bW hmd ?_)|(go_at_call 386;refine bW hex ?_)|(go_at_call 382;refine bF hfr ?_;intro w3 h3))
    obtain⟨B,x,a,h4⟩:=dE h3
    have hc6:=bu h4 6 rfl
    simp only[fJ]at hc6
    have hgt:=J4 (h4.ae p6) Au
    rw[if_neg hdm]at hgt
    go_wp2_with (go_at_call 110;refine bW hgt ?_)
    go_ret
    exact⟨rfl,h3⟩
end
section
variable {w0 w:World} {l:List SL} {r:Nat} {T:ah} {s:az} {B:List (Nat × Obj)} {x:jM} {lv wt:Int}
theorem tH (a:Value) (w:World):(Instr.field 216 (.agg #[a]) 0).run prog w= .ok a w:=by kernel_rfl
theorem WO (h1:In w0 w (pts r (bM T lv wt x)::l)):Calls prog 108 #[r] w fun e w'=>e= .returned (.bool true)∧w=w':=by
 have hc:=bu h1 3 rfl
 simp only[fJ]at hc
 go_enter func108,ntmps108
 go_wp2_with fail
 go_ret
 exact⟨rfl,rfl⟩
theorem zD (h:In w0 w (pts r (bM T lv wt x)::l)):aW 124 #[r] w w0 (.agg #[.pointer (some ⟨x.pl,0,none⟩)]) (pts r (bM T lv wt x)::l):=by
 have h1:=h.alloc (.cells #[.pointer none] 216)
 go_enter func124,ntmps124
 go_upto_region 1 with(fail)
 refine In.abs h1 ?_
 clear h1 h
 generalize w.heap.size=z
 intro w2 h2
 have hmd:=WO (h2.ae p1)
 have hc2:=bu (h2.ae p1) 2 rfl
 simp only[fJ]at hc2
 have fc_:=h2.facts
 have h3:=h2.fill [.pointer (some ⟨x.pl,0,none⟩)] rfl
 simp only[dm]at h3
 have hcc:=h3.cells
 go_wp2_with (go_at_call 108;refine bW hmd ?_)
 refine bodyPost_ret (v:= .agg #[.pointer (some ⟨x.pl,0,none⟩)]) (by simp[results,results124,go_sem,hcc]) rfl ?_
 exact⟨rfl,h3.drop⟩
theorem Ze {b:Nat} {o:bK} {i:Int} (hF:T.Fine) (hl:sZ T.eU s.lock) (h:In w0 w (lW b T.eU s.lock::l)):
 aW 383 #[b,dJ o,.int .i64 i] w w0 (.int .i64 (s.get T o i).2) (lW b T.eU (s.get T o i).1.lock::l):=by
 unfold az.get
 cases hk:T.eU.known o i with
 |false=>exact SB h hk
 |true=>
  obtain⟨y,hy,_⟩:=DC hk
  rw[if_neg (by decide),hy]
  have:=aaZ h hk hy (by have:=(hF.row hy).1;omega) (fun hf=>hl.room hy hf)
  simp only
  split
  ·rename_i hf;rw[hf]at this;exact this
  ·rename_i hf;rw[if_neg hf,if_neg hf]at this;exact this
theorem NL {b:Nat} {o:bK} {i:Int} (hF:T.Fine) (h:In w0 w (lW b T.eU s.lock::l)):
 aW 384 #[b,dJ o,.int .i64 i] w w0 (.int .i64 (s.release T o i).2) (lW b T.eU (s.release T o i).1.lock::l):=by
 unfold az.release
 cases hk:T.eU.known o i with
 |false=>exact Iw h hk
 |true=>
  obtain⟨y,hy,_⟩:=DC hk
  rw[if_neg (by decide)]
  split
  ·rename_i hg
   have hs:=ni hg
   exact Ho h hk hy (by have:=(hF.row hy).1;omega) (.inr ⟨rfl,_,hs,rfl⟩)
  ·rename_i hg
   exact Ho h hk hy (by have:=(hF.row hy).1;omega) (.inl ⟨rfl,rfl,fun xs e=>hg (by rw[e];simp)⟩)
def EJ (l:List Int):Value:=match l.getLast? with|some t=> .tuple #[.int .i64 t,.bool true]|none=> .tuple #[.int .i64 (-1),.bool false]
theorem OJ {b:Nat} {o:bK} {y:mD} {s:di} {tab:kR} (h:In w0 w (lW b tab s::l)) (hy:tab.rows o=some y):
 aW 235 #[b,dJ o] w w0 (EJ (s.held o)) (lW b tab (s.iC o)::l):=by
 unfold EJ di.iC
 cases hg:(s.held o).getLast? with
 |none=>
  have e:s.held o= []:=List.getLast?_eq_none_iff.1 hg
  rw[if_pos e]
  exact VX h hy e
 |some t=>
  have e:=ni hg
  rw[if_neg (by rw[e];simp)]
  exact ZG h hy e
theorem V8 (h:In w0 w (Core r T s::l)) {o:bK} (ho:s.acts o) (i:Int):aW 320 #[r,dJ o,.int .i64 i] w w0 (.int .i64 (s.get T o i).2) (Core r T (s.get T o i).1::l):=by
 have hinv':=(jY h).2.get ho i
 obtain⟨B,x,a,h1⟩:=dE h
 have h2:=h1.alloc (mi o.isr o.id)
 have hgs:=fun{w:World} {l:List SL} (h:In w0 w (lW x.pl T.eU s.lock::l))=>Ze (o:=o) (i:=i) a.fine a.inv.lk h
 have e1:(s.get T o i).1= {s with lock:=(s.get T o i).1.lock}:=by unfold az.get;split;rfl;split;split;rfl;rfl;rfl
 rw[e1]at hinv'⊢
 generalize (s.get T o i).2=st at*
 generalize (s.get T o i).1.lock=lk at*
 clear e1
 rcases o with⟨oi,od⟩
 unfold dJ at*
 have hfd:=tH (.pointer (some ⟨x.pl,0,none⟩))
 go_enter func320,ntmps320
 go_upto_region 1 with(fail)
 refine In.abs h2 ?_
 clear h2 h1 h
 generalize w.heap.size=z
 intro w2 h2
 have fc_:=h2.facts
 have hS0:=(h2.drew).ps [0]
 refine nK hS0 ⟨[1],[5]⟩ [.c 0 0,.c 2 3,.c 0 4,.e 1,.c 0 2,.e 5,.c 0 6] ?_
 refine nD ?_;intro K hK
 go_wp2_with (go_at_call 124;refine bF (zD (h2.drew.ae p1)) ?_;intro w3 h3)
 go_wp2_with fail
 refine df hK ((h3).s) fun hS0=>?_
 refine uw ?_;intro K hK
 go_wp2_with (go_at_call 383;refine bF (hgs (h3.ae p3)) ?_;intro w4 h4)
 go_wp2_with fail
 refine wM ?_
 go_wp2_with fail
 go_ret
 exact⟨rfl,dI (a.turn hinv') (h4.s)⟩
theorem GM (h:In w0 w (Core r T s::l)) {o:bK} (ho:s.acts o) (i:Int):aW 321 #[r,dJ o,.int .i64 i] w w0 (.int .i64 (s.release T o i).2) (Core r T (s.release T o i).1::l):=by
 have hinv':=(jY h).2.release ho i
 obtain⟨B,x,a,h1⟩:=dE h
 have h2:=h1.alloc (mi o.isr o.id)
 have hgs:=fun{w:World} {l:List SL} (h:In w0 w (lW x.pl T.eU s.lock::l))=>NL (o:=o) (i:=i) a.fine h
 have e1:(s.release T o i).1= {s with lock:=(s.release T o i).1.lock}:=by unfold az.release;split;rfl;split;rfl;rfl
 rw[e1]at hinv'⊢
 generalize (s.release T o i).2=st at*
 generalize (s.release T o i).1.lock=lk at*
 clear e1
 rcases o with⟨oi,od⟩
 unfold dJ at*
 have hfd:=tH (.pointer (some ⟨x.pl,0,none⟩))
 go_enter func321,ntmps321
 go_upto_region 1 with(fail)
 refine In.abs h2 ?_
 clear h2 h1 h
 generalize w.heap.size=z
 intro w2 h2
 have fc_:=h2.facts
 have hS0:=(h2.drew).ps [0]
 refine nK hS0 ⟨[1],[5]⟩ [.c 0 0,.c 2 3,.c 0 4,.e 1,.c 0 2,.e 5,.c 0 6] ?_
 refine nD ?_;intro K hK
 go_wp2_with (go_at_call 124;refine bF (zD (h2.drew.ae p1)) ?_;intro w3 h3)
 go_wp2_with fail
 refine df hK ((h3).s) fun hS0=>?_
 refine uw ?_;intro K hK
 go_wp2_with (go_at_call 384;refine bF (hgs (h3.ae p3)) ?_;intro w4 h4)
 go_wp2_with fail
 refine wM ?_
 go_wp2_with fail
 go_ret
 exact⟨rfl,dI (a.turn hinv') (h4.s)⟩
theorem ZI (h:In w0 w (Core r T s::l)) {o:bK} {y:mD} (ho:s.acts o) (hy:T.eU.rows o=some y):aW 90 #[r,dJ o] w w0 (EJ (s.lock.held o)) (Core r T {s with lock:=s.lock.iC o}::l):=by
 have hinv':=(jY h).2.drop ho
 obtain⟨B,x,a,h1⟩:=dE h
 have h2:=h1.alloc (mi o.isr o.id)
 have hgs:=fun{w:World} {l:List SL} (h:In w0 w (lW x.pl T.eU s.lock::l))=>OJ (o:=o) h hy
 have hv:∃i b,EJ (s.lock.held o)= .tuple #[.int .i64 i,.bool b]:=by unfold EJ;split<;>exact⟨_,_,rfl⟩
 obtain⟨vi,vb,ev⟩:=hv
 rw[ev]at hgs⊢
 generalize s.lock.iC o=lk at*
 clear hy ev
 rcases o with⟨oi,od⟩
 unfold dJ at*
 have hfd:=tH (.pointer (some ⟨x.pl,0,none⟩))
 go_enter func90,ntmps90
 go_upto_region 1 with(fail)
 refine In.abs h2 ?_
 clear h2 h1 h
 generalize w.heap.size=z
 intro w2 h2
 have fc_:=h2.facts
 have hS0:=(h2.drew).ps [0]
 refine nK hS0 ⟨[1],[4]⟩ [.c 0 0,.c 2 3,.e 1,.c 0 2,.e 4,.c 0 5,.c 0 6,.c 0 7,.c 0 8] ?_
 refine nD ?_;intro K hK
 go_wp2_with (go_at_call 124;refine bF (zD (h2.drew.ae p1)) ?_;intro w3 h3)
 go_wp2_with fail
 refine df hK ((h3).s) fun hS0=>?_
 refine uw ?_;intro K hK
 go_wp2_with (go_at_call 235;refine bF (hgs (h3.ae p3)) ?_;intro w4 h4)
 go_wp2_with fail
 refine wM ?_
 go_wp2_with fail
 go_ret2
 exact⟨rfl,dI (a.turn hinv') (h4.s)⟩
theorem WM (h:In w0 w (Core r T s::l)) {o:bK} {y:mD} (hy:T.eU.rows o=some y):Calls prog 44 #[r,dJ o] w fun e w'=>∃v,e= .returned v∧In w0 w' (Ints v (s.lock.held o)::Core r T s::l):=by
 obtain⟨B,x,a,h1⟩:=dE h
 have h2:=h1.alloc (mi o.isr o.id)
 have hfew:=a.inv.lk.few hy
 have h65:=(a.fine.row hy).1
 have hgs:=fun{w:World} {l:List SL} (h:In w0 w (lW x.pl T.eU s.lock::l))=>JV h hy (by omega)
 clear hy hfew
 rcases o with⟨oi,od⟩
 unfold dJ at*
 have hfd:=tH (.pointer (some ⟨x.pl,0,none⟩))
 go_enter func44,ntmps44
 go_upto_region 1 with(fail)
 refine In.abs h2 ?_
 clear h2 h1 h
 generalize w.heap.size=z
 intro w2 h2
 have fc_:=h2.facts
 have hS0:=(h2.drew).ps [0]
 refine nK hS0 ⟨[1],[4]⟩ [.c 0 0,.c 2 3,.e 1,.c 0 2,.e 4,.c 0 5] ?_
 refine nD ?_;intro K hK
 go_wp2_with (go_at_call 124;refine bF (zD (h2.drew.ae p1)) ?_;intro w3 h3)
 go_wp2_with fail
 refine df hK ((h3).s) fun hS0=>?_
 refine uw ?_;intro K hK
 go_wp2_with (go_at_call 115;refine(hgs (h3.ae p3)).mono ?_;rintro _ w4 ⟨v,rfl,h4⟩)
 obtain⟨ao,cap,rfl⟩:=In.aG (E:=3) (size:=1) h4
 go_wp2_with fail
 refine wM ?_
 go_wp2_with fail
 go_ret
 refine⟨_,rfl,?_⟩
 have h5:=h4.pr [2,3,1,2,2,2,2,0] 1
 exact(dI a h5).ae p1
theorem Y1 (h:In w0 w (Core r T s::l)) {o:bK} {y:mD} (hy:T.eU.rows o=some y):aW 244 #[r,dJ o] w w0 (.int .i64 (T.eU.aI s.lock o)) (Core r T s::l):=by
 obtain⟨B,x,a,h1⟩:=dE h
 have h2:=h1.alloc (mi o.isr o.id)
 have hgs:=fun{w:World} {l:List SL} (h:In w0 w (lW x.pl T.eU s.lock::l))=>tC h hy (fun i hi=>(a.fine.row hy).2 i (a.inv.lk.own _ _ hy i hi))
 clear hy
 generalize T.eU.aI s.lock o=q at*
 rcases o with⟨oi,od⟩
 unfold dJ at*
 have hfd:=tH (.pointer (some ⟨x.pl,0,none⟩))
 go_enter func244,ntmps244
 go_upto_region 1 with(fail)
 refine In.abs h2 ?_
 clear h2 h1 h
 generalize w.heap.size=z
 intro w2 h2
 have fc_:=h2.facts
 have hS0:=(h2.drew).ps [0]
 refine nK hS0 ⟨[1],[4]⟩ [.c 0 0,.c 2 3,.e 1,.c 0 2,.e 4,.c 0 5] ?_
 refine nD ?_;intro K hK
 go_wp2_with (go_at_call 124;refine bF (zD (h2.drew.ae p1)) ?_;intro w3 h3)
 go_wp2_with fail
 refine df hK ((h3).s) fun hS0=>?_
 refine uw ?_;intro K hK
 go_wp2_with (go_at_call 111;refine bF (hgs (h3.ae p3)) ?_;intro w4 h4)
 go_wp2_with fail
 refine wM ?_
 go_wp2_with fail
 go_ret
 exact⟨rfl,dI a (h4.s)⟩
theorem WR (h:In w0 w (Core r T s::l)):aW 88 #[r] w w0 (.int .i64 s.oQ.2) (Core r T s.oQ.1::l):=by
 have hok:=jY h
 have hmd:=jZ h
 have hinv':=hok.2.oQ
 cases hm:s.me with
 |false=>
  have hme:=tZ h hm
  have e0:s.oQ=(s,2):=by unfold az.oQ;rw[if_pos hm]
  rw[e0]
  go_enter func88,ntmps88
  go_wp2_with (first|(go_at_call 234;refine hme.mono ?_;rintro _ _ ⟨⟨i,rfl⟩,rfl⟩)|(go_at_call 108;refine bW hmd ?_))
  go_ret
  exact⟨rfl,h⟩
 |true=>
  obtain⟨n,y,k,hn,hy,hk,_⟩:=hok.2.BJ hm
  have hme:=qj h hm hn
  have e0:s.oQ=({s with lock:=s.lock.iC (oL n),leaving:=1},0):=by unfold az.oQ;rw[if_neg (by rw[hm];decide),hn]
  rw[e0]at hinv'⊢
  obtain⟨B,x,a,h1⟩:=dE h
  have hrow:=qA hk
  have hgs:=fun{w:World} {l:List SL} (h:In w0 w (lW x.pl T.eU s.lock::l))=>OJ h hrow
  have hv:∃i b,EJ (s.lock.held ⟨false,(n:Int)⟩)= .tuple #[.int .i64 i,.bool b]:=by unfold EJ;split<;>exact⟨_,_,rfl⟩
  obtain⟨vi,vb,ev⟩:=hv
  rw[ev]at hgs
  unfold dJ at hgs
  have hts:oL (n:Int)=⟨false,(n:Int)⟩:=rfl
  rw[hts]at hinv'⊢
  generalize s.lock.iC ⟨false,(n:Int)⟩=lk at*
  have hLk:∀w',In w0 w' [pts r (bM T s.leaving s.wants x)]→w'.cell? ⟨r,2,none⟩=some (.pointer (some ⟨x.pl,0,none⟩)):=fun w' h=>bu h 2 rfl
  clear hts hrow ev
  go_enter func88,ntmps88
  go_wp2_with (first|(go_at_call 234;refine bW hme ?_)|(go_at_call 108;refine bW hmd ?_))
  have hS0:=(h1.drew).ps [0]
  refine nK hS0 ⟨[6],[7]⟩ [.c 0 0,.c 0 1,.c 0 2,.c 0 3,.c 2 4,.c 0 5,.e 6,.e 7] ?_
  refine nD ?_;intro K hK
  go_wp2_with (go_at_call 112;refine bF (qg h1.drew (n:Int)) ?_;intro w3 h3)
  go_wp2_with fail
  refine df hK ((h3).s) fun hS0=>?_
  refine bG rfl rfl fun K hK=>?_
  try refine aS ?_
  go_wp2_with (go_at_call 235;refine bF (hgs (h3.ae p2)) ?_;intro w4 h4)
  go_wp2_with fail
  try refine aS ?_
  have AY:=bu (h4.ae p1) 7 rfl
  have hf7:=oJ (off:=7) (h4.ae p1)
  go_wp2_with fail
  go_ret
  exact⟨rfl,dI (a.turn hinv') ((kF 1 (h4.ae p1)).s)⟩
end
section
variable {P:Program} {ops:Array Oper} {Q:Exit→Act→World→Prop} {S:World→Prop} {sd:qZ} {a:Act} {w:World} {r:List St}
theorem GY {j d:Nat} {want:Bool} {dst:Option Tmp} {op:Op} {ty:TypeId} {pos:String} {after:Array Edge} (hd:((ops[j]?).bind (·.dst))=some d) (ht:a.tmps[d]? =some undef):
 Region.wanted ⟨dst,op,ty,pos,after,some (j,want)⟩ (yielded ops a.tmps)=false:=by
 simp only[Region.wanted,yielded,hd,Option.bind_some,ht,undef]
 cases want<;>rfl
theorem Pj {m i j d:Nat} {want:Bool} {dst:Option Tmp} {op:Op} {ty:TypeId} {pos:String} {after:Array Edge} (ho:ops[i]? =some ⟨dst,op,ty,pos,after,some (j,want)⟩)
 (hd:((ops[j]?).bind (·.dst))=some d) (ht:a.tmps[d]? =some undef)
 (h:fD P ops Q S sd r (a.put dst undef) w):fD P ops Q S sd (.c m i::r) a w:=
 Sr ho (GY hd ht) h
theorem Jo {i j d:Nat} {want:Bool} {dst:Option Tmp} {op:Op} {ty:TypeId} {pos:String} {after:Array Edge} (ho:ops[i]? =some ⟨dst,op,ty,pos,after,some (j,want)⟩)
 (hd:((ops[j]?).bind (·.dst))=some d) (ht:a.tmps[d]? =some undef) (hS:S w)
 (h:fD P ops Q S sd r (a.put dst undef) w):fD P ops Q S sd (.e i::r) a w:=by
 unfold fD wpOp
 simp only[ho]
 rw[if_neg (by rw[GY hd ht];decide)]
 refine⟨?_,h⟩
 unfold Side
 split
 ·exact hS
 ·split<;>trivial
end
theorem BV {A B:Prop} (h:B) (s:Kept B→A:=by
 intro h
 (repeat((first
   |((with_reducible apply DI);rfl;(intro _;go_simp<;>(try go_bits)<;>with_reducible rfl))
   |((with_reducible apply Eh);rfl;(go_simp<;>(try go_bits)<;>with_reducible rfl))
   |((with_reducible apply DW);rfl;assumption;(intro _ hS;go_simp<;>(try go_bits)<;>with_reducible rfl))
   |((with_reducible apply Ba);rfl;rfl;rfl;rfl)
   |((with_reducible apply BF);rfl;rfl;rfl;(intro _;go_simp<;>(try go_bits)<;>with_reducible rfl))
   |((with_reducible apply BH);rfl;rfl;rfl;(go_simp<;>(try go_bits)<;>with_reducible rfl))
   |((with_reducible apply Bj);rfl;rfl;rfl;assumption;(intro _ hS;go_simp<;>(try go_bits)<;>with_reducible rfl))
   |((with_reducible apply Pj);rfl;rfl;rfl));simp only[Act.put,List.setIfInBounds_toArray,List.set_cons_zero,List.set_cons_succ]))
 exact h.it):A:=s ⟨h⟩
section
variable {P:Program} {k:TypeId} {κ:Type} [DecidableEq κ] {ek:κ→Value}
variable {ν:Type} {ev:ν→Value} {f:κ→Option ν} {w0 w:World} {l:List SL} {b:Nat}
variable {ops:Array Oper} {rest:List Oper} {dst:Option Tmp} {ty:TypeId} {pos:String} {after:Array Edge} {gd:Option (Nat × Bool)} {a:Act} {Q:Exit→Act→World→Prop} {x y z:Operand} {t:TypeId}
theorem aN {e:TypeId} (K:yu P k ek) (ht:P.underlying t=some (.map k e)) (h:In w0 w (fC b ek ev f::l)) (c:κ) (v:ν)
 (hx:a.eval x= .map (some b)) (hy:a.eval y=ek c) (hz:a.eval z=ev v)
 (kk:∀w',In w0 w' (fC b ek ev (upd f c (some v))::l)→wpList P ops Q rest a w'):
 wpList P ops Q (⟨none,.insert t x y z,ty,pos,after,none⟩::rest) a w:=by
 refine wpList_plain rfl fun K' hK=>?_
 obtain⟨w',hr,h'⟩:=EH K ht h c v
 unfold Oper.wp execOp
 simp only[hx,hy,hz,Sem.run_bind,hr,Result.andThen_ok,Sem.run_pure,Oper.upon]
 exact hK _ _ (kk _ h')
theorem nS (h:Stop (wpList P ops Q (⟨dst,.insert t x y z,ty,pos,after,gd⟩::rest) a w)):wpList P ops Q (⟨dst,.insert t x y z,ty,pos,after,gd⟩::rest) a w:=h
end
section
variable {w0 w:World} {l:List SL} {r:Nat} {T:ah} {s:az} {B:List (Nat × Obj)} {x:jM}
theorem GV (h:In w0 w (Core r T s::l)):Calls prog 248 #[r] w fun e w'=>e= .returned (.bool s.waiting)∧w=w':=by
 have hmd:=jZ h
 obtain⟨B,x,a,h1⟩:=dE h
 have hc4:=bu h1 4 rfl
 have hc5:=bu h1 5 rfl
 simp only[fJ]at hc4 hc5
 have hln:=Zt (h1.ae p4)
 have hst:=abC (h1.ae p5)
 simp only at hst
 by_cases h0:0<s.q.len
 ·have e0:s.waiting=true:=by unfold az.waiting;simp[h0]
  rw[e0]
  have n0:(0:Int)<s.q.len:=by omega
  go_enter func248,ntmps248
  go_wp2_with (first|(go_at_call 108;refine bW hmd ?_)|(go_at_call 348;refine bW hln ?_))
  go_ret
  exact⟨rfl,rfl⟩
 ·have e1:s.q.len=0:=by omega
  rw[e1]at hln
  by_cases h2:s.before= []
  ·have e0:s.waiting=false:=by unfold az.waiting;simp[h0,h2]
   rw[e0]
   rw[h2]at hst
   go_enter func248,ntmps248
   go_wp2_with (first|(go_at_call 108;refine bW hmd ?_)|(go_at_call 348;refine bW hln ?_)|(go_at_call 349;refine bW hst ?_))
   go_ret
   exact⟨rfl,rfl⟩
  ·have e0:s.waiting=true:=by unfold az.waiting;simp[h0,h2]
   rw[e0]
   have n0:(0:Int)<s.before.length:=by have:=List.length_pos_iff.2 h2;omega
   go_enter func248,ntmps248
   go_wp2_with (first|(go_at_call 108;refine bW hmd ?_)|(go_at_call 348;refine bW hln ?_)|(go_at_call 349;refine bW hst ?_))
   go_ret
   exact⟨congrArg (fun b=>Ending.returned (.bool b)) (show decide (0<s.before.length)=true by simpa using List.length_pos_iff.2 h2),rfl⟩
theorem PZ (h:In w0 w (Core r T s::l)):Calls prog 251 #[r] w fun e w'=>(∃v,e= .returned (.int .i64 v))∧In w0 w' (Core r T s.jQ::l):=by
 have hok:=jY h
 have hmd:=jZ h
 have hinv':=hok.2.jQ
 cases hm:s.me with
 |false=>
  have hme:=tZ h hm
  have e0:s.jQ=s:=by unfold az.jQ;rw[hm];rfl
  rw[e0]
  go_enter func251,ntmps251
  go_wp2_with (first|(go_at_call 234;refine hme.mono ?_;rintro _ _ ⟨⟨i,rfl⟩,rfl⟩)|(go_at_call 108;refine bW hmd ?_))
  go_ret
  exact⟨⟨_,rfl⟩,h⟩
 |true=>
  have hme:=qj h hm rfl
  have e0:s.jQ= {s with leaving:=4}:=by unfold az.jQ;rw[if_pos hm]
  rw[e0]at hinv'⊢
  obtain⟨B,x,a,h4⟩:=dE h
  have AY:=bu h4 7 rfl
  have hf7:=oJ (off:=7) h4
  go_enter func251,ntmps251
  go_wp2_with (first|(go_at_call 234;refine bW hme ?_)|(go_at_call 108;refine bW hmd ?_))
  go_ret
  exact⟨⟨_,rfl⟩,dI (a.turn hinv') (kF 4 h4)⟩
theorem Vs (h:In w0 w (Core r T s::l)) {n:Nat} {y:eY} (hy:s.tk.ay[n]? =some y):aW 317 #[r,.int .i64 n] w w0 (.tuple #[.int .i64 y.state,.int .i64 0]) (Core r T s::l):=by
 have hmd:=jZ h
 obtain⟨B,x,a,h1⟩:=dE h
 have hc3:=bu h1 3 rfl
 simp only[fJ]at hc3
 have hst:=GR (h1.ae p3) hy
 go_enter func317,ntmps317
 go_wp2_with (first|(go_at_call 108;refine bW hmd ?_)|(go_at_call 109;refine bF hst ?_;intro w2 h2))
 go_ret2
 exact⟨rfl,dI a (h2.s)⟩
theorem PD {b:Nat} {t:wP} {i:Int} (h:In w0 w (nN b t::l)) (hi:i<0∨(t.ay.length:Int)≤i):
 Calls prog 252 #[b,.int .i64 i] w fun e w'=>e= .returned (.bool false)∧w=w':=by
 have hal:=tq h
 obtain⟨v,hp,h1⟩:=pg h
 obtain⟨ao,cap,rfl⟩:=(h1.ae p1).aG
 have hc:=h1.cells
 unfold jS at h1
 have fc_:=h1.facts
 by_cases h0:i<0
 ·go_enter func252,ntmps252
  go_wp2_with (go_at_call 256;refine bW hal ?_)
  go_ret
  exact⟨rfl,rfl⟩
 ·have h2:(t.ay.length:Int)≤i:=hi.resolve_left h0
  have h3:(0:Int)≤i:=by omega
  go_enter func252,ntmps252
  go_wp2_with (go_at_call 256;refine bW hal ?_)
  go_ret
  exact⟨by simp;omega,rfl⟩
theorem J6 (h:In w0 w (Core r T s::l)) {n:Int} (hn:n<0∨(T.ay.length:Int)≤n):aW 317 #[r,.int .i64 n] w w0 (.tuple #[.int .i64 0,.int .i64 3]) (Core r T s::l):=by
 have hmd:=jZ h
 have hok:=jY h
 obtain⟨B,x,a,h1⟩:=dE h
 have hc3:=bu h1 3 rfl
 simp only[fJ]at hc3
 have hbad:=PD (i:=n) (h1.ae p3) (by rw[hok.2.t.len];exact hn)
 have hst:Calls prog 109 #[.pointer (some ⟨x.pt,0,none⟩),.int .i64 n] w fun e w'=>e= .returned (.tuple #[.int .i64 0,.int .i64 3])∧w=w':=by
  go_enter func109,ntmps109
  go_wp2_with (go_at_call 252;refine bW hbad ?_)
  go_ret2
  exact⟨rfl,rfl⟩
 go_enter func317,ntmps317
 go_wp2_with (first|(go_at_call 108;refine bW hmd ?_)|(go_at_call 109;refine bW hst ?_))
 go_ret2
 exact⟨rfl,h⟩
theorem abE (h:In w0 w (Core r T s::l)):aW 250 #[r] w w0 (.bool (s.due T)) (Core r T s::l):=by
 have hok:=jY h
 cases hm:s.me with
 |false=>
  have hme:=tZ h hm
  have e0:s.due T=false:=by unfold az.due;rw[hm];rfl
  rw[e0]
  go_enter func250,ntmps250
  go_wp2_with (go_at_call 234;refine hme.mono ?_;rintro _ _ ⟨⟨i,rfl⟩,rfl⟩)
  go_ret
  exact⟨rfl,h⟩
 |true=>
  obtain⟨n,y,k,hn,hy,hk,_⟩:=hok.2.BJ hm
  have hme:=qj h hm hn
  have e0:s.due T=(k.full&&(match s.q.high with|some p=>decide (s.aI T n<p)|none=>false)):=by unfold az.due;rw[hm,hn,Int.toNat_natCast,hk];simp only[Bool.true_and];cases s.q.high<;>rfl
  rw[e0]
  obtain⟨B,x,a,h1⟩:=dE h
  have hc0:=bu h1 0 rfl
  have hc4:=bu h1 4 rfl
  obtain⟨g,o,cap,e,hcap,hcell⟩:=uQ a.tab hk
  rw[e]at hc0
  simp only[fJ]at hc4
  obtain⟨_,hfl,_⟩:=hcell (h1.ae p1)
  have n1:(n:Int)<T.ay.length:=by have:=(List.getElem?_eq_some_iff.1 hk).1;omega
  cases hf:k.full with
  |false=>
   rw[hf]at hfl
   simp only[Bool.false_and]
   go_enter func250,ntmps250
   go_wp2_with (go_at_call 234;refine bW hme ?_)
   go_ret
   exact⟨rfl,h⟩
  |true=>
   rw[hf]at hfl
   simp only[Bool.true_and]
   have hhi:=xy (h1.ae p4) a.inv.q.len
   cases hh:s.q.high with
   |none=>
    rw[hh]at hhi
    unfold Dq at hhi
    simp only
    go_enter func250,ntmps250
    go_wp2_with (first|(go_at_call 234;refine bW hme ?_)|(go_at_call 351;refine bW hhi ?_))
    refine rg ⟨[9],[10]⟩ [.c 0 0,.c 0 1,.c 0 2,.c 0 3,.c 0 4,.c 0 5,.c 0 6,.c 2 7,.c 0 8,.e 9,.e 10,.c 0 11,.c 0 12,.c 0 13] ?_
    refine cS_ ?_;intro K hK
    go_wp2_with fail
    refine df hK trivial (fun _=>?_)
    go_wp2_with fail
    refine bG rfl rfl fun K hK=>?_
    go_wp2_with fail
    go_wp2_with fail
    refine lK ?_
    go_wp2_with fail
    go_ret
    exact⟨rfl,h.drew⟩
   |some p=>
    rw[hh]at hhi
    unfold Dq at hhi
    simp only
    have hrow:=qA hk
    have hpr:=fun{w:World} {l:List SL} (h:In w0 w (lW x.pl T.eU s.lock::l))=>tC h hrow (fun i hi=>(a.fine.row hrow).2 i (a.inv.lk.own _ _ hrow i hi))
    have hpp:s.aI T n=T.eU.aI s.lock ⟨false,(n:Int)⟩:=rfl
    rw[hpp]
    generalize T.eU.aI s.lock ⟨false,(n:Int)⟩=q at*
    unfold dJ at hpr
    have hLk:∀w',In w0 w' [pts r (bM T s.leaving s.wants x)]→w'.cell? ⟨r,2,none⟩=some (.pointer (some ⟨x.pl,0,none⟩)):=fun w' h=>bu h 2 rfl
    go_enter func250,ntmps250
    go_wp2_with (first|(go_at_call 234;refine bW hme ?_)|(go_at_call 351;refine bW hhi ?_))
    have hS0:=(h1.drew).ps [0]
    refine nK hS0 ⟨[9],[10]⟩ [.c 0 0,.c 0 1,.c 0 2,.c 0 3,.c 0 4,.c 0 5,.c 0 6,.c 2 7,.c 0 8,.e 9,.e 10,.c 0 11,.c 0 12,.c 0 13] ?_
    refine nD ?_;intro K hK
    go_wp2_with (go_at_call 112;refine bF (qg h1.drew (n:Int)) ?_;intro w3 h3)
    go_wp2_with fail
    refine df hK ((h3).s) fun hS0=>?_
    refine bG rfl rfl fun K hK=>?_
    go_wp2_with (go_at_call 111;refine bF (hpr (h3.ae p2)) ?_;intro w4 h4)
    go_wp2_with fail
    refine wM ?_
    go_wp2_with fail
    go_ret
    exact⟨rfl,dI a (h4.s)⟩
end
section
variable {w0 w:World} {l:List SL} {r:Nat} {T:ah} {s:az} {B:List (Nat × Obj)} {x:jM}
theorem az.QL {n:Int} (hg:s.l9 T=some n):s.runs T=some (n,az.start T {s with before:=s.before.dropLast} n):=by unfold az.runs az.next;rw[hg];rfl
theorem az.ND {p:Nat} {g:iI Int} {n:Int} {xs:List Int} (hg:s.l9 T=none) (hp:s.q.high=some p) (hq:s.q[p]? =some (some g)) (hi:g.items=n::xs):
 s.runs T=some (n,az.start T {s with q:=s.q.set p (some {g with items:=xs})} n):=by unfold az.runs az.next;rw[hg,hp];simp only;rw[hq];simp only;rw[hi];rfl
theorem az.OC {j:Nat} {y:eY} {k:dn} (hy:s.tk.ay[j]? =some y) (hk:T.ay[j]? =some k):
 s.start T j= {s with tk:=⟨s.tk.ay.set j {y with state:=0},j⟩,lock:={s.lock with entered:=iE s.lock.entered (j:Int) (decide (0≤k.internal))}}:=by
 unfold az.start;rw[Int.toNat_natCast,hy,hk]
theorem dC.ZM {q:dC} {p:Nat} (h:q.busy p=true):0<q.len:=by
 unfold dC.busy at h
 split at h
 ·rename_i g hg
  unfold dC.len
  have hm:(match some g with|some s=>s.items.length|none=>0)∈q.map (fun x=>match x with|some s=>s.items.length|none=>0):=List.mem_map.2 ⟨some g,List.mem_of_getElem? hg,rfl⟩
  have h1:0<g.items.length:=by cases hi:g.items with
   |nil=>rw[hi]at h;cases h
   |cons a b=>simp
  have:∀(l:List Nat) (a:Nat),a∈l→a≤l.sum:=by
   intro l
   induction l with
   |nil=>intro a ha;simp at ha
   |cons b l ih=>
    intro a ha
    rw[List.sum_cons]
    rcases List.mem_cons.1 ha with rfl|ha
    ·omega
    ·have:=ih a ha;omega
  have:=this _ _ hm
  simp only at this
  exact Nat.lt_of_lt_of_le h1 this
 ·cases h
theorem dC.V5 {q:dC} (h:q.Idle):q.len=0:=by
 have key:∀(q:dC),(∀x∈q,∀g,x=some g→g.items= [])→q.len=0:=by
  intro q
  unfold dC.len
  induction q with
  |nil=>intro _;rfl
  |cons x q ih=>
   intro hx
   rw[List.map_cons,List.sum_cons,ih fun y hy=>hx y (List.mem_cons_of_mem _ hy)]
   cases x with
   |none=>rfl
   |some g=>simp[hx (some g) (by simp) g rfl]
 refine key q fun x hx g e=>?_
 subst e
 obtain⟨i,hi⟩:=List.getElem?_of_mem hx
 have:=h i
 unfold dC.busy at this
 rw[hi]at this
 simpa using this
theorem bD.waiting (h:bD T s):s.waiting=(s.runs T).isSome:=by
 unfold az.waiting
 cases hg:s.l9 T with
 |some n=>
  rw[az.QL hg]
  have hs:=h.l9 hg
  have:s.before≠ []:=by rw[hs];simp
  simp[this]
 |none=>
  cases hp:s.q.high with
  |some p=>
   have ht:=dC.rZ h.q.len hp
   obtain⟨g,y,xs,hq,hi⟩:=ht.ring
   rw[az.ND hg hp hq hi]
   have:=dC.ZM ht.1
   simp[this]
  |none=>
   have hidle:=dC.DF h.q.len hp
   have e0:=dC.V5 hidle
   have e1:s.before= []:=by
    unfold az.l9 at hg
    split at hg
    ·rename_i hl;exact List.getLast?_eq_none_iff.1 hl
    ·rw[hp]at hg;simp at hg
   have e2:s.runs T=none:=by unfold az.runs az.next;rw[hg,hp];rfl
   rw[e0,e1,e2]
   rfl
theorem lS (h:In w0 w (pts r (bM T s.leaving s.wants x)::l)):w.cell? ⟨r,2,none⟩=some (.pointer (some ⟨x.pl,0,none⟩))∧w.cell? ⟨r,3,none⟩=some (.pointer (some ⟨x.pt,0,none⟩))∧w.cell? ⟨r,4,none⟩=some (.pointer (some ⟨x.pq,0,none⟩))∧w.cell? ⟨r,5,none⟩=some (.pointer (some ⟨x.pb,0,none⟩)):=
 ⟨bu h 2 rfl,bu h 3 rfl,bu h 4 rfl,bu h 5 rfl⟩
theorem aaW (h:In w0 w (Core r T s::l)) (hr:s.tk.running= -1) {n:Int} {s':az} (hn:s.runs T=some (n,s')):aW 350 #[r] w w0 (.tuple #[.int .i64 n,.int .i64 0]) (Core r T s'::l):=by
 have hok:=jY h
 have hmd:=jZ h
 have hinv':=(hok.2.runs hok.1.ok hr hn).1
 have hwt:=GV h
 rw[hok.2.waiting,hn]at hwt
 simp only[Option.isSome_some]at hwt
 obtain⟨B,x,a,h1⟩:=dE h
 obtain⟨hc2,hc3,hc4,hc5⟩:=lS h1
 have hrun:=uY (h1.ae p3)
 rw[hr]at hrun
 have hhi:=xy (h1.ae p4) a.inv.q.len
 have hLk:∀w',In w0 w' [pts r (bM T s.leaving s.wants x)]→w'.cell? ⟨r,2,none⟩=some (.pointer (some ⟨x.pl,0,none⟩)):=fun w' h=>bu h 2 rfl
 cases hg:s.l9 T with
 |some m=>
  have hs:=a.inv.l9 hg
  obtain⟨j,y,rfl,hy,h2y⟩:=a.inv.b m (by rw[hs];simp)
  obtain⟨k,hk⟩:=a.inv.t.row hy
  have hrow:=qA hk
  rw[az.QL hg,az.OC (s:={s with before:=s.before.dropLast}) hy hk]at hn
  simp only[Option.some.injEq,Prod.mk.injEq]at hn
  obtain⟨rfl,rfl⟩:=hn
  have htop:=FU (h1.ae p5) hs
  cases hh:s.q.high with
  |none=>
   rw[hh]at hhi
   unfold Dq at hhi
   go_enter func350,ntmps350
   go_wp2_with (first|(go_at_call 108;refine bW hmd ?_)|(go_at_call 117;refine bW hrun ?_)|(go_at_call 248;refine bW hwt ?_)|(go_at_call 351;refine bW hhi ?_)|(go_at_call 334;refine bF htop ?_;intro w3 h3))
   refine rg ⟨[11],[12]⟩ [.c 0 0,.c 0 1,.c 0 2,.c 0 3,.c 0 4,.c 0 5,.c 0 6,.c 0 7,.c 0 8,.c 2 9,.c 0 10,.c 0 13,.e 11,.e 12,.c 0 14,.c 0 15,.c 0 16] ?_
   refine cS_ ?_;intro K hK
   go_wp2_with fail
   refine df hK trivial (fun _=>?_)
   go_wp2_with fail
   refine bG rfl rfl fun K hK=>?_
   go_wp2_with fail
   go_wp2_with fail
   refine lK ?_
   obtain⟨hb2,hb3,hb4,hb5⟩:=lS (h3.drew.ae p1)
   have hpop:=PU h3.drew hs
   go_upto_region 13 with(go_at_call 402;refine bF hpop ?_;intro w6 h6)
   obtain⟨hd2,hd3,hd4,hd5⟩:=lS (h6.ae p1)
   have Qy:=Cm (h6.ae p4) hr hy h2y
   go_upto_region 14 with(go_at_call 404;refine bF Qy ?_;intro w7 h7)
   have hd2':=(lS (h7.ae p2)).1
   have hent:=BP (h7.ae p4) hrow
   rw[show k.vU.internal=k.internal from rfl]at hent
   go_wp2_with (go_at_call 405;refine bF hent ?_;intro w8 h8)
   go_ret2
   exact⟨rfl,dI (a.turn hinv') (h8.s)⟩
  |some p=>
   rw[hh]at hhi
   unfold Dq at hhi
   have hle:(p:Int)≤s.aI T (j:Int):=by
    unfold az.l9 at hg
    split at hg
    ·cases hg
    ·rw[hh]at hg
     simp only at hg
     split at hg
     ·cases hg;assumption
     ·cases hg
   have hpr:=fun{w:World} {l:List SL} (h:In w0 w (lW x.pl T.eU s.lock::l))=>tC h hrow (fun i hi=>(a.fine.row hrow).2 i (a.inv.lk.own _ _ hrow i hi))
   have hpp:s.aI T (j:Int)=T.eU.aI s.lock ⟨false,(j:Int)⟩:=rfl
   rw[hpp]at hle
   generalize T.eU.aI s.lock ⟨false,(j:Int)⟩=q at*
   unfold dJ at hpr
   go_enter func350,ntmps350
   go_wp2_with (first|(go_at_call 108;refine bW hmd ?_)|(go_at_call 117;refine bW hrun ?_)|(go_at_call 248;refine bW hwt ?_)|(go_at_call 351;refine bW hhi ?_)|(go_at_call 334;refine bF htop ?_;intro w3 h3))
   have hS0:=(h3.drew).ps [1]
   refine nK hS0 ⟨[11],[12]⟩ [.c 0 0,.c 0 1,.c 0 2,.c 0 3,.c 0 4,.c 0 5,.c 0 6,.c 0 7,.c 0 8,.c 2 9,.c 0 10,.c 0 13,.e 11,.e 12,.c 0 14,.c 0 15,.c 0 16] ?_
   refine nD ?_;intro K hK
   go_wp2_with (go_at_call 112;refine bF (qg h3.drew (j:Int)) ?_;intro w4 h4)
   go_wp2_with fail
   refine df hK ((h4).s) fun hS0=>?_
   refine bG rfl rfl fun K hK=>?_
   go_wp2_with (go_at_call 111;refine bF (hpr (h4.ae p3)) ?_;intro w5 h5)
   go_wp2_with fail
   refine wM ?_
   obtain⟨hb2,hb3,hb4,hb5⟩:=lS (h5.ae p2)
   have hpop:=PU (h5.ae p1) hs
   go_upto_region 13 with(go_at_call 402;refine hpop.mono ?_;rintro _ w6' ⟨rfl,h6'⟩)
   have h6:=h6'.pr [0,1,1,0,0,0,0]
   obtain⟨hd2,hd3,hd4,hd5⟩:=lS (h6.ae p1)
   have Qy:=Cm (h6.ae p4) hr hy h2y
   go_upto_region 14 with(go_at_call 404;refine bF Qy ?_;intro w7 h7)
   have hd2':=(lS (h7.ae p2)).1
   have hent:=BP (h7.ae p4) hrow
   rw[show k.vU.internal=k.internal from rfl]at hent
   go_wp2_with (go_at_call 405;refine bF hent ?_;intro w8 h8)
   go_ret2
   exact⟨rfl,dI (a.turn hinv') (h8.s)⟩
 |none=>
  cases hh:s.q.high with
  |none=>
   have e2:s.runs T=none:=by unfold az.runs az.next;rw[hg,hh];rfl
   rw[e2]at hn;cases hn
  |some p=>
  rw[hh]at hhi
  unfold Dq at hhi
  have ht:=dC.rZ a.inv.q.len hh
  obtain⟨g,n0,xs,hq,hi⟩:=ht.ring
  obtain⟨j,y,k,rfl,hy,hk,h2y,hkp,hnb⟩:=a.inv.first a.fine.ok hr hq hi (az.zH a.inv hg hh)
  have hrow:=qA hk
  rw[az.ND hg hh hq hi,az.OC (s:={s with q:=s.q.set p (some {g with items:=xs})}) hy hk]at hn
  simp only[Option.some.injEq,Prod.mk.injEq]at hn
  obtain⟨rfl,rfl⟩:=hn
  cases hl:s.before.getLast? with
  |none=>
   have hb0:=List.getLast?_eq_none_iff.1 hl
   have htop:=zJ (h1.ae p5) hb0
   go_enter func350,ntmps350
   go_wp2_with (first|(go_at_call 108;refine bW hmd ?_)|(go_at_call 117;refine bW hrun ?_)|(go_at_call 248;refine bW hwt ?_)|(go_at_call 351;refine bW hhi ?_)|(go_at_call 334;refine bW htop ?_))
   refine rg ⟨[11],[12]⟩ [.c 0 0,.c 0 1,.c 0 2,.c 0 3,.c 0 4,.c 0 5,.c 0 6,.c 0 7,.c 0 8,.c 2 9,.c 0 10,.c 0 13,.e 11,.e 12,.c 0 14,.c 0 15,.c 0 16] ?_
   refine BV ?_
   (with_reducible apply Jo);rfl;rfl;rfl;trivial;simp only[Act.put,List.setIfInBounds_toArray,List.set_cons_zero,List.set_cons_succ]
   (with_reducible apply Jo);rfl;rfl;rfl;trivial;simp only[Act.put,List.setIfInBounds_toArray,List.set_cons_zero,List.set_cons_succ]
   refine BV ?_
   try refine aS ?_
   go_wp2_with fail
   obtain⟨hb2,hb3,hb4,hb5⟩:=lS h1.drew
   have htk:=MO (h1.drew.ae p4) ht hq hi
   go_upto_region 12 with(go_at_call 403;refine htk.mono ?_;rintro _ w6 ⟨rfl,h6'⟩)
   have O1:=h6'.alloc (.cells #[.int .i64 (p:Int),.int .i64 (j:Int)] 462)
   refine In.abs O1 ?_
   clear O1 h6'
   generalize w6.heap.size=zq
   intro w9 h9
   have fc_:=h9.facts
   go_upto_region 13 with(fail)
   have h6:=h9.pr [1,1,1,1,1,1,1] 1
   obtain⟨hd2,hd3,hd4,hd5⟩:=lS (h6.ae p1)
   have Qy:=Cm (h6.ae p4) hr hy h2y
   go_upto_region 14 with(go_at_call 404;refine bF Qy ?_;intro w7 h7)
   have hd2':=(lS (h7.ae p2)).1
   have hent:=BP (h7.ae p4) hrow
   rw[show k.vU.internal=k.internal from rfl]at hent
   go_wp2_with (go_at_call 405;refine bF hent ?_;intro w8 h8)
   go_ret2
   exact⟨rfl,dI (a.turn hinv') (h8.s)⟩
  |some m=>
   have hs:=ni hl
   have htop:=FU (h1.ae p5) hs
   obtain⟨jm,ym,rfl,hym,_⟩:=a.inv.b m (by rw[hs];simp)
   obtain⟨km,hkm⟩:=a.inv.t.row hym
   have XR:=qA hkm
   have hlt:s.aI T (jm:Int)<p:=az.zH a.inv hg hh _ (by rw[hs];simp)
   have hpr:=fun{w:World} {l:List SL} (h:In w0 w (lW x.pl T.eU s.lock::l))=>tC h XR (fun i hi=>(a.fine.row XR).2 i (a.inv.lk.own _ _ XR i hi))
   have hpp:s.aI T (jm:Int)=T.eU.aI s.lock ⟨false,(jm:Int)⟩:=rfl
   rw[hpp]at hlt
   generalize T.eU.aI s.lock ⟨false,(jm:Int)⟩=q at*
   unfold dJ at hpr
   go_enter func350,ntmps350
   go_wp2_with (first|(go_at_call 108;refine bW hmd ?_)|(go_at_call 117;refine bW hrun ?_)|(go_at_call 248;refine bW hwt ?_)|(go_at_call 351;refine bW hhi ?_)|(go_at_call 334;refine bF htop ?_;intro w3 h3))
   have hS0:=(h3.drew).ps [1]
   refine nK hS0 ⟨[11],[12]⟩ [.c 0 0,.c 0 1,.c 0 2,.c 0 3,.c 0 4,.c 0 5,.c 0 6,.c 0 7,.c 0 8,.c 2 9,.c 0 10,.c 0 13,.e 11,.e 12,.c 0 14,.c 0 15,.c 0 16] ?_
   refine nD ?_;intro K hK
   go_wp2_with (go_at_call 112;refine bF (qg h3.drew (jm:Int)) ?_;intro w4 h4)
   go_wp2_with fail
   refine df hK ((h4).s) fun hS0=>?_
   refine bG rfl rfl fun K hK=>?_
   go_wp2_with (go_at_call 111;refine bF (hpr (h4.ae p3)) ?_;intro w5 h5)
   go_wp2_with fail
   refine wM ?_
   obtain⟨hb2,hb3,hb4,hb5⟩:=lS (h5.ae p2)
   have htk:=MO (h5.ae p5) ht hq hi
   go_upto_region 12 with(go_at_call 403;refine htk.mono ?_;rintro _ w6 ⟨rfl,h6'⟩)
   have O1:=h6'.alloc (.cells #[.int .i64 (p:Int),.int .i64 (j:Int)] 462)
   refine In.abs O1 ?_
   clear O1 h6'
   generalize w6.heap.size=zq
   intro w9 h9
   have fc_:=h9.facts
   go_upto_region 13 with(fail)
   have h6:=h9.pr [1,3,3,1,2,1,1] 1
   obtain⟨hd2,hd3,hd4,hd5⟩:=lS (h6.ae p1)
   have Qy:=Cm (h6.ae p4) hr hy h2y
   go_upto_region 14 with(go_at_call 404;refine bF Qy ?_;intro w7 h7)
   have hd2':=(lS (h7.ae p2)).1
   have hent:=BP (h7.ae p4) hrow
   rw[show k.vU.internal=k.internal from rfl]at hent
   go_wp2_with (go_at_call 405;refine bF hent ?_;intro w8 h8)
   go_ret2
   exact⟨rfl,dI (a.turn hinv') (h8.s)⟩
end
def Io (f:Nat):Value:= .func (.func f) #[] #[]
theorem iq:yu prog 107 gZ:=yu.of_int underlying107
theorem Ac (w:World):(zeroValue 439).run prog w= .ok .nilFunc w:=by kernel_rfl
section
variable {w0 w:World} {l:List SL} {r:Nat} {T:ah} {s:az} {B:List (Nat × Obj)} {x:jM} {lv wt:Int}
theorem jy (h:In w0 w (pts r (bM T lv wt x)::l)):w.cell? ⟨r,2,none⟩=some (.pointer (some ⟨x.pl,0,none⟩))∧w.cell? ⟨r,3,none⟩=some (.pointer (some ⟨x.pt,0,none⟩))∧w.cell? ⟨r,5,none⟩=some (.pointer (some ⟨x.pb,0,none⟩))∧w.cell? ⟨r,6,none⟩=some (.pointer (some ⟨x.pe,0,none⟩))∧w.cell? ⟨r,8,none⟩=some (.int .u32 wt):=
 ⟨bu h 2 rfl,bu h 3 rfl,bu h 5 rfl,bu h 6 rfl,bu h 8 rfl⟩
theorem Dh {n:Nat} {k:dn} (a:uj B T s x) (h1:In w0 w (pts r (bM T lv wt x)::bJ B::l)) (hk:T.ay[n]? =some k):Calls prog 386 #[r,.int .i64 n] w fun e w'=>e= .returned (.bool (!decide (k.mask=0)))∧w=w':=by
 have hc:=bu h1 0 rfl
 obtain⟨g,o,cap,e,hcap,hcell⟩:=uQ a.tab hk
 rw[e]at hc
 obtain⟨_,_,hm⟩:=hcell (h1.ae p1)
 have n1:(n:Int)<T.ay.length:=by have:=(List.getElem?_eq_some_iff.1 hk).1;omega
 go_enter func386,ntmps386
 go_wp2_with fail
 go_ret
 exact⟨rfl,rfl⟩
theorem YI {n:Nat} {y:eY} {i:Int} {t:wP} (h:In w0 w (pts r (bM T lv wt x)::nN x.pt t::l)) (hr:t.running=n) (hy:t.ay[n]? =some y) (hs:y.state=0) (h1:1≤y.bI) (h2:y.bI≤255):
 aW 344 #[r,.int .i64 i] w w0 (.tuple #[]) (pts r (bM T lv wt x)::nN x.pt ⟨t.ay.set n y.less,-1⟩::l):=by
 obtain⟨hc2,hc3,hc5,hc6,hc8⟩:=jy h
 have hen:=aa0 (h.ae p1) hr hy hs h1 h2
 generalize y.less.state=q at*
 go_enter func344,ntmps344
 go_wp2_with (go_at_call 396;refine bF hen ?_;intro w3 h3)
 go_end0
 exact⟨rfl,h3.ae p1⟩
theorem Np {n:Nat} {y:eY} {t:wP} {d:Nat} {b:List Int} (h:In w0 w (pts r (bM T lv wt x)::nN x.pt t::jo x.pb ⟨d,b⟩::l)) (hr:t.running=n) (hy:t.ay[n]? =some y) (hs:y.state=0) (hd:b.length<d):
 aW 347 #[r,.int .i64 n] w w0 (.tuple #[]) (pts r (bM T lv wt x)::nN x.pt ⟨t.ay.set n {y with state:=2},-1⟩::jo x.pb ⟨d,b++ [(n:Int)]⟩::l):=by
 obtain⟨hc2,hc3,hc5,hc6,hc8⟩:=jy h
 have hpe:=FQ (h.ae p1) hr hy hs
 go_enter func347,ntmps347
 go_upto_region 1 with(go_at_call 400;refine bF hpe ?_;intro w3 h3)
 obtain⟨hd2,hd3,hd5,hd6,hd8⟩:=jy (h3.ae p1)
 have hpu:=Q9 (n:Int) (h3.ae p2) hd
 go_wp2_with (go_at_call 401;refine bF hpu ?_;intro w4 h4)
 go_end0
 exact⟨rfl,h4.s⟩
theorem VG {n:Nat} {y:eY} {k:dn} {t:wP} {ev:List EvS} {d:EvS} {g:iI Int} (a:uj B T s x) (h:In w0 w (pts r (bM T lv wt x)::bJ B::nN x.pt t::sS x.pq s.q::sU x.pe ev::l)) (hr:t.running=n) (hy:t.ay[n]? =some y) (hs:y.state=0)
 (hk:T.ay[n]? =some k) (hd:ev[n]? =some d) (hm:d.mask=k.mask) (hg:s.q[k.aI.toNat]? =some (some g)) (hroom:g.items.length<g.room):
 aW 345 #[r,.int .i64 n] w w0 (.tuple #[]) (pts r (bM T lv wt x)::bJ B::nN x.pt ⟨t.ay.set n {y with state:=2},-1⟩::sS x.pq (T.join s.q n)::sU x.pe (if T.vz n=0 then ev else nM ev n)::l):=by
 obtain⟨hc2,hc3,hc5,hc6,hc8⟩:=jy h
 have hpe:=V4 (h.ae p2) hr hy hs
 rw[T.sF hk]
 by_cases h0:k.mask=0
 ·rw[if_pos h0]
  go_enter func345,ntmps345
  go_upto_region 1 with(go_at_call 397;refine bF hpe ?_;intro w3 h3)
  have hex:=Dh a (h3.s:In w0 w3 (pts r (bM T lv wt x)::bJ B::nN x.pt ⟨t.ay.set n {y with state:=2},-1⟩::sS x.pq s.q::sU x.pe ev::l)) hk
  rw[h0]at hex
  go_upto_region 3 with(go_at_call 386;refine bW hex ?_)
  have hjn:=xP a hk hg hroom (h3.s:In w0 w3 (pts r (bM T lv wt x)::bJ B::sS x.pq s.q::nN x.pt ⟨t.ay.set n {y with state:=2},-1⟩::sU x.pe ev::l))
  go_wp2_with (go_at_call 209;refine bF hjn ?_;intro w5 h5)
  go_end0
  exact⟨rfl,h5.s⟩
 ·rw[if_neg h0]
  have ef:nM ev n=ev.set n d.fresh:=by unfold nM;rw[hd];simp only;rw[if_neg (by rw[hm];exact h0)]
  rw[ef]
  have hd0:(!decide (k.mask=0))=true:=by simp[h0]
  go_enter func345,ntmps345
  go_upto_region 1 with(go_at_call 397;refine bF hpe ?_;intro w3 h3)
  have hex:=Dh a (h3.s:In w0 w3 (pts r (bM T lv wt x)::bJ B::nN x.pt ⟨t.ay.set n {y with state:=2},-1⟩::sS x.pq s.q::sU x.pe ev::l)) hk
  rw[hd0]at hex
  obtain⟨hd2,hd3,hd5,hd6,hd8⟩:=jy (h3.ae p1)
  have hfr:=Ov (h3.ae p4) hd (by rw[hm];exact h0)
  go_upto_region 3 with(first|(go_at_call 386;refine bW hex ?_)|(go_at_call 208;refine bF hfr ?_;intro w4 h4))
  have hjn:=xP a hk hg hroom (h4.s:In w0 w4 (pts r (bM T lv wt x)::bJ B::sS x.pq s.q::nN x.pt ⟨t.ay.set n {y with state:=2},-1⟩::sU x.pe (ev.set n d.fresh)::l))
  go_wp2_with (go_at_call 209;refine bF hjn ?_;intro w5 h5)
  go_end0
  exact⟨rfl,h5.s⟩
theorem JL {n:Nat} {y:eY} {t:wP} {ev:List EvS} {d:EvS} (h:In w0 w (pts r (bM T lv wt x)::nN x.pt t::sU x.pe ev::l)) (hr:t.running=n) (hy:t.ay[n]? =some y) (hs:y.state=0) (hx:y.extended=true)
 (hd:ev[n]? =some d) (hm:¬d.mask=0) (hw:d.waiting=false) (hb:bits .and .u32 d.set wt=0):
 aW 346 #[r,.int .i64 n] w w0 (.tuple #[]) (pts r (bM T lv wt x)::nN x.pt ⟨t.ay.set n {y with state:=1},-1⟩::sU x.pe (ev.set n {d with waiting:=true,waits:=wt})::l):=by
 obtain⟨hc2,hc3,hc5,hc6,hc8⟩:=jy h
 have hpe:=Q4 (h.ae p1) hr hy hs hx
 go_enter func346,ntmps346
 go_wp2_with (go_at_call 398;refine bF hpe ?_;intro w3 h3)
 obtain⟨hd2,hd3,hd5,hd6,hd8⟩:=jy (h3.ae p1)
 have hew:=Z7 (m:=wt) (h3.drew.ae p2) hd hm hw hb
 refine rg ⟨[],[9]⟩ [.c 0 0,.c 0 1,.c 0 2,.c 1 3,.c 0 4,.c 0 5,.c 0 6,.c 0 7,.c 1 8,.e 9,.c 0 10,.c 0 11,.c 0 12,.c 0 13,.c 0 14] ?_
 refine rG ?_;intro K hK
 go_wp2_with (go_at_call 399;refine bF hew ?_;intro w4 h4)
 go_wp2_with fail
 refine lK ?_
 go_wp2_with fail
 go_end0
 exact⟨rfl,h4.s⟩
theorem NH {n:Nat} {y:eY} {k:dn} {t:wP} {ev:List EvS} {d:EvS} {g:iI Int} (a:uj B T s x) (h:In w0 w (pts r (bM T lv wt x)::bJ B::nN x.pt t::sS x.pq s.q::sU x.pe ev::l)) (hr:t.running=n) (hy:t.ay[n]? =some y) (hs:y.state=0) (hx:y.extended=true)
 (hk:T.ay[n]? =some k) (hg:s.q[k.aI.toNat]? =some (some g)) (hroom:g.items.length<g.room)
 (hd:ev[n]? =some d) (hm:¬d.mask=0) (hw:d.waiting=false) (hb:¬bits .and .u32 d.set wt=0):
 aW 346 #[r,.int .i64 n] w w0 (.tuple #[]) (pts r (bM T lv wt x)::bJ B::nN x.pt ⟨t.ay.set n {y with state:=2},-1⟩::sS x.pq (T.join s.q n)::sU x.pe ev::l):=by
 obtain⟨hc2,hc3,hc5,hc6,hc8⟩:=jy h
 have hpe:=Q4 (h.ae p2) hr hy hs hx
 have hnl:=(List.getElem?_eq_some_iff.1 hy).1
 go_enter func346,ntmps346
 go_wp2_with (go_at_call 398;refine bF hpe ?_;intro w3 h3)
 obtain⟨hd2,hd3,hd5,hd6,hd8⟩:=jy (h3.ae p1)
 have hew:=LW (m:=wt) (h3.drew.ae p4) hd hm hw hb
 have hrl:=GK (i:=n) (x:={y with state:=1}) h3.drew (by simp[hnl]) rfl
 simp only[List.set_set]at hrl
 refine rg ⟨[],[9]⟩ [.c 0 0,.c 0 1,.c 0 2,.c 1 3,.c 0 4,.c 0 5,.c 0 6,.c 0 7,.c 1 8,.e 9,.c 0 10,.c 0 11,.c 0 12,.c 0 13,.c 0 14] ?_
 refine rG ?_;intro K hK
 go_wp2_with (go_at_call 399;refine bW hew ?_)
 go_wp2_with fail
 refine lK ?_
 go_upto_region 4 with(go_at_call 338;refine bF hrl ?_;intro w4 h4)
 have hjn:=xP a hk hg hroom (h4.s:In w0 w4 (pts r (bM T lv wt x)::bJ B::sS x.pq s.q::nN x.pt ⟨t.ay.set n {y with state:=2},-1⟩::sU x.pe ev::l))
 go_wp2_with (go_at_call 209;refine bF hjn ?_;intro w5 h5)
 go_end0
 exact⟨rfl,h5.s⟩
end
section
variable {w0 w:World} {l:List SL} {r:Nat} {T:ah} {s:az} {B:List (Nat × Obj)} {x:jM} {lv wt:Int}
theorem SS (h:In w0 w (Core r T s::l)) (hl:s.leaving=0):Calls prog 243 #[r] w fun e w'=>e= .returned (.tuple #[.int .i64 (-1),.int .i64 201])∧w=w':=by
 have hmd:=jZ h
 obtain⟨B,x,a,h1⟩:=dE h
 have AY:=bu h1 7 rfl
 rw[hl]at AY
 go_enter func243,ntmps243
 go_wp2_with (go_at_call 108;refine bW hmd ?_)
 go_ret2
 exact⟨rfl,rfl⟩
theorem bD.leaver (hT:T.Ok) (h:bD T s) (hl:s.leaving≠0):∃(n:Nat) (y:eY) (k:dn) (d:EvS) (g:iI Int),s.tk.running=n∧s.tk.ay[n]? =some y∧T.ay[n]? =some k∧y.state=0∧qO k y∧s.ev[n]? =some d∧d.mask=k.mask∧d.waiting=false∧
 s.q[k.aI.toNat]? =some (some g)∧g.items.length<g.room∧1≤y.bI∧y.bI≤255∧s.before.length<T.rings.length:=by
 have hr:=h.lv.2.2.1 hl
 obtain⟨n,y,k,e,hy,hk,hs,hi,hb⟩:=h.running hr
 have hel:n<s.ev.length:=by rw[h.e.len];exact(List.getElem?_eq_some_iff.1 hk).1
 have Au:=List.getElem?_eq_getElem hel
 generalize s.ev[n]'hel=d at Au
 obtain⟨g,hg,_⟩:=h.q.nP hT (List.mem_of_getElem? hk)
 have ha:1≤y.bI:=by have:=hi.sus;have:=hi.a0;omega
 have hlm:=hT.lm k (List.mem_of_getElem? hk)
 have h1:=hi.a1
 rw[hi.lim]at h1
 have hroom:=h.q.room hT h.t hy hk hg (by have:y.out n s.before=1:=(by unfold eY.out;rw[if_pos (.inl hs)]);omega)
 have RH:=h.deep hT
 unfold az.line at RH
 rw[if_neg hr,List.length_append]at RH
 simp only[List.length_cons,List.length_nil]at RH
 refine⟨n,y,k,d,g,e,hy,hk,hs,hi,Au,h.e.mask n d k Au hk,?_,hg,hroom,ha,by omega,by omega⟩
 cases hw:d.waiting with
 |false=>rfl
 |true=>have:=(h.e.wait n d y Au hy).1 hw;omega
theorem VW (h:In w0 w (Core r T s::l)) (hl:s.leaving≠0):aW 243 #[r] w w0 (.tuple #[.int .i64 s.tk.running,.int .i64 0]) (Core r T (s.carry T)::l):=by
 have hok:=jY h
 have hmd:=jZ h
 have hinv':=hok.2.carry hok.1.ok hl
 have hlv:=hok.2.lv
 obtain⟨n,y,k,d,g,hn,hy,hk,hs,hti,hd,hdm,hdw,hg,hroom,ha1,ha2,RH⟩:=hok.2.leaver hok.1.ok hl
 have xH:T.depth=T.rings.length:=hok.1.room.1
 have hmm:=@run_makeMap prog
 obtain⟨B,x,a,h1⟩:=dE h
 obtain⟨hc2,hc3,hc5,hc6,hc8⟩:=jy h1
 have AY:=bu h1 7 rfl
 have hf7:=oJ (off:=7) h1
 have hrun:=uY (h1.ae p3)
 rw[hn]at hrun⊢
 have hrow:=qA hk
 have hcs:s.leaving=1∨s.leaving=2∨s.leaving=3∨s.leaving=4∨s.leaving=5:=by omega
 have XT:=fun{w:World} {l:List SL} (h:In w0 w (lW x.pl T.eU s.lock::l))=>VR h hrow
 clear h
 rcases hcs with hc|hc|hc|hc|hc
 ·
  rw[hc]at AY
  have e0:s.carry T= {s with leaving:=0,lock:={s.lock with entered:=iE s.lock.entered (n:Int) false},tk:=⟨s.tk.ay.set n y.less,-1⟩}:=by unfold az.carry;rw[hn];simp[hy,hc]
  rw[e0]at hinv'⊢
  go_enter func243,ntmps243
  go_upto_region 7 with(first|(go_at_call 108;refine bW hmd ?_)|(go_at_call 117;refine bW hrun ?_))
  go_upto_region 8 with(fail)
  have h2:=kF 0 h1
  refine In.abs h2 ?_
  clear h2 h1 hc2 hc3 hc5 hc6 hc8 AY hf7 hrun hmd
  intro w2 h2
  have hb2:=bu h2 2 rfl
  simp only[fJ]at hb2
  go_upto_region 10 with(go_at_call 343;refine bF (XT (h2.ae p2)) ?_;intro w3 h3)
  go_wp2_with (with_reducible apply nS)
  unfold Stop
  have h4:=kH gZ Io (h3.alloc (.map #[] 0))
  refine In.abs h4 ?_
  clear h4 h3 h2
  generalize w3.heap.size=zz
  intro w4 h4
  refine aN iq underlying440 h4 1 344 (by rfl) (by rfl) (by rfl) ?_
  intro w5 h5
  refine aN iq underlying440 h5 2 345 (by rfl) (by rfl) (by rfl) ?_
  intro w6 h6
  refine aN iq underlying440 h6 3 346 (by rfl) (by rfl) (by rfl) ?_
  intro w7 h7
  refine aN iq underlying440 h7 4 347 (by rfl) (by rfl) (by rfl) ?_
  intro w8 h8
  refine aN iq underlying440 h8 5 347 (by rfl) (by rfl) (by rfl) ?_
  intro w9 h9
  clear h4 h5 h6 h7 h8
  have hlk:=fU iq underlying440 Ac h9 1 false
  simp[upd,ut,Io,gZ]at hlk
  have hx:=h9.drop
  have hwy:=YI (i:=(n:Int)) (hx.s:In w0 w9 (pts r (bM T 0 s.wants x)::nN x.pt s.tk::bJ B::lW x.pl T.eU {s.lock with entered:=iE s.lock.entered (n:Int) false}::sS x.pq s.q::jo x.pb ⟨T.depth.toNat,s.before⟩::sU x.pe s.ev::l)) hn hy hs ha1 ha2
  go_wp2_with (go_at_call 344;refine bF hwy ?_;intro w10 h10)
  go_ret2
  exact⟨rfl,dI (a.turn hinv') (h10.s)⟩
 ·
  rw[hc]at AY
  have e0:s.carry T= {s with leaving:=0,lock:={s.lock with entered:=iE s.lock.entered (n:Int) false},tk:=⟨s.tk.ay.set n {y with state:=2},-1⟩,q:=T.join s.q n,ev:=if T.vz (n:Int)=0 then s.ev else nM s.ev n}:=by unfold az.carry;rw[hn];simp[hy,hc]
  rw[e0]at hinv'⊢
  obtain⟨ev2,hev2⟩:∃e2,(if T.vz (n:Int)=0 then s.ev else nM s.ev n)=e2:=⟨_,rfl⟩
  rw[hev2]at hinv'⊢
  go_enter func243,ntmps243
  go_upto_region 7 with(first|(go_at_call 108;refine bW hmd ?_)|(go_at_call 117;refine bW hrun ?_))
  go_upto_region 8 with(fail)
  have h2:=kF 0 h1
  refine In.abs h2 ?_
  clear h2 h1 hc2 hc3 hc5 hc6 hc8 AY hf7 hrun hmd
  intro w2 h2
  have hb2:=bu h2 2 rfl
  simp only[fJ]at hb2
  go_upto_region 10 with(go_at_call 343;refine bF (XT (h2.ae p2)) ?_;intro w3 h3)
  go_wp2_with (with_reducible apply nS)
  unfold Stop
  have h4:=kH gZ Io (h3.alloc (.map #[] 0))
  refine In.abs h4 ?_
  clear h4 h3 h2
  generalize w3.heap.size=zz
  intro w4 h4
  refine aN iq underlying440 h4 1 344 (by rfl) (by rfl) (by rfl) ?_
  intro w5 h5
  refine aN iq underlying440 h5 2 345 (by rfl) (by rfl) (by rfl) ?_
  intro w6 h6
  refine aN iq underlying440 h6 3 346 (by rfl) (by rfl) (by rfl) ?_
  intro w7 h7
  refine aN iq underlying440 h7 4 347 (by rfl) (by rfl) (by rfl) ?_
  intro w8 h8
  refine aN iq underlying440 h8 5 347 (by rfl) (by rfl) (by rfl) ?_
  intro w9 h9
  clear h4 h5 h6 h7 h8
  have hlk:=fU iq underlying440 Ac h9 2 false
  simp[upd,ut,Io,gZ]at hlk
  have hx:=h9.drop
  have hwy:=VG a (hx.s:In w0 w9 (pts r (bM T 0 s.wants x)::bJ B::nN x.pt s.tk::sS x.pq s.q::sU x.pe s.ev::lW x.pl T.eU {s.lock with entered:=iE s.lock.entered (n:Int) false}::jo x.pb ⟨T.depth.toNat,s.before⟩::l)) hn hy hs hk hd hdm hg hroom
  rw[hev2]at hwy
  go_wp2_with (go_at_call 345;refine bF hwy ?_;intro w10 h10)
  go_ret2
  exact⟨rfl,dI (a.turn hinv') (h10.s)⟩
 ·
  rw[hc]at AY
  have hmk:=hlv.2.2.2 hc
  rw[hn,T.sF hk]at hmk
  have XQ:y.extended=true:=by rw[hti.ext];simp[hmk]
  have e0:s.carry T=if bits .and .u32 d.set s.wants=0 then {s with leaving:=0,lock:={s.lock with entered:=iE s.lock.entered (n:Int) false},tk:=⟨s.tk.ay.set n {y with state:=1},-1⟩,ev:=s.ev.set n {d with waiting:=true,waits:=s.wants}} else {s with leaving:=0,lock:={s.lock with entered:=iE s.lock.entered (n:Int) false},tk:=⟨s.tk.ay.set n {y with state:=2},-1⟩,q:=T.join s.q n}:=by unfold az.carry;rw[hn];simp[hy,hc,hd]
  rw[e0]at hinv'⊢
  by_cases hbt:bits .and .u32 d.set s.wants=0
  ·rw[if_pos hbt]at hinv'⊢
   go_enter func243,ntmps243
   go_upto_region 7 with(first|(go_at_call 108;refine bW hmd ?_)|(go_at_call 117;refine bW hrun ?_))
   go_upto_region 8 with(fail)
   have h2:=kF 0 h1
   refine In.abs h2 ?_
   clear h2 h1 hc2 hc3 hc5 hc6 hc8 AY hf7 hrun hmd
   intro w2 h2
   have hb2:=bu h2 2 rfl
   simp only[fJ]at hb2
   go_upto_region 10 with(go_at_call 343;refine bF (XT (h2.ae p2)) ?_;intro w3 h3)
   go_wp2_with (with_reducible apply nS)
   unfold Stop
   have h4:=kH gZ Io (h3.alloc (.map #[] 0))
   refine In.abs h4 ?_
   clear h4 h3 h2
   generalize w3.heap.size=zz
   intro w4 h4
   refine aN iq underlying440 h4 1 344 (by rfl) (by rfl) (by rfl) ?_
   intro w5 h5
   refine aN iq underlying440 h5 2 345 (by rfl) (by rfl) (by rfl) ?_
   intro w6 h6
   refine aN iq underlying440 h6 3 346 (by rfl) (by rfl) (by rfl) ?_
   intro w7 h7
   refine aN iq underlying440 h7 4 347 (by rfl) (by rfl) (by rfl) ?_
   intro w8 h8
   refine aN iq underlying440 h8 5 347 (by rfl) (by rfl) (by rfl) ?_
   intro w9 h9
   clear h4 h5 h6 h7 h8
   have hlk:=fU iq underlying440 Ac h9 3 false
   simp[upd,ut,Io,gZ]at hlk
   have hx:=h9.drop
   have hwy:=JL (hx.s:In w0 w9 (pts r (bM T 0 s.wants x)::nN x.pt s.tk::sU x.pe s.ev::bJ B::lW x.pl T.eU {s.lock with entered:=iE s.lock.entered (n:Int) false}::sS x.pq s.q::jo x.pb ⟨T.depth.toNat,s.before⟩::l)) hn hy hs XQ hd (by rw[hdm];exact hmk) hdw hbt
   go_wp2_with (go_at_call 346;refine bF hwy ?_;intro w10 h10)
   go_ret2
   exact⟨rfl,dI (a.turn hinv') (h10.s)⟩
  ·rw[if_neg hbt]at hinv'⊢
   go_enter func243,ntmps243
   go_upto_region 7 with(first|(go_at_call 108;refine bW hmd ?_)|(go_at_call 117;refine bW hrun ?_))
   go_upto_region 8 with(fail)
   have h2:=kF 0 h1
   refine In.abs h2 ?_
   clear h2 h1 hc2 hc3 hc5 hc6 hc8 AY hf7 hrun hmd
   intro w2 h2
   have hb2:=bu h2 2 rfl
   simp only[fJ]at hb2
   go_upto_region 10 with(go_at_call 343;refine bF (XT (h2.ae p2)) ?_;intro w3 h3)
   go_wp2_with (with_reducible apply nS)
   unfold Stop
   have h4:=kH gZ Io (h3.alloc (.map #[] 0))
   refine In.abs h4 ?_
   clear h4 h3 h2
   generalize w3.heap.size=zz
   intro w4 h4
   refine aN iq underlying440 h4 1 344 (by rfl) (by rfl) (by rfl) ?_
   intro w5 h5
   refine aN iq underlying440 h5 2 345 (by rfl) (by rfl) (by rfl) ?_
   intro w6 h6
   refine aN iq underlying440 h6 3 346 (by rfl) (by rfl) (by rfl) ?_
   intro w7 h7
   refine aN iq underlying440 h7 4 347 (by rfl) (by rfl) (by rfl) ?_
   intro w8 h8
   refine aN iq underlying440 h8 5 347 (by rfl) (by rfl) (by rfl) ?_
   intro w9 h9
   clear h4 h5 h6 h7 h8
   have hlk:=fU iq underlying440 Ac h9 3 false
   simp[upd,ut,Io,gZ]at hlk
   have hx:=h9.drop
   have hwy:=NH a (hx.s:In w0 w9 (pts r (bM T 0 s.wants x)::bJ B::nN x.pt s.tk::sS x.pq s.q::sU x.pe s.ev::lW x.pl T.eU {s.lock with entered:=iE s.lock.entered (n:Int) false}::jo x.pb ⟨T.depth.toNat,s.before⟩::l)) hn hy hs XQ hk hg hroom hd (by rw[hdm];exact hmk) hdw hbt
   go_wp2_with (go_at_call 346;refine bF hwy ?_;intro w10 h10)
   go_ret2
   exact⟨rfl,dI (a.turn hinv') (h10.s)⟩
 ·
  rw[hc]at AY
  have e0:s.carry T= {s with leaving:=0,tk:=⟨s.tk.ay.set n {y with state:=2},-1⟩,before:=s.before++ [(n:Int)]}:=by unfold az.carry;rw[hn];simp[hy,hc]
  rw[e0]at hinv'⊢
  go_enter func243,ntmps243
  go_upto_region 7 with(first|(go_at_call 108;refine bW hmd ?_)|(go_at_call 117;refine bW hrun ?_))
  go_upto_region 8 with(fail)
  have h2:=kF 0 h1
  refine In.abs h2 ?_
  clear h2 h1 hc2 hc3 hc5 hc6 hc8 AY hf7 hrun hmd
  intro w2 h2
  go_upto_region 10 with(fail)
  have h3:=h2.pr [2,0,0,0,0,0,0]
  go_wp2_with (with_reducible apply nS)
  unfold Stop
  have h4:=kH gZ Io (h3.alloc (.map #[] 0))
  refine In.abs h4 ?_
  clear h4 h3 h2
  generalize w2.heap.size=zz
  intro w4 h4
  refine aN iq underlying440 h4 1 344 (by rfl) (by rfl) (by rfl) ?_
  intro w5 h5
  refine aN iq underlying440 h5 2 345 (by rfl) (by rfl) (by rfl) ?_
  intro w6 h6
  refine aN iq underlying440 h6 3 346 (by rfl) (by rfl) (by rfl) ?_
  intro w7 h7
  refine aN iq underlying440 h7 4 347 (by rfl) (by rfl) (by rfl) ?_
  intro w8 h8
  refine aN iq underlying440 h8 5 347 (by rfl) (by rfl) (by rfl) ?_
  intro w9 h9
  clear h4 h5 h6 h7 h8
  have hlk:=fU iq underlying440 Ac h9 4 false
  simp[upd,ut,Io,gZ]at hlk
  have hx:=h9.drop
  have hwy:=Np (hx.s:In w0 w9 (pts r (bM T 0 s.wants x)::nN x.pt s.tk::jo x.pb ⟨T.depth.toNat,s.before⟩::bJ B::lW x.pl T.eU s.lock::sS x.pq s.q::sU x.pe s.ev::l)) hn hy hs (by omega)
  go_wp2_with (go_at_call 347;refine bF hwy ?_;intro w10 h10)
  go_ret2
  exact⟨rfl,dI (a.turn hinv') (h10.s)⟩
 ·
  rw[hc]at AY
  have e0:s.carry T= {s with leaving:=0,lock:={s.lock with entered:=iE s.lock.entered (n:Int) false},tk:=⟨s.tk.ay.set n {y with state:=2},-1⟩,before:=s.before++ [(n:Int)]}:=by unfold az.carry;rw[hn];simp[hy,hc]
  rw[e0]at hinv'⊢
  go_enter func243,ntmps243
  go_upto_region 7 with(first|(go_at_call 108;refine bW hmd ?_)|(go_at_call 117;refine bW hrun ?_))
  go_upto_region 8 with(fail)
  have h2:=kF 0 h1
  refine In.abs h2 ?_
  clear h2 h1 hc2 hc3 hc5 hc6 hc8 AY hf7 hrun hmd
  intro w2 h2
  have hb2:=bu h2 2 rfl
  simp only[fJ]at hb2
  go_upto_region 10 with(go_at_call 343;refine bF (XT (h2.ae p2)) ?_;intro w3 h3)
  go_wp2_with (with_reducible apply nS)
  unfold Stop
  have h4:=kH gZ Io (h3.alloc (.map #[] 0))
  refine In.abs h4 ?_
  clear h4 h3 h2
  generalize w3.heap.size=zz
  intro w4 h4
  refine aN iq underlying440 h4 1 344 (by rfl) (by rfl) (by rfl) ?_
  intro w5 h5
  refine aN iq underlying440 h5 2 345 (by rfl) (by rfl) (by rfl) ?_
  intro w6 h6
  refine aN iq underlying440 h6 3 346 (by rfl) (by rfl) (by rfl) ?_
  intro w7 h7
  refine aN iq underlying440 h7 4 347 (by rfl) (by rfl) (by rfl) ?_
  intro w8 h8
  refine aN iq underlying440 h8 5 347 (by rfl) (by rfl) (by rfl) ?_
  intro w9 h9
  clear h4 h5 h6 h7 h8
  have hlk:=fU iq underlying440 Ac h9 5 false
  simp[upd,ut,Io,gZ]at hlk
  have hx:=h9.drop
  have hwy:=Np (hx.s:In w0 w9 (pts r (bM T 0 s.wants x)::nN x.pt s.tk::jo x.pb ⟨T.depth.toNat,s.before⟩::bJ B::lW x.pl T.eU {s.lock with entered:=iE s.lock.entered (n:Int) false}::sS x.pq s.q::sU x.pe s.ev::l)) hn hy hs (by omega)
  go_wp2_with (go_at_call 347;refine bF hwy ?_;intro w10 h10)
  go_ret2
  exact⟨rfl,dI (a.turn hinv') (h10.s)⟩
end
end Go.Proofs.YtajgpcnlehinbaaGreat
