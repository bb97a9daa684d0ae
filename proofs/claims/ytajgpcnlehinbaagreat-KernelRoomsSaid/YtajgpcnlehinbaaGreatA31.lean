/- Part of a proof. -/
import Derived.ScopeJumps
import Derived.Test.YtajgpcnlehinbaaGreatA30
namespace Go.Proofs.YtajgpcnlehinbaaGreat
open Tryz Go.RowKit
set_option maxRecDepth 100000
set_option maxHeartbeats 60000000
set_option linter.all false
def O8 (z r:Nat):SL:=pts z (.cells #[r] 31)
def isKind (b:Nat):Value:= .func (.func 100) #[] #[b]
def Qi (z:Nat):Value:= .func (.func 103) #[] #[z]
def yh (c z:Nat):Value:= .func (.func 98) #[] #[c,z]
section
variable {w0 w:World} {l:List SL} {r z b c:Nat} {T:ah} {k:aB} {G:Value→Prop}
theorem CX {v:Value} (h:In w0 w l) (hv:v.oneCell'=true):Calls prog 97 #[v,z] w fun e w'=>∃c,e= .returned (yh c z)∧In w0 w' (pts c (.cells #[v] 104)::l):=by
 have h1:=h.alloc (.cells #[v] 104)
 have hmf:∀(fn:Fn) (first cap:Array Value) (w:World),(Instr.makeFunc fn first cap).run prog w= .ok (.func fn first cap) w:=fun _ _ _ _=>rfl
 go_enter func97,ntmps97
 go_wp2_with fail
 go_ret
 exact⟨_,rfl,h1⟩
theorem KA {kd:Int} (h:In w0 w l):Calls prog 99 #[.int .i64 kd] w fun e w'=>∃b,e= .returned (isKind b)∧In w0 w' (pts b (.cells #[.int .i64 kd] 40)::l):=by
 have h1:=h.alloc (.cells #[.int .i64 kd] 40)
 have hmf:∀(fn:Fn) (first cap:Array Value) (w:World),(Instr.makeFunc fn first cap).run prog w= .ok (.func fn first cap) w:=fun _ _ _ _=>rfl
 go_enter func99,ntmps99
 go_wp2_with fail
 go_ret
 exact⟨_,rfl,h1⟩
theorem Tc {kd:Int} {f:aK} (h:In w0 w (pts b (.cells #[.int .i64 kd] 40)::l)):aW 100 #[cO f,b] w w0 (.bool (decide (f.kind=kd))) (pts b (.cells #[.int .i64 kd] 40)::l):=by
 rcases f with⟨fk,id,st,sv,pa⟩
 unfold cO
 simp only
 have h1:=h.alloc (qo fk id st sv pa)
 have hq:(fk==kd)=decide (fk=kd):=rfl
 generalize decide (fk=kd)=q at*
 go_enter func100,ntmps100
 go_upto_region 1 with(fail)
 refine In.abs h1 ?_
 clear h1 h
 generalize w.heap.size=y
 intro w2 h2
 have bC:=h2.cells
 have kT:=(h2.ae p1).cells
 go_wp2_with fail
 go_ret
 exact⟨rfl,h2.drop⟩
theorem TC {f:aK} (h:In w0 w (eF G r T k::O8 z r::l)):aW 103 #[cO f,z] w w0 (.bool (decide (3≤f.kind)|| !decide (k.phase=1))) (eF G r T k::O8 z r::l):=by
 rcases f with⟨fk,id,st,sv,pa⟩
 unfold cO
 simp only
 obtain⟨B,x,a,h0⟩:=dD h
 have h1:=h0.alloc (qo fk id st sv pa)
 have LC:(k.phase != 1)= !decide (k.phase=1):=by
  by_cases e:k.phase=1
  ·rw[e];rfl
  ·simp[e]
 cases hd:decide (3≤fk)with
 |true=>
  rw[Bool.true_or]
  go_enter func103,ntmps103
  go_upto_region 1 with(fail)
  refine In.abs h1 ?_
  clear h1 h0 h
  generalize w.heap.size=y
  intro w2 h2
  have bC:=h2.cells
  have hro:=xW ⟨fk,id,st,sv,pa⟩ h2
  simp only at hro
  rw[hd]at hro
  go_wp2_with (go_at_call 32;refine bF hro ?_;intro w3 h3)
  go_ret
  exact⟨rfl,bZ a (h3.s)⟩
 |false=>
  rw[Bool.false_or]
  generalize (!decide (k.phase=1))=q at*
  go_enter func103,ntmps103
  go_upto_region 1 with(fail)
  refine In.abs h1 ?_
  clear h1 h0 h
  generalize w.heap.size=y
  intro w2 h2
  have bC:=h2.cells
  have hro:=xW ⟨fk,id,st,sv,pa⟩ h2
  simp only at hro
  rw[hd]at hro
  go_wp2_with (go_at_call 32;refine bF hro ?_;intro w3 h3;have kT:=(h3.ae p1).cells;have wO:=(h3.ae p11).cells)
  go_ret
  exact⟨rfl,bZ a (h3.s)⟩
theorem BA {kd:Int} (h:In w0 w (eF G r T k::pts c (.cells #[isKind b] 104)::pts b (.cells #[.int .i64 kd] 40)::O8 z r::l)):aW 98 #[c,z] w w0 (.tuple #[.bool false,.bool (decide (k.top.kind=kd))]) (eF G r T k::pts c (.cells #[isKind b] 104)::pts b (.cells #[.int .i64 kd] 40)::O8 z r::l):=by
 have h':In w0 w (eF G r T k::pts c (.cells #[.func (.func 100) #[] #[b]] 104)::pts b (.cells #[.int .i64 kd] 40)::pts z (.cells #[r] 31)::l):=h
 have bC:=(h'.ae p1).cells
 have kT:=(h'.ae p3).cells
 generalize hq:(decide (k.top.kind=kd))=q
 go_enter func98,ntmps98
 go_upto_region 1 with(fail)
 have hS0:=(h'.drew).ps [1,2]
 refine nK hS0 ⟨[2],[3]⟩ [.c 2 0,.c 1 1,.e 2,.e 3,.c 0 4,.c 0 5] ?_
 refine nD ?_;intro K hK
 go_wp2_with (go_at_call 33;refine bF (Fj h'.drew) ?_;intro w3 h3)
 go_wp2_with fail
 refine df hK ((h3).s) fun hS0=>?_
 refine bG rfl rfl fun K hK=>?_
 have hp:=Tc (f:=k.top) (h3.ae p2)
 rw[hq]at hp
 go_wp2_with (go_at_call 100;refine bF hp ?_;intro w4 h4)
 go_wp2_with fail
 refine wM ?_
 go_wp2_with fail
 go_ret2
 have h5:=h4.pr [1,1,0,0]
 exact⟨rfl,h5⟩
theorem Pz (h:In w0 w (eF G r T k::pts c (.cells #[Qi z] 104)::O8 z r::l)):aW 98 #[c,z] w w0 (.tuple #[.bool false,.bool (decide (3≤k.top.kind)|| !decide (k.phase=1))]) (eF G r T k::pts c (.cells #[Qi z] 104)::O8 z r::l):=by
 have h':In w0 w (eF G r T k::pts c (.cells #[.func (.func 103) #[] #[z]] 104)::pts z (.cells #[r] 31)::l):=h
 have bC:=(h'.ae p1).cells
 have kT:=(h'.ae p2).cells
 generalize hq:(decide (3≤k.top.kind)|| !decide (k.phase=1))=q
 go_enter func98,ntmps98
 go_upto_region 1 with(fail)
 have hS0:=(h'.drew).ps [1,1]
 refine nK hS0 ⟨[2],[3]⟩ [.c 2 0,.c 1 1,.e 2,.e 3,.c 0 4,.c 0 5] ?_
 refine nD ?_;intro K hK
 go_wp2_with (go_at_call 33;refine bF (Fj h'.drew) ?_;intro w3 h3)
 go_wp2_with fail
 refine df hK ((h3).s) fun hS0=>?_
 refine bG rfl rfl fun K hK=>?_
 have hp:=TC (f:=k.top) (h3.s:In w0 w3 (eF G r T k::pts z (.cells #[r] 31)::pts c (.cells #[.func (.func 103) #[] #[z]] 104)::l))
 rw[hq]at hp
 go_wp2_with (go_at_call 103;refine bF hp ?_;intro w4 h4)
 go_wp2_with fail
 refine wM ?_
 go_wp2_with fail
 go_ret2
 have h5:=h4.pr [0,1,0]
 exact⟨rfl,h5⟩
end
def vals (f:Nat→Value):Nat→List Value→List Value
 |0,t=>t
 |n+1,t=>f n::vals f n t
theorem Gg {f g:Nat→Value} {t:List Value}:∀n,(∀i,i<n→f i=g i)→vals f n t=vals g n t
 |0,_=>rfl
 |n+1,h=>by rw[vals,vals,h n (by omega),Gg n fun i hi=>h i (by omega)]
theorem QP (t:List Value):∀(n:Nat) (M:List Value),M.length=n→∃f,M++t=vals f n t
 |0,M,h=>⟨fun _=>undef,by rw[List.length_eq_zero_iff.1 h];rfl⟩
 |n+1, [],h=>by cases h
 |n+1,x::M,h=>by
  obtain⟨f,hf⟩:=QP t n M (by simpa using h)
  refine⟨fun i=>if i=n then x else f i,?_⟩
  rw[vals,List.cons_append,hf,if_pos rfl,Gg (f:=f) (g:=fun i=>if i=n then x else f i) n fun i hi=>(if_neg (by omega)).symm]
def Tm (pre:List Value) (n m:Nat) (a:Act):Prop:=
 a.defers= []∧a.tmps.size=pre.length+n+m∧a.tmps.toList.take pre.length=pre∧a.tmps.toList.drop (pre.length+n)=List.replicate m undef
theorem Tm.open {pre:List Value} {n m:Nat} {a:Act} (h:Tm pre n m a):∃f,a= {tmps:=(pre++vals f n (List.replicate m undef)).toArray,defers:= []}:=by
 obtain⟨ts,ds⟩:=a
 obtain⟨h1,h2,h3,h4⟩:=h
 simp only at h1 h2 h3 h4
 obtain⟨f,hf⟩:=QP (List.replicate m undef) n ((ts.toList.drop pre.length).take n) (by simp[h2];omega)
 refine⟨f,?_⟩
 rw[←hf,←h4,h1,←List.drop_drop,List.take_append_drop]
 conv=>lhs;rw[←ts.toArray_toList,←List.take_append_drop pre.length ts.toList,h3]
theorem Vg (p:Nat→Prop) (h:∃n,p n):∃n,p n∧∀m,p m→n≤m:=by
 obtain⟨n,hn⟩:=h
 induction n using Nat.strongRecOn with
 |_ n ih=>
  by_cases h:∃m,m<n∧p m
  ·obtain⟨m,h1,h2⟩:=h
   exact ih m h1 h2
  ·exact⟨n,hn,fun m hm=>Nat.le_of_not_lt fun hlt=>h ⟨m,hlt,hm⟩⟩
theorem FV {P:Program} {a:Act} {w:World} {Q:Exit→Act→World→Prop} {c rest:Code} (l:Nat) (J:Nat→Act→World→Prop) (hf:findLabel c l=some (Code.seq Code.skip rest))
 (pass:∀n a w,J n a w→rest.wp P (Exit.jump l (fun a' w'=>∃m,m<n∧J m a' w') Q) a w)
 (first:(∀n a w,J n a w→rest.wp P (Exit.jump l (fun a w=>∃n,J n a w) Q) a w)→c.wp P (Exit.jump l (fun a w=>∃n,J n a w) Q) a w):(Code.scope c).wp P Q a w:=by
 have key:∀a w,(∃n,J n a w)→∃n,J n a w∧∀m,J m a w→n≤m:=fun a w h=>Vg _ h
 classical
 refine wp_scope_jumps l (fun a w=>∃n,J n a w) (fun a w=>if h:∃n,J n a w then(key a w h).choose else 0) hf (first fun n a w hJ=>?_) ?_
 ·refine Code.wp_mono ?_ (pass n a w hJ)
  intro e a' w' hq
  cases e with
  |goto l'=>
   obtain⟨h1,m,hm,hJm⟩:=hq
   exact⟨h1,m,hJm⟩
  |normal=>exact hq
  |exit id=>exact hq
  |ret=>exact hq
  |panic ch=>exact hq
  |outgrown=>exact hq
 intro a w hJ
 have hc:=(key a w hJ).choose_spec
 have hp:=pass _ a w hc.1
 refine wp_seq (wp_skip ?_)
 refine Code.wp_mono ?_ hp
 intro e a' w' hq
 cases e with
 |goto l'=>
  obtain⟨h1,m,hm,hJm⟩:=hq
  refine⟨h1,⟨m,hJm⟩,?_⟩
  have hJ':∃n,J n a' w':=⟨m,hJm⟩
  rw[dif_pos hJ',dif_pos hJ]
  exact Nat.lt_of_le_of_lt ((key a' w' hJ').choose_spec.2 m hJm) hm
 |normal=>exact hq
 |exit id=>exact hq
 |ret=>exact hq
 |panic ch=>exact hq
 |outgrown=>exact hq
def Hl (T:ah) (k:aB):Nat→Prop
 |1=>(k.errors.items≠ []→k.frames.items.length<k.frames.depth)∧k.begun.length≤90000
 |3=>(k.calls.items≠ []→k.frames.items.length<k.frames.depth)∧k.begun.length≤90000
 |5=>k.core.leaving≠0→k.frames.items≠ []
 |6=>(k.top.kind=1→∃y,T.eU.rows (oL k.top.id)=some y)∧(k.top.kind=2→∃y,T.eU.rows (eQ k.top.id)=some y)∧(∀i∈k.board.wanted,∃n:Nat,i=n∧n<T.bf.length)∧(k.board.wanted≠ []→k.frames.items.length<k.frames.depth)∧k.begun.length≤90000
 |8=>(¬0≤k.core.tk.running→k.core.waiting=true→k.core.tk.running= -1∧(∃n c,k.core.runs T=some (n,c))∧k.frames.items.length+1<k.frames.depth)∧k.begun.length≤90000
 |9=>(T.use 16=true→k.shut=false→k.core.due T=true→k.frames.items.length<k.frames.depth)∧k.begun.length≤90000
 |_=>True
structure Xg (T:ah) (I:Nat→Nat→aB→Prop):Prop where
 need:∀n i k,I n i k→Hl T k i
 pass:∀n i k,I n i k→i<10→k.rule T i= .pass→I n (i+1) (k.mark T)
 did:∀n i k k1,I n i k→i<10→k.rule T i= .did k1→∃m,m<n∧I m 0 (k1.mark T)
theorem PN {w0 w':World} {r:Nat} {T:ah} {k:aB} {G:Value→Prop} {l:List SL} {d:YB} {e:Ending} (h:mW w0 G r T k l d e w'):
 ∃d1 d2,e= .returned (.tuple #[.bool d1,.bool d2])∧((d1=true∧d2=false∧∃k1,d= .did k1∧In w0 w' (eF G r T k1::l))∨(d1=false∧d2=false∧d= .pass∧In w0 w' (eF G r T k::l))∨(d1=false∧d2=true∧d= .stop∧In w0 w' (eF G r T k::l))):=by
 cases d with
 |did k1=>exact⟨true,false,h.1,.inl ⟨rfl,rfl,k1,rfl,h.2⟩⟩
 |pass=>exact⟨false,false,h.1,.inr (.inl ⟨rfl,rfl,rfl,h.2⟩)⟩
 |stop=>exact⟨false,true,h.1,.inr (.inr ⟨rfl,rfl,rfl,h.2⟩)⟩
theorem yg {w0 w':World} {r:Nat} {T:ah} {k:aB} {G:Value→Prop} {l:List SL} {d:YB} {q:Bool} (hd:d=if q then .stop else .pass) (h:In w0 w' (eF G r T k::l)):mW w0 G r T k l d (.returned (.tuple #[.bool false,.bool q])) w':=by
 subst hd
 cases q
 ·exact⟨rfl,h⟩
 ·exact⟨rfl,h⟩
abbrev ER (l:List SL) (r z c0 b0 c1 b1 c2 c3 b3:Nat):List SL:=
 pts c0 (.cells #[isKind b0] 104)::pts b0 (.cells #[.int .i64 4] 40)::pts c1 (.cells #[isKind b1] 104)::pts b1 (.cells #[.int .i64 8] 40)::pts c2 (.cells #[Qi z] 104)::pts c3 (.cells #[isKind b3] 104)::pts b3 (.cells #[.int .i64 2] 40)::O8 z r::l
def Py (r z c0 c1 c2 c3:Nat):Array Value:=#[.string ⟨#[97,110,32,101,114,114,111,114,39,115,32,114,111,117,116,105,110,101]⟩,yh c0 z,.string ⟨#[97,110,32,101,114,114,111,114]⟩,.func (.func 101) #[r] #[],.string ⟨#[97,32,99,97,108,108,98,97,99,107,39,115,32,114,111,117,116,105,110,101]⟩,yh c1 z,.string ⟨#[97,32,99,97,108,108,98,97,99,107]⟩,.func (.func 102) #[r] #[],.string ⟨#[97,32,114,111,117,116,105,110,101]⟩,yh c2 z,.string ⟨#[97,32,108,101,97,118,105,110,103]⟩,.func (.func 104) #[r] #[],.string ⟨#[97,32,114,101,113,117,101,115,116]⟩,.func (.func 105) #[r] #[],.string ⟨#[97,110,32,73,83,82]⟩,yh c3 z,.string ⟨#[110,111,98,111,100,121,32,114,117,110,115]⟩,.func (.func 106) #[r] #[],.string ⟨#[111,110,101,32,111,102,32,103,114,101,97,116,101,114,32,112,114,105,111,114,105,116,121]⟩,.func (.func 107) #[r] #[]]
section
variable {w0 w:World} {l:List SL} {r z c0 b0 c1 b1 c2 c3 b3:Nat} {T:ah} {k:aB} {G:Value→Prop}
theorem Xb (h:In w0 w (eF G r T k::ER l r z c0 b0 c1 b1 c2 c3 b3)):Calls prog 98 #[c0,z] w (mW w0 G r T k (ER l r z c0 b0 c1 b1 c2 c3 b3) (k.rule T 0)):=by
 refine(BA ((((h.ae p8).ae p3).ae p3).ae p3)).mono ?_
 rintro e w' ⟨rfl,h'⟩
 refine yg ?_ (h'.s)
 by_cases hk:k.top.kind=4
 ·rw[decide_eq_true hk];simp only[aB.rule,if_pos hk,if_true]
 ·rw[decide_eq_false hk];simp only[aB.rule,if_neg hk,Bool.false_eq_true,if_false]
theorem WV (h:In w0 w (eF G r T k::ER l r z c0 b0 c1 b1 c2 c3 b3)):Calls prog 98 #[c1,z] w (mW w0 G r T k (ER l r z c0 b0 c1 b1 c2 c3 b3) (k.rule T 2)):=by
 refine(BA ((((h.ae p8).ae p5).ae p5).ae p3)).mono ?_
 rintro e w' ⟨rfl,h'⟩
 refine yg ?_ (h'.s)
 by_cases hk:k.top.kind=8
 ·rw[decide_eq_true hk];simp only[aB.rule,if_pos hk,if_true]
 ·rw[decide_eq_false hk];simp only[aB.rule,if_neg hk,Bool.false_eq_true,if_false]
theorem Wn (h:In w0 w (eF G r T k::ER l r z c0 b0 c1 b1 c2 c3 b3)):Calls prog 98 #[c3,z] w (mW w0 G r T k (ER l r z c0 b0 c1 b1 c2 c3 b3) (k.rule T 7)):=by
 refine(BA ((((h.ae p8).ae p8).ae p8).ae p3)).mono ?_
 rintro e w' ⟨rfl,h'⟩
 refine yg ?_ (h'.s)
 by_cases hk:k.top.kind=2
 ·rw[decide_eq_true hk];simp only[aB.rule,if_pos hk,if_true]
 ·rw[decide_eq_false hk];simp only[aB.rule,if_neg hk,Bool.false_eq_true,if_false]
theorem VH (h:In w0 w (eF G r T k::ER l r z c0 b0 c1 b1 c2 c3 b3)):Calls prog 98 #[c2,z] w (mW w0 G r T k (ER l r z c0 b0 c1 b1 c2 c3 b3) (k.rule T 4)):=by
 refine(Pz (((h.ae p8).ae p6).ae p2)).mono ?_
 rintro e w' ⟨rfl,h'⟩
 refine yg ?_ (h'.s)
 by_cases hk:3≤k.top.kind∨k.phase≠1
 ·have e1:(decide (3≤k.top.kind)|| !decide (k.phase=1))=true:=by
   rcases hk with h|h
   ·simp[h]
   ·simp[h]
  rw[e1];simp only[aB.rule,if_pos hk,if_true]
 ·have e1:(decide (3≤k.top.kind)|| !decide (k.phase=1))=false:=by
   simp only[not_or,Decidable.not_not]at hk
   simp[hk.1,hk.2]
  rw[e1];simp only[aB.rule,if_neg hk,Bool.false_eq_true,if_false]
end
section
variable {w0 w:World} {l:List SL} {r:Nat} {T:ah} {k:aB} {G:Value→Prop} {I:Nat→Nat→aB→Prop}
def aei (w0:World) (G:Value→Prop) (l:List SL) (r z:Nat) (T:ah) (k:aB) (I:Nat→Nat→aB→Prop) (n:Nat) (a:Act) (w:World):Prop:=
 ∃(k1:aB) (g c0 b0 c1 b1 c2 c3 b3:Nat) (u2 u3:Value),Tm [.pointer (some ⟨r,0,none⟩),.pointer (some ⟨z,0,none⟩),u2,u3,.slice (some ⟨g,0,none⟩) 10 10] 60 0 a∧I n 0 k1∧(∀r',jH T 0 k1 r'→jH T 0 k r')∧In w0 w (pts g (.cells (Py r z c0 c1 c2 c3) 211)::eF G r T k1::ER l r z c0 b0 c1 b1 c2 c3 b3)
theorem Us {n:Nat} (h:In w0 w (eF G r T k::l)) (hS:Xg T I) (hI:I n 0 k):
 Calls prog 39 #[r] w fun e w'=>e= .returned (.tuple #[])∧∃k',jH T 0 k k'∧(∃m j k1,I m j k1∧(j=10∧k'=k1∨j<10∧k1.rule T j= .stop∧k'=k1.mark T))∧In w0 w' (eF G r T k'::l):=by
 have h1:=h.alloc (.cells #[r] 31)
 have hmf:∀(fn:Fn) (first cap:Array Value) (w:World),(Instr.makeFunc fn first cap).run prog w= .ok (.func fn first cap) w:=fun _ _ _ _=>rfl
 go_enter func39,ntmps39
 go_upto_region 1 with(fail)
 refine In.abs h1 ?_
 clear h1 h
 generalize w.heap.size=z
 intro w2 h2
 have h3:In w0 w2 (pts z (.cells #[r] 31)::eF G r T k::l):=h2
 clear h2
 refine FV 0 (aei w0 G l r z T k I) rfl ?_ ?_
 ·clear h3 hI
  rintro n a w3 ⟨k1,g,c0,b0,c1,b1,c2,c3,b3,u2,u3,ha,hI,hs,h3⟩
  obtain⟨f,rfl⟩:=ha.open
  simp only[vals,List.replicate,List.cons_append,List.nil_append]
  go_upto_region 5 with(fail)
  go_loopw [6,7,8,50] (fun _ _ _ c wr=>∃j:Nat,j≤10∧c= .int .i64 j∧∃k2,I n j k2∧(∀r',jH T j k2 r'→jH T 0 k r')∧In w0 wr (pts g (.cells (Py r z c0 c1 c2 c3) 211)::eF G r T k2::ER l r z c0 b0 c1 b1 c2 c3 b3))
   (fun _ _ _ c _=>10-(intOf c).toNat)
  case atStart=>exact⟨0,Nat.zero_le _,rfl,k1,hI,hs,h3⟩
  case round=>
   obtain⟨j,hj,rfl,k2,hI2,hs2,hw⟩:=hrel
   clear h3 hI hs
   by_cases hlt:j<10
   ·have hne:=hS.need _ _ _ hI2
    have hpa:=hS.pass _ _ _ hI2 hlt
    have hdi:=fun k1=>hS.did _ _ _ k1 hI2 hlt
    have hw2:=hw.pr [1,1,1,1,1,1,1,1,1,0]
    have jO:=hw.cells
    have hsf:∀(a:Addr) (f:Fn) (b c:Array Value) m (w:World),(store a (.func f b c) m).run prog w=stored prog w a (.func f b c) m:=fun a f b c m w=>run_store prog w a _ m rfl
    clear hw
    obtain⟨nm,fid,fs,cs,hd0,hd1,hcf,hcl0⟩:∃nm fid fs cs,wr.cell? ⟨g,j*2,none⟩=some (.string nm)∧wr.cell? ⟨g,j*2+1,none⟩=some (.func (.func fid) fs cs)∧(∀args w,(callFunc fid args).run prog w= .ok (.enter fid args) w)∧
     ∀w' l',In w0 w' (eF G r T k2::ER l' r z c0 b0 c1 b1 c2 c3 b3)→Calls prog fid (fs++cs) w' (mW w0 G r T k2 (ER l' r z c0 b0 c1 b1 c2 c3 b3) (k2.rule T j)):=by
     rcases(by omega:j=0∨j=1∨j=2∨j=3∨j=4∨j=5∨j=6∨j=7∨j=8∨j=9)with rfl|rfl|rfl|rfl|rfl|rfl|rfl|rfl|rfl|rfl
     ·exact⟨_,_,_,_,jO 0,jO 1,fun _ _=>rfl,fun _ _ h=>Xb h⟩
     ·exact⟨_,_,_,_,jO 2,jO 3,fun _ _=>rfl,fun _ _ h=>JK h hne.1 (by have:=hne.2;omega)⟩
     ·exact⟨_,_,_,_,jO 4,jO 5,fun _ _=>rfl,fun _ _ h=>WV h⟩
     ·exact⟨_,_,_,_,jO 6,jO 7,fun _ _=>rfl,fun _ _ h=>OQ h hne.1 (by have:=hne.2;omega)⟩
     ·exact⟨_,_,_,_,jO 8,jO 9,fun _ _=>rfl,fun _ _ h=>VH h⟩
     ·exact⟨_,_,_,_,jO 10,jO 11,fun _ _=>rfl,fun _ _ h=>WW h hne⟩
     ·exact⟨_,_,_,_,jO 12,jO 13,fun _ _=>rfl,fun _ _ h=>La h hne.1 hne.2.1 hne.2.2.1 hne.2.2.2.1 (by have:=hne.2.2.2.2;omega)⟩
     ·exact⟨_,_,_,_,jO 14,jO 15,fun _ _=>rfl,fun _ _ h=>Wn h⟩
     ·exact⟨_,_,_,_,jO 16,jO 17,fun _ _=>rfl,fun _ _ h=>Nq h hne.1 hne.2⟩
     ·exact⟨_,_,_,_,jO 18,jO 19,fun _ _=>rfl,fun _ _ h=>Qe h hne.1 (by have:=hne.2;omega)⟩
    clear jO
    have h6:=hw2.alloc (.cells #[.string nm,.func (.func fid) fs cs] 211)
    have n1:(j:Int)<10:=by omega
    have n0:(0:Int)≤j:=by omega
    go_upto_region 7 with(fail)
    refine In.abs h6 ?_
    clear h6 hw2 hd0 hd1
    generalize wr.heap.size=y
    intro w6 h6
    have h6b:=h6.pr [1,1,1,1,1,1,1,1,1,0,0]
    have Dw:=h6.cells
    clear h6
    have hcl:=hcl0 _ _ h6b
    have hsP:k2.rule T j= .pass→∀r',jH T (j+1) (k2.mark T) r'→jH T 0 k r':=fun e r' h=>hs2 r' (.pass hlt e h)
    have hsD:∀k3,k2.rule T j= .did k3→∀r',jH T 0 (k3.mark T) r'→jH T 0 k r':=fun k3 e r' h=>hs2 r' (.did hlt e h)
    have hsS:k2.rule T j= .stop→jH T 0 k (k2.mark T):=fun e=>hs2 _ (.stop hlt e)
    have hfin:k2.rule T j= .stop→(∃m j k1,I m j k1∧(j=10∧k2.mark T=k1∨j<10∧k1.rule T j= .stop∧k2.mark T=k1.mark T)):=fun e=>⟨n,j,k2,hI2,.inr ⟨hlt,e,rfl⟩⟩
    clear hs2 hI2 hne hcl0
    generalize k2.rule T j=d at*
    go_upto_region 8 with(refine Calls.mono hcl ?_;rintro e w7 hq;obtain⟨d1,d2,rfl,hq2⟩:=PN hq)
    clear hcl Dw h6b hcf
    rcases hq2 with⟨rfl,rfl,k3,hdk,h7⟩|⟨rfl,rfl,hdk,h7⟩|⟨rfl,rfl,hdk,h7⟩
    ·have fZ:=(h7.ae p8).cells
     have hmk:=uD h7
     obtain⟨m,hm1,hm2⟩:=hdi k3 hdk
     have hsd:=hsD k3 hdk
     clear hsP hsD hsS hfin hpa hdi hdk
     go_wp2_with (go_at_call 38;refine bF hmk ?_;intro w8 h8)
     go_step3
     exact⟨rfl,m,hm1,k3.mark T,g,c0,b0,c1,b1,c2,c3,b3,_,_,⟨rfl,rfl,rfl,rfl⟩,hm2,hsd,h8.s⟩
    ·have fZ:=(h7.ae p8).cells
     have hmk:=uD h7
     have hip:=hpa hdk
     have hsp:=hsP hdk
     clear hsP hsD hsS hfin hpa hdi hdk
     go_wp2_with (go_at_call 38;refine bF hmk ?_;intro w8 h8)
     go_roundw
     case rel=>exact⟨j+1,hlt,by go_num,k2.mark T,hip,hsp,h8.s⟩
     case measure=>simp[intOf]<;>omega
    ·have fZ:=(h7.ae p8).cells
     have hmk:=uD h7
     have hif:=hfin hdk
     have hss:=hsS hdk
     clear hsP hsD hsS hfin hpa hdi hdk
     go_wp2_with (go_at_call 38;refine bF hmk ?_;intro w8 h8)
     unfold Exit.jump
     refine bodyPost_ret (results_none rfl _ _ _) rfl ?_
     exact⟨rfl,k2.mark T,hss,hif,h8.s⟩
   ·have hje:j=10:=by omega
    subst hje
    have hsF:=hs2 k2 (.over k2)
    have hif:(∃m j k1,I m j k1∧(j=10∧k2=k1∨j<10∧k1.rule T j= .stop∧k2=k1.mark T)):=⟨n,10,k2,hI2,.inl ⟨rfl,rfl⟩⟩
    have n1:¬((10:Nat):Int)<10:=by omega
    clear hs2 hI2
    go_wp2_with fail
    unfold Exit.jump
    go_end0
    exact⟨rfl,k2,hsF,hif,hw.s⟩
 ·intro hrest
  have bC:=h3.cells
  go_upto_region 3 with(fail)
  have hS0:=(h3.drew).ps [0]
  refine nK hS0 ⟨[2,3,10,11,18,28,29],[37]⟩ [.c 0 0,.c 0 1,.c 2 5,.c 0 6,.c 0 7,.c 0 8,.c 0 9,.c 2 13,.c 0 14,.c 0 15,.c 0 16,.c 0 17,.c 2 20,.c 0 21,.c 0 22,.c 2 23,.c 0 24,.c 0 25,.c 0 26,.c 0 27,.c 2 31,.c 0 32,.c 0 33,.c 2 34,.c 0 35,.c 0 36,.e 2,.e 3,.c 0 4,.e 10,.e 11,.c 0 12,.e 18,.c 0 19,.e 28,.e 29,.c 0 30,.e 37,.c 0 38] ?_
  refine nD ?_;intro K hK
  go_wp2_with (go_at_call 99;refine(KA h3.drew).mono ?_;rintro _ v0 ⟨b0,rfl,m0⟩)
  go_wp2_with fail
  refine df hK ((m0).s) fun hS0=>?_
  refine gz rfl rfl fun K hK=>?_
  go_wp2_with (go_at_call 97;refine(CX m0 rfl).mono ?_;rintro _ v1 ⟨c0,rfl,m1⟩;unfold yh)
  go_wp2_with fail
  refine df hK ((m1).s) fun hS0=>?_
  refine nD ?_;intro K hK
  go_wp2_with (go_at_call 99;refine(KA m1).mono ?_;rintro _ v2 ⟨b1,rfl,m2⟩)
  go_wp2_with fail
  refine df hK ((m2).s) fun hS0=>?_
  refine gz rfl rfl fun K hK=>?_
  go_wp2_with (go_at_call 97;refine(CX m2 rfl).mono ?_;rintro _ v3 ⟨c1,rfl,m3⟩;unfold yh)
  go_wp2_with fail
  refine df hK ((m3).s) fun hS0=>?_
  refine nD ?_;intro K hK
  go_wp2_with (go_at_call 97;refine(CX m3 rfl).mono ?_;rintro _ v4 ⟨c2,rfl,m4⟩;unfold yh)
  go_wp2_with fail
  refine df hK ((m4).s) fun hS0=>?_
  refine nD ?_;intro K hK
  go_wp2_with (go_at_call 99;refine(KA m4).mono ?_;rintro _ v5 ⟨b3,rfl,m5⟩)
  go_wp2_with fail
  refine df hK ((m5).s) fun hS0=>?_
  refine gz rfl rfl fun K hK=>?_
  go_wp2_with (go_at_call 97;refine(CX m5 rfl).mono ?_;rintro _ v6 ⟨c3,rfl,m6⟩;unfold yh)
  go_wp2_with fail
  refine df hK ((m6).s) fun hS0=>?_
  refine uw ?_;intro K hK
  go_wp2_with fail
  refine wM ?_
  have h9:=m6.alloc (.cells (Py r z c0 c1 c2 c3) 211)
  refine In.abs h9 ?_
  clear h9 m0 m1 m2 m3 m4 m5 m6 h3 bC
  generalize v6.heap.size=g
  intro w9 h9
  go_wp2_with fail
  go_step3
  rename_i K0 hK0
  refine hK0 _ _ ?_
  clear hK0
  have h10:=h9.pr [0,8,5,5,3,3,2,0,0,0]
  refine hrest n _ _ ?_
  exact⟨k,g,c0,b0,c1,b1,c2,c3,b3,_,_,⟨rfl,rfl,rfl,rfl⟩,hI,fun r' h=>h,h10⟩
end
section
variable {T:ah} {k:aB}
def az.phi (T:ah) (s:az):Nat:=if s.leaving≠0 then 2 else if s.tk.running<0 then 1 else if s.due T then 3 else 0
def aB.load (T:ah) (k:aB):Nat:=k.errors.items.length+k.calls.items.length+k.board.wanted.length+k.core.phi T
structure xZ (T:ah) (k:aB):Prop where
 rings:∀(i:Nat) x l,k.marks.rings[i]? =some x→(k.core.look T).rings[i]? =some l→(l.length:Int)≤x
 pre:(k.core.before.length:Int)≤k.marks.pre
 frames:(k.frames.items.length:Int)≤k.marks.frames
theorem xZ.mark:xZ T (k.mark T):=by
 refine⟨fun i x l hx hl=>?_,?_,?_⟩
 ·obtain⟨z,l2,h1,h2,rfl⟩:=ug.Vx hx
  have hl2:(k.core.look T).rings[i]? =some l:=hl
  rw[h2]at hl2
  cases hl2
  exact Int.le_max_right ..
 ·exact Int.le_max_right ..
 ·exact Int.le_max_right ..
structure nV (T:ah) (n i:Nat) (k:aB):Prop where
 inv:bU T k
 ld:k.load T≤n
 bg:k.begun.length+2*n≤80000
 el:k.errors.items.length≤64
 md:xZ T k
 a0:0<i→k.top.kind≠4
 a1:1<i→k.errors.items= []
 a2:2<i→k.top.kind≠8
 a3:3<i→k.calls.items= []
 a4:4<i→k.top.kind<3∧k.phase=1
 a5:5<i→k.core.leaving=0
 a7:7<i→k.top.kind≠2
 a8:8<i→0≤k.core.tk.running
theorem kD {f:aK}:(k.begin T f).begun.length≤k.begun.length+1:=by
 unfold aB.begin aB.mark
 simp only
 split<;>simp
theorem nV.zero {m:Nat} (h:bU T k) (hl:k.load T≤m) (hb:k.begun.length+2*m≤80000) (he:k.errors.items.length≤64):nV T m 0 (k.mark T):=
 ⟨h.mark,hl,hb,he,xZ.mark,fun h=>by omega,fun h=>by omega,fun h=>by omega,fun h=>by omega,fun h=>by omega,fun h=>by omega,fun h=>by omega,fun h=>by omega⟩
theorem MR (id:Int):(aK.of 4 id).yQ=4:=rfl
theorem CP (id:Int):(aK.of 8 id).yQ=3:=rfl
theorem Gs (id:Int):(aK.of 7 id).yQ=2:=rfl
theorem nV.UT {n i:Nat} (h:nV T n i k) (hi:4<i) (id:Int):qE T (k.fs++ [.of 7 id]):=by
 refine h.inv.fits (.AB (by decide) (by intro e;cases e)) ?_
 rcases h.inv.C9 with⟨e,_⟩|⟨_,o⟩
 ·exact .inl e
 ·rw[Gs];exact .inr (PI o.kd.1 (h.a4 hi).1)
theorem V6 {n i:Nat} (h:nV T n i k):Hl T k i:=by
 have hb:=h.bg
 have hi:=h.inv
 unfold Hl
 split
 ·exact⟨fun _=>hi.room (f:= .of 4 0) (hi.fits (.AB (by decide) (by intro e;cases e)) (.inr (by rw[MR];exact zl (h.a0 (by omega))))),by omega⟩
 ·exact⟨fun _=>hi.room (f:= .of 8 0) (hi.fits (.AB (by decide) (by intro e;cases e)) (.inr (by rw[CP];exact Dp (h.a0 (by omega)) (h.a2 (by omega))))),by omega⟩
 ·intro hl e
  obtain⟨f,hf,_⟩:=hi.run (hi.c.lv.2.2.1 hl)
  unfold aB.fs at hf
  rw[e]at hf
  cases hf
 ·refine⟨fun hk=>?_,fun hk=>?_,hi.rq.2,fun _=>hi.room (h.UT (by omega) 0),by omega⟩
  ·obtain⟨c,_,_,e3,e4,e5⟩:=hi.alone hk
   obtain⟨m,x,y,e6,_,e7,_⟩:=hi.c.running e5
   rw[e3,e4,e6]
   exact⟨_,ah.Af e7⟩
  ·rcases hi.C9 with⟨_,e⟩|⟨_,o⟩
   ·rw[e]at hk;cases hk
   ·obtain⟨m,e,hm⟩:=o.isr hk
    rw[e]
    exact⟨_,ah.CU (List.getElem?_eq_getElem hm)⟩
 ·refine⟨fun hr hw=>?_,by omega⟩
  have hr1:k.core.tk.running= -1:=by
   rcases hi.c.t.rng with e|⟨m,_,e⟩
   ·exact e
   ·omega
  have e:=hi.none hr1 (h.a4 (by omega)).1 (h.a7 (by omega))
  refine⟨hr1,az.IX hi.c hw,?_⟩
  rw[←KN,e,hi.dp]
  simp
 ·exact⟨fun _ _ _=>hi.room (h.UT (by omega) 0),by omega⟩
 ·trivial
theorem aav:k.rule T 0=if k.top.kind=4 then .stop else .pass:=rfl
theorem aau:k.rule T 1=match k.errors.items with| []=> .pass|f::fs=>let k1:aB:={k with errors:={k.errors with items:=fs}};.did (if T.use 2 then k1.begin T f else k1):=rfl
theorem rule2:k.rule T 2=if k.top.kind=8 then .stop else .pass:=rfl
theorem ac1:k.rule T 3=match k.calls.items with| []=> .pass|a::rest=> .did (({k with calls:={k.calls with items:=rest}}:aB).begin T (.of 8 a)):=rfl
theorem acW:k.rule T 4=if 3≤k.top.kind∨k.phase≠1 then .stop else .pass:=rfl
theorem ac4:k.rule T 5=if k.core.leaving=0 then .pass else .did {k with core:=k.core.carry T,frames:={k.frames with items:=k.frames.items.dropLast}}:=rfl
theorem ac8:k.rule T 7=if k.top.kind=2 then .stop else .pass:=rfl
theorem ada:k.rule T 8=if 0≤k.core.tk.running then .pass else if k.core.waiting then .did (k.run T) else .stop:=rfl
theorem Xd {n i:Nat} (h:nV T n i k) (hi:i<10) (hp:k.rule T i= .pass):nV T n (i+1) (k.mark T):=by
 refine⟨h.inv.mark,h.ld,h.bg,h.el,xZ.mark,fun _=>?_,fun hj=>?_,fun hj=>?_,fun hj=>?_,fun hj=>?_,fun hj=>?_,fun hj=>?_,fun hj=>?_⟩
 ·show k.top.kind≠4
  by_cases e:i=0
  ·subst e;rw[aav]at hp;split at hp
   ·cases hp
   ·assumption
  ·exact h.a0 (by omega)
 ·show k.errors.items= []
  by_cases e:i=1
  ·subst e;rw[aau]at hp;split at hp
   ·assumption
   ·cases hp
  ·exact h.a1 (by omega)
 ·show k.top.kind≠8
  by_cases e:i=2
  ·subst e;rw[rule2]at hp;split at hp
   ·cases hp
   ·assumption
  ·exact h.a2 (by omega)
 ·show k.calls.items= []
  by_cases e:i=3
  ·subst e;rw[ac1]at hp;split at hp
   ·assumption
   ·cases hp
  ·exact h.a3 (by omega)
 ·show k.top.kind<3∧k.phase=1
  by_cases e:i=4
  ·subst e;rw[acW]at hp;split at hp
   ·cases hp
   ·rename_i hn;exact⟨by omega,Decidable.byContradiction fun e=>hn (.inr e)⟩
  ·exact h.a4 (by omega)
 ·show k.core.leaving=0
  by_cases e:i=5
  ·subst e;rw[ac4]at hp;split at hp
   ·assumption
   ·cases hp
  ·exact h.a5 (by omega)
 ·show k.top.kind≠2
  by_cases e:i=7
  ·subst e;rw[ac8]at hp;split at hp
   ·cases hp
   ·assumption
  ·exact h.a7 (by omega)
 ·show 0≤k.core.tk.running
  by_cases e:i=8
  ·subst e;rw[ada]at hp;split at hp
   ·assumption
   ·split at hp<;>cases hp
  ·exact h.a8 (by omega)
theorem bU.errs (h:bU T k) {fs:List aK} (hf:∀f∈fs,f∈k.errors.items) (hl:fs.length≤k.errors.items.length):bU T {k with errors:={k.errors with items:=fs}}:=by
 refine⟨h.c,h.fr,h.tk,h.run,h.lv,h.dp,h.er,fun f hm=>h.ek f (hf f hm),h.cr,h.cl,h.rq,h.gt,fun hp=>⟨(h.ph hp).1,?_,(h.ph hp).2.2⟩,h.x.fine,Nat.le_trans hl h.x.el,h.x.mo⟩
 have e:=(h.ph hp).2.1
 show fs= []
 refine List.eq_nil_iff_forall_not_mem.2 fun f hm=>?_
 have:=hf f hm
 rw[e]at this
 cases this
theorem Tz {n:Nat} {f:aK} {fs:List aK} (h:nV T n 1 k) (he:k.errors.items=f::fs):
 ∃m,m<n∧nV T m 0 ((let k1:aB:={k with errors:={k.errors with items:=fs}};if T.use 2 then k1.begin T f else k1).mark T):=by
 have hi:=h.inv
 have hl:=h.ld
 have hb:=h.bg
 have hi1:=hi.errs (fs:=fs) (fun f hm=>by rw[he];exact List.mem_cons_of_mem _ hm) (by rw[he,List.length_cons];omega)
 have hf4:f.kind=4:=hi.ek f (by rw[he];simp)
 have hp:k.phase≠0:=fun e=>by have:=(hi.ph e).2.1;rw[he]at this;cases this
 have hl1:({k with errors:={k.errors with items:=fs}}:aB).load T+1≤n:=by
  unfold aB.load at hl⊢
  rw[he,List.length_cons]at hl
  simp only
  omega
 have hfit:qE T (({k with errors:={k.errors with items:=fs}}:aB).fs++ [f]):=by
  refine hi1.fits ⟨by omega,fun e=>by omega⟩ (.inr ?_)
  rw[aK.Ny.2 hf4]
  exact zl (h.a0 (by omega))
 have hel:fs.length≤64:=by have:=h.el;rw[he,List.length_cons]at this;omega
 refine⟨n-1,by omega,?_⟩
 simp only
 split
 ·refine nV.zero (hi1.begin hfit (fun e=>by omega) (fun e=>by omega) hp) ?_ ?_ hel
  ·exact Nat.le_sub_one_of_lt hl1
  ·exact Nat.le_trans (Nat.add_le_add_right (kD (T:=T) (k:={k with errors:={k.errors with items:=fs}}) (f:=f)) _) (by show k.begun.length+1+2*(n-1)≤80000;omega)
 ·exact nV.zero hi1 (Nat.le_sub_one_of_lt hl1) (by show k.begun.length+2*(n-1)≤80000;omega) hel
theorem UX {n:Nat} {a:Int} {r:List Int} (h:nV T n 3 k) (he:k.calls.items=a::r):
 ∃m,m<n∧nV T m 0 ((({k with calls:={k.calls with items:=r}}:aB).begin T (.of 8 a)).mark T):=by
 have hi:=h.inv
 have hl:=h.ld
 have hb:=h.bg
 have hp:k.phase≠0:=fun e=>by have:=(hi.ph e).2.2;rw[he]at this;cases this
 have hi1:bU T {k with calls:={k.calls with items:=r}}:=by
  have hc:=hi.cl
  rw[he]at hc
  exact⟨hi.c,hi.fr,hi.tk,hi.run,hi.lv,hi.dp,hi.er,hi.ek,hi.cr,⟨(List.nodup_cons.1 hc.1).2,fun x hx=>hc.2 x (List.mem_cons_of_mem _ hx)⟩,hi.rq,hi.gt,fun e=>absurd e hp,hi.x⟩
 have hl1:({k with calls:={k.calls with items:=r}}:aB).load T+1≤n:=by
  unfold aB.load at hl⊢
  rw[he,List.length_cons]at hl
  simp only
  omega
 have hfit:qE T (({k with calls:={k.calls with items:=r}}:aB).fs++ [.of 8 a]):=by
  refine hi1.fits (.AB (by decide) (by intro e;cases e)) (.inr ?_)
  rw[CP]
  exact Dp (h.a0 (by omega)) (h.a2 (by omega))
 refine⟨n-1,by omega,nV.zero (hi1.begin hfit (fun e=>by cases e) (fun e=>by cases e) hp) ?_ ?_ h.el⟩
 ·exact Nat.le_sub_one_of_lt hl1
 ·exact Nat.le_trans (Nat.add_le_add_right (kD (T:=T) (k:={k with calls:={k.calls with items:=r}}) (f:= .of 8 a)) _) (by show k.begun.length+1+2*(n-1)≤80000;omega)
theorem Sm (hT:T.Fine) {n:Nat} (h:nV T n 5 k) (hl:k.core.leaving≠0):
 ∃m,m<n∧nV T m 0 (({k with core:=k.core.carry T,frames:={k.frames with items:=k.frames.items.dropLast}}:aB).mark T):=by
 have hi:=h.inv
 have hd:=h.ld
 have hb:=h.bg
 have hr:=hi.c.lv.2.2.1 hl
 have h2:k.top.kind≠2:=by
  rcases hi.C9 with⟨_,e⟩|⟨hm,_⟩
  ·rw[e];decide
  ·exact hi.lv hl _ hm
 obtain⟨c,e1,_⟩:=hi.alone (hi.PS hr (h.a4 (by omega)).1 h2)
 obtain⟨c1,c2⟩:=az.KY hi.c hl
 have e2:k.frames.items.dropLast= []:=by rw[e1];rfl
 rw[e2]
 have efs:({k with core:=k.core.carry T,frames:={k.frames with items:= []}}:aB).fs= []:=rfl
 have hp:k.phase≠0:=by rw[(h.a4 (by omega)).2];decide
 have hi1:bU T {k with core:=k.core.carry T,frames:={k.frames with items:= []}}:=by
  refine⟨hi.c.carry hT.ok hl,efs▸qE.nil,fun f hf=>?_,fun hr=>absurd c2 hr,fun _ f hf=>?_,hi.dp,hi.er,hi.ek,hi.cr,hi.cl,hi.rq,⟨hi.gt.1,fun x hx=>by cases hx⟩,fun e=>absurd e hp,hi.x⟩
  ·rw[efs]at hf;cases hf
  ·rw[efs]at hf;cases hf
 have p1:k.core.phi T=2:=by unfold az.phi;rw[if_pos hl]
 have p2:(k.core.carry T).phi T=1:=by unfold az.phi;rw[if_neg (by omega),if_pos (by omega)]
 have hl1:({k with core:=k.core.carry T,frames:={k.frames with items:= []}}:aB).load T+1≤n:=by
  unfold aB.load at hd⊢
  simp only
  omega
 exact⟨n-1,by omega,nV.zero hi1 (Nat.le_sub_one_of_lt hl1) (by show k.begun.length+2*(n-1)≤80000;omega) h.el⟩
theorem Yp {n:Nat} (h:nV T n 6 k) (hx:0≤T.aV.next k.board (k.above T) k.gate):
 ∃m,m<n∧nV T m 0 ((({k with board:={k.board with req:=k.board.req.set (T.aV.next k.board (k.above T) k.gate).toNat false}}:aB).begin T (.of 2 (T.aV.next k.board (k.above T) k.gate))).mark T):=by
 have hi:=h.inv
 have hd:=h.ld
 have hb:=h.bg
 obtain⟨hw,x,h1,h2⟩:=Ur hx
 generalize T.aV.next k.board (k.above T) k.gate=i at*
 obtain⟨w1,w2⟩:=O6 hw
 obtain⟨q,rfl,hq⟩:=hi.rq.2 i hw
 rw[Int.toNat_natCast]at*
 rw[(T.UQ h1).2]at h2
 have hp:k.phase≠0:=by rw[(h.a4 (by omega)).2];decide
 have hi1:bU T {k with board:={k.board with req:=k.board.req.set q false}}:=by
  refine⟨hi.c,hi.fr,hi.tk,hi.run,hi.lv,hi.dp,hi.er,hi.ek,hi.cr,hi.cl,⟨?_,fun j hj=>hi.rq.2 j (w2 j hj)⟩,hi.gt,fun e=>absurd e hp,hi.x⟩
  show(k.board.req.set q false).length=32
  rw[List.length_set,hi.rq.1]
 have hl1:({k with board:={k.board with req:=k.board.req.set q false}}:aB).load T+1≤n:=by
  unfold aB.load at hd⊢
  simp only
  omega
 have hfit:qE T (({k with board:={k.board with req:=k.board.req.set q false}}:aB).fs++ [.of 2 q]):=by
  refine hi1.fr.push (.AB (by decide) fun _=>⟨q,rfl,hq⟩) fun y hy=>?_
  have hy':y∈k.fs:=hy
  by_cases k1:k.top.kind=1
  ·obtain⟨c,_,e2,e3,_⟩:=hi.alone k1
   rw[e2,List.mem_singleton]at hy'
   subst hy'
   rw[e3]at k1
   refine .inl ?_
   rw[aK.Ap k1,aK.xQ rfl]
   decide
  ·rcases hi.C9 with⟨e,_⟩|⟨hm,o⟩
   ·rw[e]at hy';cases hy'
   ·have k2:k.top.kind=2:=by have:=o.kd;have:=(h.a4 (by omega)).1;omega
    obtain⟨t,e4,ht⟩:=o.isr k2
    have hab:k.above T=T.eU.aI k.core.lock (eQ k.top.id):=by unfold aB.above;rw[if_neg k1,if_pos k2]
    rw[hab,e4]at h2
    have hip:=Vl (T:=T) k.core.lock ht
    have hlt:=hi.fr.last y hy'
    rw[←k.D8]at hlt
    rcases hlt with e|e|⟨e5,e6,e7⟩
    ·subst e
     exact .inr ⟨k2,rfl,by rw[e4];show T.sQ t<T.sQ q;omega⟩
    ·rw[aK.xQ k2]at e
     exact .inl (by rw[aK.xQ (f:=aK.of 2 q) rfl];exact e)
    ·rw[e4]at e7
     exact .inr ⟨e5,rfl,by show T.sQ y.id<T.sQ q;omega⟩
 refine⟨n-1,by omega,nV.zero (hi1.begin hfit (fun e=>by cases e) (fun _=>h.a5 (by omega)) hp) ?_ ?_ h.el⟩
 ·exact Nat.le_sub_one_of_lt hl1
 ·exact Nat.le_trans (Nat.add_le_add_right (kD (T:=T) (k:={k with board:={k.board with req:=k.board.req.set q false}}) (f:= .of 2 q)) _) (by show k.begun.length+1+2*(n-1)≤80000;omega)
theorem YK (hT:T.Fine) {n:Nat} (h:nV T n 8 k) (hr:¬0≤k.core.tk.running) (hw:k.core.waiting=true):
 ∃m,m<n∧nV T m 0 ((k.run T).mark T):=by
 have hi:=h.inv
 have hd:=h.ld
 have hb:=h.bg
 have hr1:k.core.tk.running= -1:=by
  rcases hi.c.t.rng with e|⟨m,_,e⟩
  ·exact e
  ·omega
 have e:=hi.none hr1 (h.a4 (by omega)).1 (h.a7 (by omega))
 have e0:k.frames.items= []:=by
  have:=KN (k:=k)
  rw[e]at this
  exact List.length_eq_zero_iff.1 this.symm
 obtain⟨m,c,hc⟩:=az.IX hi.c hw
 obtain⟨c1,c2⟩:=hi.c.runs hT.ok hr1 hc
 obtain⟨d1,d2,d3⟩:=az.VN hT.ok hi.c hr1 hc
 have hp:k.phase≠0:=by rw[(h.a4 (by omega)).2];decide
 unfold aB.run
 rw[hc]
 simp only
 have efs:(({k with core:=c}:aB).begin T (.of 1 m)).fs=[.of 1 m]:=by
  rw[Wi]
  have:({k with core:=c}:aB).fs=k.fs:=rfl
  rw[this,e]
  rfl
 have hi1:bU T (({k with core:=c}:aB).begin T (.of 1 m)):=by
  unfold aB.begin
  refine bU.mark ⟨c1,?_,fun f hf _=>?_,fun _=>?_,fun hl=>absurd d2 hl,hi.dp,hi.er,hi.ek,hi.cr,hi.cl,hi.rq,⟨hi.gt.1,fun x hx=>?_⟩,fun e=>absurd e hp,hi.x⟩
  ·show qE T (({k with core:=c}:aB).begin T (.of 1 m)).fs
   rw[efs]
   exact(qE.nil (T:=T)).up (.AB (by decide) (by intro e;cases e)) (.inl rfl)
  ·have hf':f∈(({k with core:=c}:aB).begin T (.of 1 m)).fs:=hf
   rw[efs,List.mem_singleton]at hf'
   subst hf'
   exact⟨c2.symm,by show c.tk.running≠ -1;omega⟩
  ·show ∃f∈(({k with core:=c}:aB).begin T (.of 1 m)).fs,f.kind=1
   rw[efs];exact⟨_,List.mem_singleton.2 rfl,rfl⟩
  ·have hx':x∈k.frames.items++ [⟨.of 1 m,k.gate⟩]:=hx
   rw[e0,List.nil_append,List.mem_singleton]at hx'
   subst hx'
   exact hi.gt.1
 have p1:k.core.phi T=1:=by unfold az.phi;rw[if_neg (by rw[h.a5 (by omega)];decide),if_pos (by omega)]
 have p2:c.phi T=0:=by unfold az.phi;rw[if_neg (by omega),if_neg (by omega),d1];rfl
 have hl1:(({k with core:=c}:aB).begin T (.of 1 m)).load T+1≤n:=by
  have:(({k with core:=c}:aB).begin T (.of 1 m)).load T=k.errors.items.length+k.calls.items.length+k.board.wanted.length+c.phi T:=rfl
  rw[this]
  unfold aB.load at hd
  omega
 have b1:(({k with core:=c}:aB).begin T (.of 1 m)).begun.length≤k.begun.length+1:=kD (T:=T) (k:={k with core:=c}) (f:= .of 1 m)
 refine⟨n-1,by omega,?_⟩
 split
 ·refine nV.zero (hi1.begin ?_ (fun e=>by cases e) (fun e=>by cases e) hp) ?_ ?_ h.el
  ·refine hi1.fits (.AB (by decide) (by intro e;cases e)) (.inr ?_)
   rw[aB.D8,efs]
   show 0<2
   decide
  ·exact Nat.le_sub_one_of_lt hl1
  ·exact Nat.le_trans (Nat.add_le_add_right (kD (T:=T) (k:=({k with core:=c}:aB).begin T (.of 1 m)) (f:= .of 6 m)) _) (Nat.le_trans (Nat.add_le_add_right (Nat.add_le_add_right b1 1) _) (by omega))
 ·exact nV.zero hi1 (Nat.le_sub_one_of_lt hl1) (Nat.le_trans (Nat.add_le_add_right b1 _) (by omega)) h.el
theorem Ox {n:Nat} (h:nV T n 9 k) (hq:k.core.due T=true):
 ∃m,m<n∧nV T m 0 ((({k with core:=k.core.jQ}:aB).leave T).mark T):=by
 have hi:=h.inv
 have hd:=h.ld
 have hb:=h.bg
 have hr0:=h.a8 (by omega)
 have hlv:=h.a5 (by omega)
 have hr:k.core.tk.running≠ -1:=by omega
 have hp:k.phase≠0:=by rw[(h.a4 (by omega)).2];decide
 obtain⟨c,e1,e2,e3,e4,e5⟩:=hi.alone (hi.PS hr (h.a4 (by omega)).1 (h.a7 (by omega)))
 have hme:k.core.me=true:=by unfold az.me;simp[hlv,hr0]
 have hpe:k.core.jQ= {k.core with leaving:=4}:=by unfold az.jQ;rw[if_pos hme]
 have hk1:k.top.kind=1:=hi.PS hr (h.a4 (by omega)).1 (h.a7 (by omega))
 have hi1:bU T {k with core:=k.core.jQ}:=by
  have hcp:=hi.c.jQ
  rw[hpe]at hcp⊢
  refine⟨hcp,hi.fr,hi.tk,hi.run,fun _ f hf=>?_,hi.dp,hi.er,hi.ek,hi.cr,hi.cl,hi.rq,hi.gt,fun e=>absurd e hp,hi.x⟩
  have hf':f∈k.fs:=hf
  rw[e2,List.mem_singleton]at hf'
  subst hf'
  rw[←e3]
  omega
 have p1:k.core.phi T=3:=by unfold az.phi;rw[if_neg (by rw[hlv];decide),if_neg (by omega),if_pos hq]
 have p2:k.core.jQ.phi T=2:=by rw[hpe];rfl
 have hl1:({k with core:=k.core.jQ}:aB).load T+1≤n:=by
  unfold aB.load at hd⊢
  simp only
  omega
 refine⟨n-1,by omega,?_⟩
 unfold aB.leave
 split
 ·refine nV.zero (hi1.begin ?_ (fun e=>by cases e) (fun e=>by cases e) hp) ?_ ?_ h.el
  ·exact h.UT (by omega) _
  ·exact Nat.le_sub_one_of_lt hl1
  ·exact Nat.le_trans (Nat.add_le_add_right (kD (T:=T) (k:={k with core:=k.core.jQ}) (f:= .of 7 k.core.jQ.tk.running)) _) (by show k.begun.length+1+2*(n-1)≤80000;omega)
 ·exact nV.zero hi1 (Nat.le_sub_one_of_lt hl1) (by show k.begun.length+2*(n-1)≤80000;omega) h.el
theorem Zx (hT:T.Fine) {n i:Nat} {k1:aB} (h:nV T n i k) (hi:i<10) (hr:k.rule T i= .did k1):∃m,m<n∧nV T m 0 (k1.mark T):=by
 unfold aB.rule at hr
 split at hr
 ·split at hr<;>cases hr
 ·split at hr
  ·cases hr
  ·rename_i f fs he
   cases hr
   exact Tz h he
 ·split at hr<;>cases hr
 ·split at hr
  ·cases hr
  ·rename_i a r he
   cases hr
   exact UX h he
 ·split at hr<;>cases hr
 ·split at hr
  ·cases hr
  ·rename_i hl
   cases hr
   exact Sm hT h hl
 ·simp only at hr
  split at hr
  ·rename_i hx
   cases hr
   exact Yp h hx
  ·cases hr
 ·split at hr<;>cases hr
 ·split at hr
  ·cases hr
  ·rename_i hn
   split at hr
   ·rename_i hw
    cases hr
    exact YK hT h hn hw
   ·cases hr
 ·split at hr
  ·cases hr
  ·rename_i hn
   cases hr
   simp only[Bool.or_eq_true,Bool.not_eq_true',not_or,Bool.not_eq_true,Bool.not_eq_false]at hn
   exact Ox h hn.2
 ·cases hr
theorem YS (hT:T.Fine):Xg T (nV T):=⟨fun _ _ _ h=>V6 h,fun _ _ _ h=>Xd h,fun _ _ _ _ h=>Zx hT h⟩
theorem settled {k':aB} (h:∃m j k1,nV T m j k1∧(j=10∧k'=k1∨j<10∧k1.rule T j= .stop∧k'=k1.mark T)):
 bU T k'∧(k'.eH=false→k'.errors.items= [])∧k'.errors.items.length≤64∧k'.begun.length≤80000∧xZ T k':=by
 obtain⟨m,j,k1,hI,hc⟩:=h
 have hb:=hI.bg
 rcases hc with⟨rfl,rfl⟩|⟨hj,hs,rfl⟩
 ·exact⟨hI.inv,fun _=>hI.a1 (by omega),hI.el,by omega,hI.md⟩
 ·refine⟨hI.inv.mark,fun he=>?_,hI.el,by show k1.begun.length≤80000;omega,xZ.mark⟩
  show k1.errors.items= []
  by_cases h0:j=0
  ·subst h0
   exfalso
   rw[aav]at hs
   split at hs
   ·rename_i h4
    rcases hI.inv.C9 with⟨_,e⟩|⟨hm,_⟩
    ·rw[e]at h4;cases h4
    ·unfold aB.fs at hm
     obtain⟨c,hc,e⟩:=List.mem_map.1 hm
     have he':(k1.frames.items.any fun c=>decide (c.frame.kind=4))=false:=he
     rw[List.any_eq_false]at he'
     exact he' c hc (by rw[e];simp[h4])
   ·cases hs
  ·by_cases h1:j=1
   ·subst h1
    rw[aau]at hs
    split at hs<;>cases hs
   ·exact hI.a1 (by omega)
end
section
variable {T:ah} {k:aB} {s:az}
def az.Alike (a b:az):Prop:=a.tk.running=b.tk.running∧a.leaving=b.leaving
theorem qM (n:Int):((s.dB T n).1).Alike s:=by
 unfold az.dB
 repeat' split
 all_goals exact⟨rfl,rfl⟩
theorem yX (n m:Int):((s.fA T n m).1).Alike s:=by
 unfold az.fA
 repeat' split
 all_goals exact⟨rfl,rfl⟩
theorem Ea (m:Int):((s.fF m).1).Alike s:=by
 unfold az.fF
 repeat' split
 all_goals exact⟨rfl,rfl⟩
theorem Ul (o:bK) (r:Int):((s.get T o r).1).Alike s:=by
 unfold az.get
 repeat' split
 all_goals exact⟨rfl,rfl⟩
theorem Ia (o:bK) (r:Int):((s.release T o r).1).Alike s:=by
 unfold az.release
 repeat' split
 all_goals exact⟨rfl,rfl⟩
theorem bU.core (h:bU T k) {c:az} (hc:bD T c) (ha:c.Alike k.core):bU T {k with core:=c}:=by
 refine⟨hc,h.fr,fun f hf hk=>?_,fun hr=>?_,fun hl=>?_,h.dp,h.er,h.ek,h.cr,h.cl,h.rq,h.gt,h.ph,h.x⟩
 ·show f.id=c.tk.running∧c.tk.running≠ -1
  rw[ha.1];exact h.tk f hf hk
 ·have hr':c.tk.running≠ -1:=hr
  rw[ha.1]at hr';exact h.run hr'
 ·have hl':c.leaving≠0:=hl
  rw[ha.2]at hl';exact h.lv hl'
theorem bU.fail (h:bU T k) (hp:k.phase≠0) (hr:k.eH=false→k.errors.items.length<k.errors.room) (st sv pa:Int):bU T (k.fail T st sv pa):=by
 unfold aB.fail
 cases he:k.eH with
 |true=>exact h
 |false=>
  have h1:=hr he
  refine bU.mark ⟨h.c,h.fr,h.tk,h.run,h.lv,h.dp,h.er,fun f hf=>?_,h.cr,h.cl,h.rq,h.gt,fun e=>absurd e hp,h.x.fine,?_,h.x.mo⟩
  ·have hf':f∈k.errors.items++ [⟨4,0,st,sv,pa⟩]:=hf
   rcases List.mem_append.1 hf' with hf'|hf'
   ·exact h.ek f hf'
   ·rw[List.mem_singleton]at hf';subst hf';rfl
  ·show(k.errors.items++ [_]).length≤k.errors.room
   rw[List.length_append,List.length_singleton]
   omega
theorem IQ:∀n,2≤oU T n
 |0=>Nat.le_refl _
 |n+1=>by
  have:=IQ n
  unfold oU
  split
  ·exact Nat.le_trans this (Nat.le_max_left ..)
  ·exact this
theorem Gn:∀n,oU T T.ag.length≤oN T n
 |0=>Nat.le_refl _
 |n+1=>by
  have:=Gn n
  unfold oN
  split
  ·split
   ·exact this
   ·exact Nat.le_trans this (Nat.le_max_left ..)
  ·exact this
theorem WE:2≤T.most:=Nat.le_trans (IQ _) (Gn _)
theorem SY {α:Type} (l:List α) (a:α) (p:α→Bool):gY (l++ [a]) p=gY l p+(if p a then 1 else 0):=by
 unfold gY
 rw[List.filter_append,List.length_append]
 cases e:p a<;>simp[e]
theorem UV {α:Type} {l:List α} {n:Nat} {a:α} (h:l[n]? =some a):l.take (n+1)=l.take n++ [a]:=by
 rw[List.take_add_one,h];rfl
theorem OT (c:Int):∀n,n≤T.ag.length→gY (T.ag.take n) (fun b=>decide (b.counter=c))≤oU T n
 |0,_=>by simp[gY]
 |n+1,h=>by
  have ih:=OT c n (by omega)
  have e:=List.getElem?_eq_getElem (show n<T.ag.length by omega)
  unfold oU
  rw[e]
  simp only
  by_cases hc:T.ag[n].counter=c
  ·rw[hc]
   exact Nat.le_max_right ..
  ·rw[UV e,SY]
   simp only[hc,decide_false,Bool.false_eq_true,if_false,Nat.add_zero]
   exact Nat.le_trans ih (Nat.le_max_left ..)
theorem Zo (c:Int):gY T.ag (fun b=>decide (b.counter=c))≤T.most:=by
 have:=OT (T:=T) c T.ag.length (Nat.le_refl _)
 rw[List.take_length]at this
 exact Nat.le_trans this (Gn _)
end
section
variable {T:ah} {k:aB} {s:az}
theorem J5:lg.wide.Ok:=⟨⟨by decide,by decide⟩,by decide,by decide⟩
theorem QW {kd cat n:Int} (hn:n=5∨n=6∨n=7∨n=21) (h:tN n (jG kd cat)=true):kd=1:=by
 refine Decidable.byContradiction fun hk=>?_
 have hv:jG kd cat∈([2,3,0,7,4,8,5,6,9]:List Int):=by
  unfold jG
  rw[if_neg hk]
  repeat' split
  all_goals simp
 have key:∀v∈([2,3,0,7,4,8,5,6,9]:List Int),∀m∈([5,6,7,21]:List Int),tN m v=false:=by decide+kernel
 rw[key _ hv n (by simp;omega)]at h
 cases h
theorem QJ {kd cat n:Int} (hn:n=16∨n=17) (h:tN n (jG kd cat)=true):kd=1∨kd=2:=by
 refine Decidable.byContradiction fun hk=>?_
 have hv:jG kd cat∈([0,7,4,8,5,6,9]:List Int):=by
  unfold jG
  rw[if_neg (by omega),if_neg (by omega)]
  repeat' split
  all_goals simp
 have key:∀v∈([0,7,4,8,5,6,9]:List Int),∀m∈([16,17]:List Int),tN m v=false:=by decide+kernel
 rw[key _ hv n (by simp;omega)]at h
 cases h
theorem bU.Ru (h:bU T k) (hk:k.top.kind=1) (id:Int):qE T (k.fs++ [.of 7 id]):=by
 refine h.fits (.AB (by decide) (by intro e;cases e)) (.inr ?_)
 rw[Gs,aK.Ap hk]
 decide
theorem Y8 (h:bU T k) {s:iH} (ha:0≤s.a∧s.a<4294967296) (hb:0≤s.b∧s.b≤4294967295) (hc:0≤s.c) (hg:k.begun.length≤100000) (hl:k.board.Jv)
 (hm:tN s.service (jG k.top.kind (T.FN k.top))=true):GX T k s k.top:=by
 refine⟨ha,hb,hc,hg,by rw[h.dp];omega,fun hs _=>h.room (h.Ru (QW hs hm) 0),h.gt.1,hl,fun hs=>?_⟩
 rcases QJ hs hm with k1|k2
 ·obtain⟨c,_,_,e3,e4,e5⟩:=h.alone k1
  unfold LY
  rw[if_neg (by omega),e3,e4]
  exact h.c.Aq e5
 ·unfold LY
  rw[if_pos k2]
  exact k.core.CW _
theorem set_self {α:Type} {l:List α} {n:Nat} {x:α} (h:l[n]? =some x):l.set n x=l:=by
 refine List.ext_getElem? fun i=>?_
 by_cases e:i=n
 ·subst e
  rw[List.getElem?_set_self (List.getElem?_eq_some_iff.1 h).1,h]
 ·rw[List.getElem?_set_ne (by omega)]
theorem V7 {α:Type} (l:List α) (n:Nat) (d:α):l.set n (l.getD n d)=l:=by
 by_cases h:n<l.length
 ·refine set_self ?_
  rw[List.getD_eq_getElem?_getD,List.getElem?_eq_getElem h]
  rfl
 ·exact List.set_eq_of_length_le (by omega)
theorem CE {n:Int} (h:(s.dB T n).2≠0):(s.dB T n).1=s:=by
 revert h
 unfold az.dB
 repeat' split
 all_goals first|exact fun _=>rfl|exact fun h=>absurd rfl h
theorem Ie (h:s.gK.2≠0):s.gK.1=s:=by
 revert h
 unfold az.gK
 repeat' split
 all_goals first|exact fun _=>rfl|exact fun h=>absurd rfl h
theorem SC {n:Int} (h:(s.chain T n).2≠0):(s.chain T n).1=s:=by
 revert h
 have ha:=CE (T:=T) (s:=s) (n:=n)
 unfold az.chain
 rcases hp:s.dB T n with⟨s',st⟩
 rw[hp]at ha
 simp only at ha⊢
 repeat' split
 all_goals first|exact fun _=>rfl|exact fun h=>absurd rfl h|exact ha
theorem KX (h:(s.schedule T).2≠0):(s.schedule T).1=s:=by
 revert h
 unfold az.schedule
 repeat' split
 all_goals first|exact fun _=>rfl|exact fun h=>absurd rfl h
theorem Z5 {o:bK} {r:Int} (h:(s.get T o r).2≠0):(s.get T o r).1=s:=by
 revert h
 unfold az.get
 repeat' split
 all_goals first|exact fun _=>rfl|exact fun h=>absurd rfl h
theorem OI {o:bK} {r:Int} (h:(s.release T o r).2≠0):(s.release T o r).1=s:=by
 revert h
 unfold az.release
 repeat' split
 all_goals first|exact fun _=>rfl|exact fun h=>absurd rfl h
theorem KJ {n m:Int} (h:(s.fA T n m).2≠0):(s.fA T n m).1=s:=by
 revert h
 unfold az.fA
 repeat' split
 all_goals first|exact fun _=>rfl|exact fun h=>absurd rfl h
theorem FW {m:Int} (h:(s.fF m).2≠0):(s.fF m).1=s:=by
 revert h
 unfold az.fF
 repeat' split
 all_goals first|exact fun _=>rfl|exact fun h=>absurd rfl h
theorem Ib {m:Int} (h:(s.fM T m).2≠0):(s.fM T m).1=s:=by
 revert h
 unfold az.fM
 repeat' split
 all_goals first|exact fun _=>rfl|exact fun h=>absurd rfl h
theorem ou {b:aJ} {c:Nat} {x:dS} (h:b.clocks[c]? =some x):b.dA c x=b:=by
 unfold aJ.dA
 rw[set_self h]
theorem Wu {t:fV} {b:aJ} {i tk cy:Int} (h:(b.yR t i tk cy).2≠0):(b.yR t i tk cy).1=b:=by
 revert h
 unfold aJ.yR
 repeat' split
 ·exact fun _=>rfl
 ·rename_i x _ hx
  simp only
  unfold dS.Si dS.L9
  cases (x.ag.getD (t.place i.toNat) .off).set with
  |true=>intro _;simp only[Bool.true_or,if_true];exact ou hx
  |false=>
   cases x.qX tk cy with
   |true=>intro h;simp at h
   |false=>intro _;simp only[Bool.not_false,Bool.or_true,if_true];exact ou hx
 ·exact fun _=>rfl
theorem XO {t:fV} {b:aJ} {i tk cy:Int} (h:(b.yS t i tk cy).2≠0):(b.yS t i tk cy).1=b:=by
 revert h
 unfold aJ.yS
 repeat' split
 ·exact fun _=>rfl
 ·rename_i x _ hx
  simp only
  unfold dS.Ue dS.OA
  cases (x.ag.getD (t.place i.toNat) .off).set with
  |true=>intro _;simp only[Bool.true_or,if_true];exact ou hx
  |false=>
   cases x.pF tk cy with
   |true=>intro h;simp at h
   |false=>intro _;simp only[Bool.not_false,Bool.or_true,if_true];exact ou hx
 ·exact fun _=>rfl
theorem LV {t:fV} {b:aJ} {i:Int} (h:(b.kV t i).2≠0):(b.kV t i).1=b:=by
 revert h
 unfold aJ.kV
 repeat' split
 ·exact fun _=>rfl
 ·rename_i x _ hx
  simp only
  have hc:(x.ag.getD (t.place i.toNat) .off).set=false→(x.ag.getD (t.place i.toNat) .off).cancel=x.ag.getD (t.place i.toNat) .off:=fun e=>by unfold eX.cancel;rw[e];rfl
  cases e:(x.ag.getD (t.place i.toNat) .off).set with
  |true=>intro h;simp at h
  |false=>
   intro _
   rw[hc e,V7]
   exact ou hx
 ·exact fun _=>rfl
theorem left_bad {p:az × Int} (h:(k.left T p).2≠0) (hp:p.2≠0→p.1=k.core):(k.left T p).1=k:=by
 revert h
 unfold aB.left
 simp only
 split
 ·rename_i hc;exact fun h=>absurd hc.1 h
 ·intro h
  have:=hp h
  show({k with core:=p.1}:aB)=k
  rw[this]
theorem Jy {s:iH} {f:aK} (h:(k.serve T s f).2.2≠0):(k.serve T s f).1=k:=by
 have hcore:∀p:az × Int,(p.2≠0→p.1=k.core)→p.2≠0→({k with core:=p.1}:aB)=k:=fun p h1 h2=>by rw[h1 h2]
 have acD:∀p:aJ × Int,(p.2≠0→p.1=k.board)→p.2≠0→({k with board:=p.1}:aB)=k:=fun p h1 h2=>by rw[h1 h2]
 revert h
 unfold aB.serve
 simp only
 by_cases e0:s.service=1
 ·simp only[if_pos e0];exact fun _=>(by first|rfl|trivial)
 simp only[if_neg e0]
 by_cases e1:s.service=2
 ·simp only[if_pos e1];exact fun h=>(by first|exact absurd rfl h|simp at h)
 simp only[if_neg e1]
 by_cases e2:s.service=3
 ·simp only[if_pos e2];exact fun _=>(by first|rfl|trivial)
 simp only[if_neg e2]
 by_cases e3:s.service=4
 ·simp only[if_pos e3];exact hcore _ CE
 simp only[if_neg e3]
 by_cases e4:s.service=5
 ·simp only[if_pos e4];exact fun h=>left_bad h Ie
 simp only[if_neg e4]
 by_cases e5:s.service=6
 ·simp only[if_pos e5];exact fun h=>left_bad h SC
 simp only[if_neg e5]
 by_cases e6:s.service=7
 ·simp only[if_pos e6];exact fun h=>left_bad h KX
 simp only[if_neg e6]
 by_cases e7:s.service=8
 ·simp only[if_pos e7];exact fun _=>(by first|rfl|trivial)
 simp only[if_neg e7]
 by_cases e8:s.service=9
 ·simp only[if_pos e8];exact fun _=>(by first|rfl|trivial)
 simp only[if_neg e8]
 by_cases e9:s.service≤15
 ·simp only[if_pos e9];exact fun h=>(by first|exact absurd rfl h|simp at h)
 simp only[if_neg e9]
 by_cases e10:s.service=16
 ·simp only[if_pos e10];exact hcore _ Z5
 simp only[if_neg e10]
 by_cases e11:s.service=17
 ·simp only[if_pos e11];exact hcore _ OI
 simp only[if_neg e11]
 by_cases e12:s.service=18
 ·simp only[if_pos e12];exact hcore _ KJ
 simp only[if_neg e12]
 by_cases e13:s.service=19
 ·simp only[if_pos e13];exact hcore _ FW
 simp only[if_neg e13]
 by_cases e14:s.service=20
 ·simp only[if_pos e14];exact fun _=>(by first|rfl|trivial)
 simp only[if_neg e14]
 by_cases e15:s.service=21
 ·simp only[if_pos e15];exact fun h=>left_bad h Ib
 simp only[if_neg e15]
 by_cases e16:s.service=22
 ·simp only[if_pos e16];exact fun _=>(by first|rfl|trivial)
 simp only[if_neg e16]
 by_cases e17:s.service=23
 ·simp only[if_pos e17];exact fun _=>(by first|rfl|trivial)
 simp only[if_neg e17]
 by_cases e18:s.service=24
 ·simp only[if_pos e18];exact acD _ Wu
 simp only[if_neg e18]
 by_cases e19:s.service=25
 ·simp only[if_pos e19];exact acD _ XO
 simp only[if_neg e19]
 exact acD _ LV
structure Did (T:ah) (k k1:aB):Prop where
 inv:bU T k1
 ph:k1.phase≠0
 er:k1.errors.items.length≤k.errors.items.length
 bg:k1.begun.length≤k.begun.length+1
theorem bU.did (h:bU T k) (hp:k.phase≠0):Did T k k:=⟨h,hp,Nat.le_refl _,by omega⟩
theorem yZ (h:bU T k) (hp:k.phase≠0) {c:az} (hc:bD T c) (ha:c.Alike k.core):Did T k {k with core:=c}:=⟨h.core hc ha,hp,Nat.le_refl _,Nat.le_succ _⟩
theorem xE (h:bU T k) (hp:k.phase≠0) {b:aJ} (hb:b.req=k.board.req):Did T k {k with board:=b}:=by
 refine⟨⟨h.c,h.fr,h.tk,h.run,h.lv,h.dp,h.er,h.ek,h.cr,h.cl,⟨by show b.req.length=32;rw[hb];exact h.rq.1,fun i hi=>h.rq.2 i ?_⟩,h.gt,h.ph,h.x⟩,hp,Nat.le_refl _,Nat.le_succ _⟩
 have hi':i∈b.wanted:=hi
 unfold aJ.wanted at hi'⊢
 rw[←hb]
 exact hi'
theorem U1 (h:bU T k) (hp:k.phase≠0) {g:lg} (hg:g.Ok):Did T k {k with gate:=g}:=
 ⟨⟨h.c,h.fr,h.tk,h.run,h.lv,h.dp,h.er,h.ek,h.cr,h.cl,h.rq,⟨hg,h.gt.2⟩,h.ph,h.x⟩,hp,Nat.le_refl _,Nat.le_succ _⟩
theorem Zb {g:lg} (h:g.Ok) (n:Int):(g.turn n).Ok:=by
 unfold lg.Ok at*
 unfold lg.turn
 repeat' split
 all_goals simp only
 all_goals omega
theorem Dt (h:bU T k) (hp:k.phase≠0) (hk:k.top.kind=1) {p:az × Int} (hc:bD T p.1) (hr:p.1.tk.running=k.core.tk.running):Did T k (k.left T p).1:=by
 have h1:bU T {k with core:=p.1}:=by
  obtain⟨c,_,e2,e3,_⟩:=h.alone hk
  refine⟨hc,h.fr,fun f hf hk=>?_,fun hr'=>?_,fun _ f hf=>?_,h.dp,h.er,h.ek,h.cr,h.cl,h.rq,h.gt,h.ph,h.x⟩
  ·show f.id=p.1.tk.running∧p.1.tk.running≠ -1
   rw[hr];exact h.tk f hf hk
  ·have hr2:p.1.tk.running≠ -1:=hr'
   rw[hr]at hr2;exact h.run hr2
  ·have hf':f∈k.fs:=hf
   rw[e2,List.mem_singleton]at hf'
   subst hf'
   rw[←e3]
   omega
 unfold aB.left
 simp only
 split
 ·unfold aB.leave
  split
  ·refine⟨h1.mark.begin (h.Ru hk _) (fun e=>by cases e) (fun e=>by cases e) hp,hp,Nat.le_refl _,?_⟩
   exact kD (T:=T) (k:=({k with core:=p.1}:aB).mark T) (f:= .of 7 p.1.tk.running)
  ·exact⟨h1.mark,hp,Nat.le_refl _,Nat.le_succ _⟩
 ·exact⟨h1,hp,Nat.le_refl _,Nat.le_succ _⟩
theorem JY (hT:T.Fine) (h:bU T k) (a:Int):Did T k (k.shutdown T a):=by
 have h1:bU T {k with phase:=2,gate:= .wide,core:=T.mP,board:=k.board.calm T.aV,errors:={k.errors with items:= []},calls:={k.calls with items:= []},frames:={k.frames with items:= []}}:=by
  refine⟨.init hT.ok,.nil,fun f hf=>(by cases hf),fun hr=>absurd rfl hr,fun _ f hf=>(by cases hf),h.dp,h.er,fun f hf=>(by cases hf),h.cr,⟨.nil,fun x hx=>(by cases hx)⟩,⟨List.length_replicate ..,fun i hi=>?_⟩,⟨J5,fun x hx=>(by cases hx)⟩,(fun e=>by cases e),h.x.fine,Nat.zero_le _,h.x.mo⟩
  obtain⟨n,_,hn⟩:=pM.1 hi
  have hn':(List.replicate 32 false)[n]? =some true:=hn
  rw[List.getElem?_replicate]at hn'
  split at hn'<;>cases hn'
 have hp2:(2:Int)≠0:=by decide
 unfold aB.shutdown
 simp only
 split
 ·refine⟨h1.begin (qE.nil.up ⟨⟨by show(1:Int)≤5;decide,by show(5:Int)≤8;decide⟩,fun e=>by cases e⟩ (.inl rfl)) (fun e=>by cases e) (fun e=>by cases e) hp2,hp2,Nat.zero_le _,?_⟩
  exact kD (T:=T) (k:={k with phase:=2,gate:= .wide,core:=T.mP,board:=k.board.calm T.aV,errors:={k.errors with items:= []},calls:={k.calls with items:= []},frames:={k.frames with items:= []}}) (f:=⟨5,0,a,0,0⟩)
 ·exact⟨h1,hp2,Nat.zero_le _,Nat.le_succ _⟩
theorem Gm:s.gK.1.tk.running=s.tk.running:=by
 unfold az.gK
 repeat' split
 all_goals rfl
theorem O3 {n:Int}:(s.chain T n).1.tk.running=s.tk.running:=by
 have ha:=(qM (T:=T) (s:=s) n).1
 unfold az.chain
 rcases hp:s.dB T n with⟨s',st⟩
 rw[hp]at ha
 simp only at ha⊢
 repeat' split
 all_goals first|rfl|exact ha
theorem Ih:(s.schedule T).1.tk.running=s.tk.running:=by
 unfold az.schedule
 repeat' split
 all_goals rfl
theorem Fv {m:Int}:(s.fM T m).1.tk.running=s.tk.running:=by
 unfold az.fM
 repeat' split
 all_goals rfl
theorem Xx {t:fV} {b:aJ} {i tk cy:Int}:(b.yR t i tk cy).1.req=b.req:=by
 unfold aJ.yR
 repeat' split
 all_goals rfl
theorem Wh {t:fV} {b:aJ} {i tk cy:Int}:(b.yS t i tk cy).1.req=b.req:=by
 unfold aJ.yS
 repeat' split
 all_goals rfl
theorem NW {t:fV} {b:aJ} {i:Int}:(b.kV t i).1.req=b.req:=by
 unfold aJ.kV
 repeat' split
 all_goals rfl
theorem Tj (hT:T.Fine) (h:bU T k) (hp:k.phase≠0) {s:iH} (hm:tN s.service (jG k.top.kind (T.FN k.top))=true):Did T k (k.serve T s k.top).1:=by
 have hok:=hT.ok
 have hown:∀hs:s.service=16∨s.service=17,k.core.acts (if k.top.kind=2 then eQ k.top.id else oL k.top.id):=fun hs=>by
  rcases QJ hs hm with k1|k2
  ·obtain⟨c,_,_,e3,e4,e5⟩:=h.alone k1
   rw[if_neg (by omega),e3,e4]
   exact h.c.Aq e5
  ·rw[if_pos k2]
   exact k.core.CW _
 have h1:∀hs:s.service=5∨s.service=6∨s.service=7∨s.service=21,k.top.kind=1:=fun hs=>QW hs hm
 unfold aB.serve
 simp only
 by_cases e1:s.service=1
 ·rw[if_pos e1];exact h.did hp
 rw[if_neg e1]
 by_cases e2:s.service=2
 ·rw[if_pos e2];exact JY hT h _
 rw[if_neg e2]
 by_cases e3:s.service=3
 ·rw[if_pos e3];exact h.did hp
 rw[if_neg e3]
 by_cases e4:s.service=4
 ·rw[if_pos e4];exact yZ h hp (h.c.dB hok _) (qM _)
 rw[if_neg e4]
 by_cases e5:s.service=5
 ·rw[if_pos e5];exact Dt h hp (h1 (by omega)) h.c.gK Gm
 rw[if_neg e5]
 by_cases e6:s.service=6
 ·rw[if_pos e6];exact Dt h hp (h1 (by omega)) (h.c.chain hok _) O3
 rw[if_neg e6]
 by_cases e7:s.service=7
 ·rw[if_pos e7];exact Dt h hp (h1 (by omega)) h.c.schedule Ih
 rw[if_neg e7]
 by_cases e8:s.service=8
 ·rw[if_pos e8];exact h.did hp
 rw[if_neg e8]
 by_cases e9:s.service=9
 ·rw[if_pos e9];exact h.did hp
 rw[if_neg e9]
 by_cases e10:s.service≤15
 ·rw[if_pos e10];exact U1 h hp (Zb h.gt.1 _)
 rw[if_neg e10]
 by_cases e16:s.service=16
 ·rw[if_pos e16];exact yZ h hp (h.c.get (hown (.inl e16)) _) (Ul _ _)
 rw[if_neg e16]
 by_cases e17:s.service=17
 ·rw[if_pos e17];exact yZ h hp (h.c.release (hown (.inr e17)) _) (Ia _ _)
 rw[if_neg e17]
 by_cases e18:s.service=18
 ·rw[if_pos e18];exact yZ h hp (h.c.fA hok _ _) (yX _ _)
 rw[if_neg e18]
 by_cases e19:s.service=19
 ·rw[if_pos e19];exact yZ h hp (h.c.fF _) (Ea _)
 rw[if_neg e19]
 by_cases e20:s.service=20
 ·rw[if_pos e20];exact h.did hp
 rw[if_neg e20]
 by_cases e21:s.service=21
 ·rw[if_pos e21];exact Dt h hp (h1 (by omega)) (h.c.fM _) Fv
 rw[if_neg e21]
 by_cases e22:s.service=22
 ·rw[if_pos e22];exact h.did hp
 rw[if_neg e22]
 by_cases e23:s.service=23
 ·rw[if_pos e23];exact h.did hp
 rw[if_neg e23]
 by_cases e24:s.service=24
 ·rw[if_pos e24];exact xE h hp Xx
 rw[if_neg e24]
 by_cases e25:s.service=25
 ·rw[if_pos e25];exact xE h hp Wh
 rw[if_neg e25]
 exact xE h hp NW
end
section
variable {T:ah} {k:aB} {s:az}
structure Rest (T:ah) (k:aB):Prop where
 inv:bU T k
 er:k.eH=false→k.errors.items= []
 few:k.errors.items.length≤64
 bg:k.begun= []
 md:xZ T k
theorem JF:∀n,oU T n≤max 2 T.ag.length
 |0=>Nat.le_max_left ..
 |n+1=>by
  have:=JF n
  unfold oU
  split
  ·refine Nat.max_le.2 ⟨this,Nat.le_trans ?_ (Nat.le_max_right ..)⟩
   unfold gY
   refine Nat.le_trans (List.length_filter_le ..) ?_
   rw[List.length_take]
   omega
  ·exact this
theorem rU {st sv pa:Int}:(k.fail T st sv pa).phase=k.phase:=by unfold aB.fail;split<;>rfl
def aB.more (k:aB) (n:Nat):Nat:=if k.eH then 0 else n
theorem KI {m n:Nat} (h:m≤n):k.more m≤k.more n:=by unfold aB.more;split<;>omega
theorem NC {m n:Nat}:k.more m+k.more n=k.more (m+n):=by unfold aB.more;split<;>omega
theorem E8 {k1:aB} (h:k1.frames=k.frames) (n:Nat):k1.more n=k.more n:=by unfold aB.more aB.eH;rw[h]
theorem uN {st sv pa:Int}:(k.fail T st sv pa).errors.items.length≤k.errors.items.length+k.more 1:=by
 unfold aB.fail aB.more
 cases k.eH with
 |true=>exact Nat.le_refl _
 |false=>simp[aB.mark]
theorem Rest.more (h:Rest T k) {n m:Nat} (hm:m≤k.errors.items.length+k.more n) (hn:n≤64):m≤64:=by
 unfold aB.more at hm
 cases e:k.eH with
 |true=>rw[e]at hm;have:=h.few;simp only[if_true]at hm;omega
 |false=>rw[e,h.er e]at hm;simp at hm;omega
theorem Rest.room (h:Rest T k) (he:k.eH=false):k.errors.items.length+2≤k.errors.room:=by
 rw[h.er he,h.inv.er]
 have:=WE (T:=T)
 simp only[List.length_nil]
 omega
theorem Xn (hT:T.Fine) (h:bU T k) (hp:k.phase≠0) (hroom:k.eH=false→k.errors.items.length+2≤k.errors.room) (s:iH):bU T (k.call T s).1∧(k.call T s).1.phase≠0∧(k.call T s).1.errors.items.length≤k.errors.items.length+k.more 1∧(k.call T s).1.begun.length≤k.begun.length+1:=by
 have key:∀p:aB × (Int × Int × Int) × Int,Did T k p.1→(p.2.2≠0→p.1=k)→∀pa:Int,
  let r:=if p.2.2=0 then p else(p.1.fail T p.2.2 s.service pa,(0,0,0),p.2.2)
  bU T r.1∧r.1.phase≠0∧r.1.errors.items.length≤k.errors.items.length+k.more 1∧r.1.begun.length≤k.begun.length+1:=by
  intro p d hb pa
  simp only
  split
  ·exact⟨d.inv,d.ph,Nat.le_trans d.er (Nat.le_add_right _ _),d.bg⟩
  ·rename_i hne
   rw[hb hne]
   exact⟨h.fail hp (fun he=>by have:=hroom he;omega) _ _ _,by rw[rU];exact hp,uN,by rw[pV];exact Nat.le_succ _⟩
 unfold aB.call
 refine key _ ?_ ?_ _
 ·split
  ·exact h.did hp
  ·split
   ·exact h.did hp
   ·rename_i hm
    split
    ·exact h.did hp
    ·exact Tj hT h hp (by simpa using hm)
 ·split
  ·exact fun _=>rfl
  ·split
   ·exact fun _=>rfl
   ·split
    ·exact fun _=>rfl
    ·exact Jy
theorem bU.pop (h:bU T k) {xs:List oV} {c:oV} (hx:k.frames.items=xs++ [c]) (hk:c.frame.kind≠1) (hp:k.phase≠0) {g:lg} (hg:g.Ok):bU T {k with gate:=g,frames:={k.frames with items:=xs}}:=by
 have hfs:k.fs=({k with gate:=g,frames:={k.frames with items:=xs}}:aB).fs++ [c.frame]:=by
  unfold aB.fs
  rw[hx]
  simp
 generalize hf:({k with gate:=g,frames:={k.frames with items:=xs}}:aB).fs=fs at*
 have hpop:=h.fr.pop
 rw[hfs,List.dropLast_concat]at hpop
 refine⟨h.c,hf▸hpop,fun f hm=>h.tk f ?_,fun hr=>?_,fun hl f hm=>h.lv hl f ?_,h.dp,h.er,h.ek,h.cr,h.cl,h.rq,⟨hg,fun x hm=>h.gt.2 x ?_⟩,fun e=>absurd e hp,h.x⟩
 ·rw[hf]at hm;rw[hfs];exact List.mem_append_left _ hm
 ·obtain⟨f,hm,h1⟩:=h.run hr
  rw[hfs]at hm
  rcases List.mem_append.1 hm with hm|hm
  ·rw[hf];exact⟨f,hm,h1⟩
  ·rw[List.mem_singleton]at hm;subst hm;exact absurd h1 hk
 ·rw[hf]at hm;rw[hfs];exact List.mem_append_left _ hm
 ·rw[hx];exact List.mem_append_left _ hm
theorem EI:s.oQ.1.tk.running=s.tk.running:=by
 unfold az.oQ
 split<;>rfl
theorem YA {st sv pa:Int}:(k.fail T st sv pa).fs=k.fs:=by unfold aB.fs;rw[kC]
theorem Vr (hT:T.Fine) (h:bU T k) (hp:k.phase≠0) (hroom:k.eH=false→k.errors.items.length+2≤k.errors.room) (hne:k.frames.items≠ []):bU T (k.back T).1∧(k.back T).1.phase≠0∧(k.back T).1.errors.items.length≤k.errors.items.length+k.more 2∧(k.back T).1.begun.length≤k.begun.length+1:=by
 rcases zf k.frames.items with e|⟨xs,c,hx⟩
 ·exact absurd e hne
 have adK:=Gi hx
 have htop:k.top=c.frame:=by unfold aB.top;rw[adK]
 have hgc:=h.gt.2 c (by rw[hx];simp)
 unfold aB.back
 rw[adK]
 simp only
 by_cases h1:c.frame.kind=1
 ·rw[if_pos h1]
  have hk1:k.top.kind=1:=by rw[htop];exact h1
  have hg:bU T {k with gate:= .wide}:=⟨h.c,h.fr,h.tk,h.run,h.lv,h.dp,h.er,h.ek,h.cr,h.cl,h.rq,⟨J5,h.gt.2⟩,h.ph,h.x⟩
  have hf:=hg.fail hp (fun he=>by have:=hroom he;show k.errors.items.length<k.errors.room;omega) 9 5 0
  have hfp:(({k with gate:= .wide}:aB).fail T 9 5 0).phase≠0:=by rw[rU];exact hp
  have hl:(({k with gate:= .wide}:aB).fail T 9 5 0).errors.items.length≤k.errors.items.length+k.more 1:=uN
  have hb:(({k with gate:= .wide}:aB).fail T 9 5 0).begun=k.begun:=pV
  have hk2:(({k with gate:= .wide}:aB).fail T 9 5 0).top.kind=1:=by rw[aB.D8,YA];rw[aB.D8]at hk1;exact hk1
  generalize ({k with gate:= .wide}:aB).fail T 9 5 0=k2 at*
  have hc:bU T {k2 with core:=k2.core.oQ.1}:=by
   obtain⟨c2,_,e2,e3,_⟩:=hf.alone hk2
   refine⟨hf.c.oQ,hf.fr,fun f hm hk=>?_,fun hr=>?_,fun _ f hm=>?_,hf.dp,hf.er,hf.ek,hf.cr,hf.cl,hf.rq,hf.gt,hf.ph,hf.x⟩
   ·show f.id=k2.core.oQ.1.tk.running∧k2.core.oQ.1.tk.running≠ -1
    rw[EI];exact hf.tk f hm hk
   ·have hr2:k2.core.oQ.1.tk.running≠ -1:=hr
    rw[EI]at hr2;exact hf.run hr2
   ·have hm':f∈k2.fs:=hm
    rw[e2,List.mem_singleton]at hm'
    subst hm'
    rw[←e3]
    omega
  unfold aB.leave
  split
  ·refine⟨hc.begin (hf.Ru hk2 _) (fun e=>by cases e) (fun e=>by cases e) hfp,hfp,Nat.le_trans hl (Nat.add_le_add_left (KI (by decide)) _),?_⟩
   have:=kD (T:=T) (k:={k2 with core:=k2.core.oQ.1}) (f:= .of 7 k2.core.oQ.1.tk.running)
   rw[←hb]
   exact this
  ·exact⟨hc,hfp,Nat.le_trans hl (Nat.add_le_add_left (KI (by decide)) _),by show k2.begun.length≤_;rw[hb];omega⟩
 ·rw[if_neg h1]
  by_cases h2:c.frame.kind=2
  ·rw[if_pos h2]
   have hd:bU T {k with core:={k.core with lock:=k.core.lock.iC (eQ c.frame.id)}}:=h.core (h.c.drop (k.core.CW _)) ⟨rfl,rfl⟩
   generalize hk2:({k with core:={k.core with lock:=k.core.lock.iC (eQ c.frame.id)}}:aB)=k2 at*
   have e1:k2.phase=k.phase:=by rw[←hk2]
   have e2:k2.errors=k.errors:=by rw[←hk2]
   have e3:k2.begun=k.begun:=by rw[←hk2]
   have e4:k2.frames=k.frames:=by rw[←hk2]
   have hend:∀k3:aB,bU T k3→k3.phase=k.phase→k3.errors.items.length≤k.errors.items.length+k.more 1→k3.begun=k.begun→k3.frames=k.frames→∀k4:aB,k4=(if k3.gate.same c.gate=true then k3 else k3.fail T 10 0 0)→
    bU T {k4 with gate:=c.gate,frames:={k4.frames with items:=k4.frames.items.dropLast}}∧k4.phase≠0∧k4.errors.items.length≤k.errors.items.length+k.more 2∧k4.begun.length≤k.begun.length+1:=by
    intro k3 i3 p3 l3 b3 f3 k4 hk4
    obtain⟨i4,p4,l4,b4,f4⟩:bU T k4∧k4.phase=k.phase∧k4.errors.items.length≤k.errors.items.length+k.more 2∧k4.begun=k.begun∧k4.frames=k.frames:=by
     rw[hk4]
     split
     ·exact⟨i3,p3,Nat.le_trans l3 (Nat.add_le_add_left (KI (by decide)) _),b3,f3⟩
     ·exact⟨i3.fail (by rw[p3];exact hp) (fun he=>by have h1:k.eH=false:=(by unfold aB.eH at he⊢;rw[f3]at he;exact he);have h2:=hroom h1;have h3:k.more 1=1:=(by unfold aB.more;rw[h1];rfl);rw[h3]at l3;rw[i3.er,←h.er];omega) _ _ _,by rw[rU,p3],Nat.le_trans uN (by have h2:k.more 1+k.more 1=k.more 2:=NC;rw[E8 f3];omega),by rw[pV,b3],by rw[kC,f3]⟩
    clear hk4
    have hx4:k4.frames.items=xs++ [c]:=by rw[f4];exact hx
    have:=i4.pop hx4 h1 (by rw[p4];exact hp) hgc
    rw[hx4,List.dropLast_concat]
    exact⟨this,by rw[p4];exact hp,l4,by rw[b4];omega⟩
   cases (k.core.lock.held (eQ c.frame.id)).getLast? with
   |some r=>exact hend (k2.fail T 6 17 (lD r)) (hd.fail (by rw[e1];exact hp) (fun he=>by have h1:k.eH=false:=(by unfold aB.eH at he⊢;rw[e4]at he;exact he);have h2:=hroom h1;rw[e2];omega) _ _ _) (by rw[rU,e1]) (by rw[←e2,←E8 e4];exact uN) (by rw[pV,e3]) (by rw[kC,e4]) _ rfl
   |none=>exact hend k2 hd e1 (by rw[e2];exact Nat.le_add_right _ _) e3 e4 _ rfl
  ·rw[if_neg h2]
   rw[hx,List.dropLast_concat]
   exact⟨h.pop hx h1 hp hgc,hp,Nat.le_add_right _ _,by show k.begun.length≤_;omega⟩
theorem Jb (hT:T.Ok) (mode:Int) (h:bD T s):∀n,bD T (s.jX T mode n)∧(s.jX T mode n).Alike s
 |0=>⟨h,rfl,rfl⟩
 |n+1=>by
  obtain⟨h1,h2⟩:=Jb hT mode h n
  unfold az.jX
  split
  ·have:=qM (T:=T) (s:=az.jX T s mode n) n
   exact⟨h1.dB hT _,this.1.trans h2.1,this.2.trans h2.2⟩
  ·exact⟨h1,h2⟩
theorem Js {t:fV} {b:aJ} {m:Nat}:∀n,(aJ.kZ t b m n).1.req=b.req
 |0=>rfl
 |n+1=>by
  have ih:=Js (t:=t) (b:=b) (m:=m) n
  unfold aJ.kZ
  rw[←ih]
  unfold aJ.zZ
  repeat' split
  all_goals rfl
theorem TQ (hT:T.Fine) (h:bU T k) (hp:k.phase=0) (mode:Int):bU T (k.start T mode).1∧(k.start T mode).1.errors.items.length≤k.errors.items.length∧(k.start T mode).1.begun.length≤k.begun.length+1:=by
 unfold aB.start
 split
 ·exact⟨h,Nat.le_refl _,Nat.le_succ _⟩
 ·simp only
  obtain⟨c1,c2⟩:=Jb hT.ok mode h.c T.ay.length
  obtain⟨e1,e2,e3⟩:=h.ph hp
  have h0:bU T {k with phase:=1}:=⟨h.c,h.fr,h.tk,h.run,h.lv,h.dp,h.er,h.ek,h.cr,h.cl,h.rq,h.gt,(fun e=>by cases e),h.x⟩
  have h1:=h0.core c1 c2
  have hd:=(xE h1 (show(1:Int)≠0 by decide) (b:=(aJ.kZ T.aV k.board mode.toNat T.ag.length).1) (Js _)).inv
  have h2:bU T {k with phase:=1,mode:=mode,core:=k.core.jX T mode T.ay.length,board:=(aJ.kZ T.aV k.board mode.toNat T.ag.length).1}:=⟨hd.c,hd.fr,hd.tk,hd.run,hd.lv,hd.dp,hd.er,hd.ek,hd.cr,hd.cl,hd.rq,hd.gt,(fun e=>by cases e),hd.x⟩
  split
  ·refine⟨h2.begin (h2.fits (.AB (by decide) (by intro e;cases e)) (.inl e1)) (fun e=>by cases e) (fun e=>by cases e) (show(1:Int)≠0 by decide),Nat.le_refl _,?_⟩
   exact kD (T:=T) (k:={k with phase:=1,mode:=mode,core:=k.core.jX T mode T.ay.length,board:=(aJ.kZ T.aV k.board mode.toNat T.ag.length).1}) (f:= .of 3 0)
  ·exact⟨h2,Nat.le_refl _,Nat.le_succ _⟩
end
section
variable {T:ah} {k:aB} {s:az}
theorem YO {n:Nat} {b:gq} (h:T.ag[n]? =some b):T.deed n=b.act:=by
 unfold ah.deed
 rw[Int.toNat_natCast,h]
structure WX (T:ah) (k k1:aB) (n:Nat):Prop where
 inv:bU T k1
 ph:k1.phase=k.phase
 fr:k1.frames=k.frames
 bg:k1.begun=k.begun
 er:k1.errors.items.length≤k.errors.items.length+k.more n
theorem ZR (hT:T.Fine) (h:bU T k) (hp:k.phase≠0) (hr:k.eH=false→k.errors.items.length<k.errors.room) {n:Nat} {b:gq} (hb:T.ag[n]? =some b):WX T k (k.act T b.act n) 1:=by
 unfold aB.act
 split
 ·have h1:=h.core (h.c.dB hT.ok b.act.lL) (qM (T:=T) b.act.lL)
  simp only
  split
  ·exact⟨h1,rfl,rfl,rfl,Nat.le_add_right _ _⟩
  ·exact⟨h1.fail hp hr _ _ _,rU,kC,pV,uN⟩
 ·split
  ·have h1:=h.core (h.c.fA hT.ok b.act.lL b.act.mask) (yX (T:=T) b.act.lL b.act.mask)
   simp only
   split
   ·exact⟨h1,rfl,rfl,rfl,Nat.le_add_right _ _⟩
   ·exact⟨h1.fail hp hr _ _ _,rU,kC,pV,uN⟩
  ·split
   ·rename_i h3
    split
    ·exact⟨h,rfl,rfl,rfl,Nat.le_add_right _ _⟩
    ·rename_i hc
     refine⟨⟨h.c,h.fr,h.tk,h.run,h.lv,h.dp,h.er,h.ek,h.cr,⟨?_,fun x hx=>?_⟩,h.rq,h.gt,fun e=>absurd e hp,h.x⟩,rfl,rfl,rfl,Nat.le_add_right _ _⟩
     ·show(k.calls.items++ [(n:Int)]).Nodup
      rw[List.nodup_append]
      refine⟨h.cl.1,(by simp),fun a ha c hc2 e=>hc ?_⟩
      rw[List.mem_singleton]at hc2
      subst e
      subst hc2
      exact List.contains_iff_mem.2 ha
     ·have hx':x∈k.calls.items++ [(n:Int)]:=hx
      rcases List.mem_append.1 hx' with hx'|hx'
      ·exact h.cl.2 x hx'
      ·rw[List.mem_singleton]at hx'
       exact⟨n,b,hx',hb,h3⟩
   ·exact⟨h,rfl,rfl,rfl,Nat.le_add_right _ _⟩
theorem Bi (hT:T.Fine):∀(l:List Int) (k:aB),bU T k→k.phase≠0→k.errors.items.length+k.more l.length≤k.errors.room→(∀x∈l,∃(n:Nat) (b:gq),x=n∧T.ag[n]? =some b)→WX T k (k.nI T l) l.length
 | [],k,h,hp,_,_=>⟨h,rfl,rfl,rfl,Nat.le_add_right _ _⟩
 |x::l,k,h,hp,hro,hl=>by
  obtain⟨n,b,rfl,hb⟩:=hl x (by simp)
  have e4:k.more 1+k.more l.length=k.more (l.length+1):=by rw[NC,Nat.add_comm]
  have hro':k.errors.items.length+k.more (l.length+1)≤k.errors.room:=hro
  have a:=ZR hT h hp (fun he=>by have h1:k.more 1=1:=(by unfold aB.more;rw[he];rfl);omega) hb
  rw[←YO hb]at a
  have ih:=Bi hT l ((k.act T (T.deed n) n).mark T) a.inv.mark (by show(k.act T (T.deed n) n).phase≠0;rw[a.ph];exact hp) (by rw[E8 (k:=k) (k1:=(k.act T (T.deed n) n).mark T) a.fr];show(k.act T (T.deed n) n).errors.items.length+_≤(k.act T (T.deed n) n).errors.room;have:=a.er;rw[a.inv.er,←h.er];omega) fun y hy=>hl y (List.mem_cons_of_mem _ hy)
  have e:=a.er
  have e2:((k.act T (T.deed n) n).mark T).errors=(k.act T (T.deed n) n).errors:=rfl
  refine⟨ih.inv,ih.ph.trans a.ph,ih.fr.trans a.fr,ih.bg.trans a.bg,?_⟩
  have e3:=ih.er
  rw[e2]at e3
  rw[E8 (k:=k) (k1:=(k.act T (T.deed n) n).mark T) a.fr]at e3
  show(aB.nI T ((k.act T (T.deed n) n).mark T) l).errors.items.length≤k.errors.items.length+k.more (l.length+1)
  omega
theorem Tf {b:aJ} (hb:b.Ok T.aV) {c:Nat} {y:dS} (hy:b.clocks[c]? =some y):(∀x∈T.aV.fired c y,∃(n:Nat) (a:gq),x=n∧T.ag[n]? =some a)∧(T.aV.fired c y).length≤T.most:=by
 have hl:=hb.al c y hy
 constructor
 ·intro x hx
  unfold fV.fired at hx
  obtain⟨p,hp,rfl⟩:=List.mem_map.1 hx
  unfold dS.aO at hp
  have hp2:=(wF _ _ _ _ hp).2
  rw[Nat.zero_add,hl]at hp2
  rw[List.getD_eq_getElem?_getD,List.getElem?_eq_getElem hp2,Option.getD_some]
  have hm:=List.getElem_mem hp2
  generalize (T.aV.fG c)[p]=q at*
  unfold fV.fG at hm
  obtain⟨_,a,h1,_⟩:=qY _ _ _ _ hm
  rw[Nat.sub_zero]at h1
  exact⟨q,a,rfl,h1⟩
 ·unfold fV.fired
  rw[List.length_map]
  unfold dS.aO
  refine Nat.le_trans (gU _ _ _) ?_
  rw[hl]
  unfold fV.fG
  rw[oq]
  exact Zo (T:=T) c
theorem I4 (hT:T.Fine) (h:Rest T k) (hp:k.phase≠0) (hb:k.board.Ok T.aV) {c:Nat} {y:dS} (hy:k.board.clocks[c]? =some y):
 (T.aV.fired c y).length≤64∧(∀(pre:List Int) (i:Int) (post:List Int),T.aV.fired c y=pre++i::post→∃(n:Nat) (a:zx),i=((n:Nat):Int)∧(∃b,T.ag[n]? =some b∧b.act=a)∧Ri (aB.nI T {k with board:=k.board.dA c y.tick,aO:=T.aV.fired c y} pre) a i)
 ∧WX T k (aB.nI T {k with board:=k.board.dA c y.tick,aO:=T.aV.fired c y} (T.aV.fired c y)) (T.aV.fired c y).length:=by
 obtain⟨acE,RI⟩:=Tf hb hy
 have hfew:(T.aV.fired c y).length≤64:=by
  have hl:=hb.al c y hy
  unfold fV.fired
  rw[List.length_map]
  unfold dS.aO
  refine Nat.le_trans (gU _ _ _) ?_
  rw[hl]
  unfold fV.fG
  exact Nat.le_trans (gU _ _ _) hT.mF
 generalize T.aV.fired c y=fl at*
 have h0:bU T {k with board:=k.board.dA c y.tick,aO:=fl}:=by
  have:=(xE h.inv hp (b:=k.board.dA c y.tick) rfl).inv
  exact⟨this.c,this.fr,this.tk,this.run,this.lv,this.dp,this.er,this.ek,this.cr,this.cl,this.rq,this.gt,this.ph,this.x⟩
 have adL:∀n,n≤T.most→k.errors.items.length+k.more n≤k.errors.room:=fun n hn=>by
  unfold aB.more
  cases he:k.eH with
  |true=>simp only[if_true];have:=h.inv.x.el;omega
  |false=>rw[h.er he,h.inv.er];simp;exact hn
 refine⟨hfew,fun pre i post e=>?_,?_⟩
 ·obtain⟨n,b,rfl,hn⟩:=acE i (by rw[e];simp)
  have ha:=Bi hT pre {k with board:=k.board.dA c y.tick,aO:=fl} h0 hp (by refine adL pre.length ?_;have:=congrArg List.length e;rw[List.length_append,List.length_cons]at this;omega) fun x hx=>acE x (by rw[e];simp[hx])
  refine⟨n,b.act,rfl,⟨b,hn,rfl⟩,?_⟩
  generalize aB.nI T {k with board:=k.board.dA c y.tick,aO:=fl} pre=k1 at*
  refine⟨fun he=>?_,fun h3 hc=>?_,?_⟩
  ·have he':k.eH=false:=by
    unfold aB.eH at he⊢
    rw[ha.fr]at he
    exact he
   have hz:k.errors.items= []:=h.er he'
   have:=ha.er
   have e2:({k with board:=k.board.dA c y.tick,aO:=fl}:aB).errors.items.length=0:=by show k.errors.items.length=0;rw[hz];rfl
   rw[e2]at this
   have e4:({k with board:=k.board.dA c y.tick,aO:=fl}:aB).more pre.length≤pre.length:=by unfold aB.more;split<;>omega
   have e3:=congrArg List.length e
   rw[List.length_append,List.length_cons]at e3
   rw[ha.inv.er]
   omega
  ·have hs:(n:Int)::k1.calls.items ⊆ (bV (fun a:gq=>decide (a.act.kind=3)) 0 T.ag).map fun n:Nat=>(n:Int):=by
    intro x hx
    rcases List.mem_cons.1 hx with rfl|hx
    ·exact List.mem_map.2 ⟨n,sN _ hn (by simp[h3]),rfl⟩
    ·obtain⟨m,a,rfl,h1,h2⟩:=ha.inv.cl.2 x hx
     exact List.mem_map.2 ⟨m,sN _ h1 (by simp[h2]),rfl⟩
   have hnd:((n:Int)::k1.calls.items).Nodup:=List.nodup_cons.2 ⟨fun hm=>(by rw[List.contains_iff_mem.2 hm]at hc;cases hc),ha.inv.cl.1⟩
   have:=sG hnd hs
   rw[List.length_map,oq,List.length_cons]at this
   rw[ha.inv.cr]
   unfold ah.zk gY at*
   omega
  ·have:=(hT.ag b (List.mem_of_getElem? hn)).act
   unfold ah.yT at this
   simp only[Bool.and_eq_true,decide_eq_true_eq]at this
   have h1:=this.1.1
   have h2:=this.1.2
   omega
 ·have ha:=Bi hT fl {k with board:=k.board.dA c y.tick,aO:=fl} h0 hp (adL fl.length RI) acE
  exact⟨ha.inv,ha.ph,ha.fr,ha.bg,ha.er⟩
end
structure Bo (s:iH):Prop where
 a:0≤s.a∧s.a<4294967296
 b:0≤s.b∧s.b≤4294967295
 c:0≤s.c
section
variable {w0 w:World} {l:List SL} {r:Nat} {T:ah} {k:aB} {G:Value→Prop}
theorem TZ {t:fV} {s:aJ} (h:In w0 w (je r t s::l)):s.Jv:=by
 obtain⟨B,lV,vr,va,vp,vc,vi,hp,hs,h1⟩:=iM h
 obtain⟨cl,l1,l2,_,_⟩:=hp.bi
 intro x hx a ha
 obtain⟨c,hc⟩:=List.mem_iff_getElem?.1 hx
 have hlt:=(List.getElem?_eq_some_iff.1 hc).1
 have hcl:c<cl.length:=by rw[hs.len]at hlt;omega
 have hcp:lV[c]? =some cl[c].1:=by rw[←l1,List.getElem?_map,List.getElem?_eq_getElem hcl];rfl
 have ok:=(mY (sH (h1.ae p2) hcp hc)).choose_spec.choose_spec.1
 have h2:=ok.al a ha
 have h3:=ok.le3
 omega
theorem DY (h:In w0 w (eF G r T k::l)):T.Fine∧T.aV.Ok∧k.board.Ok T.aV∧k.board.Jv:=by
 obtain⟨B,x,a,h1⟩:=Aa h
 exact⟨a.fine,(JP h1).1,(JP h1).2,TZ h1⟩
theorem Xj (h:In w0 w (eF G r T k::l)) (hr:Rest T k) {s:iH} (hs:Bo s):Calls prog 34 #[r,iL s] w fun e w'=>
 e= .returned (Qh (k.call T s).2.2 false (k.call T s).2.1 .zero (.slice none 0 0) (.slice none 0 0))∧In w0 w' (eF G r T (k.call T s).1::l):=by
 obtain⟨hf,_,_,hl⟩:=DY h
 refine Za h s ⟨fun hm=>Y8 hr.inv hs.a hs.b hs.c (by rw[hr.bg];exact Nat.zero_le _) hl hm,fun h2=>?_,fun he=>?_,fun hne he=>?_⟩
 ·rcases hr.inv.C9 with⟨_,e⟩|⟨_,o⟩
  ·rw[e]at h2;cases h2
  ·obtain⟨n,e,hn⟩:=o.isr h2
   exact⟨n,_,e,List.getElem?_eq_getElem hn⟩
 ·have:=hr.room he;omega
 ·rw[Jy hne]at he⊢
  have:=hr.room he
  omega
theorem XB (h:In w0 w (eF G r T k::l)) (hr:Rest T k) (hne:k.frames.items≠ []):
 aW 35 #[r] w w0 (.int .i64 (k.back T).2) (eF G r T (k.back T).1::l):=by
 rcases zf k.frames.items with e|⟨xs,c,hx⟩
 ·exact absurd e hne
 have ht:k.top=c.frame:=by unfold aB.top;rw[Gi hx]
 by_cases h1:c.frame.kind=1
 ·exact Xv h hx h1 (fun he=>by have:=hr.room he;omega) (fun _=>hr.inv.room (hr.inv.Ru (by rw[ht];exact h1) 0)) (by rw[hr.bg];exact Nat.zero_le _)
 ·by_cases h2:c.frame.kind=2
  ·rcases hr.inv.C9 with⟨_,e⟩|⟨_,o⟩
   ·rw[←ht,e]at h2;cases h2
   ·obtain⟨n,e,hn⟩:=o.isr (by rw[ht];exact h2)
    refine WN h hx h2 (y:=(T.bf[n]).vU) ?_ (fun he=>hr.room he)
    rw[←ht,e]
    exact ah.CU (List.getElem?_eq_getElem hn)
  ·exact We h hx h1 h2
theorem Td (h:In w0 w (eF G r T k::l)) (hr:Rest T k) (hp:k.phase=0) (m:Int):
 aW 31 #[r,.int .i64 m] w w0 (.int .i64 (k.start T m).2) (eF G r T (k.start T m).1::l):=by
 by_cases hm:m<0∨T.modes≤m
 ·have e:k.start T m=(k,3):=by unfold aB.start;rw[if_pos hm]
  rw[e]
  refine(KU h hm).mono ?_
  rintro _ _ ⟨rfl,rfl⟩
  exact⟨rfl,h⟩
 ·obtain⟨n,rfl⟩:∃n:Nat,m=n:=⟨m.toNat,by omega⟩
  have e:(k.start T n).2=0:=by unfold aB.start;rw[if_neg hm]
  rw[e]
  refine VM h (by omega) (fun _=>?_) (by rw[hr.bg];exact Nat.zero_le _)
  exact hr.inv.room (f:= .of 3 0) (hr.inv.fits (.AB (by decide) (by intro e;cases e)) (.inl (hr.inv.ph hp).1))
theorem N7 (h:In w0 w (eF G r T k::l)) {i:Int} (hi:i<0∨(T.bi.length:Int)≤i):
 Calls prog 37 #[r,.int .i64 i] w fun e w'=>e= .returned (.int .i64 3)∧w=w':=by
 obtain⟨B,x,a,h0⟩:=dD h
 have bC:=h0.cells
 have hti:=NK (t:=T.aV) (h0.ae p3) hi
 clear h0 h
 go_enter func37,ntmps37
 go_wp2_with (go_at_call 93;refine bF hti ?_;intro w3 rfl)
 go_ret
 exact⟨rfl,rfl⟩
theorem XF (h:In w0 w (eF G r T k::l)) (hr:Rest T k) (hp:k.phase≠0) (i:Int):
 aW 37 #[r,.int .i64 i] w w0 (.int .i64 (k.tick T i).2) (eF (fun _=>True) r T (k.tick T i).1::l):=by
 obtain⟨hf,_,hb,_⟩:=DY h
 have hbl:k.board.clocks.length=T.bi.length:=hb.len
 have hno:(i<0∨(T.bi.length:Int)≤i)→aW 37 #[r,.int .i64 i] w w0 (.int .i64 3) (eF (fun _=>True) r T k::l):=fun hi=>by
  refine(N7 h hi).mono ?_
  rintro _ _ ⟨rfl,rfl⟩
  exact⟨rfl,ML h (fun _ _=>trivial)⟩
 by_cases h0:i<0
 ·have e:k.tick T i=(k,3):=by unfold aB.tick;rw[if_pos h0]
  rw[e]
  exact hno (.inl h0)
 ·obtain⟨c,rfl⟩:∃c:Nat,i=c:=⟨i.toNat,by omega⟩
  cases hy:k.board.clocks[c]? with
  |none=>
   have e:k.tick T c=(k,3):=by unfold aB.tick;rw[if_neg h0,Int.toNat_natCast,hy]
   rw[e]
   exact hno (.inr (by have:=List.getElem?_eq_none_iff.1 hy;omega))
  |some y=>
   have e:k.tick T c=(aB.nI T {k with board:=k.board.dA c y.tick,aO:=T.aV.fired c y} (T.aV.fired c y),0):=by unfold aB.tick;rw[if_neg h0,Int.toNat_natCast,hy]
   rw[e]
   obtain⟨n1,n2,_⟩:=I4 hf hr hp hb hy
   exact aab h hy n1 n2
end
section
variable {T:ah} {k:aB} {s:az}
theorem MF (h:bU T k) (hp:k.phase≠0) {i:Int} (hi:¬(i<0∨(T.bf.length:Int)≤i)):bU T {k with board:={k.board with req:=k.board.req.set i.toNat true}}:=by
 refine⟨h.c,h.fr,h.tk,h.run,h.lv,h.dp,h.er,h.ek,h.cr,h.cl,⟨?_,fun j hj=>?_⟩,h.gt,fun e=>absurd e hp,h.x⟩
 ·show(k.board.req.set i.toNat true).length=32
  rw[List.length_set,h.rq.1]
 ·obtain⟨n,rfl,hn⟩:=pM.1 hj
  have hn':(k.board.req.set i.toNat true)[n]? =some true:=hn
  rcases jP hn' with⟨e,_,_⟩|⟨_,e⟩
  ·exact⟨n,rfl,by omega⟩
  ·exact h.rq.2 n (pM.2 ⟨n,rfl,e⟩)
theorem VC (hT:T.Fine) (h:Rest T k) (hp:k.phase≠0) (hb:k.board.Ok T.aV) (c:Int):bU T (k.tick T c).1∧(k.tick T c).1.errors.items.length≤64∧(k.tick T c).1.begun= []:=by
 unfold aB.tick
 split
 ·exact⟨h.inv,h.few,h.bg⟩
 ·rename_i h0
  split
  ·exact⟨h.inv,h.few,h.bg⟩
  ·rename_i y hy
   obtain⟨n1,_,n3⟩:=I4 hT h hp hb hy
   simp only
   exact⟨n3.inv,h.more n3.er n1,n3.bg.trans h.bg⟩
theorem Rest.clean (h:Rest T k):Rest T k.clean:=⟨⟨h.inv.c,h.inv.fr,h.inv.tk,h.inv.run,h.inv.lv,h.inv.dp,h.inv.er,h.inv.ek,h.inv.cr,h.inv.cl,h.inv.rq,h.inv.gt,h.inv.ph,h.inv.x⟩,h.er,h.few,rfl,h.md.rings,h.md.pre,h.md.frames⟩
theorem F8 (h:bU T k) (hne:k.frames.items≠ []):k.phase≠0:=fun e=>by
 have:=(h.ph e).1
 unfold aB.fs at this
 exact hne (List.map_eq_nil_iff.1 this)
theorem Vo (hT:T.Fine) (h:Rest T k) (hb:k.board.Ok T.aV) {s:iH} {k1:aB} {v:Int × Int × Int} {st:Int} (hd:k.deed T s=some (k1,v,st)):
 bU T k1∧k1.errors.items.length≤64∧k1.begun.length≤1:=by
 have hi:=h.inv
 have hbg:k.begun.length=0:=by rw[h.bg];rfl
 unfold aB.deed at hd
 simp only at hd
 split at hd
 ·split at hd
  ·rename_i hp
   cases hd
   obtain⟨a,b,c⟩:=TQ hT hi hp s.id
   exact⟨a,Nat.le_trans b h.few,by omega⟩
  ·cases hd
 ·split at hd
  ·split at hd
   ·rename_i hc
    have hne:k.frames.items≠ []:=fun e=>by rw[e]at hc;simp at hc
    obtain⟨a,_,b,c⟩:=Xn hT hi (F8 hi hne) h.room s
    have e:k.call T s=(k1,v,st):=Option.some.inj hd
    rw[e]at a b c
    simp only at a b c
    exact⟨a,h.more b (by decide),by omega⟩
   ·cases hd
  ·split at hd
   ·split at hd
    ·rename_i hc
     have hne:k.frames.items≠ []:=fun e=>by rw[e]at hc;simp at hc
     cases hd
     obtain⟨a,_,b,c⟩:=Vr hT hi (F8 hi hne) h.room hne
     exact⟨a,h.more b (by decide),by omega⟩
    ·cases hd
   ·split at hd
    ·split at hd
     ·rename_i hp
      have hp1:k.phase≠0:=by have:=of_decide_eq_true hp;omega
      split at hd
      ·cases hd
       exact⟨hi,h.few,by omega⟩
      ·rename_i hi2
       cases hd
       exact⟨MF hi hp1 hi2,h.few,by show k.begun.length≤1;omega⟩
     ·cases hd
    ·split at hd
     ·split at hd
      ·rename_i hp
       have hp1:k.phase≠0:=by have:=of_decide_eq_true hp;omega
       cases hd
       obtain⟨a,b,c⟩:=VC hT h hp1 hb s.id
       exact⟨a,b,by rw[c];exact Nat.zero_le _⟩
      ·cases hd
     ·cases hd
theorem WY (hT:T.Fine) (h:bU T k) (he:k.errors.items.length≤64):k.load T≤200:=by
 unfold aB.load
 have h1:k.calls.items.length≤64:=by
  refine Nat.le_trans (OL h) ?_
  unfold gY
  exact Nat.le_trans (List.length_filter_le ..) hT.mF
 have h2:k.board.wanted.length≤32:=by
  unfold aJ.wanted
  rw[List.length_map]
  refine Nat.le_trans (gU _ _ _) ?_
  rw[h.rq.1]
  exact Nat.le_refl _
 have h3:k.core.phi T≤3:=by
  unfold az.phi
  repeat' split
  all_goals omega
 omega
theorem Pq (hT:T.Fine) (h:Rest T k) (hb:k.board.Ok T.aV) {s:iH} {k1:aB} {v:Int × Int × Int} {st:Int} (hd:k.deed T s=some (k1,v,st)):nV T 200 0 (k1.mark T):=by
 obtain⟨a,b,c⟩:=Vo hT h hb hd
 exact nV.zero a (WY hT a b) (by omega) b
theorem Xm {k':aB} (h:∃m j k1,nV T m j k1∧(j=10∧k'=k1∨j<10∧k1.rule T j= .stop∧k'=k1.mark T)):Rest T k'.clean:=by
 obtain⟨a,b,c,_,m⟩:=settled h
 exact⟨⟨a.c,a.fr,a.tk,a.run,a.lv,a.dp,a.er,a.ek,a.cr,a.cl,a.rq,a.gt,a.ph,a.x⟩,b,c,rfl,m.rings,m.pre,m.frames⟩
theorem Rest.off (hT:T.Fine):Rest T T.zy:=by
 have hr:=hT.room
 have hrep:∀(i:Nat) x,(List.replicate T.rings.length (0:Int))[i]? =some x→x=0:=fun i x hx=>by
  rw[List.getElem?_replicate]at hx
  split at hx
  ·exact(Option.some.inj hx).symm
  ·cases hx
 have hmo:UL T T.zy.marks:=by
  refine⟨List.length_replicate ..,fun i x y hx hy=>?_,?_,?_,?_,?_⟩
  ·rw[hrep i x hx]
   have:=hT.ok.rows.bound y (List.mem_of_getElem? hy)
   omega
  ·show(0:Int)≤T.depth;omega
  ·show(0:Int)≤T.frames;omega
  ·show(0:Int)≤T.errors;omega
  ·show(0:Int)≤T.dU;omega
 have hmd:xZ T T.zy:=by
  refine⟨fun i x l hx hl=>?_,Int.le_refl _,Int.le_refl _⟩
  rw[hrep i x hx]
  have hl':(T.rings.map fun y=>(tu T.rings).nP y.aI.toNat)[i]? =some l:=hl
  rw[List.getElem?_map]at hl'
  cases hy:T.rings[i]? with
  |none=>rw[hy]at hl';cases hl'
  |some y=>
   rw[hy]at hl'
   have e:(tu T.rings).nP y.aI.toNat=l:=Option.some.inj hl'
   rw[←e]
   unfold dC.nP
   split
   ·rename_i g hg
    rw[Bf _ _ g hg]
    exact Int.le_refl _
   ·exact Int.le_refl _
 refine⟨⟨.init hT.ok,.nil,fun f hf=>(by cases hf),fun hr=>absurd rfl hr,fun _ f hf=>(by cases hf),?_,?_,fun f hf=>(by cases hf),?_,⟨.nil,fun x hx=>(by cases hx)⟩,⟨List.length_replicate ..,fun i hi=>?_⟩,⟨J5,fun x hx=>(by cases hx)⟩,fun _=>⟨rfl,rfl,rfl⟩,hT,Nat.zero_le _,hmo⟩,fun _=>rfl,Nat.zero_le _,rfl,hmd⟩
 ·show T.frames.toNat=_
  omega
 ·show T.errors.toNat=_
  rw[hr.2.2.1,Int.toNat_natCast]
 ·show T.dU.toNat=_
  rw[hr.2.2.2,Int.toNat_natCast]
 ·obtain⟨n,_,hn⟩:=pM.1 hi
  have hn':(List.replicate 32 false)[n]? =some true:=hn
  rw[List.getElem?_replicate]at hn'
  split at hn'<;>cases hn'
end
end Go.Proofs.YtajgpcnlehinbaaGreat
