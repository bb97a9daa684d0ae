/- Part of a proof. -/
import Derived.Test.YtajgpcnlehinbaaGreatA32
namespace Go.Proofs.YtajgpcnlehinbaaGreat
open Tryz Go.RowKit
set_option maxRecDepth 100000
set_option maxHeartbeats 60000000
set_option linter.all false
section
variable {w0 w:World} {l:List SL} {B:List (Nat × Obj)} {va vb:Value}
end
structure UN where
 phase:Int
 mode:Int
 ay:List jh
 frames:List aK
 req:List Int
 held:List (List Int)
 shut:Bool
 all:Int
 os:Int
 bi:List Int
 ag:List eX
 rings:List (List Int)
 pre:List Int
def uA (B:List (Nat × Obj)) (v:Value) (ll:List (List Int)):Prop:=∃pl:List (List Int × Value),pl.map (·.1)=ll∧dQ B v pl.length (pl.map fun p=>p.2)∧∀p∈pl,dQ B p.2 p.1.length (ints p.1)
def yz (B:List (Nat × Obj)) (v:Value) (tl:List jh):Prop:=∃pl:List (jh × Value),pl.map (·.1)=tl∧dQ B v pl.length (pl.map uq).flatten∧xN B pl
structure Kt (B:List (Nat × Obj)) (v vT vF vQ vH vC vA vR vP:Value) (x:UN):Prop where
 val:v= .agg #[.int .i64 x.phase,.int .i64 x.mode,vT,vF,vQ,vH,.bool x.shut,.int .i64 x.all,.int .i64 x.os,vC,vA,vR,vP]
 ay:yz B vT x.ay
 frames:dQ B vF x.frames.length (x.frames.map jc).flatten
 req:dQ B vQ x.req.length (ints x.req)
 held:uA B vH x.held
 bi:dQ B vC x.bi.length (yt x.bi)
 ag:dQ B vA x.ag.length (x.ag.map ji).flatten
 rings:uA B vR x.rings
 pre:dQ B vP x.pre.length (ints x.pre)
section
variable {w0 w:World} {l:List SL} {B:List (Nat × Obj)} {va vb:Value}
theorem uA.form {v:Value} {ll:List (List Int)} (h:uA B v ll):∃a c,v= .slice a ll.length c:=by
 obtain⟨pl,e,h1,_⟩:=h
 obtain⟨a,c,e2⟩:=h1.form
 exact⟨a,c,by rw[e2,←e,List.length_map]⟩
theorem yz.form {v:Value} {tl:List jh} (h:yz B v tl):∃a c,v= .slice a tl.length c:=by
 obtain⟨pl,e,h1,_⟩:=h
 obtain⟨a,c,e2⟩:=h1.form
 exact⟨a,c,by rw[e2,←e,List.length_map]⟩
end
def aB.U8 (T:ah) (k:aB):UN:=
 ⟨k.phase,k.mode,(k.core.look T).ay,k.frames.items.map (·.frame),k.board.wanted,k.AU T,k.gate.shut,k.gate.all,k.gate.os,k.board.clocks.map (·.value),k.board.looks T.aV,(k.core.look T).rings,k.core.before⟩
section
variable {w0 w:World} {l:List SL} {r:Nat} {T:ah} {k:aB} {G:Value→Prop} {B:List (Nat × Obj)}
theorem xN.mono {C:List (Nat × Obj)} {pl:List (jh × Value)} (h:xN B pl) (hs:B ⊆ C):xN C pl:=fun p hp=>(h p hp).mono hs
theorem uA.mono {C:List (Nat × Obj)} {v:Value} {ll:List (List Int)} (h:uA B v ll) (hs:B ⊆ C):uA C v ll:=by
 obtain⟨pl,e,h1,h2⟩:=h
 exact⟨pl,e,h1.mono hs,fun p hp=>(h2 p hp).mono hs⟩
theorem yz.mono {C:List (Nat × Obj)} {v:Value} {tl:List jh} (h:yz B v tl) (hs:B ⊆ C):yz C v tl:=by
 obtain⟨pl,e,h1,h2⟩:=h
 exact⟨pl,e,h1.mono hs,h2.mono hs⟩
theorem Kt.mono {C:List (Nat × Obj)} {v vT vF vQ vH vC vA vR vP:Value} {x:UN} (h:Kt B v vT vF vQ vH vC vA vR vP x) (hs:B ⊆ C):Kt C v vT vF vQ vH vC vA vR vP x:=
 ⟨h.val,h.ay.mono hs,h.frames.mono hs,h.req.mono hs,h.held.mono hs,h.bi.mono hs,h.ag.mono hs,h.rings.mono hs,h.pre.mono hs⟩
theorem VQ {v:Value} {tl:List jh} (h:In w0 w (oM v tl::bJ B::l)):∃C,B ⊆ C∧yz C v tl∧In w0 w (bJ C::l):=by
 obtain⟨B2,h⟩:=In.aY.1 h
 obtain⟨pl,h⟩:=In.aY.1 h
 obtain⟨⟨e,hp⟩,h⟩:=In.dw.1 (In.bn.1 h)
 have h1:In w0 w (bJ B2::Row 138 7 v pl.length (pl.map uq).flatten::bJ B::l):=h
 replace h:=h1
 have h2:=h.pr [0,1,0]
 obtain⟨C,hC,hr,h3⟩:=((h2.Lc).ae p1).dY
 exact⟨C,fun x hx=>hC (List.mem_append_right _ hx),⟨pl,e,hr,hp.mono fun x hx=>hC (List.mem_append_left _ hx)⟩,h3⟩
theorem LH {v:Value} {ll:List (List Int)} (h:In w0 w (lJ v ll::bJ B::l)):∃C,B ⊆ C∧uA C v ll∧In w0 w (bJ C::l):=by
 obtain⟨B2,h⟩:=In.aY.1 h
 obtain⟨pl,h⟩:=In.aY.1 h
 obtain⟨⟨e,hp⟩,h⟩:=In.dw.1 (In.bn.1 h)
 have h1:In w0 w (bJ B2::Row 44 1 v pl.length (pl.map fun p=>p.2)::bJ B::l):=h
 replace h:=h1
 have h2:=h.pr [0,1,0]
 obtain⟨C,hC,hr,h3⟩:=((h2.Lc).ae p1).dY
 exact⟨C,fun x hx=>hC (List.mem_append_right _ hx),⟨pl,e,hr,fun p hp'=>(hp p hp').mono fun x hx=>hC (List.mem_append_left _ hx)⟩,h3⟩
theorem Zy {v:Value} {fs:List aK} (h:In w0 w (gQ v fs::bJ B::l)):∃C,B ⊆ C∧dQ C v fs.length (fs.map jc).flatten∧In w0 w (bJ C::l):=by
 unfold gQ at h
 exact h.dY
theorem UU (h:In w0 w (eF G r T k::bJ B::l)):Calls prog 13 #[r] w fun e w'=>
 ∃C v vT vF vQ vH vC vA vR vP,B ⊆ C∧Kt C v vT vF vQ vH vC vA vR vP (k.U8 T)∧e= .returned v∧In w0 w' (bJ C::eF G r T k::l):=by
 refine(Zq h).mono ?_
 rintro e w' ⟨vT,vF,vQ,vH,vC,vA,vR,vP,rfl,h1⟩
 obtain⟨C1,s1,r1,h2⟩:=VQ (h1.s:In w0 w' (oM vT (k.core.look T).ay::bJ B::gQ vF (k.frames.items.map (·.frame))::Ints vQ k.board.wanted::lJ vH (k.AU T)::Row 38 1 vC k.board.clocks.length (yt (k.board.clocks.map (·.value)))::Row 125 3 vA T.aV.ag.length ((k.board.looks T.aV).map ji).flatten::lJ vR (k.core.look T).rings::Ints vP k.core.before::eF G r T k::l))
 obtain⟨C2,s2,r2,h3⟩:=Zy (h2.ae p1)
 obtain⟨C3,s3,r3,h4⟩:=(h3.ae p1).nZ
 obtain⟨C4,s4,r4,h5⟩:=LH (h4.ae p1)
 obtain⟨C5,s5,r5,h6⟩:=(h5.ae p1).dY
 obtain⟨C6,s6,r6,h7⟩:=(h6.ae p1).dY
 obtain⟨C7,s7,r7,h8⟩:=LH (h7.ae p1)
 obtain⟨C8,s8,r8,h9⟩:=(h8.ae p1).nZ
 have t7:C7 ⊆ C8:=s8
 have t6:C6 ⊆ C8:=s7.trans t7
 have t5:C5 ⊆ C8:=s6.trans t6
 have t4:C4 ⊆ C8:=s5.trans t5
 have t3:C3 ⊆ C8:=s4.trans t4
 have t2:C2 ⊆ C8:=s3.trans t3
 have t1:C1 ⊆ C8:=s2.trans t2
 refine⟨C8,_,vT,vF,vQ,vH,vC,vA,vR,vP,s1.trans t1,⟨rfl,r1.mono t1,r2.mono t2,r3.mono t3,r4.mono t4,?_,?_,r7.mono t7,r8⟩,rfl,h9⟩
 ·show dQ C8 vC (k.board.clocks.map (·.value)).length (yt (k.board.clocks.map (·.value)))
  rw[List.length_map]
  exact r5.mono t5
 ·show dQ C8 vA (k.board.looks T.aV).length ((k.board.looks T.aV).map ji).flatten
  have e:(k.board.looks T.aV).length=T.aV.ag.length:=by unfold aJ.looks;rw[List.length_map,List.length_range]
  rw[e]
  exact r6.mono t6
end
theorem QR:uU.Num:=by
 refine⟨fun k hk=>?_,fun c hc=>(by cases hc),fun a ha=>(by cases ha),fun m hm=>(by cases hm)⟩
 have hk':k∈([⟨1,1,true,1,0,-1, [],1⟩,⟨2,0,true,1,0,-1, [],0⟩]:List dn):=hk
 simp only[List.mem_cons,List.not_mem_nil,or_false]at hk'
 rcases hk' with rfl|rfl<;>exact⟨⟨by decide,by decide⟩,by decide,by decide⟩
section
variable {w0 w:World} {l:List SL} {r:Nat} {T:ah} {k:aB}
theorem VI (w:World) (v:Int):Calls prog 9 #[.int .i64 v] w fun e w'=>e= .returned (.int .i64 v)∧w=w':=by
 go_enter func9,ntmps9
 go_wp2_with fail
 go_ret
 exact⟨rfl,rfl⟩
def Z9:List (dn × Value):=[(⟨1,1,true,1,0,-1, [],1⟩,.slice none 0 0),(⟨2,0,true,1,0,-1, [],0⟩,.slice none 0 0)]
theorem Ph (h:In w0 w l):Calls prog 27 #[] w fun e w'=>∃B v x,e= .returned v∧rF B v uU x∧In w0 w' (bJ B::l):=by
 have h1:=h.alloc (RY 0 0 0 0 0 0)
 go_enter func27,ntmps27
 go_upto_region 1 with(fail)
 refine In.abs h1 ?_
 clear h1 h
 generalize w.heap.size=z
 intro w2 h2
 have fZ:=h2.cells
 have hfZ:=h2.free
 have hlt:=h2.lt
 have h3:=h2.fill [.int .i64 2,.int .i64 1,.slice (some ⟨w2.heap.size,0,none⟩) 2 2,.slice (some ⟨w2.heap.size+1,0,none⟩) 2 2,.slice none 0 0,.slice none 0 0,.slice none 0 0,.slice none 0 0,.slice none 0 0,.int .i64 2,.int .i64 4,.int .i64 2,.int .i64 0] rfl
 simp only[dm]at h3
 generalize hg:w2.heap.size=g at*
 go_wp2_with fail
 have h4:=h3.alloc2 (.cells #[.int .i64 1,.int .i64 1,.bool true,.int .i64 1,.int .u32 0,.int .i64 (-1),.slice none 0 0,.int .u32 1,.int .i64 2,.int .i64 0,.bool true,.int .i64 1,.int .u32 0,.int .i64 (-1),.slice none 0 0,.int .u32 0] 52) (Y4 2 1 1 1)
 simp only[World.size_setCell,hg]at h4
 refine In.abs h4 ?_
 clear h4 h3 h2 fZ hfZ hlt
 intro w4 h4
 have hc:=(h4.ae p2).cells
 refine bodyPost_ret (v:= .agg #[.int .i64 2,.int .i64 1,.slice (some ⟨g,0,none⟩) 2 2,.slice (some ⟨g+1,0,none⟩) 2 2,.slice none 0 0,.slice none 0 0,.slice none 0 0,.slice none 0 0,.slice none 0 0,.int .i64 2,.int .i64 4,.int .i64 2,.int .i64 0]) (by simp[results,results27,go_sem,hc]) rfl ?_
 have h5:In w0 w4 (Row 52 8 (.slice (some ⟨g,0,none⟩) 2 2) 2 (Z9.map dM).flatten::pts (g+1) (Y4 2 1 1 1)::l):=
  In.nJ (n:=2) (cap:=2) (size:=8) (cs:=(Z9.map dM).flatten) (ext:= []) (h4.s:In w0 w4 (pts g (.cells #[.int .i64 1,.int .i64 1,.bool true,.int .i64 1,.int .u32 0,.int .i64 (-1),.slice none 0 0,.int .u32 1,.int .i64 2,.int .i64 0,.bool true,.int .i64 1,.int .u32 0,.int .i64 (-1),.slice none 0 0,.int .u32 0] 52)::pts (g+1) (Y4 2 1 1 1)::l)) rfl (by decide) (by unfold maxLen;decide) rfl (by simp[Z9,dM,Value.oneCell'])
 obtain⟨C1,_,r1,h6⟩:=(h5.sW.ae p1).dY
 have h7:In w0 w4 (Row 54 2 (.slice (some ⟨g+1,0,none⟩) 2 2) 2 (uU.rings.map iR).flatten::bJ C1::l):=
  In.nJ (n:=2) (cap:=2) (size:=2) (cs:=(uU.rings.map iR).flatten) (ext:= []) (h6.s:In w0 w4 (pts (g+1) (Y4 2 1 1 1)::bJ C1::l)) rfl (by decide) (by unfold maxLen;decide) rfl (by simp[uU,iR,Value.oneCell'])
 obtain⟨C2,s2,r2,h8⟩:=h7.dY
 have hnil:dQ C2 (.slice none 0 0) 0 []:=⟨Nat.zero_le _,.inl ⟨.inl rfl,rfl,rfl⟩⟩
 refine⟨C2,_,⟨.slice (some ⟨g,0,none⟩) 2 2,.slice (some ⟨g+1,0,none⟩) 2 2,.slice none 0 0,.slice none 0 0,.slice none 0 0,.slice none 0 0,.slice none 0 0,0,0,0,0,0⟩,rfl,⟨rfl,⟨Z9,rfl,r1.mono s2,fun p hp=>?_⟩,r2,hnil,hnil,hnil,⟨[],rfl,hnil,fun p hp=>by cases hp⟩,hnil⟩,h8⟩
 have hp':p∈([(⟨1,1,true,1,0,-1, [],1⟩,.slice none 0 0),(⟨2,0,true,1,0,-1, [],0⟩,.slice none 0 0)]:List (dn × Value)):=hp
 simp only[List.mem_cons,List.not_mem_nil,or_false]at hp'
 rcases hp' with rfl|rfl<;>exact hnil
end
theorem XG (v0 v1 v2 v3 v4 v5 v6 v7 v8 v9 v10 v11:Value) (w:World):(Instr.field 46 (.agg #[v0,v1,v2,v3,v4,v5,v6,v7,v8,v9,v10,v11]) 1).run prog w= .ok v1 w:=by kernel_rfl
theorem frB (a b c d e a' b' c' d' e':Int) (w:World):(binOp .eql 42 (.agg #[.int .i64 a,.int .i64 b,.int .i64 c,.int .i64 d,.int .u32 e]) (.agg #[.int .i64 a',.int .i64 b',.int .i64 c',.int .i64 d',.int .u32 e'])).run prog w= .ok (.bool (a==a'&&(b==b'&&(c==c'&&(d==d'&&e==e'))))) w:=by
 have h:=acS a b c d e a' b' c' d' e' w
 simp[binOp,h,go_sem]
section
variable {w0 w:World} {l:List SL} {r:Nat} {T:ah} {k k':aB} {a:Uu} {G:Value→Prop}
theorem wS (h:In w0 w (eF G r T k::l)) (hr:Rest T k) {s:iH} (hs:Bo s) (hd:aB.Step T k s k' a):Calls prog 11 #[r,iL s] w fun e w'=>
 ∃ab cb ax cx,Rest T k'∧e= .returned (Qh a.status a.idle a.v a.run (.slice ab a.begun.length cb) (.slice ax a.aO.length cx))∧In w0 w' (eF (fun _=>True) r T k'::gQ (.slice ab a.begun.length cb) a.begun::Ints (.slice ax a.aO.length cx) a.aO::l):=by
 refine(QI h hr hs).mono ?_
 rintro e w' ⟨k2,a2,vb,vx,hs2,hr2,rfl,h2⟩
 obtain⟨rfl,rfl⟩:=aB.Step.det hd hs2
 obtain⟨ab,cb,rfl⟩:=In.aG (E:=42) (size:=5) (h2.ae p1)
 obtain⟨ax,cx,rfl⟩:=In.aG (E:=3) (size:=1) (h2.ae p2)
 exact⟨ab,cb,ax,cx,hr2,rfl,h2⟩
theorem Wl (h:In w0 w l):aW 10 #[] w w0 (.bool true) l:=by
 obtain⟨k1,k2,k3,k4,k5,k6,a1,a2,a3,a4,a5,a6,pl⟩:=PG
 obtain⟨s1,s2,s3,s4,s5,s6,i1,r1,r2,t3,r3,b3,m0,m1,m2,m3,r4,r5,t5,i6⟩:=pl
 rcases a1 with⟨st1,id1,⟨v11,v12,v13⟩,run1,bg1,ex1⟩
 rcases a2 with⟨st2,id2,⟨v21,v22,v23⟩,run2,bg2,ex2⟩
 rcases a3 with⟨st3,id3,⟨v31,v32,v33⟩,run3,bg3,ex3⟩
 rcases a4 with⟨st4,id4,⟨v41,v42,v43⟩,run4,bg4,ex4⟩
 rcases a5 with⟨st5,id5,⟨v51,v52,v53⟩,run5,bg5,ex5⟩
 rcases a6 with⟨st6,id6,⟨v61,v62,v63⟩,run6,bg6,ex6⟩
 simp only at i1 r1 r2 t3 r3 b3 r4 r5 t5 i6
 subst i1 r1 r2 t3 r3 r4 r5 t5 i6
 have hne:=aej
 have hx0:Rest uU uU.zy:=Rest.off (ah.fine wR)
 have hs1:∀r w' (l':List SL),Rest uU uU.zy→In w0 w' (eF (fun _=>True) r uU uU.zy::l')→_:=fun r w' l' hr h'=>wS h' hr (s:=⟨1,0,0,0,0,0⟩) ⟨by decide,by decide,by decide⟩ s1
 have hs2:∀r w' (l':List SL),Rest uU k1→In w0 w' (eF (fun _=>True) r uU k1::l')→_:=fun r w' l' hr h'=>wS h' hr (s:=⟨2,0,4,1,0,0⟩) ⟨by decide,by decide,by decide⟩ s2
 have hs3:∀r w' (l':List SL),Rest uU k2→In w0 w' (eF (fun _=>True) r uU k2::l')→_:=fun r w' l' hr h'=>wS h' hr (s:=⟨2,0,4,1,0,0⟩) ⟨by decide,by decide,by decide⟩ s3
 have hs4:∀r w' (l':List SL),Rest uU k3→In w0 w' (eF (fun _=>True) r uU k3::l')→_:=fun r w' l' hr h'=>wS h' hr (s:=⟨3,0,0,0,0,0⟩) ⟨by decide,by decide,by decide⟩ s4
 have hs5:∀r w' (l':List SL),Rest uU k4→In w0 w' (eF (fun _=>True) r uU k4::l')→_:=fun r w' l' hr h'=>wS h' hr (s:=⟨2,0,5,0,0,0⟩) ⟨by decide,by decide,by decide⟩ s5
 have hs6:∀r w' (l':List SL),Rest uU k5→In w0 w' (eF (fun _=>True) r uU k5::l')→_:=fun r w' l' hr h'=>wS h' hr (s:=⟨1,0,0,0,0,0⟩) ⟨by decide,by decide,by decide⟩ s6
 unfold Qh iL at hs1 hs2 hs3 hs4 hs5 hs6
 simp only at hs1 hs2 hs3 hs4 hs5 hs6
 rw[b3]at hs3
 have hmk:=fun r w' (l':List SL) (h':In w0 w' (eF (fun _=>True) r uU k3::l'))=>Oi h'
 rw[m1,m2,m3]at hmk
 have hex:=Ph h
 clear s1 s2 s3 s4 s5 s6 m1 m2 m3
 go_enter func10,ntmps10
 go_wp2_with (go_at_call 27;refine Calls.mono hex ?_;rintro _ w2 ⟨B,v,x,rfl,ht,h2⟩)
 obtain⟨tl,t1,t2,t3⟩:=ht.ay
 obtain⟨il,i1,i2,i3⟩:=ht.bf
 have H5:tl.length=uU.ay.length:=by rw[←t1,List.length_map]
 have II:il.length=uU.bf.length:=by rw[←i1,List.length_map]
 have fit:=fits wR QR t1 i1 t3 i3
 rw[←H5]at t2
 rw[←II]at i2
 have henc:=JC h2 ht (checks ht wR) t2 i2 fit.small fit.six fit.bytes fit.counts fit.some
 have hdec:=fun C (v:Value) hu w' (l':List SL) (h':In w0 w' (bJ C::l'))=>IZ (v:=v) h' hu fit.small t1 i1 fit.six fit.bytes fit.counts wR fit.ay fit.bf
 clear t2 i2 fit H5 II t1 i1 t3 i3 hex h
 generalize iG uU tl il=ib at henc hdec
 go_upto_region 2 with(go_at_call 26;refine Calls.mono henc ?_;rintro _ w3 ⟨u,rfl,h3⟩)
 obtain⟨au,cu,rfl⟩:=h3.aG
 obtain⟨C,_,hu,h4⟩:=h3.dY
 have Yl:=ZL h4 (hdec C _ hu) wR QR
 clear henc hdec h3 h2 ht hu
 go_upto_region 3 with(go_at_call 28;refine Calls.mono Yl ?_;rintro _ w4 ⟨r,rfl,h5⟩)
 clear Yl h4
 have hnu:=VI
 go_upto_region 5 with(go_at_call 9;refine bW (hnu _ _) ?_)
 clear hnu
 have g0:=h5.pr [0] 1
 clear h5
 have hc1:=hs1 _ _ _ hx0 g0
 clear hs1
 go_upto_region 6 with(go_at_call 11;refine Calls.mono hc1 ?_;rintro _ wv1 ⟨ab1,cb1,ax1,cx1,hr1,rfl,hv1⟩)
 have q1:=hv1.alloc (Ua st1 false v11 v12 v13 1 0 0 0 0 (.slice ab1 bg1.length cb1) (.slice ax1 ex1.length cx1))
 refine In.abs q1 ?_
 clear q1 hv1 hc1 g0
 generalize wv1.heap.size=y1
 intro u1 q1
 have g1:=q1.pr [1,0] 2
 clear q1
 have hc2:=hs2 _ _ _ hr1 g1
 clear hs2
 go_upto_region 7 with(go_at_call 11;refine Calls.mono hc2 ?_;rintro _ wv2 ⟨ab2,cb2,ax2,cx2,hr2,rfl,hv2⟩)
 have q2:=hv2.alloc (Ua st2 id2 v21 v22 v23 1 1 0 0 0 (.slice ab2 bg2.length cb2) (.slice ax2 ex2.length cx2))
 refine In.abs q2 ?_
 clear q2 hv2 hc2 g1
 generalize wv2.heap.size=y2
 intro u2 q2
 have g2:=q2.pr [1,0,2] 2
 clear q2
 have hc3:=hs3 _ _ _ hr2 g2
 clear hs3
 go_upto_region 8 with(go_at_call 11;refine Calls.mono hc3 ?_;rintro _ wv3 ⟨ab3,cb3,ax3,cx3,hr3,rfl,hv3⟩)
 have q3:=hv3.alloc (Ua 4 id3 v31 v32 v33 4 0 4 4 1 (.slice ab3 1 cb3) (.slice ax3 ex3.length cx3))
 refine In.abs q3 ?_
 clear q3 hv3 hc3 g2
 generalize wv3.heap.size=y3
 intro u3 q3
 have g3:=q3.pr [1,0,2,2] 2
 clear q3
 have hc4:=hmk _ _ _ g3
 clear hmk
 go_upto_region 9 with(go_at_call 12;refine Calls.mono hc4 ?_;rintro _ wm ⟨um,rfl,hm⟩;obtain⟨am,cm,rfl⟩:=In.aG (E:=3) (size:=1) hm;rw[m0]at hm)
 have q4:=hm.alloc (Xq (.slice am 2 cm) 1 2 1 k3.marks.calls)
 refine In.abs q4 ?_
 clear q4 hm hc4 g3
 generalize wm.heap.size=ym
 intro u4 q4
 have g4:=q4.pr [2,0,1,1,1] 1
 clear q4
 have hc5:=hs4 _ _ _ hr3 g4
 clear hs4
 go_upto_region 10 with(go_at_call 11;refine Calls.mono hc5 ?_;rintro _ wv4 ⟨ab4,cb4,ax4,cx4,hr4,rfl,hv4⟩)
 have q5:=hv4.alloc (Ua st4 id4 v41 v42 v43 1 1 0 0 0 (.slice ab4 bg4.length cb4) (.slice ax4 ex4.length cx4))
 refine In.abs q5 ?_
 clear q5 hv4 hc5 g4
 generalize wv4.heap.size=y4
 intro u5 q5
 have g5:=q5.pr [1,0,2,2,2,2] 2
 clear q5
 have hc6:=hs5 _ _ _ hr4 g5
 clear hs5
 go_upto_region 11 with(go_at_call 11;refine Calls.mono hc6 ?_;rintro _ wv5 ⟨ab5,cb5,ax5,cx5,hr5,rfl,hv5⟩)
 have q6:=hv5.alloc (Ua 0 id5 v51 v52 v53 1 0 0 0 0 (.slice ab5 bg5.length cb5) (.slice ax5 ex5.length cx5))
 refine In.abs q6 ?_
 clear q6 hv5 hc6 g5
 generalize wv5.heap.size=y5
 intro u6 q6
 have g6:=q6.pr [1,0,2,2,2,2,2] 2
 clear q6
 have q7:=g6.alloc (qo 4 0 4 4 1)
 go_upto_region 12 with(fail)
 refine In.abs q7 ?_
 clear q7 g6
 generalize u6.heap.size=yf
 intro u7 q7
 have g7:=q7.pr [1,0,0,0,0,0,0,0]
 clear q7
 have hz0:=(g7.ae p1).cells
 have hz1:=(g7.ae p2).cells
 have hz2:=(g7.ae p3).cells
 have hz3:=(g7.ae p4).cells
 have hz4:=(g7.ae p5).cells
 have hz5:=(g7.ae p6).cells
 have hz6:=(g7.ae p7).cells
 have AY:=hs6 _ _ _ hr5 g7
 clear hs6 b3
 go_upto_region 14 with(fail)
 have hbe:=frB
 have hfl:=XG
 clear hne
 go_wp2_with (go_at_call 11;refine Calls.mono AY ?_;rintro _ w9 ⟨ab9,cb9,ax9,cx9,hr9,rfl,hv9⟩)
 go_ret
 exact⟨rfl,hv9.s⟩
end
def zB (s:iH):List Value:=[.int .i64 s.kind,.int .i64 s.id,.int .i64 s.service,.int .u32 s.a,.int .u32 s.b,.int .u32 s.c]
section
variable {w0 w:World} {l:List SL} {B:List (Nat × Obj)} {T:ah} {v u:Value} {x:jM} {ss:List iH}
theorem Ub {w:World} {l:List SL} {r:Nat} {k:aB} {G:Value→Prop} (h:In w0 w (eF G r T k::bJ B::l)) (hm:k.marks.rings.length=T.rings.length):Calls prog 12 #[r] w fun e w'=>
 ∃C am cm,B ⊆ C∧dQ C (.slice am T.rings.length cm) T.rings.length (ints k.marks.rings)∧e= .returned (.agg #[.slice am T.rings.length cm,.int .i64 k.marks.pre,.int .i64 k.marks.frames,.int .i64 k.marks.errors,.int .i64 k.marks.calls])∧In w0 w' (bJ C::eF G r T k::l):=by
 refine(Oi h).mono ?_
 rintro e w' ⟨u,rfl,h1⟩
 obtain⟨am,cm,rfl⟩:=In.aG (E:=3) (size:=1) h1
 have h2:=h1.pr [0,1,0]
 obtain⟨C,hC,hr,h3⟩:=h2.nZ
 rw[hm]at hr
 exact⟨C,am,cm,hC,hr,by rw[hm],h3⟩
theorem UO {w:World} {l:List SL} {r:Nat} {k:aB} {G:Value→Prop} (h:In w0 w (eF G r T k::bJ B::l)):Calls prog 13 #[r] w fun e w'=>
 ∃C aT nT cT aF cF aQ nQ cQ aH nH cH aC nC cC aA nA cA aR cR aP cP,B ⊆ C∧uA C (.slice aR T.rings.length cR) (k.core.look T).rings∧
  e= .returned (.agg #[.int .i64 k.phase,.int .i64 k.mode,.slice aT nT cT,.slice aF k.frames.items.length cF,.slice aQ nQ cQ,.slice aH nH cH,.bool k.gate.shut,.int .i64 k.gate.all,.int .i64 k.gate.os,.slice aC nC cC,.slice aA nA cA,.slice aR T.rings.length cR,.slice aP k.core.before.length cP])∧In w0 w' (bJ C::eF G r T k::l):=by
 refine(UU h).mono ?_
 rintro e w' ⟨C,v,vT,vF,vQ,vH,vC,vA,vR,vP,hC,hro,rfl,h1⟩
 obtain⟨aT,cT,rfl⟩:=hro.ay.form
 obtain⟨aF,cF,rfl⟩:=hro.frames.form
 obtain⟨aQ,cQ,rfl⟩:=hro.req.form
 obtain⟨aH,cH,rfl⟩:=hro.held.form
 obtain⟨aC,cC,rfl⟩:=hro.bi.form
 obtain⟨aA,cA,rfl⟩:=hro.ag.form
 obtain⟨aR,cR,rfl⟩:=hro.rings.form
 obtain⟨aP,cP,rfl⟩:=hro.pre.form
 have e1:(k.U8 T).rings.length=T.rings.length:=A8
 have e2:(k.U8 T).frames.length=k.frames.items.length:=List.length_map ..
 have h2:=hro.rings
 have h3:=hro.val
 rw[e1]at h2 h3
 rw[e2]at h3
 exact⟨C,_,_,_,_,_,_,_,_,_,_,_,_,_,_,_,_,_,_,_,_,_,hC,h2,by rw[h3];rfl,h1⟩
theorem Xl (h:In w0 w (bJ B::l)) (ht:rF B v T x) (hn:T.check=true→T.Num) (hs:dQ B u ss.length (ss.map zB).flatten) (hok:∀s∈ss,Bo s):
 aW 4 #[v,u] w w0 (.bool true) (bJ B::l):=by
 have hmx:=hs.1
 unfold maxLen at hmx
 obtain⟨asc,csc,rfl⟩:=hs.form
 have hnw:=fun w' (l':List SL) (h':In w0 w' (bJ B::l'))=>UK h' ht hn
 have hnu:=VI
 have hal:=fun w' (l':List SL) (h':In w0 w' l')=>Wl h'
 obtain⟨ar,cr,er⟩:=ht.rings.form
 have htr:=ht.rings
 obtain rfl:=kY ht
 rcases x with⟨vt,vr,vs,vc,va,vi,vm,q1,q2,q3,q4,q5⟩
 simp only at er htr hnw ht⊢
 subst er
 have h1:=h.alloc (dO T vt (.slice ar T.rings.length cr) vs vc va vi vm)
 cases hT:T.check with
 |false=>
  have hne:=fun w' (l':List SL) (h':In w0 w' (bJ B::l'))=>(hnw w' l' h').mono (R':=fun e w''=>e= .returned (.tuple #[.pointer none,.int .i64 220])∧In w0 w'' (bJ B::l')) (by
   rintro e w'' (⟨hno,_⟩|⟨_,q⟩)
   ·rw[hT]at hno;cases hno
   ·exact q)
  clear hnw hn ht htr
  go_enter func4,ntmps4
  go_upto_region 1 with(fail)
  refine In.abs h1 ?_
  clear h1 h
  generalize w.heap.size=z
  intro w2 h2
  have bC:=h2.cells
  have hnw:=hne _ _ (h2.ae p1)
  go_upto_region 2 with(go_at_call 8;refine bF hnw ?_;intro w3 h3)
  clear hnw hne bC h2
  have hac:=hal _ _ h3
  go_wp2_with (first|(go_at_call 9;refine bW (hnu _ _) ?_)|(go_at_call 10;refine bF hac ?_;intro w4 h4))
  go_ret
  exact⟨rfl,h4.s⟩
 |true=>
  have hne:=fun w' (l':List SL) (h':In w0 w' (bJ B::l'))=>(hnw w' l' h').mono (R':=fun e w''=>∃r,e= .returned (.tuple #[.pointer (some ⟨r,0,none⟩),.int .i64 0])∧In w0 w'' (eF (fun _=>True) r T T.zy::bJ B::l')) (by
   rintro e w'' (⟨_,q⟩|⟨hno,_⟩)
   ·exact q
   ·rw[hT]at hno;cases hno)
  have hF:=ah.fine hT
  have hr0:=Rest.off hF
  clear hnw hn ht hT
  go_enter func4,ntmps4
  go_upto_region 1 with(fail)
  refine In.abs h1 ?_
  clear h1 h
  generalize w.heap.size=z
  intro w2 h2
  have bC:=h2.cells
  have hnw:=hne _ _ (h2.ae p1)
  go_upto_region 2 with(go_at_call 8;refine Calls.mono hnw ?_;rintro _ w3 ⟨r,rfl,h3⟩)
  clear hnw hne bC h2
  have h4:=h3.pr [0,1,0]
  clear h3
  go_upto_region 5 with(go_at_call 9;refine bW (hnu _ _) ?_)
  clear hnu
  go_loopw [7,8,9,10] (fun c _ _ _ wr=>∃(i:Nat) (k:aB),i≤ss.length∧c= .int .i64 i∧Rest T k∧In w0 wr (eF (fun _=>True) r T k::pts z (dO T vt (.slice ar T.rings.length cr) vs vc va vi vm)::bJ B::l))
   (fun c _ _ _ _=>ss.length-(intOf c).toNat)
  case atStart=>exact⟨0,T.zy,Nat.zero_le _,rfl,hr0,h4⟩
  case round=>
   obtain⟨i,k,hi,rfl,hr,hw⟩:=hrel
   clear h4 hr0
   by_cases hlt:i<ss.length
   ·have hsi:=List.getElem?_eq_getElem hlt
    have hsk:=hok _ (List.getElem_mem hlt)
    generalize ss[i]=s at hsi hsk
    obtain⟨ga,oa,lN,ea,fa⟩:=iw (slot:=zB) (size:=6) (fun _=>rfl) hs hsi
    cases ea
    have f0:=fa (hw.ae p2) 0 _ rfl (by decide)
    have f1:=fa (hw.ae p2) 1 _ rfl (by decide)
    have f2:=fa (hw.ae p2) 2 _ rfl (by decide)
    have f3:=fa (hw.ae p2) 3 _ rfl (by decide)
    have f4:=fa (hw.ae p2) 4 _ rfl (by decide)
    have f5:=fa (hw.ae p2) 5 _ rfl (by decide)
    simp only[Nat.add_zero]at f0
    have hst:=QI hw hr hsk
    rcases s with⟨sk,si,sv,sa,sb,sc⟩
    unfold VK iL at hst
    simp only at hst f0 f1 f2 f3 f4 f5
    clear fa hsi hsk
    have n1:(i:Int)<ss.length:=by omega
    go_upto_region 8 with(go_at_call 11;refine Calls.mono hst ?_;rintro _ w4 ⟨k2,a2,vb,vx,_,hr2,rfl,h4⟩)
    clear hst f0 f1 f2 f3 f4 f5 hr hw
    have h5:=h4.pr [0,2,2] 2
    clear h4
    have hmo:=hr2.inv.x.mo
    have hmd:=hr2.md
    have hd5:=((h5.ae p2).xO).pr [2,0,0,0]
    have hmk:=Ub hd5 hmo.len
    have hlk:=fun C w' (l':List SL) (h':In w0 w' (eF (fun _=>True) r T k2::bJ C::l'))=>UO h'
    have hm1:=hmo.pre
    have hm2:=hmo.frames
    have hm3:=hmo.errors
    have hm4:=hmo.calls
    have hm5:=hmd.pre
    have hm6:=hmd.frames
    have hm7:=hmo.rings
    have hm8:=hmd.rings
    have hm9:=hmo.len
    replace hm9:k2.marks.rings.length≤T.rings.length∧T.rings.length≤k2.marks.rings.length:=by omega
    clear hmo hmd h5
    go_upto_region 9 with(first|(go_at_call 12;refine Calls.mono hmk ?_;rintro _ w5 ⟨C1,am,cm,RD,hrm,rfl,h6⟩)|(go_at_call 13;refine Calls.mono (hlk _ _ _ (h6.ae p1)) ?_;rintro _ w6 ⟨C2,aT,nT,cT,aF,cF,aQ,nQ,cQ,aH,nH,cH,aC,nC,cC,aA,nA,cA,aR,cR,aP,cP,hC2,hrl,rfl,h7⟩))
    have h8:=h7.alloc2 (Xq (.slice am T.rings.length cm) k2.marks.pre k2.marks.frames k2.marks.errors k2.marks.calls) (NV k2.phase k2.mode (.slice aT nT cT) (.slice aF k2.frames.items.length cF) (.slice aQ nQ cQ) (.slice aH nH cH) k2.gate.shut k2.gate.all k2.gate.os (.slice aC nC cC) (.slice aA nA cA) (.slice aR T.rings.length cR) (.slice aP k2.core.before.length cP))
    refine In.abs h8 ?_
    replace hrm:=hrm.mono hC2
    clear h8 h7 h6 hmk hlk hd5 RD hC2
    generalize w6.heap.size=ym
    intro w8 h8
    have h9:=h8.pr [1,0,0,0,0,0]
    clear h8
    have hcM:=h9.cells
    have hcL:=(h9.ae p1).cells
    have yB:=(h9.ae p5).cells
    go_upto_region 12 with(fail)
    clear hcM hcL yB hm1 hm2 hm3 hm4 hm5 hm6
    go_loopw [10] (fun c wr=>∃j:Nat,j≤T.rings.length∧c= .int .i64 j∧In w0 wr (pts ym (Xq (.slice am T.rings.length cm) k2.marks.pre k2.marks.frames k2.marks.errors k2.marks.calls)::pts (ym+1) (NV k2.phase k2.mode (.slice aT nT cT) (.slice aF k2.frames.items.length cF) (.slice aQ nQ cQ) (.slice aH nH cH) k2.gate.shut k2.gate.all k2.gate.os (.slice aC nC cC) (.slice aA nA cA) (.slice aR T.rings.length cR) (.slice aP k2.core.before.length cP))::bJ C2::eF (fun _=>True) r T k2::bJ B::pts z (dO T vt (.slice ar T.rings.length cr) vs vc va vi vm)::l))
     (fun c _=>T.rings.length-(intOf c).toNat)
    case atStart=>exact⟨0,Nat.zero_le _,rfl,h9⟩
    case round=>
     obtain⟨j,hj,rfl,hv⟩:=hrel
     clear h9
     have hcM:=hv.cells
     have hcL:=(hv.ae p1).cells
     have yB:=(hv.ae p5).cells
     have agq:=hF.rings
     by_cases adQ:j<T.rings.length
     ·have hy:=List.getElem?_eq_getElem adQ
      have hmj:=List.getElem?_eq_getElem (show j<k2.marks.rings.length by omega)
      obtain⟨pl,hp1,hp2,hp3⟩:=hrl
      have hpl:pl.length=T.rings.length:=by have:=congrArg List.length hp1;rw[List.length_map,A8]at this;exact this
      have hpj:=List.getElem?_eq_getElem (show j<pl.length by omega)
      have hpm:=hp3 _ (List.getElem_mem (show j<pl.length by omega))
      generalize T.rings[j]=y at hy
      generalize k2.marks.rings[j]'(by omega)=mx at hmj
      generalize pl[j]'(by omega)=pj at hpj hpm
      have hle1:=hm7 j mx y hmj hy
      have hle2:=hm8 j mx pj.1 hmj (by rw[←hp1,List.getElem?_map,hpj];rfl)
      obtain⟨gr,orr,qG,e1,fr⟩:=iw (slot:=iR) (size:=2) (fun _=>rfl) htr hy
      cases e1
      have f1:=fr (hv.ae p4) 1 _ rfl (by decide)
      obtain⟨gm,om,vI,e2,_,fm⟩:=hrm.cells (hv.ae p2) (by omega)
      cases e2
      have f2:=fm j (.int .i64 mx) (by unfold ints;rw[List.getElem?_map,hmj];rfl)
      rw[hpl]at hp2
      obtain⟨gl,ol,aah,e3,_,fl⟩:=hp2.cells (hv.ae p2) (by omega)
      cases e3
      rcases pj with⟨pjl,pjv⟩
      have f3:=fl j pjv (by rw[List.getElem?_map,hpj];rfl)
      simp only at hpm hle2
      obtain⟨ap,cp,rfl⟩:=hpm.form
      clear fr fm fl hp1 hp2 hp3 hpl hpj hpm hmj hy
      have n1:(j:Int)<T.rings.length:=by omega
      have d1:decide (y.cap<mx)=false:=decide_eq_false (by omega)
      have d2:decide (mx<(pjl.length:Int))=false:=decide_eq_false (by omega)
      clear hle1 hle2
      go_upto_region 14 with(fail)
      refine rg ⟨[], []⟩ [.c 0 0,.c 1 1,.c 0 2,.c 0 3,.c 1 4,.c 0 5,.c 1 6,.c 0 7,.c 0 8,.c 0 9,.c 1 10,.c 0 11,.c 0 12,.c 0 13,.c 1 14,.c 0 15,.c 0 16,.c 1 17,.c 0 18,.c 0 19,.c 1 20,.c 0 21,.c 0 22,.c 1 23,.c 0 24,.c 0 25] ?_
      refine lK ?_
      go_wp2_with fail
      go_roundw
      case rel=>exact⟨j+1,adQ,by go_num,hv.drew⟩
      case measure=>simp[intOf]<;>omega
     ·have n1:¬(j:Int)<T.rings.length:=by omega
      go_wp2_with fail
      go_roundw
      case rel=>exact⟨i+1,k2,hlt,by go_num,hr2,hv.s⟩
      case measure=>simp[intOf]<;>omega
   ·have n1:¬(i:Int)<ss.length:=by omega
    have hac:=hal _ _ hw
    go_wp2_with (go_at_call 10;refine bF hac ?_;intro w4 h4)
    go_ret
    exact⟨rfl,h4.s⟩
end
end Go.Proofs.YtajgpcnlehinbaaGreat
