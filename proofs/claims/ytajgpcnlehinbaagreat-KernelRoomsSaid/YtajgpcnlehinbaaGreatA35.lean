/- Proved: the Go function KernelRooms returns true, for every input (any tables, any script), and changes nothing that was there; no conditions. -/
import Derived.Test.YtajgpcnlehinbaaGreatRows
import Derived.ProofKit
import Derived.Test.YtajgpcnlehinbaaGreatA33
import Derived.Test.YtajgpcnlehinbaaGreatA34
namespace Go.Proofs.YtajgpcnlehinbaaGreat
open Go.ChangeShapes Go.WideShapes Go.ChangeAt Go.RowKit
set_option maxRecDepth 100000
set_option maxHeartbeats 60000000
set_option linter.all false
section
variable {H:Type} {enc:TypeId × Value→H} {W:World} {base:Nat} {spare:Nat→Bool} {held:Bool}
theorem ZW {n:Nat} {cs:List Value} {y:DataW H × List MemPlace} (h:DataW.trod enc Tryz.prog W base spare held n 50 cs=some y):∃x:iH,cs=zB x∧Bo x:=by
 obtain⟨xs,m,_,_,hlen,hxl,hf⟩:=DataW.trod_struct Tryz.underlying50 h
 have hC:Tryz.prog.cellsOf 50=6:=by kernel_rfl
 rw[hC]at hlen
 match cs,hlen,xs,hxl with
 | [c0,c1,c2,c3,c4,c5],_,[y0,y1,y2,y3,y4,y5],_=>
  have k0:Tryz.prog.cellsOf 48=1:=by kernel_rfl
  have f0:DataW.trod enc Tryz.prog W base spare held m 48 [c0]=some y0:=by have e:DataW.trod enc Tryz.prog W base spare held m 48 ((([c0,c1,c2,c3,c4,c5]:List Value).drop 0).take (Tryz.prog.cellsOf 48))=some y0:=hf 0 _ rfl;rw[k0]at e;exact e
  have f1:DataW.trod enc Tryz.prog W base spare held m 3 [c1]=some y1:=by have e:DataW.trod enc Tryz.prog W base spare held m 3 ((([c0,c1,c2,c3,c4,c5]:List Value).drop 1).take (Tryz.prog.cellsOf 3))=some y1:=hf 1 _ rfl;rw[KP]at e;exact e
  have f2:DataW.trod enc Tryz.prog W base spare held m 3 [c2]=some y2:=by have e:DataW.trod enc Tryz.prog W base spare held m 3 ((([c0,c1,c2,c3,c4,c5]:List Value).drop 2).take (Tryz.prog.cellsOf 3))=some y2:=hf 2 _ rfl;rw[KP]at e;exact e
  have f3:DataW.trod enc Tryz.prog W base spare held m 38 [c3]=some y3:=by have e:DataW.trod enc Tryz.prog W base spare held m 38 ((([c0,c1,c2,c3,c4,c5]:List Value).drop 3).take (Tryz.prog.cellsOf 38))=some y3:=hf 3 _ rfl;rw[Kv]at e;exact e
  have f4:DataW.trod enc Tryz.prog W base spare held m 38 [c4]=some y4:=by have e:DataW.trod enc Tryz.prog W base spare held m 38 ((([c0,c1,c2,c3,c4,c5]:List Value).drop 4).take (Tryz.prog.cellsOf 38))=some y4:=hf 4 _ rfl;rw[Kv]at e;exact e
  have f5:DataW.trod enc Tryz.prog W base spare held m 38 [c5]=some y5:=by have e:DataW.trod enc Tryz.prog W base spare held m 38 ((([c0,c1,c2,c3,c4,c5]:List Value).drop 5).take (Tryz.prog.cellsOf 38))=some y5:=hf 5 _ rfl;rw[Kv]at e;exact e
  obtain⟨n0,rfl,_⟩:=gX Tryz.underlying48 f0
  obtain⟨n1,rfl,_⟩:=gX Tryz.underlying3 f1
  obtain⟨n2,rfl,_⟩:=gX Tryz.underlying3 f2
  obtain⟨n3,rfl,w3⟩:=gX Tryz.underlying38 f3
  obtain⟨n4,rfl,w4⟩:=gX Tryz.underlying38 f4
  obtain⟨n5,rfl,w5⟩:=gX Tryz.underlying38 f5
  have b3:=bounds_u32 w3
  have b4:=bounds_u32 w4
  have b5:=bounds_u32 w5
  exact⟨⟨n0,n1,n2,n3,n4,n5⟩,rfl,⟨by dsimp only;omega,by dsimp only;omega,by dsimp only;omega⟩⟩
theorem open_script {r:Reach} {b0:Nat} {v:Value} {d:DataW H} {p:List MemPlace} (hv:Value.okWide Tryz.prog W r b0 59 v) (h:DataW.Trod enc Tryz.prog W base spare held 59 v d p):
 ∃ss:List iH,dQ (lG W) v ss.length (ss.map zB).flatten∧∀s∈ss,Bo s:=by
 obtain⟨a,len,cap,rfl⟩:=okWide_slice Tryz.underlying59 hv
 obtain⟨fuel,hf⟩:=h
 exact lI zB 6 (by decide) (fun _=>rfl) Bo Tryz.underlying59 (by kernel_rfl) (fun _ _ _ hz=>ZW hz) hf
end
namespace kernelRooms
theorem own:ownKnob Tryz.prog.godebug=none:=by kernel_rfl
theorem laidOut:laidOutB Tryz.prog=true:=by kernel_rfl
theorem lifted (os:Os) (started:os.Started) (H:Type) (enc:TypeId × Value→H):
 ReturnsInHanded {} Tryz.checked os 4 .any (Rows.kernelRoomsSpec.pre6 enc Tryz.prog Tryz.f4 Rows.kernelRoomsRow.domain false) (Rows.kernelRoomsSpec.post enc Tryz.prog Tryz.f4 false true false false):=by
 refine returnsInHanded_of_change (C:=Tryz.checked) own started (by kernel_rfl) Tryz.func4
  (ChangeSpec.witness6 (enc:=enc) (C:=Tryz.checked) false ⟨#[],#[.agg #[.int .i64 0,.int .i64 0,.slice none 0 0,.slice none 0 0,.slice none 0 0,.slice none 0 0,.slice none 0 0,.slice none 0 0,.slice none 0 0,.int .i64 0,.int .i64 0,.int .i64 0,.int .i64 0],.slice none 0 0], []⟩ 8 (by kernel_rfl) (by kernel_rfl) (by kernel_rfl) (by kernel_rfl)) ?_
 intro W base args ds gs before hval0 hW hcnd _
 have hval:∀(j:Nat) t v,Tryz.f4.params[j]? =some t→args[j]? =some v→Value.okWide Tryz.prog W .any base t v:=hval0
 have hW':=hW
 obtain⟨p,q,hA0,hV,rfl,hfz,hnd⟩:=hW
 have hA:DataW.TrodAll enc Tryz.prog W 0 (fun _=>true) true Tryz.f4.params.toList args.toList ds p:=hA0
 rw[Tryz.params4]at hA hval
 obtain⟨v,u,d,d',p1,p2,rfl,rfl,rfl,h1,h2⟩:=trodAll_two hA
 obtain⟨rfl,rfl⟩:=trodVars_none hV
 obtain⟨T,x,ht,hn⟩:=Xk (hval 0 _ _ rfl rfl) h1
 obtain⟨ss,hs,hok⟩:=open_script (hval 1 _ _ rfl rfl) h2
 clear hA0 hval0
 simp only[List.append_nil]at hW'
 refine(Xl (Xz W) ht (fun _=>hn) hs hok).mono fun e W' ⟨he,hg⟩=>?_
 subst he
 have hb:=abL hg
 have hlt:∀x∈p1++p2,x.block<W.heap.size:=fun x hx=>by simpa using hW'.lt x hx
 exact⟨_,rfl,_,_,_, [],p1++p2, [],hW',trodAll_cons_mk (shut_bool Tryz.underlying4 _) trodAll_mk0,trodAll_mk2
  (Below.trod laidOut (by kernel_rfl) (of_decide_eq_true (by kernel_rfl)) h1 hb fun x hx=>hlt x (List.mem_append_left _ hx))
  (Below.trod laidOut (by kernel_rfl) (of_decide_eq_true (by kernel_rfl)) h2 hb fun x hx=>hlt x (List.mem_append_right _ hx)),rfl,hb.frame _,fun h=>by cases h⟩
theorem ab8 {a b:Bool} (ha:a=true) (hb:b=true):(a&&b)=true:=by rw[ha,hb];rfl
theorem named:Tryz.prog.funcNamed Rows.kernelRoomsRow.func=some 4:=by kernel_rfl
theorem closed:joinedFacts Tryz.prog 4 Tryz.f4 Rows.kernelRoomsSpec Rows.kernelRoomsRow=true:=by
 unfold joinedFacts
 repeat' with_reducible apply ab8
 all_goals(as_aux_lemma=>kernel_rfl)
theorem over:Rows.kernelRoomsRow.holds Tryz.pinned (OpenSpec.ofChange Rows.kernelRoomsSpec):=
 OpenClaim.holds_of_wide 4 Tryz.f4 rfl rfl rfl rfl rfl rfl rfl ⟨rfl,rfl,rfl,rfl,rfl⟩ rfl rfl rfl rfl rfl named Tryz.func4 closed
  (of_decide_eq_true (by kernel_rfl)) (by unfold Func.isWrapper;rw[if_neg (of_decide_eq_false (by kernel_rfl))];exact⟨rfl,rfl⟩)
  (fun os started H enc _=>lifted os started H enc)
theorem proved:Rows.KernelRoomsSaid:=
 over
#print axioms proved
end kernelRooms
end Go.Proofs.YtajgpcnlehinbaaGreat
