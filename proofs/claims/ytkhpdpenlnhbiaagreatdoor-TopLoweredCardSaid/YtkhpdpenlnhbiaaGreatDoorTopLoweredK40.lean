/- A part of the proof: contracts of functions and plain laws; each theorem says its own conditions. -/
import Derived.Test.YtkhpdpenlnhbiaaGreatDoorTopLoweredK7
import Derived.Test.YtkhpdpenlnhbiaaGreatDoorTopLoweredMB
import Derived.Test.YtkhpdpenlnhbiaaGreatDoorTopLoweredK2
import Derived.Test.YtkhpdpenlnhbiaaGreatDoorTopLoweredK5
set_option linter.unusedVariables false
set_option linter.unusedSimpArgs false
namespace Go.Proofs.YtkhpdpenlnhbiaaGreatDoor
open Go.RowKit Sx LexS _root_.Go.Proofs.Tryz
abbrev ExRQ:=ExR 177
abbrev SmRQ:=SmR 177 144
abbrev DcRQ:=DcR 134
abbrev ThRQ:=ThR 177 144 134 50
abbrev PgQ:=PgS 177 144 134 50
theorem Tryz.info177:Tryz.prog.info? 177=some Tryz.t177:=by kernel_rfl
theorem Tryz.info144:Tryz.prog.info? 144=some Tryz.t144:=by kernel_rfl
theorem Tryz.info50:Tryz.prog.info? 50=some Tryz.t50:=by kernel_rfl
section
variable {n0:Nat}
set_option maxHeartbeats 1000000 in
theorem pcopyE_any:∀ (n:Nat) (es:List Ex),szo es=n→OkEs es→∀ (oa:Option Addr) (cap:Nat) (w:World),ExRow w (·<n0) oa es→n0≤w.heap.size→
    Ret Tryz.prog 117 [.slice oa es.length cap] w fun v w'=>∃ oq cq Sq,v=.slice oq es.length cq∧ExRQ w' oq cq es Sq∧Nw w.heap.size Sq∧Chg [] w w':=by
 intro n
 refine Nat.strongRecOn n fun n ih=>?_
 intro es hn hok oa cap w hr hn0
 subst hn
 have hle:=hok.1
 refine ret_of [_] func117 rfl ntmps117 rfl ?_
 have st:=St.init w []
 obtain⟨w0,rfl⟩:∃ w0,w0=w:=⟨_,rfl⟩
 replace st:=St.pushR (r:=.tree [] (fun w=>ExSs 177 w [] [] [])) st (Chg.refl _ _) (holds_of (by simp [ExSs]) (by simp) (fun a b h hk=>h.kept hk)) (by simp [Res.at?])
 replace st:=st.ownNil 177 6
 refine sr ?_
 refine ya ?_
 refine et (vk1 0 (sr ?_))
 refine ya ?_
 refine et (vk2 0 3 (vc_seq (sr ?_)))
 refine ym ?_
 refine vy (y_lensl rfl underlying142) ?_
 refine ym ?_
 refine et (vk4 3 6 7 8 (vc_block ?_))
 refine vc_loop (w0:=w0) (M:=[]) (fun (y:Nat×Option Addr×Nat×List Value×List Nat)=>[(3,.slice y.2.1 y.1 y.2.2.1),(6,.slice oa es.length cap),(7,.int .i64 (es.length:Int)),(8,.int .i64 (y.1:Int))]) (fun y=>[.own (.slice y.2.1 y.1 y.2.2.1) 177 6 y.1 y.2.2.2.1,.tree y.2.2.2.2 (fun w=>ExSs 177 w (es.take y.1) y.2.2.2.1 y.2.2.2.2)]) (fun y _=>y.1≤es.length∧Nw w0.heap.size y.2.2.2.2) (fun y=>es.length - y.1) (0,none,0,[],[]) ⟨rfl,rfl,rfl,rfl,trivial⟩ (by simpa using st) ⟨by simp,Nw.nil⟩ ?_
 clear st
 rintro ⟨j,oj,cj,xs,S⟩ w ⟨hj,hSS⟩ st
 dsimp only at *
 refine sr ?_
 refine vy (y_lss rfl rfl) ?_
 refine et (vk5 3 6 7 8 9 (vc_seq ?_))
 refine vif ?_ ?_
 ·intro hc9
  try simp only [dn] at hc9
  have stK:=st
  obtain⟨e,hej⟩:∃ e,es[j]?=some e:=⟨_,List.getElem?_eq_getElem (by omega)⟩
  obtain⟨gb,go,rfl,hgS,hgl,hg⟩:=ExRow.at hr (by omega)
  obtain⟨o0,c0,hV0,hr0,hc0⟩:=hg j e hej
  have hke:=hok.2 j e hej
  have hz:=mem_size hej
  have hz2 : szo e.kids < szo es := by have : szo e.kids < szo e := by cases e; exact ex_size
                                       omega
  have st:=stK
  clear stK
  refine kt (vk4 3 6 7 8 (vc_seq (vc_block (sr ?_))))
  refine vy (y_ia (k:=j) rfl rfl underlying142 sizeOf177 rfl (by omega)) ?_
  refine vy (y_ldca (exL e o0 c0) rfl isAgg177 sizeOf177 rfl (fun i v hi=>st.chg.cell (hc0 i v hi) (by simp))) ?_
  refine vc_e (e_al (l:=[_,_,_,_,_,_]) st rfl rfl zeroValue177 rfl ?_)
  intro b5 w hb5 st
  refine vc_e (ests st 0 [_,_,_,_,_,_] sizeOf177 ?_)
  intro w st;dsimp only [setNth,wr] at st
  refine et (vk5 3 5 6 7 8 (sr ?_))
  refine yfz 4 underlying177 sizeOf142 ?_
  refine yl st 0 isAgg142 ?_
  refine vc_e (e_call [_] rfl rfl call117 rfl (ih _ hz2 e.kids rfl hke.kids _ _ _ (hr0.kept st.sm) (Nat.le_trans hn0 st.chg.size)) ?_)
  rintro _ w ⟨oq,cq,Sq,rfl,hQ,hN,cw⟩
  have hN9:=hN.le st.chg.size
  replace st:=St.pushR (r:=.tree Sq (fun w=>ExRQ w oq cq e.kids Sq)) st cw (holds_of hQ hQ.lt (fun a b h hk=>h.kept hk)) hN.2
  refine yfz 4 underlying177 sizeOf142 ?_
  refine vc_e (est st 1 sizeOf142 ?_)
  intro w st;dsimp only [setNth,wr] at st
  refine et (vk5 3 5 6 7 8 (vc_region ?_))
  refine ym ?_
  refine yla st 1 [_,_,_,_,_,_] isAgg177 sizeOf177 ?_
  refine vc_e (e_bs1 (l:=[_,_,_,_,_,_]) st rfl rfl rfl rfl underlying142 sizeOf177 rfl rfl rfl zeroValue177 ?_)
  intro b18 w hb18 st
  refine vc_e (e_app (bytes:=64) st 3 0 rfl rfl rfl rfl rfl rfl underlying142 Tryz.info177 rfl rfl rfl rfl rfl (by simp) rfl rfl (by unfold maxLen;omega) (by omega) ?_)
  intro oaQ capQ w st;dsimp only [setNth] at st
  refine ya ?_
  refine vc_end (vq_block (vq_then (vk4 3 6 7 8 (vc_region ?_))))
  have hne:∀ b∈S,b∉Sq:=fun b hb=>st.ne (i:=4) (j:=1) (by decide) rfl rfl b hb
  have stN:=st.pick [4,1,3] rfl (by decide)
  have h1:=(stN.res (i:=0) rfl).1
  have h2:=(stN.res (i:=1) rfl).1
  have h3:ExSs 177 w (es.take (j+1)) (xs++exL e oq cq) (S++Sq):=by rw [take_one hej];exact ExSs.snoc h1 (ExS_iff.2 ⟨oq,cq,rfl,h2⟩)
  replace stN:=(stN.join (q:=.tree (S++Sq) fun w=>ExSs 177 w (es.take (j+1)) (xs++exL e oq cq) (S++Sq)) (fun k hk=>List.mem_append.1 hk) (holds_of h3 h3.lt (fun a b h hk=>h.kept hk))).pick [1,0] rfl (by decide)
  refine vy (y_add rfl rfl (by omega:_=((j+1:Nat):Int)) (by omega) (by omega)) ?_
  refine ym ?_
  refine vc_end ?_
  refine vq_again (j+1,oaQ,capQ,xs++exL e oq cq,S++Sq)  ⟨rfl,rfl,rfl,rfl,trivial⟩ stN ?_ ?_
  ·exact⟨by dsimp only;omega,hSS.app hN9 hne⟩
  dsimp only;omega
 intro hc9
 try simp only [dn] at hc9
 refine vc_exit (vq_then_exit (vq_then_exit (vq_block_exit (vq_then (vk1 3 (sr ?_))))))
 refine ym ?_
 refine ya ?_
 refine et (vk1 2 (vc_ret ?_))
 refine vr1 st results117 ?_
 obtain rfl:j=es.length:=by omega
 rw [List.take_length] at st
 obtain⟨h1,h2⟩:=st.ownNw (i:=0) rfl
 have h3:=(st.res (i:=1) rfl).1
 exact⟨oj,cj,obk oj++S,rfl,⟨xs,S,h1,rfl,h3⟩,h2.app hSS (fun b hb=>st.ne (i:=0) (j:=1) (by decide) rfl rfl b (by simpa [Res.at?,obk_own] using hb)),st.chg⟩
set_option maxHeartbeats 1000000 in
theorem pcopyS_any:∀ (n:Nat) (es:List Sm),szo es=n→OkSs es→∀ (oa:Option Addr) (cap:Nat) (w:World),SmRow w (·<n0) oa es→n0≤w.heap.size→
    Ret Tryz.prog 74 [.slice oa es.length cap] w fun v w'=>∃ oq cq Sq,v=.slice oq es.length cq∧SmRQ w' oq cq es Sq∧Nw w.heap.size Sq∧Chg [] w w':=by
 intro n
 refine Nat.strongRecOn n fun n ih=>?_
 intro es hn hok oa cap w hr hn0
 subst hn
 have hle:=hok.1
 refine ret_of [_] func74 rfl ntmps74 rfl ?_
 have st:=St.init w []
 obtain⟨w0,rfl⟩:∃ w0,w0=w:=⟨_,rfl⟩
 replace st:=St.pushR (r:=.tree [] (fun w=>SmSs 177 144 w [] [] [])) st (Chg.refl _ _) (holds_of (by simp [SmSs]) (by simp) (fun a b h hk=>h.kept hk)) (by simp [Res.at?])
 replace st:=st.ownNil 144 7
 refine sr ?_
 refine ya ?_
 refine et (vk1 0 (sr ?_))
 refine ya ?_
 refine et (vk2 0 3 (vc_seq (sr ?_)))
 refine ym ?_
 refine vy (y_lensl rfl underlying48) ?_
 refine ym ?_
 refine et (vk4 3 6 7 8 (vc_block ?_))
 refine vc_loop (w0:=w0) (M:=[]) (fun (y:Nat×Option Addr×Nat×List Value×List Nat)=>[(3,.slice y.2.1 y.1 y.2.2.1),(6,.slice oa es.length cap),(7,.int .i64 (es.length:Int)),(8,.int .i64 (y.1:Int))]) (fun y=>[.own (.slice y.2.1 y.1 y.2.2.1) 144 7 y.1 y.2.2.2.1,.tree y.2.2.2.2 (fun w=>SmSs 177 144 w (es.take y.1) y.2.2.2.1 y.2.2.2.2)]) (fun y _=>y.1≤es.length∧Nw w0.heap.size y.2.2.2.2) (fun y=>es.length - y.1) (0,none,0,[],[]) ⟨rfl,rfl,rfl,rfl,trivial⟩ (by simpa using st) ⟨by simp,Nw.nil⟩ ?_
 clear st
 rintro ⟨j,oj,cj,xs,S⟩ w ⟨hj,hSS⟩ st
 dsimp only at *
 refine sr ?_
 refine vy (y_lss rfl rfl) ?_
 refine et (vk5 3 6 7 8 9 (vc_seq ?_))
 refine vif ?_ ?_
 ·intro hc9
  try simp only [dn] at hc9
  have stK:=st
  obtain⟨s,hsj⟩:∃ s,es[j]?=some s:=⟨_,List.getElem?_eq_getElem (by omega)⟩
  obtain⟨gb,go,rfl,hgS,hgl,hg⟩:=SmRow.at hr (by omega)
  obtain⟨oe,ob,ol,ce,cb,cl,hsV,hse,hsb,hsl,hc⟩:=hg j s hsj
  have hks:=hok.2 j s hsj
  have hz:=mem_size hsj
  have hB : szo s.body < szo es := by have : szo s.body < szo s := by cases s; exact sm_size.1
                                      omega
  have hL : szo s.els < szo es := by have : szo s.els < szo s := by cases s; exact sm_size.2
                                     omega
  have st:=stK
  clear stK
  refine kt (vk4 3 6 7 8 (vc_seq (vc_block (sr ?_))))
  refine vy (y_ia (k:=j) rfl rfl underlying48 sizeOf144 rfl (by omega)) ?_
  refine vy (y_ldca (smL s oe ob ol ce cb cl) rfl isAgg144 sizeOf144 rfl (fun i v hi=>st.chg.cell (hc i v hi) (by simp))) ?_
  refine vc_e (e_al (l:=[_,_,_,_,_,_,_]) st rfl rfl zeroValue144 rfl ?_)
  intro b5 w hb5 st
  refine vc_e (ests st 0 [_,_,_,_,_,_,_] sizeOf144 ?_)
  intro w st;dsimp only [setNth,wr] at st
  refine et (vk5 3 5 6 7 8 (vc_seq ?_))
  refine kdr Tryz.mixed [Yt 0,Yt 3,Yt 6,Yt 1,Yt 4,Yt 7,Nt 2,Yt 9,Nt 5,Nt 8,Nt 10,Yt 11,Nt 12,Yt 13,Nt 14] 10 [.blk b5 (.cells (smL s oe ob ol ce cb cl).toArray 144 (0,0))] st ?_
  clear st;intro w st hS
  refine vk_takeU rfl rfl rfl rfl (fun _=>hS) (fun w=>(by exact y_faz (k:=3) rfl underlying144 rfl rfl sizeOf142 rfl)) ?_
  refine vk_takeU rfl rfl rfl rfl (fun _=>hS) (fun w=>(by exact y_faz (k:=4) rfl underlying144 rfl rfl sizeOf48 rfl)) ?_
  refine vk_takeU rfl rfl rfl rfl (fun _=>hS) (fun w=>(by exact y_faz (k:=5) rfl underlying144 rfl rfl sizeOf48 rfl)) ?_
  refine vk_take rfl rfl rfl rfl hS (fun w st=>y_ld st 0 rfl isAgg142 rfl rfl) ?_
  iterate 2 refine vk_take rfl rfl rfl rfl hS (fun w st=>y_ld st 0 rfl isAgg48 rfl rfl) ?_
  refine vk_do rfl rfl (e_call [_] rfl rfl call117 rfl (pcopyE_any _ s.e rfl hks.e _ _ _ (hse.kept st.sm) (Nat.le_trans hn0 st.chg.size)) ?_)
  rintro _ w ⟨q1,c1,S1,rfl,hQ,hN,cw⟩
  have hN1:=hN.le st.chg.size
  replace st:=St.pushR (r:=.tree S1 (fun w=>ExRQ w q1 c1 s.e S1)) st cw (holds_of hQ hQ.lt (fun a b h hk=>h.kept hk)) hN.2
  refine vk_next st.dr ?_;intro hS
  refine vk_takeU rfl rfl rfl rfl (fun _=>hS) (fun w=>(by exact y_faz (k:=3) rfl underlying144 rfl rfl sizeOf142 rfl)) ?_
  refine vk_do rfl rfl (e_call [_] rfl rfl call74 rfl (ih _ hB s.body rfl hks.body _ _ _ (hsb.kept st.sm) (Nat.le_trans hn0 st.chg.size)) ?_)
  rintro _ w ⟨q2,c2,S2,rfl,hQ,hN,cw⟩
  have hN2:=hN.le st.chg.size
  replace st:=St.pushR (r:=.tree S2 (fun w=>SmRQ w q2 c2 s.body S2)) st cw (holds_of hQ hQ.lt (fun a b h hk=>h.kept hk)) hN.2
  refine vk_next st.dr ?_;intro hS
  refine vk_do rfl rfl (e_call [_] rfl rfl call74 rfl (ih _ hL s.els rfl hks.els _ _ _ (hsl.kept st.sm) (Nat.le_trans hn0 st.chg.size)) ?_)
  rintro _ w ⟨q3,c3,S3,rfl,hQ,hN,cw⟩
  have hN3:=hN.le st.chg.size
  replace st:=St.pushR (r:=.tree S3 (fun w=>SmRQ w q3 c3 s.els S3)) st cw (holds_of hQ hQ.lt (fun a b h hk=>h.kept hk)) hN.2
  refine vk_next st.dr ?_;intro hS
  refine vk_do rfl rfl (est st 3 sizeOf142 ?_)
  intro w st;dsimp only [setNth,wr] at st
  refine vk_late ?_
  refine vk_takeU rfl rfl rfl rfl (fun h=>by cases h) (fun w=>(by exact y_faz (k:=4) rfl underlying144 rfl rfl sizeOf48 rfl)) ?_
  refine vk_do rfl rfl (est st 3 sizeOf48 ?_)
  intro w st;dsimp only [setNth,wr] at st
  refine vk_late ?_
  refine vk_takeU rfl rfl rfl rfl (fun h=>by cases h) (fun w=>(by exact y_faz (k:=5) rfl underlying144 rfl rfl sizeOf48 rfl)) ?_
  refine vk_do rfl rfl (est st 3 sizeOf48 ?_)
  intro w st;dsimp only [setNth,wr] at st
  refine vk_late ?_
  refine vk_end ?_
  refine vq_then (vk5 3 5 6 7 8 (vc_region ?_))
  refine ym ?_
  refine yla st 3 [_,_,_,_,_,_,_] isAgg144 sizeOf144 ?_
  refine vc_e (e_bs1 (l:=[_,_,_,_,_,_,_]) st rfl rfl rfl rfl underlying48 sizeOf144 rfl rfl rfl zeroValue144 ?_)
  intro b26 w hb26 st
  refine vc_e (e_app (bytes:=120) st 5 0 rfl rfl rfl rfl rfl rfl underlying48 Tryz.info144 rfl rfl rfl rfl rfl (by simp) rfl rfl (by unfold maxLen;omega) (by omega) ?_)
  intro oaQ capQ w st;dsimp only [setNth] at st
  refine ya ?_
  refine vc_end (vq_block (vq_then (vk4 3 6 7 8 (vc_region ?_))))
  have d23:=st.ne (i:=2) (j:=1) (by decide) rfl rfl
  have d12:=st.ne (i:=3) (j:=2) (by decide) rfl rfl
  have d13:=st.ne (i:=3) (j:=1) (by decide) rfl rfl
  have dS1:=st.ne (i:=6) (j:=3) (by decide) rfl rfl
  have dS2:=st.ne (i:=6) (j:=2) (by decide) rfl rfl
  have dS3:=st.ne (i:=6) (j:=1) (by decide) rfl rfl
  have hNq:=hN1.app (hN2.app hN3 d23) (fun b hb hb'=>(List.mem_append.1 hb').elim (d12 b hb) (d13 b hb))
  have hne:∀ b∈S,b∉S1++(S2++S3):=fun b hb hb'=>(List.mem_append.1 hb').elim (dS1 b hb) fun h=>(List.mem_append.1 h).elim (dS2 b hb) (dS3 b hb)
  have h0:=(st.res (i:=6) rfl).1
  have h1:=(st.res (i:=3) rfl).1
  have h2:=(st.res (i:=2) rfl).1
  have h3:=(st.res (i:=1) rfl).1
  have h4:SmSs 177 144 w (es.take (j+1)) (xs++smL s q1 q2 q3 c1 c2 c3) (S++(S1++(S2++S3))):=by rw [take_one hsj];exact SmSs.snoc h0 (SmS_iff.2 ⟨q1,c1,q2,c2,q3,c3,S1,S2,S3,rfl,h1,h2,h3,rfl⟩)
  have stN:=(((st.pick [6,3,2,1,5] rfl (by decide)).joinN 4 (q:=.tree (S++(S1++(S2++S3))) fun w=>SmSs 177 144 w (es.take (j+1)) (xs++smL s q1 q2 q3 c1 c2 c3) (S++(S1++(S2++S3)))) (fun k hk=>by
    simp only [Res.at?,List.mem_append] at hk
    rcases hk with h|h|h|h
    · exact⟨_,.head _,h⟩
    · exact⟨_,.tail _ (.head _),h⟩
    · exact⟨_,.tail _ (.tail _ (.head _)),h⟩
    · exact⟨_,.tail _ (.tail _ (.tail _ (.head _))),h⟩) (holds_of h4 h4.lt (fun a b h hk=>h.kept hk)))).pick [1,0] rfl (by decide)
  refine vy (y_add rfl rfl (by omega:_=((j+1:Nat):Int)) (by omega) (by omega)) ?_
  refine ym ?_
  refine vc_end ?_
  refine vq_again (j+1,oaQ,capQ,xs++smL s q1 q2 q3 c1 c2 c3,S++(S1++(S2++S3)))  ⟨rfl,rfl,rfl,rfl,trivial⟩ stN ?_ ?_
  ·exact⟨by dsimp only;omega,hSS.app hNq hne⟩
  dsimp only;omega
 intro hc9
 try simp only [dn] at hc9
 refine vc_exit (vq_then_exit (vq_then_exit (vq_block_exit (vq_then (vk1 3 (sr ?_))))))
 refine ym ?_
 refine ya ?_
 refine et (vk1 2 (vc_ret ?_))
 refine vr1 st results74 ?_
 obtain rfl:j=es.length:=by omega
 rw [List.take_length] at st
 obtain⟨h1,h2⟩:=st.ownNw (i:=0) rfl
 have h3:=(st.res (i:=1) rfl).1
 exact⟨oj,cj,obk oj++S,rfl,⟨xs,S,h1,rfl,h3⟩,h2.app hSS (fun b hb=>st.ne (i:=0) (j:=1) (by decide) rfl rfl b (by simpa [Res.at?,obk_own] using hb)),st.chg⟩
end
end Go.Proofs.YtkhpdpenlnhbiaaGreatDoor
namespace Go.Proofs.YtkhpdpenlnhbiaaGreatDoor
open Go.RowKit Sx LexS _root_.Go.Proofs.Tryz
abbrev pgL (p:Pg) (os ol ot:Option Addr) (cs cl ct:Nat):List Value:=[.slice os p.shared.length cs,.slice ol p.locks.length cl,.slice ot p.threads.length ct]
section
variable {n0:Nat}
set_option maxHeartbeats 2000000 in
theorem pcopyP_any (p:Pg) (hok:OkP p) (os ol ot:Option Addr) (cs cl ct:Nat) (w:World) (hSh:DcRow w (·<n0) os p.shared) (hL:DcRow w (·<n0) ol p.locks) (hT:ThRow w (·<n0) ot p.threads) (hn0:n0≤w.heap.size) :
    Ret Tryz.prog 29 [.agg (pgL p os ol ot cs cl ct).toArray] w fun v w'=>∃ l S,v=.agg l.toArray∧PgQ w' p l S∧Nw w.heap.size S∧Chg [] w w':=by
 refine ret_of [_] func29 rfl ntmps29 rfl ?_
 have st:=St.init w []
 obtain⟨w0,rfl⟩:∃ w0,w0=w:=⟨_,rfl⟩
 have hn1:=hok.1.1
 have hn2:=hok.2.1.1
 have hn3:=hok.2.2.1
 refine sr ?_
 refine vc_e (e_bx (l:=[_,_,_]) st rfl rfl rfl rfl ?_)
 intro b1 w hb1 st
 refine vc_e (e_al (l:=[_,_,_]) st rfl rfl zeroValue26 rfl ?_)
 intro b2 w hb2 st
 refine et (vk2 1 2 ?_)
 refine vc_cut (w0:=w0) (M:=[]) (fun (z:Option Addr×Nat×Option Addr×Nat×Nat)=>[(1,.pointer (some ⟨b1,0,none⟩)),(2,.pointer (some ⟨b2,0,none⟩)),(3,.pointer (some ⟨z.2.2.2.2,0,none⟩))]) (fun z=>[.blk z.2.2.2.2 (.cells [.slice z.1 p.shared.length z.2.1,.slice z.2.2.1 p.locks.length z.2.2.2.1,.slice none 0 0].toArray 26 (0,0)),.own (.slice z.1 p.shared.length z.2.1) 134 3 p.shared.length (p.shared.flatMap dcL),.own (.slice z.2.2.1 p.locks.length z.2.2.2.1) 134 3 p.locks.length (p.locks.flatMap dcL),.blk b2 (.cells [.slice none 0 0,.slice none 0 0,.slice none 0 0].toArray 26 (0,0)),.blk b1 (.cells (pgL p os ol ot cs cl ct).toArray 26 (0,0))]) (fun z _=>w0.heap.size≤z.2.2.2.2) ?_ ?_
 ·refine ddr Tryz.mixed (.take 0 (.take 1 (.take 3 (.take 4 (.two 2 7 (.two 5 7 (.take 6 (.one 7 (.one 8 .done))) (.one 5 (.take 6 (.one 8 .done)))) (.one 2 (.one 5 (.take 6 (.one 8 .done))))))))) [.blk b2 (.cells [.slice none 0 0,.slice none 0 0,.slice none 0 0].toArray 26 (0,0)),.blk b1 (.cells (pgL p os ol ot cs cl ct).toArray 26 (0,0))] st ?_
  clear st;intro w st hS
  refine df0 hS underlying26 sizeOf23 ?_
  refine dld hS 1 isAgg23 ?_
  refine dfz hS 1 underlying26 sizeOf23 ?_
  refine dld hS 1 isAgg23 ?_
  refine vd_two rfl rfl ?_ ?_
  focus
   replace st:=st.ownNil 134 3
   refine(e_appr (bytes:=32) (len':=p.shared.length) (ys:=p.shared.flatMap dcL) st 0 rfl rfl rfl rfl rfl (DcRow.rd (S:=(·<n0)) (RowC.kept hSh st.sm)) underlying23 Tryz.info134 rfl rfl rfl rfl rfl (dcs_len p.shared) (dcs_one p.shared) (by unfold maxLen;omega) (by omega) (by omega) (by simp) ?_)
   intro s1o s1c w st;dsimp only [setNth] at st
   refine vd_next st.dr ?_;intro hS
   refine vd_two rfl rfl ?_ ?_
   replace st:=st.ownNil 134 3
   refine(e_appr (bytes:=32) (len':=p.locks.length) (ys:=p.locks.flatMap dcL) st 0 rfl rfl rfl rfl rfl (DcRow.rd (S:=(·<n0)) (RowC.kept hL st.sm)) underlying23 Tryz.info134 rfl rfl rfl rfl rfl (dcs_len p.locks) (dcs_one p.locks) (by unfold maxLen;omega) (by omega) (by omega) (by simp) ?_)
   intro s2o s2c w st;dsimp only [setNth] at st
   refine vd_next st.dr ?_;intro hS
   refine vd_take rfl rfl rfl hS (fun w st=>ybd (.agg #[_,_,_]) [(0,_),(1,_)]) ?_
   refine vd_do rfl (e_al (l:=[_,_,_]) st rfl rfl zeroValue26 rfl ?_)
   intro b3 w hb3 st
   refine vd_next st.dr ?_;intro hS
   rotate_left
   refine(e_al (l:=[_,_,_]) st rfl rfl zeroValue26 rfl ?_)
   intro b3 w hb3 st
   refine vd_next st.dr ?_;intro hS
   replace st:=st.ownNil 134 3
   replace st:=st.ownNil 134 3
   refine vd_do rfl (e_appr (bytes:=32) (len':=p.locks.length) (ys:=p.locks.flatMap dcL) st 0 rfl rfl rfl rfl rfl (DcRow.rd (S:=(·<n0)) (RowC.kept hL st.sm)) underlying23 Tryz.info134 rfl rfl rfl rfl rfl (dcs_len p.locks) (dcs_one p.locks) (by unfold maxLen;omega) (by omega) (by omega) (by simp) ?_)
   intro s2o s2c w st;dsimp only [setNth] at st
   refine vd_next st.dr ?_;intro hS
   refine vd_take rfl rfl rfl hS (fun w st=>ybd (.agg #[_,_,_]) [(0,_),(1,_)]) ?_
  rotate_left 2
  refine(e_al (l:=[_,_,_]) st rfl rfl zeroValue26 rfl ?_)
  intro b3 w hb3 st
  refine vd_next st.dr ?_;intro hS
  replace st:=st.ownNil 134 3
  replace st:=st.ownNil 134 3
  refine vd_do rfl (e_appr (bytes:=32) (len':=p.shared.length) (ys:=p.shared.flatMap dcL) st 0 rfl rfl rfl rfl rfl (DcRow.rd (S:=(·<n0)) (RowC.kept hSh st.sm)) underlying23 Tryz.info134 rfl rfl rfl rfl rfl (dcs_len p.shared) (dcs_one p.shared) (by unfold maxLen;omega) (by omega) (by omega) (by simp) ?_)
  intro s1o s1c w st;dsimp only [setNth] at st
  refine vd_next st.dr ?_;intro hS
  replace st:=st.ownNil 134 3
  replace st:=st.ownNil 134 3
  refine vd_do rfl (e_appr (bytes:=32) (len':=p.locks.length) (ys:=p.locks.flatMap dcL) st 0 rfl rfl rfl rfl rfl (DcRow.rd (S:=(·<n0)) (RowC.kept hL st.sm)) underlying23 Tryz.info134 rfl rfl rfl rfl rfl (dcs_len p.locks) (dcs_one p.locks) (by unfold maxLen;omega) (by omega) (by omega) (by simp) ?_)
  intro s2o s2c w st;dsimp only [setNth] at st
  refine vd_next st.dr ?_;intro hS
  refine vd_take rfl rfl rfl hS (fun w st=>ybd (.agg #[_,_,_]) [(0,_),(1,_)]) ?_
  all_goals
   first
   | refine vd_do rfl (ests st 0 [_,_,_] sizeOf26 ?_)
   | refine vd_do rfl (ests st 2 [_,_,_] sizeOf26 ?_)
   | refine vd_do rfl (ests st 4 [_,_,_] sizeOf26 ?_)
   intro w st;dsimp only [setNth,wr] at st
   refine vd_next st.dr ?_;intro hS
   refine vd_end ?_
   refine vq_meet (s1o,s1c,s2o,s2c,b3) ⟨rfl,rfl,rfl,trivial⟩ (by first|exact st.pick [0,2,1,3,4] rfl (by decide)|exact st.pick [2,3,0,4,5] rfl (by decide)|exact st.pick [4,2,0,5,6] rfl (by decide)) ?_
   ·assumption
 clear st
 rintro ⟨s1o,s1c,s2o,s2c,b3⟩ w hb3 st
 dsimp only at *
 refine vc_seq (sr ?_)
 replace st:=St.pushR (r:=.tree [] (fun w=>ThSs 177 144 134 w [] [] [])) st (Chg.refl _ _) (holds_of (by simp [ThSs]) (by simp) (fun a b h hk=>h.kept hk)) (by simp [Res.at?])
 replace st:=st.ownNil 50 4
 refine yfz 2 underlying26 sizeOf24 ?_
 refine yl st 6 isAgg24 ?_
 refine vy (y_lensl rfl underlying24) ?_
 refine ym ?_
 refine et (vk5 2 3 14 15 16 (vc_block ?_))
 refine vc_loop (w0:=w0) (M:=[]) (fun (y:Nat×Option Addr×Nat×List Value×List Nat)=>[(2,.pointer (some ⟨b2,0,none⟩)),(3,.pointer (some ⟨b3,0,none⟩)),(14,.slice ot p.threads.length ct),(15,.int .i64 (p.threads.length:Int)),(16,.int .i64 (y.1:Int))]) (fun y=>[.own (.slice y.2.1 y.1 y.2.2.1) 50 4 y.1 y.2.2.2.1,.tree y.2.2.2.2 (fun w=>ThSs 177 144 134 w (p.threads.take y.1) y.2.2.2.1 y.2.2.2.2),.blk b3 (.cells [.slice s1o p.shared.length s1c,.slice s2o p.locks.length s2c,.slice y.2.1 y.1 y.2.2.1].toArray 26 (0,0)),.own (.slice s1o p.shared.length s1c) 134 3 p.shared.length (p.shared.flatMap dcL),.own (.slice s2o p.locks.length s2c) 134 3 p.locks.length (p.locks.flatMap dcL),.blk b2 (.cells [.slice none 0 0,.slice none 0 0,.slice none 0 0].toArray 26 (0,0))]) (fun y _=>y.1≤p.threads.length∧Nw w0.heap.size y.2.2.2.2) (fun y=>p.threads.length - y.1) (0,none,0,[],[]) ⟨rfl,rfl,rfl,rfl,rfl,trivial⟩ (by simpa using st.pick [0,1,2,3,4,5] rfl (by decide)) ⟨by simp,Nw.nil⟩ ?_
 clear st
 rintro ⟨j,oj,cj,xs,S⟩ w ⟨hj,hSS⟩ st
 dsimp only at *
 refine sr ?_
 refine vy (y_lss rfl rfl) ?_
 refine et (vk6 2 3 14 15 16 17 (vc_seq ?_))
 refine vif ?_ ?_
 ·intro hc17
  try simp only [dn] at hc17
  have stK:=st
  obtain⟨t,htj⟩:∃ t,p.threads[j]?=some t:=⟨_,List.getElem?_eq_getElem (by omega)⟩
  obtain⟨gb,go,rfl,hgS,hgl,hg⟩:=ThRow.at hT (by omega)
  obtain⟨tl,tb,cll,cbb,htl,htb,hc⟩:=hg j t htj
  have hkt:=hok.2.2.2 j t htj
  have st:=stK
  clear stK
  refine kt (vk5 2 3 14 15 16 (vc_seq (vc_block (sr ?_))))
  refine vy (y_ia (k:=j) rfl rfl underlying24 sizeOf50 rfl (by omega)) ?_
  refine vy (y_ldca (thL t tl tb cll cbb) rfl isAgg50 sizeOf50 rfl (fun i v hi=>st.chg.cell (hc i v hi) (by simp))) ?_
  refine vc_e (e_al (l:=[_,_,_,_]) st rfl rfl zeroValue50 rfl ?_)
  intro b5 w hb5 st
  refine vc_e (ests st 0 [_,_,_,_] sizeOf50 ?_)
  intro w st;dsimp only [setNth,wr] at st
  refine et (vk6 2 3 5 14 15 16 (sr ?_))
  refine yfz 1 underlying50 sizeOf23 ?_
  refine yl st 0 isAgg23 ?_
  replace st:=st.ownNil 134 3
  have hn5:=hkt.1.1
  refine vc_e (e_appr (bytes:=32) (len':=t.locals.length) (ys:=t.locals.flatMap dcL) st 0 rfl rfl rfl rfl rfl (DcRow.rd (S:=(·<n0)) (RowC.kept htl st.sm)) underlying23 Tryz.info134 rfl rfl rfl rfl rfl (dcs_len t.locals) (dcs_one t.locals) (by unfold maxLen;omega) (by omega) (by omega) (by simp) ?_)
  intro s3o s3c w st;dsimp only [setNth] at st
  refine yfz 1 underlying50 sizeOf23 ?_
  refine vc_e (est st 1 sizeOf23 ?_)
  intro w st;dsimp only [setNth,wr] at st
  refine et (vk6 2 3 5 14 15 16 (sr ?_))
  refine yfz 2 underlying50 sizeOf48 ?_
  refine yl st 1 isAgg48 ?_
  refine vc_e (e_call [_] rfl rfl call74 rfl (pcopyS_any _ t.body rfl hkt.2.1 _ _ _ (htb.kept st.sm) (Nat.le_trans hn0 st.chg.size)) ?_)
  rintro _ w ⟨s4o,s4c,S4,rfl,hQ,hN,cw⟩
  have hN4:=hN.le st.chg.size
  replace st:=St.pushR (r:=.tree S4 (fun w=>SmRQ w s4o s4c t.body S4)) st cw (holds_of hQ hQ.lt (fun a b h hk=>h.kept hk)) hN.2
  refine yfz 2 underlying50 sizeOf48 ?_
  refine vc_e (est st 2 sizeOf48 ?_)
  intro w st;dsimp only [setNth,wr] at st
  refine et (vk6 2 3 5 14 15 16 (vc_region ?_))
  refine yfz 2 underlying26 sizeOf24 ?_
  refine yl st 5 isAgg24 ?_
  refine yla st 2 [_,_,_,_] isAgg50 sizeOf50 ?_
  refine vc_e (e_bs1 (l:=[_,_,_,_]) st rfl rfl rfl rfl underlying24 sizeOf50 rfl rfl rfl zeroValue50 ?_)
  intro b31 w hb31 st
  refine vc_e (e_app (bytes:=72) st 4 0 rfl rfl rfl rfl rfl rfl underlying24 Tryz.info50 rfl rfl rfl rfl rfl (by simp) rfl rfl (by unfold maxLen;omega) (by omega) ?_)
  intro oaQ capQ w st;dsimp only [setNth] at st
  refine yfz 2 underlying26 sizeOf24 ?_
  refine vc_e (est st 6 sizeOf24 ?_)
  intro w st;dsimp only [setNth,wr] at st
  refine vc_end (vq_block (vq_then (vk5 2 3 14 15 16 (vc_region ?_))))
  obtain⟨h3,hN3⟩:=st.ownNw (i:=2) rfl
  have d34:=st.ne (i:=2) (j:=1) (by decide) rfl rfl
  simp only [Res.at?,obk_own] at d34
  have dS3:=st.ne (i:=5) (j:=2) (by decide) rfl rfl
  simp only [Res.at?,obk_own] at dS3
  have dS4:=st.ne (i:=5) (j:=1) (by decide) rfl rfl
  have hNq:=hN3.app hN4 d34
  have hne:∀ b∈S,b∉obk s3o++S4:=fun b hb hb'=>(List.mem_append.1 hb').elim (dS3 b hb) (dS4 b hb)
  have h0:=(st.res (i:=5) rfl).1
  have h4:=(st.res (i:=1) rfl).1
  have h5:ThSs 177 144 134 w (p.threads.take (j+1)) (xs++thL t s3o s4o s3c s4c) (S++(obk s3o++S4)):=by rw [take_one htj];exact ThSs.snoc h0 ⟨s3o,s3c,s4o,s4c,obk s3o,S4,rfl,⟨h3,rfl⟩,h4,rfl⟩
  have stN:=(((st.pick [5,2,1,4,6,7,8,9] rfl (by decide)).joinN 3 (q:=.tree (S++(obk s3o++S4)) fun w=>ThSs 177 144 134 w (p.threads.take (j+1)) (xs++thL t s3o s4o s3c s4c) (S++(obk s3o++S4))) (fun k hk=>by
    simp only [Res.at?,List.mem_append] at hk
    rcases hk with h|h|h
    · exact⟨_,.head _,h⟩
    · exact⟨_,.tail _ (.head _),by simpa [Res.at?,obk_own] using h⟩
    · exact⟨_,.tail _ (.tail _ (.head _)),h⟩) (holds_of h5 h5.lt (fun a b h hk=>h.kept hk)))).pick [1,0,2,3,4,5] rfl (by decide)
  refine vy (y_add rfl rfl (by omega:_=((j+1:Nat):Int)) (by omega) (by omega)) ?_
  refine ym ?_
  refine vc_end ?_
  refine vq_again (j+1,oaQ,capQ,xs++thL t s3o s4o s3c s4c,S++(obk s3o++S4))  ⟨rfl,rfl,rfl,rfl,rfl,trivial⟩ stN ?_ ?_
  ·exact⟨by dsimp only;omega,hSS.app hNq hne⟩
  dsimp only;omega
 intro hc17
 try simp only [dn] at hc17
 obtain rfl:j=p.threads.length:=by omega
 rw [List.take_length] at st
 refine vc_exit (vq_then_exit (vq_then_exit (vq_block_exit (vq_then (vk2 2 3 (sr ?_))))))
 refine yla st 2 [_,_,_] isAgg26 sizeOf26 ?_
 refine vc_e (ests st 5 [_,_,_] sizeOf26 ?_)
 intro w st;dsimp only [setNth,wr] at st
 refine et (vk1 2 (vc_ret ?_))
 refine vq_ret1 st (.inl rfl) results29 (by exact .cell 5 rfl rfl isAgg26 sizeOf26) ?_
 refine⟨_,rfl,?_⟩
 obtain⟨h1,h2⟩:=st.ownNw (i:=0) rfl
 have h3:=(st.res (i:=1) rfl).1
 obtain⟨h4,hN1⟩:=st.ownNw (i:=3) rfl
 obtain⟨h5,hN2⟩:=st.ownNw (i:=4) rfl
 have e0:=st.ne (i:=0) (j:=1) (by decide) rfl rfl
 have e1:=st.ne (i:=3) (j:=4) (by decide) rfl rfl
 have e2:=st.ne (i:=3) (j:=0) (by decide) rfl rfl
 have e3:=st.ne (i:=3) (j:=1) (by decide) rfl rfl
 have e4:=st.ne (i:=4) (j:=0) (by decide) rfl rfl
 have e5:=st.ne (i:=4) (j:=1) (by decide) rfl rfl
 simp only [Res.at?,obk_own] at e0 e1 e2 e3 e4 e5
 exact⟨_,obk s1o++(obk s2o++(obk oj++S)),rfl,⟨s1o,s1c,s2o,s2c,oj,cj,obk s1o,obk s2o,obk oj++S,rfl,⟨h4,rfl⟩,⟨h5,rfl⟩,⟨xs,S,h1,rfl,h3⟩,rfl⟩,
   hN1.app (hN2.app (h2.app hSS e0) (fun b hb hb'=>(List.mem_append.1 hb').elim (e4 b hb) (e5 b hb))) (fun b hb hb'=>(List.mem_append.1 hb').elim (e1 b hb) fun h=>(List.mem_append.1 h).elim (e2 b hb) (e3 b hb)),st.chg⟩
end
end Go.Proofs.YtkhpdpenlnhbiaaGreatDoor
