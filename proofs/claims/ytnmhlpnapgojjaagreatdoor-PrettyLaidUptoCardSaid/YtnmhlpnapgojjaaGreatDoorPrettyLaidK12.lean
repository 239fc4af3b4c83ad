/- A part of the proof: contracts of functions and plain laws; each theorem says its own conditions. -/
import Derived.Test.YtnmhlpnapgojjaaGreatDoorPrettyLaidAl
import Derived.Test.YtnmhlpnapgojjaaGreatDoorRows
import Derived.Test.YtnmhlpnapgojjaaGreatDoorPrettyLaidK3
import Derived.Test.YtnmhlpnapgojjaaGreatDoorPrettyLaidK2
import Derived.Test.YtnmhlpnapgojjaaGreatDoorPrettyLaidK11
import Derived.Test.YtnmhlpnapgojjaaGreatDoorPrettyLaidK6
import Derived.Test.YtnmhlpnapgojjaaGreatDoorPrettyLaidK1
set_option linter.unusedVariables false
set_option linter.unusedSimpArgs false
namespace Go.Proofs.YtnmhlpnapgojjaaGreatDoor.Pq
open Go.RowKit Sx LexS _root_.Go.Proofs.Tryz
abbrev smT (g:Wd→Wd) (h:Int→Int) (s:Sm) (oe ob ol:Option Addr) (ce cb cl:Nat):List Value:=[.int .u8 s.k,str (g s.nm),str (g s.other),.slice oe s.e.length ce,.slice ob s.body.length cb,.slice ol s.els.length cl,.int .i64 (h s.a)]
theorem jL8 (g:Wd→Wd) (h:Int→Int) (s:Sm) (oe ob ol:Option Addr) (ce cb cl:Nat):smT g h s oe ob ol ce cb cl=smL (trS g h s) oe ob ol ce cb cl:=by
 cases s;simp only [smT,smL,trS,Sm.e,Sm.k,Sm.nm,Sm.other,Sm.body,Sm.els,Sm.a,qC4,zZ3]
abbrev thT (g:Wd→Wd) (h:Int→Int) (t:Th) (ol ob:Option Addr) (cl cb:Nat):List Value:=[str (g t.nm),.slice ol t.locals.length cl,.slice ob t.body.length cb,.int .i64 (h t.a)]
theorem jM (g:Wd→Wd) (h:Int→Int) (t:Th) (ol ob:Option Addr) (cl cb:Nat):thT g h t ol ob cl cb=thL (trT g h t) ol ob cl cb:=by
 simp only [thT,thL,trT,List.length_map,zZ3]
theorem trS_e (g:Wd→Wd) (h:Int→Int) (s:Sm):(trS g h s).e=zY2 g h s.e:=by cases s;rfl
theorem trS_b (g:Wd→Wd) (h:Int→Int) (s:Sm):(trS g h s).body=zY9 g h s.body:=by cases s;rfl
theorem trS_l (g:Wd→Wd) (h:Int→Int) (s:Sm):(trS g h s).els=zY9 g h s.els:=by cases s;rfl
section
variable {n0:Nat}
set_option maxHeartbeats 2000000 in
theorem kB9 (b:Bool) (fr tn:Wd):∀ (n:Nat) (es:List Sm),szo es=n→qO es→∀ (oa:Option Addr) (cap:Nat) (w:World),SmRow w (·<n0) oa es→n0≤w.heap.size→
    Ret Tryz.prog 128 [.agg (tvL b fr tn).toArray,.slice oa es.length cap] w fun v w'=>∃ oq cq Sq,v=.slice oq es.length cq∧qT0 w' oq cq (zY9 (tnm fr tn) (tat b) es) Sq∧Nw w.heap.size Sq∧Chg [] w w':=by
 intro n;refine Nat.strongRecOn n fun n ih=>?_
 intro es hn hok oa cap w hr hn0;subst hn;have hle:=hok.1;refine zB [_,_] func128 rfl ntmps128 rfl ?_;have st:=St.init w [];obtain⟨w0,rfl⟩:∃ w0,w0=w:=⟨_,rfl⟩
 replace st:=St.pushR (r:=.tree [] (fun w=>SmSs 42 67 w [] [] [])) st (Chg.refl _ _) (zD2 (by simp [SmSs]) (by simp) (fun a b h hk=>h.kept hk)) (by simp [Res.at?]);replace st:=st.ownNil 67 7;refine a2 ?_;refine zA3 (zT2 (l:=[_,_,_]) st rfl rfl rfl rfl ?_);intro b2 w hb2 st;refine a15 ?_;refine zC (w0:=w0) (M:=[]) (fun (y:Nat×Option Addr×Nat×List Value×List Nat)=>[(1,.slice oa es.length cap),(2,.pointer (some ⟨b2,0,none⟩)),(5,.slice y.2.1 y.1 y.2.2.1),(6,.int .i64 (y.1:Int))]) (fun y=>[.blk b2 (.cells (tvL b fr tn).toArray 99 (0,0)),.own (.slice y.2.1 y.1 y.2.2.1) 67 7 y.1 y.2.2.2.1,.tree y.2.2.2.2 (fun w=>SmSs 42 67 w ((zY9 (tnm fr tn) (tat b) es).take y.1) y.2.2.2.1 y.2.2.2.2)]) (fun y _=>y.1≤es.length∧Nw w0.heap.size y.2.2.2.2) (fun y=>es.length - y.1) (0,none,0,[],[]) ⟨rfl,rfl,rfl,rfl,trivial⟩ (by simpa using st) ⟨by simp,Nw.nil⟩ ?_;clear st;rintro ⟨j,oj,cj,xs,S⟩ w ⟨hj,hSS⟩ st;dsimp only at *;refine a5 ?_;refine vy (zB1 rfl qU65) ?_;refine a3 ?_;refine vif ?_ ?_;intro hc11;(try simp only [dn] at hc11);have stK:=st;obtain⟨s,hsj⟩:∃ s,es[j]?=some s:=⟨_,List.getElem?_eq_getElem (by omega)⟩
 obtain⟨gb,go,rfl,hgS,hgl,hg⟩:=SmRow.at hr (by omega);obtain⟨oe,ob,ol,ce,cb,cl,hsV,hse,hsb,hsl,hc⟩:=hg j s hsj;have hks:=hok.2 j s hsj;have hz:=zF2 hsj
 have hB : szo s.body < szo es := by have : szo s.body < szo s := by cases s; exact sm_size.1
                                     omega
 have hL : szo s.els < szo es := by have : szo s.els < szo s := by cases s; exact sm_size.2
                                    omega
 have st:=stK;clear stK;refine a8 ?_;refine vy (zM3 (k:=j) rfl rfl qU65 qZ67 rfl (by omega)) ?_;refine vy (zE6 (smL s oe ob ol ce cb cl) rfl qA67 qZ67 rfl (fun i v hi=>st.chg.cell (hc i v hi) (by simp))) ?_;refine zA3 (zF8 (l:=[_,_,_,_,_,_,_]) st rfl rfl qV67 rfl ?_);intro b7 w hb7 st;refine zA3 (zC4 st 0 [_,_,_,_,_,_,_] qZ67 ?_);intro w st;dsimp only [zA0,wr] at st;refine a4 ?_;refine yla st 1 [_,_,_] qA99 qZ99 ?_;refine yfz 1 qU67 qZ9 ?_;refine yl st 0 qA9 ?_;refine zA3 (zA1 [_,_] rfl rfl call127 rfl (qG1 b fr tn s.nm _) ?_);rintro _ w ⟨rfl,cw⟩;replace st:=st.call0 cw;refine yfz 1 qU67 qZ9 ?_;refine zA3 (est st 0 qZ9 ?_);intro w st;dsimp only [zA0,wr] at st;refine a4 ?_;refine yla st 1 [_,_,_] qA99 qZ99 ?_;refine yfz 2 qU67 qZ9 ?_;refine yl st 0 qA9 ?_;refine zA3 (zA1 [_,_] rfl rfl call127 rfl (qG1 b fr tn s.other _) ?_);rintro _ w ⟨rfl,cw⟩;replace st:=st.call0 cw;refine yfz 2 qU67 qZ9 ?_;refine zA3 (est st 0 qZ9 ?_);intro w st;dsimp only [zA0,wr] at st;refine a4 ?_;refine yla st 1 [_,_,_] qA99 qZ99 ?_;refine yfz 3 qU67 qZ40 ?_;refine yl st 0 qA40 ?_;refine zA3 (zA1 [_,_] rfl rfl call160 rfl (kA0 b fr tn _ s.e rfl hks.e _ _ _ (hse.kept st.sm) (Nat.le_trans hn0 st.chg.size)) ?_);rintro _ w ⟨q1,c1,S1,rfl,hQ,hN,cw⟩;have hN1:=hN.le st.chg.size;replace st:=St.pushR (r:=.tree S1 (fun w=>gK5 w q1 c1 (zY2 (tnm fr tn) (tat b) s.e) S1)) st cw (zD2 hQ hQ.lt (fun a b h hk=>h.kept hk)) hN.2;refine yfz 3 qU67 qZ40 ?_;refine zA3 (est st 1 qZ40 ?_);intro w st;dsimp only [zA0,wr] at st;refine a4 ?_;refine yla st 2 [_,_,_] qA99 qZ99 ?_;refine yfz 4 qU67 qZ65 ?_;refine yl st 1 qA65 ?_;refine zA3 (zA1 [_,_] rfl rfl call128 rfl (ih _ hB s.body rfl hks.body _ _ _ (hsb.kept st.sm) (Nat.le_trans hn0 st.chg.size)) ?_);rintro _ w ⟨q2,c2,S2,rfl,hQ,hN,cw⟩;have hN2:=hN.le st.chg.size;replace st:=St.pushR (r:=.tree S2 (fun w=>qT0 w q2 c2 (zY9 (tnm fr tn) (tat b) s.body) S2)) st cw (zD2 hQ hQ.lt (fun a b h hk=>h.kept hk)) hN.2;refine yfz 4 qU67 qZ65 ?_;refine zA3 (est st 2 qZ65 ?_);intro w st;dsimp only [zA0,wr] at st;refine a4 ?_;refine yla st 3 [_,_,_] qA99 qZ99 ?_;refine yfz 5 qU67 qZ65 ?_;refine yl st 2 qA65 ?_;refine zA3 (zA1 [_,_] rfl rfl call128 rfl (ih _ hL s.els rfl hks.els _ _ _ (hsl.kept st.sm) (Nat.le_trans hn0 st.chg.size)) ?_);rintro _ w ⟨q3,c3,S3,rfl,hQ,hN,cw⟩;have hN3:=hN.le st.chg.size;replace st:=St.pushR (r:=.tree S3 (fun w=>qT0 w q3 c3 (zY9 (tnm fr tn) (tat b) s.els) S3)) st cw (zD2 hQ hQ.lt (fun a b h hk=>h.kept hk)) hN.2;refine yfz 5 qU67 qZ65 ?_;refine zA3 (est st 3 qZ65 ?_);intro w st;dsimp only [zA0,wr] at st;refine a4 ?_
 refine yla st 4 [_,_,_] qA99 qZ99 ?_;refine yfz 6 qU67 qZ3 ?_;refine yl st 3 qA3 ?_;refine zA3 (zA1 [_,_] rfl rfl call129 rfl (gI1 b fr tn s.a _) ?_);rintro _ w ⟨rfl,cw⟩;replace st:=st.call0 cw;refine yfz 6 qU67 qZ3 ?_;refine zA3 (est st 3 qZ3 ?_);intro w st;dsimp only [zA0,wr] at st;refine a4 ?_;refine yla st 3 [_,_,_,_,_,_,_] qA67 qZ67 ?_;refine zA3 (zI4 (l:=[_,_,_,_,_,_,_]) st rfl rfl rfl rfl qU65 qZ67 rfl rfl rfl qV67 ?_);intro b50 w hb50 st;refine zA3 (qE3 (bytes:=120) st 6 0 rfl rfl rfl rfl rfl rfl qU65 Tryz.info67 rfl rfl rfl rfl rfl (by simp) rfl rfl (by unfold maxLen;omega) (by omega) ?_);intro oaQ capQ w st;dsimp only [zA0] at st;refine a5 ?_;have d23:=st.ne (i:=2) (j:=1) (by decide) rfl rfl;have d12:=st.ne (i:=3) (j:=2) (by decide) rfl rfl;have d13:=st.ne (i:=3) (j:=1) (by decide) rfl rfl;have dS1:=st.ne (i:=7) (j:=3) (by decide) rfl rfl;have dS2:=st.ne (i:=7) (j:=2) (by decide) rfl rfl;have dS3:=st.ne (i:=7) (j:=1) (by decide) rfl rfl;have hNq:=hN1.app (hN2.app hN3 d23) (fun b hb hb'=>(List.mem_append.1 hb').elim (d12 b hb) (d13 b hb));have hne:∀ b∈S,b∉S1++(S2++S3):=fun b hb hb'=>(List.mem_append.1 hb').elim (dS1 b hb) fun h=>(List.mem_append.1 h).elim (dS2 b hb) (dS3 b hb)
 have h0:=(st.res (i:=7) rfl).1;have h1:=(st.res (i:=3) rfl).1;have h2:=(st.res (i:=2) rfl).1;have h3:=(st.res (i:=1) rfl).1;have h4:SmSs 42 67 w ((zY9 (tnm fr tn) (tat b) es).take (j+1)) (xs++smT (tnm fr tn) (tat b) s q1 q2 q3 c1 c2 c3) (S++(S1++(S2++S3))):=by rw [zW6 (jG2 hsj)];exact SmSs.snoc h0 (SmS_iff.2 ⟨q1,c1,q2,c2,q3,c3,S1,S2,S3,jL8 _ _ _ _ _ _ _ _ _,by rw [trS_e];exact h1,by rw [trS_b];exact h2,by rw [trS_l];exact h3,rfl⟩)
 have stN:=(((st.pick [7,3,2,1,6,5] rfl (by decide)).joinN 4 (q:=.tree (S++(S1++(S2++S3))) fun w=>SmSs 42 67 w ((zY9 (tnm fr tn) (tat b) es).take (j+1)) (xs++smT (tnm fr tn) (tat b) s q1 q2 q3 c1 c2 c3) (S++(S1++(S2++S3)))) (fun k hk=>by
   simp only [Res.at?,List.mem_append] at hk
   rcases hk with h|h|h|h
   · exact⟨_,.head _,h⟩
   · exact⟨_,.tail _ (.head _),h⟩
   · exact⟨_,.tail _ (.tail _ (.head _)),h⟩
   · exact⟨_,.tail _ (.tail _ (.tail _ (.head _))),h⟩) (zD2 h4 h4.lt (fun a b h hk=>h.kept hk)))).pick [2,1,0] rfl (by decide)
 refine a1 ?_;refine vy (yin ((j+1:Nat):Int)) ?_;refine a2 ?_;refine zA7 (j+1,oaQ,capQ,xs++smT (tnm fr tn) (tat b) s q1 q2 q3 c1 c2 c3,S++(S1++(S2++S3)))  ⟨rfl,rfl,rfl,rfl,trivial⟩ stN ?_ ?_;exact⟨by dsimp only;omega,hSS.app hNq hne⟩;dsimp only;omega;intro hc11;(try simp only [dn] at hc11);refine a12 ?_;refine vr1 st results128 ?_;obtain rfl:j=es.length:=by omega
 rw [List.take_of_length_le (by rw [zZ3];omega)] at st;rw [← zZ3 (g:=tnm fr tn) (h:=tat b) es] at st;obtain⟨h1,h2⟩:=st.ownNw (i:=1) rfl;have h3:=(st.res (i:=2) rfl).1;exact⟨oj,cj,obk oj++S,rfl,⟨xs,S,h1,rfl,h3⟩,h2.app hSS (fun b hb=>st.ne (i:=1) (j:=2) (by decide) rfl rfl b (by simpa [Res.at?,zE8] using hb)),st.chg⟩
set_option maxHeartbeats 4000000 in
theorem tprog_any (b:Bool) (fr tn:Wd) (p:Pg) (hok:OkP p) (os ol ot:Option Addr) (cs cl ct:Nat) (w:World) (hSh:DcRow w (·<n0) os p.shared) (hL:DcRow w (·<n0) ol p.locks) (hT:ThRow w (·<n0) ot p.threads) (hn0:n0≤w.heap.size) :
    Ret Tryz.prog 59 [.agg (tvL b fr tn).toArray,.agg (pgL p os ol ot cs cl ct).toArray] w fun v w'=>∃ l S,v=.agg l.toArray∧PgQ w' (trP (tnm fr tn) (tat b) p) l S∧Nw w.heap.size S∧Chg [] w w':=by
 refine zB [_,_] func59 rfl ntmps59 rfl ?_;have st:=St.init w [];obtain⟨w0,rfl⟩:∃ w0,w0=w:=⟨_,rfl⟩
 have hn1:=hok.1.1;have hn2:=hok.2.1.1;have hn3:=hok.2.2.1;refine a2 ?_;refine zA3 (zT2 (l:=[_,_,_]) st rfl rfl rfl rfl ?_);intro b2 w hb2 st;refine zA3 (zT2 (l:=[_,_,_]) st rfl rfl rfl rfl ?_);intro b3 w hb3 st;refine zA3 (zF8 (l:=[_,_,_]) st rfl rfl qV26 rfl ?_);intro b4 w hb4 st;refine a2 ?_;refine zL2 (w0:=w0) (M:=[]) (fun (z:Option Addr×Nat×List Nat×Option Addr×Nat×List Nat×Nat)=>[(2,.pointer (some ⟨b2,0,none⟩)),(3,.pointer (some ⟨b3,0,none⟩)),(4,.pointer (some ⟨b4,0,none⟩)),(5,.pointer (some ⟨z.2.2.2.2.2.2,0,none⟩))]) (fun z=>[.blk z.2.2.2.2.2.2 (.cells [.slice z.1 p.shared.length z.2.1,.slice z.2.2.2.1 p.locks.length z.2.2.2.2.1,.slice none 0 0].toArray 26 (0,0)),.tree z.2.2.2.2.2.1 (fun w=>qL3 w z.2.2.2.1 z.2.2.2.2.1 (p.locks.map (trD (tnm fr tn) (tat b))) z.2.2.2.2.2.1),.tree z.2.2.1 (fun w=>qL3 w z.1 z.2.1 (p.shared.map (trD (tnm fr tn) (tat b))) z.2.2.1),.blk b4 (.cells [.slice none 0 0,.slice none 0 0,.slice none 0 0].toArray 26 (0,0)),.blk b3 (.cells (pgL p os ol ot cs cl ct).toArray 26 (0,0)),.blk b2 (.cells (tvL b fr tn).toArray 99 (0,0))]) (fun z _=>w0.heap.size≤z.2.2.2.2.2.2∧Nw w0.heap.size z.2.2.1∧Nw w0.heap.size z.2.2.2.2.2.1) ?_ ?_
 ·refine ddr Tryz.mixed (.take 0 (.take 1 (.take 2 (.take 4 (.take 5 (.take 6 (.two 3 9 (.two 7 9 (.take 8 (.one 9 (.one 10 .done))) (.one 7 (.take 8 (.one 10 .done)))) (.one 3 (.one 7 (.take 8 (.one 10 .done))))))))))) [.blk b4 (.cells [.slice none 0 0,.slice none 0 0,.slice none 0 0].toArray 26 (0,0)),.blk b3 (.cells (pgL p os ol ot cs cl ct).toArray 26 (0,0)),.blk b2 (.cells (tvL b fr tn).toArray 99 (0,0))] st ?_;clear st;intro w st hS;refine zD9 rfl rfl rfl hS (fun w st=>zS7 (vs:=[_,_,_]) st 2 rfl qA99 qZ99 rfl rfl) ?_;refine df0 hS qU26 qZ23 ?_;refine dld hS 1 qA23 ?_;refine zD9 rfl rfl rfl hS (fun w st=>zS7 (vs:=[_,_,_]) st 2 rfl qA99 qZ99 rfl rfl) ?_;refine dfz hS 1 qU26 qZ23 ?_;refine dld hS 1 qA23 ?_;refine zU1 rfl rfl ?_ ?_
  focus
   refine(zA1 [_,_] rfl rfl call126 rfl (zW2 b fr tn p.shared hn1 _ _ _ (RowC.kept hSh st.sm)) ?_);rintro _ w ⟨s1o,s1c,S1,rfl,hQ,hN,cw⟩;have hN1:=hN.le st.chg.size;replace st:=St.pushR (r:=.tree S1 (fun w=>qL3 w s1o s1c (p.shared.map (trD (tnm fr tn) (tat b))) S1)) st cw (zD2 hQ hQ.lt (fun a b h hk=>h.kept hk)) hN.2;refine zB2 st.dr ?_;intro hS;refine zU1 rfl rfl ?_ ?_;refine(zA1 [_,_] rfl rfl call126 rfl (zW2 b fr tn p.locks hn2 _ _ _ (RowC.kept hL st.sm)) ?_);rintro _ w ⟨s2o,s2c,S2,rfl,hQ,hN,cw⟩;have hN2:=hN.le st.chg.size;replace st:=St.pushR (r:=.tree S2 (fun w=>qL3 w s2o s2c (p.locks.map (trD (tnm fr tn) (tat b))) S2)) st cw (zD2 hQ hQ.lt (fun a b h hk=>h.kept hk)) hN.2;refine zB2 st.dr ?_;intro hS;refine zD9 rfl rfl rfl hS (fun w st=>ybd (.agg #[_,_,_]) [(0,_),(1,_)]) ?_;refine zG rfl (zF8 (l:=[_,_,_]) st rfl rfl qV26 rfl ?_);intro b5 w hb5 st;refine zB2 st.dr ?_;intro hS
   rotate_left
   refine(zF8 (l:=[_,_,_]) st rfl rfl qV26 rfl ?_);intro b5 w hb5 st;refine zB2 st.dr ?_;intro hS;refine zG rfl (zA1 [_,_] rfl rfl call126 rfl (zW2 b fr tn p.locks hn2 _ _ _ (RowC.kept hL st.sm)) ?_);rintro _ w ⟨s2o,s2c,S2,rfl,hQ,hN,cw⟩;have hN2:=hN.le st.chg.size;replace st:=St.pushR (r:=.tree S2 (fun w=>qL3 w s2o s2c (p.locks.map (trD (tnm fr tn) (tat b))) S2)) st cw (zD2 hQ hQ.lt (fun a b h hk=>h.kept hk)) hN.2;refine zB2 st.dr ?_;intro hS;refine zD9 rfl rfl rfl hS (fun w st=>ybd (.agg #[_,_,_]) [(0,_),(1,_)]) ?_
  rotate_left 2
  refine(zF8 (l:=[_,_,_]) st rfl rfl qV26 rfl ?_);intro b5 w hb5 st;refine zB2 st.dr ?_;intro hS;refine zG rfl (zA1 [_,_] rfl rfl call126 rfl (zW2 b fr tn p.shared hn1 _ _ _ (RowC.kept hSh st.sm)) ?_);rintro _ w ⟨s1o,s1c,S1,rfl,hQ,hN,cw⟩;have hN1:=hN.le st.chg.size;replace st:=St.pushR (r:=.tree S1 (fun w=>qL3 w s1o s1c (p.shared.map (trD (tnm fr tn) (tat b))) S1)) st cw (zD2 hQ hQ.lt (fun a b h hk=>h.kept hk)) hN.2;refine zB2 st.dr ?_;intro hS;refine zG rfl (zA1 [_,_] rfl rfl call126 rfl (zW2 b fr tn p.locks hn2 _ _ _ (RowC.kept hL st.sm)) ?_);rintro _ w ⟨s2o,s2c,S2,rfl,hQ,hN,cw⟩;have hN2:=hN.le st.chg.size;replace st:=St.pushR (r:=.tree S2 (fun w=>qL3 w s2o s2c (p.locks.map (trD (tnm fr tn) (tat b))) S2)) st cw (zD2 hQ hQ.lt (fun a b h hk=>h.kept hk)) hN.2;refine zB2 st.dr ?_;intro hS;refine zD9 rfl rfl rfl hS (fun w st=>ybd (.agg #[_,_,_]) [(0,_),(1,_)]) ?_
  all_goals
   first
   | refine zG rfl (zC4 st 0 [_,_,_] qZ26 ?_)
   | refine zG rfl (zC4 st 1 [_,_,_] qZ26 ?_)
   | refine zG rfl (zC4 st 2 [_,_,_] qZ26 ?_)
   intro w st;dsimp only [zA0,wr] at st;refine zB2 st.dr ?_;intro hS;refine zV ?_;refine zB8 (s1o,s1c,S1,s2o,s2c,S2,b5) ⟨rfl,rfl,rfl,rfl,trivial⟩ (by first|exact st.pick [0,1,2,3,4,5] rfl (by decide)|exact st.pick [2,0,1,3,4,5] rfl (by decide)|exact st.pick [1,0,2,3,4,5] rfl (by decide)) ?_;exact⟨by assumption,hN1,hN2⟩
 clear st;rintro ⟨s1o,s1c,S1,s2o,s2c,S2,b5⟩ w ⟨hb5,hN1,hN2⟩ st;dsimp only at *;refine a3 ?_;replace st:=St.pushR (r:=.tree [] (fun w=>ThSs 42 67 63 w [] [] [])) st (Chg.refl _ _) (zD2 (by simp [ThSs]) (by simp) (fun a b h hk=>h.kept hk)) (by simp [Res.at?]);replace st:=st.ownNil 69 4;refine a4 ?_;refine zC (w0:=w0) (M:=[]) (fun (y:Nat×Option Addr×Nat×List Value×List Nat)=>[(2,.pointer (some ⟨b2,0,none⟩)),(3,.pointer (some ⟨b3,0,none⟩)),(4,.pointer (some ⟨b4,0,none⟩)),(5,.pointer (some ⟨b5,0,none⟩)),(6,.int .i64 (y.1:Int))]) (fun y=>[.own (.slice y.2.1 y.1 y.2.2.1) 69 4 y.1 y.2.2.2.1,.tree y.2.2.2.2 (fun w=>ThSs 42 67 63 w ((p.threads.map (trT (tnm fr tn) (tat b))).take y.1) y.2.2.2.1 y.2.2.2.2),.blk b5 (.cells [.slice s1o p.shared.length s1c,.slice s2o p.locks.length s2c,.slice y.2.1 y.1 y.2.2.1].toArray 26 (0,0)),.tree S2 (fun w=>qL3 w s2o s2c (p.locks.map (trD (tnm fr tn) (tat b))) S2),.tree S1 (fun w=>qL3 w s1o s1c (p.shared.map (trD (tnm fr tn) (tat b))) S1),.blk b4 (.cells [.slice none 0 0,.slice none 0 0,.slice none 0 0].toArray 26 (0,0)),.blk b3 (.cells (pgL p os ol ot cs cl ct).toArray 26 (0,0)),.blk b2 (.cells (tvL b fr tn).toArray 99 (0,0))]) (fun y _=>y.1≤p.threads.length∧Nw w0.heap.size y.2.2.2.2) (fun y=>p.threads.length - y.1) (0,none,0,[],[]) ⟨rfl,rfl,rfl,rfl,rfl,trivial⟩ (by simpa using st.pick [0,1,2,3,4,5,6,7] rfl (by decide)) ⟨by simp,Nw.nil⟩ ?_;clear st;rintro ⟨j,oj,cj,xs,S⟩ w ⟨hj,hSS⟩ st;dsimp only at *;refine a4 ?_;refine yfz 2 qU26 qZ24 ?_;refine yl st 6 qA24 ?_;refine vy (zB1 rfl qU24) ?_;refine a3 ?_;refine vif ?_ ?_;intro hc21;(try simp only [dn] at hc21);have stK:=st;obtain⟨t,htj⟩:∃ t,p.threads[j]?=some t:=⟨_,List.getElem?_eq_getElem (by omega)⟩
 obtain⟨gb,go,rfl,hgS,hgl,hg⟩:=ThRow.at hT (by omega);obtain⟨tl,tb,cll,cbb,htl,htb,hc⟩:=hg j t htj;have hkt:=hok.2.2.2 j t htj;have st:=stK;clear stK;refine a6 ?_;refine yfz 2 qU26 qZ24 ?_;refine yl st 6 qA24 ?_;refine a1 ?_;refine vy (zM3 (k:=j) rfl rfl qU24 qZ69 rfl (by omega)) ?_;refine vy (zE6 (thL t tl tb cll cbb) rfl qA69 qZ69 rfl (fun i v hi=>st.chg.cell (hc i v hi) (by simp))) ?_;refine zA3 (zF8 (l:=[_,_,_,_]) st rfl rfl qV69 rfl ?_);intro b7 w hb7 st;refine zA3 (zC4 st 0 [_,_,_,_] qZ69 ?_);intro w st;dsimp only [zA0,wr] at st;refine a2 ?_;refine kdr Tryz.mixed [Yt 0,Yt 3,Yt 7,Yt 11,Yt 15,Yt 1,Yt 2,Yt 4,Yt 6,Yt 8,Yt 10,Yt 12,Yt 14,Yt 16,Nt 5,Nt 9,Nt 13,Nt 17,Yt 18,Nt 19,Nt 20,Yt 21,Nt 22] 22 [.blk b7 (.cells (thL t tl tb cll cbb).toArray 69 (0,0)),.blk b5 (.cells [.slice s1o p.shared.length s1c,.slice s2o p.locks.length s2c,.slice oj j cj].toArray 26 (0,0)),.blk b2 (.cells (tvL b fr tn).toArray 99 (0,0))] st ?_;clear st;intro w st hS;refine zB0 rfl rfl rfl rfl (fun _=>hS) (fun w=>(by exact zV8 (k:=2) rfl qU26 rfl rfl qZ24 rfl)) ?_;refine zB0 rfl rfl rfl rfl (fun _=>hS) (fun w=>zC3 rfl qU69 rfl rfl qZ9 rfl) ?_;refine zB0 rfl rfl rfl rfl (fun _=>hS) (fun w=>(by exact zV8 (k:=1) rfl qU69 rfl rfl qZ23 rfl)) ?_;refine zB0 rfl rfl rfl rfl (fun _=>hS) (fun w=>(by exact zV8 (k:=2) rfl qU69 rfl rfl qZ65 rfl)) ?_;refine zB0 rfl rfl rfl rfl (fun _=>hS) (fun w=>(by exact zV8 (k:=3) rfl qU69 rfl rfl qZ3 rfl)) ?_;refine zE4 rfl rfl rfl rfl hS (fun w st=>qE6 st 1 rfl qA24 rfl rfl) ?_;refine zE4 rfl rfl rfl rfl hS (fun w st=>zS7 (vs:=[_,_,_]) st 2 rfl qA99 qZ99 rfl rfl) ?_;refine zE4 rfl rfl rfl rfl hS (fun w st=>qE6 st 0 rfl qA9 rfl rfl) ?_;refine zE4 rfl rfl rfl rfl hS (fun w st=>zS7 (vs:=[_,_,_]) st 2 rfl qA99 qZ99 rfl rfl) ?_;refine zE4 rfl rfl rfl rfl hS (fun w st=>qE6 st 0 rfl qA23 rfl rfl) ?_;refine zE4 rfl rfl rfl rfl hS (fun w st=>zS7 (vs:=[_,_,_]) st 2 rfl qA99 qZ99 rfl rfl) ?_;refine zE4 rfl rfl rfl rfl hS (fun w st=>qE6 st 0 rfl qA65 rfl rfl) ?_;refine zE4 rfl rfl rfl rfl hS (fun w st=>zS7 (vs:=[_,_,_]) st 2 rfl qA99 qZ99 rfl rfl) ?_;refine zE4 rfl rfl rfl rfl hS (fun w st=>qE6 st 0 rfl qA3 rfl rfl) ?_;refine zG7 rfl rfl (zA1 [_,_] rfl rfl call127 rfl (qG1 b fr tn t.nm _) ?_);rintro _ w ⟨rfl,cw⟩;replace st:=st.call0 cw;refine zF0 st.dr ?_;intro hS;refine zG7 rfl rfl (zA1 [_,_] rfl rfl call126 rfl (zW2 b fr tn t.locals hkt.1.1 _ _ _ (RowC.kept htl st.sm)) ?_);rintro _ w ⟨s3o,s3c,S3,rfl,hQ,hN,cw⟩;have hN3:=hN.le st.chg.size
 replace st:=St.pushR (r:=.tree S3 (fun w=>qL3 w s3o s3c (t.locals.map (trD (tnm fr tn) (tat b))) S3)) st cw (zD2 hQ hQ.lt (fun a b h hk=>h.kept hk)) hN.2;refine zF0 st.dr ?_;intro hS;refine zG7 rfl rfl (zA1 [_,_] rfl rfl call128 rfl (kB9 b fr tn _ t.body rfl hkt.2.1 _ _ _ (htb.kept st.sm) (Nat.le_trans hn0 st.chg.size)) ?_);rintro _ w ⟨s4o,s4c,S4,rfl,hQ,hN,cw⟩;have hN4:=hN.le st.chg.size;replace st:=St.pushR (r:=.tree S4 (fun w=>qT0 w s4o s4c (zY9 (tnm fr tn) (tat b) t.body) S4)) st cw (zD2 hQ hQ.lt (fun a b h hk=>h.kept hk)) hN.2;refine zF0 st.dr ?_;intro hS;refine zG7 rfl rfl (zA1 [_,_] rfl rfl call129 rfl (gI1 b fr tn t.a _) ?_);rintro _ w ⟨rfl,cw⟩;replace st:=st.call0 cw;refine zF0 st.dr ?_;intro hS;refine zB0 rfl rfl rfl rfl (fun _=>hS) (fun w=>ybd (.agg #[_,_,_,_]) [(0,_),(1,_),(2,_),(3,_)]) ?_;refine zG7 rfl rfl (zI4 (l:=[_,_,_,_]) st rfl rfl rfl rfl qU24 qZ69 rfl rfl rfl qV69 ?_);intro b48 w hb48 st;refine zF0 st.dr ?_;intro hS;refine zG7 rfl rfl (qE3 (bytes:=72) st 4 0 rfl rfl rfl rfl rfl rfl qU24 Tryz.info69 rfl rfl rfl rfl rfl (by simp) rfl rfl (by unfold maxLen;omega) (by omega) ?_);intro oaQ capQ w st;dsimp only [zA0] at st;refine zF0 st.dr ?_;intro hS;refine zB0 rfl rfl rfl rfl (fun _=>hS) (fun w=>(by exact zV8 (k:=2) rfl qU26 rfl rfl qZ24 rfl)) ?_;refine zG7 rfl rfl (est st 6 qZ24 ?_);intro w st;dsimp only [zA0,wr] at st;refine zJ7 ?_;refine zS1 ?_;refine a3 ?_;have d34:=st.ne (i:=2) (j:=1) (by decide) rfl rfl;have dS3:=st.ne (i:=5) (j:=2) (by decide) rfl rfl;have dS4:=st.ne (i:=5) (j:=1) (by decide) rfl rfl;have hNq:=hN3.app hN4 d34;have hne:∀ b∈S,b∉S3++S4:=fun b hb hb'=>(List.mem_append.1 hb').elim (dS3 b hb) (dS4 b hb)
 have h0:=(st.res (i:=5) rfl).1;have h3:=(st.res (i:=2) rfl).1;have h4:=(st.res (i:=1) rfl).1;have h5:ThSs 42 67 63 w ((p.threads.map (trT (tnm fr tn) (tat b))).take (j+1)) (xs++thT (tnm fr tn) (tat b) t s3o s4o s3c s4c) (S++(S3++S4)):=by rw [zW6 (by rw [List.getElem?_map,htj];rfl:(p.threads.map (trT (tnm fr tn) (tat b)))[j]?=some (trT (tnm fr tn) (tat b) t))];exact ThSs.snoc h0 ⟨s3o,s3c,s4o,s4c,S3,S4,jM _ _ _ _ _ _ _,h3,h4,rfl⟩
 have stN:=(((st.pick [5,2,1,4,6,7,8,9,10,11] rfl (by decide)).joinN 3 (q:=.tree (S++(S3++S4)) fun w=>ThSs 42 67 63 w ((p.threads.map (trT (tnm fr tn) (tat b))).take (j+1)) (xs++thT (tnm fr tn) (tat b) t s3o s4o s3c s4c) (S++(S3++S4))) (fun k hk=>by
   simp only [Res.at?,List.mem_append] at hk
   rcases hk with h|h|h
   · exact⟨_,.head _,h⟩
   · exact⟨_,.tail _ (.head _),h⟩
   · exact⟨_,.tail _ (.tail _ (.head _)),h⟩) (zD2 h5 h5.lt (fun a b h hk=>h.kept hk)))).pick [1,0,2,3,4,5,6,7] rfl (by decide)
 refine a1 ?_;refine vy (yin ((j+1:Nat):Int)) ?_;refine a2 ?_;refine zA7 (j+1,oaQ,capQ,xs++thT (tnm fr tn) (tat b) t s3o s4o s3c s4c,S++(S3++S4))  ⟨rfl,rfl,rfl,rfl,rfl,trivial⟩ stN ?_ ?_;exact⟨by dsimp only;omega,hSS.app hNq hne⟩;dsimp only;omega;intro hc21;(try simp only [dn] at hc21);obtain rfl:j=p.threads.length:=by omega
 rw [List.take_of_length_le (by simp)] at st;refine a7 ?_;refine yla st 2 [_,_,_] qA26 qZ26 ?_;refine zA3 (zC4 st 5 [_,_,_] qZ26 ?_);intro w st;dsimp only [zA0,wr] at st;refine a3 ?_;refine zB7 st (.inl rfl) results59 (by exact .cell 5 rfl rfl qA26 qZ26) ?_;refine⟨_,rfl,?_⟩;have hel:p.threads.length=(p.threads.map (trT (tnm fr tn) (tat b))).length:=by simp
 have hes:p.shared.length=(p.shared.map (trD (tnm fr tn) (tat b))).length:=by simp
 have hek:p.locks.length=(p.locks.map (trD (tnm fr tn) (tat b))).length:=by simp
 obtain⟨h1,h2⟩:=st.ownNw (i:=0) rfl;rw [hel] at h1;have h3:=(st.res (i:=1) rfl).1;have h4:=(st.res (i:=4) rfl).1;have h5:=(st.res (i:=3) rfl).1;have e0:=st.ne (i:=0) (j:=1) (by decide) rfl rfl;have e1:=st.ne (i:=4) (j:=3) (by decide) rfl rfl;have e2:=st.ne (i:=4) (j:=0) (by decide) rfl rfl;have e3:=st.ne (i:=4) (j:=1) (by decide) rfl rfl;have e4:=st.ne (i:=3) (j:=0) (by decide) rfl rfl;have e5:=st.ne (i:=3) (j:=1) (by decide) rfl rfl;simp only [Res.at?,zE8] at e0 e1 e2 e3 e4 e5
 exact⟨_,S1++(S2++(obk oj++S)),rfl,⟨s1o,s1c,s2o,s2c,oj,cj,S1,S2,obk oj++S,by simp [trP,← hel],h4,h5,⟨xs,S,h1,rfl,h3⟩,rfl⟩,
   hN1.app (hN2.app (h2.app hSS e0) (fun b hb hb'=>(List.mem_append.1 hb').elim (e4 b hb) (e5 b hb))) (fun b hb hb'=>(List.mem_append.1 hb').elim (e1 b hb) fun h=>(List.mem_append.1 h).elim (e2 b hb) (e3 b hb)),st.chg⟩
end
end Go.Proofs.YtnmhlpnapgojjaaGreatDoor.Pq
/- What the parser computes,in plain words: no program in sight. -/
namespace ParS
open Sx LexS
abbrev Flt:=Nat×Nat
abbrev PR (α:Type):=Except Flt (α×List Tok)
def gT0:Tok:=⟨0,[],0,0⟩
def here (ts:List Tok):Tok:=match ts with|t::_=>t | []=>gT0
def atT (e:Nat) (ts:List Tok):Nat:=match ts with|t::_=>t.at_ | []=>e
def isT (s:List UInt8) (ts:List Tok):Bool:=decide ((here ts).text=s) && (decide ((here ts).kind=2) || decide ((here ts).kind=4))
def fail {α:Type} (e rule:Nat) (ts:List Tok):Except Flt α:=.error (atT e ts,rule)
def want (e:Nat) (s:List UInt8) (ts:List Tok):Except Flt (List Tok):=if isT s ts=true then .ok ts.tail else fail e 2 ts
def zH1 (e:Nat) (ts:List Tok):PR Tok:=if (here ts).kind=1 then .ok (here ts,ts.tail) else fail e 2 ts
def declP (e:Nat) (ts:List Tok):PR Dc:=match zH1 e ts with
  | .error f=>.error f
  | .ok (t,r)=>.ok (⟨t.text,0,(t.at_:Int)⟩,r)
def qO4 (e:Nat) (minus:Bool) (ts:List Tok):PR Int:=if (here ts).kind=3 then .ok (if minus=true then -((here ts).word:Int) else ((here ts).word:Int),ts.tail) else fail e 2 ts
def initP (e:Nat) (ts:List Tok):PR Dc:=match zH1 e ts with
  | .error f=>.error f
  | .ok (t,r)=>if isT [61] r=true then
      (match qO4 e (isT [45] r.tail) (if isT [45] r.tail=true then r.tail.tail else r.tail) with
        | .error f=>.error f
        | .ok (x,r')=>.ok (⟨t.text,x,(t.at_:Int)⟩,r'))
    else .ok (⟨t.text,0,(t.at_:Int)⟩,r)
def zH0 (e:Nat) (one:List Tok→PR Dc):Nat→List Tok→PR (List Dc)
  | 0,ts=>.error (0,0)
  | n+1,ts=>match one ts with
    | .error f=>.error f
    | .ok (d,r)=>if isT [44] r=true then (match zH0 e one n r.tail with
        | .error f=>.error f
        | .ok (l,r')=>.ok (d::l,r'))
      else match want e [59] r with
        | .error f=>.error f
        | .ok r'=>.ok ([d],r')
def opT (t:Tok):Option Nat:=if t.kind=4 then zN9 t.text else none
def zN5 (u:List Tok→PR Ex):Nat→List Tok→PR (List (Nat×Nat×Ex))
  | 0,ts=>.error (0,0)
  | n+1,ts=>match opT (here ts) with
    | none=>.ok ([],ts)
    | some op=>match u ts.tail with
      | .error f=>.error f
      | .ok (x,r)=>match zN5 u n r with
        | .error f=>.error f
        | .ok (l,r')=>.ok ((op,(here ts).at_,x)::l,r')
def gB2 (op a:Nat) (x y:Ex):Ex:=.mk 4 (op:Int) 0 [] [x,y] (a:Int)
abbrev qS8:=Nat×Nat×Ex
def qL4 (all:Bool) (lv:Int):List qS8→Ex→List qS8×Ex
  | [],x=>([],x)
  | (op,a,l)::w,x=>if all=true∨lv≤zI8 (op:Int) then qL4 all lv w (gB2 op a l x) else ((op,a,l)::w,x)
def qS5:List qS8→List qS8→Ex→Ex
  | [],w,x=>(qL4 true 0 w x).2
  | (op,a,y)::r,w,x=>qS5 r ((op,a,(qL4 false (zI8 (op:Int)) w x).2)::(qL4 false (zI8 (op:Int)) w x).1) y
def zX4 (u:List Tok→PR Ex) (ts:List Tok):PR Ex:=match u ts with
  | .error f=>.error f
  | .ok (x,r)=>match zN5 u (r.length+1) r with
    | .error f=>.error f
    | .ok (l,r')=>.ok (qS5 l [] x,r')
def zV1 (e:Nat) (ts:List Tok):PR Ex:=
  if (here ts).kind=3 then .ok (.mk 1 0 ((here ts).word:Int) [] [] ((here ts).at_:Int),ts.tail)
  else if (here ts).kind=1 then .ok (.mk 2 0 0 (here ts).text [] ((here ts).at_:Int),ts.tail)
  else fail e 2 ts
def zF (ts:List Tok):Bool:=isT [45] ts || isT [33] ts || isT [40] ts
def zC1 (e:Nat):Nat→List Tok→PR Ex
  | 0,ts=>if zF ts=true then fail e 3 ts else zV1 e ts
  | m + 1, ts => if zF ts = true then
      (if (here ts).text=[40] then (match zX4 (zC1 e m) ts.tail with
        | .error f=>.error f
        | .ok (x,r)=>match want e [41] r with
          | .error f=>.error f
          | .ok r'=>.ok (x,r'))
      else match zC1 e m ts.tail with
        | .error f=>.error f
        | .ok (x,r)=>.ok (.mk 3 (if (here ts).text=[33] then 18 else 17) 0 [] [x] ((here ts).at_:Int),r))
    else zV1 e ts
def zN8 (e m:Nat) (ts:List Tok):PR Ex:=zX4 (zC1 e m) ts
def condP (e:Nat) (ts:List Tok):PR Ex:=match want e [40] ts with
  | .error f=>.error f
  | .ok r=>match zN8 e 64 r with
    | .error f=>.error f
    | .ok (x,r1)=>match want e [41] r1 with
      | .error f=>.error f
      | .ok r2=>.ok (x,r2)
def zJ4 (e:Nat) (ts:List Tok):PR Ex:=match zN8 e 64 ts with
  | .error f=>.error f
  | .ok (x,r)=>match want e [59] r with
    | .error f=>.error f
    | .ok r'=>.ok (x,r')
def qK2 (e:Nat) (ts:List Tok):PR (List UInt8×Ex):=match want e [40] ts with
  | .error f=>.error f
  | .ok r=>match zH1 e r with
    | .error f=>.error f
    | .ok (t,r1)=>match want e [44] r1 with
      | .error f=>.error f
      | .ok r2=>match zN8 e 64 r2 with
        | .error f=>.error f
        | .ok (x,r3)=>match want e [41] r3 with
          | .error f=>.error f
          | .ok r4=>match want e [59] r4 with
            | .error f=>.error f
            | .ok r5=>.ok ((t.text,x),r5)
def zK9 (e:Nat) (a:Nat) (ts:List Tok):PR Sm:=match zH1 e ts with
  | .error f=>.error f
  | .ok (t,r)=>match want e [61] r with
    | .error f=>.error f
    | .ok r1=>if isT zY5 r1=true then (match qK2 e r1.tail with
        | .error f=>.error f
        | .ok ((o,x),r2)=>.ok (.mk 2 t.text o [x] [] [] (a:Int),r2))
      else match zJ4 e r1 with
        | .error f=>.error f
        | .ok (x,r2)=>.ok (.mk 1 t.text [] [x] [] [] (a:Int),r2)
def formT (t:Tok) (s:List UInt8):Bool:=decide (t.text=s) && decide (t.kind=2)
def zS0 (e:Nat) (blk:List Tok→PR (List Sm)) (ts:List Tok):PR Sm:=
  if formT (here ts) wIf=true then (match condP e ts.tail with
    | .error f=>.error f
    | .ok (x,r)=>match blk r with
      | .error f=>.error f
      | .ok (b,r1)=>if isT zS6 r1=true then (match blk r1.tail with
          | .error f=>.error f
          | .ok (l,r2)=>.ok (.mk 3 [] [] [x] b l (atT e ts:Int),r2))
        else .ok (.mk 3 [] [] [x] b [] (atT e ts:Int),r1))
  else if formT (here ts) zH=true then (match condP e ts.tail with
    | .error f=>.error f
    | .ok (x,r)=>match blk r with
      | .error f=>.error f
      | .ok (b,r1)=>.ok (.mk 4 [] [] [x] b [] (atT e ts:Int),r1))
  else if formT (here ts) zH7=true then (match zH1 e ts.tail with
    | .error f=>.error f
    | .ok (t,r)=>match blk r with
      | .error f=>.error f
      | .ok (b,r1)=>.ok (.mk 5 t.text [] [] b [] (atT e ts:Int),r1))
  else if formT (here ts) zI2=true then (match zJ4 e ts.tail with
    | .error f=>.error f
    | .ok (x,r)=>.ok (.mk 6 [] [] [x] [] [] (atT e ts:Int),r))
  else if formT (here ts) zO9=true then (match want e [59] ts.tail with
    | .error f=>.error f
    | .ok r=>.ok (.mk 7 [] [] [] [] [] (atT e ts:Int),r))
  else zK9 e (atT e ts) ts
def zN3 (st:List Tok→PR Sm):Nat→List Tok→PR (List Sm)
  | 0,ts=>.error (0,0)
  | n+1,ts=>if isT [125] ts=true then .ok ([],ts.tail) else match st ts with
    | .error f=>.error f
    | .ok (s,r)=>match zN3 st n r with
      | .error f=>.error f
      | .ok (l,r')=>.ok (s::l,r')
def zO4 (e:Nat):Nat→List Tok→PR Sm
  | 0,ts=>zS0 e (fun r=>if isT [123] r=true then fail e 3 r else fail e 2 r) ts
  | m+1,ts=>zS0 e (fun r=>match want e [123] r with
    | .error f=>.error f
    | .ok r1=>zN3 (zO4 e m) (r1.length+1) r1) ts
def qD (e m:Nat) (ts:List Tok):PR (List Sm):=zN3 (zO4 e m) (ts.length+1) ts
def zF1 (e:Nat):Nat→List Tok→PR (List Dc)
  | 0,ts=>.error (0,0)
  | n + 1, ts => if isT zM4 ts = true then (match zH0 e (declP e) (ts.length + 1) ts.tail with
      | .error f=>.error f
      | .ok (l,r)=>match zF1 e n r with
        | .error f=>.error f
        | .ok (l',r')=>.ok (l++l',r'))
    else .ok ([],ts)
def zM0 (e:Nat) (ts:List Tok):PR Th:=match zH1 e ts with
  | .error f=>.error f
  | .ok (t,r)=>match want e [123] r with
    | .error f=>.error f
    | .ok r1=>match zF1 e (r1.length+1) r1 with
      | .error f=>.error f
      | .ok (l,r2)=>match qD e 63 r2 with
        | .error f=>.error f
        | .ok (b,r3)=>.ok (⟨t.text,l,b,(t.at_:Int)⟩,r3)
def zG0 (e:Nat):Nat→List Tok→PR (List Th)
  | 0,ts=>.error (0,0)
  | n + 1, ts => if isT zJ8 ts = true then (match zM0 e ts.tail with
      | .error f=>.error f
      | .ok (t,r)=>match zG0 e n r with
        | .error f=>.error f
        | .ok (l,r')=>.ok (t::l,r'))
    else .ok ([],ts)
def zM6 (e:Nat):Nat→List Tok→Except Flt Pg
  | 0,ts=>.error (0,0)
  | n + 1, ts => if isT zI9 ts = true then (match zH0 e (initP e) (ts.length + 1) ts.tail with
      | .error f=>.error f
      | .ok (l,r)=>match zM6 e n r with
        | .error f=>.error f
        | .ok p=>.ok ⟨l++p.shared,p.locks,p.threads⟩)
    else if isT zH7 ts=true then (match zH0 e (declP e) (ts.length+1) ts.tail with
      | .error f=>.error f
      | .ok (l,r)=>match zM6 e n r with
        | .error f=>.error f
        | .ok p=>.ok ⟨p.shared,l++p.locks,p.threads⟩)
    else match zG0 e (ts.length+1) ts with
      | .error f=>.error f
      | .ok (l,r)=>if r.length=0 then .ok ⟨[],[],l⟩ else fail e 2 r
def pg0:Pg:=⟨[],[],[]⟩
def zE5 (s:List UInt8):Pg×Nat×Nat×Nat:=
  if 65536<s.length then (pg0,4,0,0) else match (zI s).2 with
    | some (rule,p)=>(pg0,30,p,1)
    | none=>match zM6 s.length ((zI s).1.length+1) (zI s).1 with
      | .error f=>(pg0,30,f.1,f.2)
      | .ok p=>(p,0,0,0)
end ParS
/- What the parser computes,more: wanted words one after another;rests are rests of the tokens. -/
namespace ParS
open Sx LexS
def gA0 (e:Nat):List (List UInt8)→List Tok→Except Flt (List Tok)
  | [],ts=>.ok ts
  | s::l,ts=>match want e s ts with
    | .error f=>.error f
    | .ok r=>gA0 e l r
theorem zE7 (e:Nat) (s:List UInt8) (ts:List Tok):gA0 e [s] ts=want e s ts:=by
  simp only [gA0];split <;> simp_all
theorem zI5 {s:List UInt8} {r:List Tok} (h:isT s r=true):r≠[]:=by
  rintro rfl;simp [isT,here,gT0] at h
theorem zN7 {k:Nat} {r:List Tok} (h:(here r).kind=k) (hk:k≠0):r≠[]:=by
  rintro rfl;exact hk h.symm
theorem qU6 {r:List Tok} (h:zF r=true):r≠[]:=by rintro rfl;simp [zF,isT,here,gT0] at h
theorem zC2 {r:List Tok} (h:r≠[]):r.tail.length<r.length:=by
  cases r with
  | nil=>exact absurd rfl h
  | cons x l=>simp
theorem qF {e:Nat} {s:List UInt8} {ts r:List Tok} (h:want e s ts=.ok r):isT s ts=true∧r=ts.tail:=by
  unfold want at h;split at h
  · rename_i hc;cases h;exact⟨hc,rfl⟩
  · cases h
theorem qU4 {e:Nat} {s:List UInt8} {ts:List Tok} (h:isT s ts=true):want e s ts=.ok ts.tail:=by unfold want;rw [if_pos h]
theorem qT4 {e:Nat} {s:List UInt8} {ts:List Tok} (h:isT s ts=false):want e s ts=.error (atT e ts,2):=by unfold want;rw [if_neg (by simp [h])];rfl
end ParS
/- A parser in memory: its tokens,its place;what its functions hand back,and how they fail. -/
namespace Sx
open Go Go.RowKit LexS ParS
abbrev tkL (t:Tok):List Value:=[.int .u8 (t.kind:Int),str t.text,.int .i64 (t.word:Int),.int .i64 (t.at_:Int)]
abbrev exC (e:Ex) (oa:Option Addr) (cap:Nat):List Value:=[.int .u8 e.k,.int .u8 e.op,.int .i64 e.wd,str e.nm,.slice oa e.kids.length cap,.int .i64 e.a]
abbrev smC (s:Sm) (oe ob ol:Option Addr) (ce cb cl:Nat):List Value:=[.int .u8 s.k,str s.nm,str s.other,.slice oe s.e.length ce,.slice ob s.body.length cb,.slice ol s.els.length cl,.int .i64 s.a]
abbrev thC (t:Th) (ol ob:Option Addr) (cl cb:Nat):List Value:=[str t.nm,.slice ol t.locals.length cl,.slice ob t.body.length cb,.int .i64 t.a]
abbrev pgC (p:Pg) (os ol ot:Option Addr) (cs cl ct:Nat):List Value:=[.slice os p.shared.length cs,.slice ol p.locks.length cl,.slice ot p.threads.length ct]
def SigAt (g:Nat) (w:World):Prop:=∀ k,k<19→w.cell? ⟨g,k*2,none⟩=some (str (sgn k))∧w.cell? ⟨g,k*2+1,none⟩=some (.int .i64 (lvl k))
theorem SigAt.kept {g:Nat} {M:List Nat} {w w':World} (h:SigAt g w) (c:Chg M w w') (hg:g∉M):SigAt g w':=fun k hk=>⟨c.cell (h k hk).1 hg,c.cell (h k hk).2 hg⟩
structure PCtx where
  pb:Nat
  n0:Nat
  oa:Option Addr
  cap:Nat
  ts:List Tok
  e:Nat
  T:Nat
  R:Nat
  g:Nat
abbrev zO3 (c:PCtx) (r:List Tok):List Value:=[.slice c.oa c.ts.length c.cap,.int .i64 ((c.ts.length - r.length:Nat):Int),.int .i64 (c.e:Int)]
abbrev PAt (c:PCtx) (r:List Tok) (w:World):Prop:=w.heap[c.pb]?=some (.cells (zO3 c r).toArray c.T (0,0))
abbrev jL9 (c:PCtx) (f:Flt):Value:=.iface c.R (.agg #[.int .i64 (f.1:Int),.int .i64 (f.2:Int)])
structure PCok (c:PCtx) (w:World):Prop where
  row:RowC w (·<c.n0) 4 c.oa c.ts.length (fun j=>tkL (c.ts.getD j gT0))
  n0:c.n0≤c.pb
  g:c.g<c.n0
  len:c.ts.length≤1048576
  el:c.e≤1048576
  sig:SigAt c.g w
  le:c.n0≤w.heap.size
  wd:∀ t∈c.ts,t.word≤9223372036854775807
theorem PCok.kept {c:PCtx} {M:List Nat} {w w':World} (h:PCok c w) (k:Chg M w w') (hM:∀ b∈M,c.n0≤b):PCok c w':=
  ⟨h.row.kept (.of_chg k fun b hb hm=>absurd (hM b hm) (Nat.not_le.2 hb)),h.n0,h.g,h.len,h.el,h.sig.kept k (fun hm=>absurd (hM _ hm) (Nat.not_le.2 h.g)),Nat.le_trans h.le k.size,h.wd⟩
theorem PCok.k1 {c:PCtx} {w w':World} (h:PCok c w) (k:Chg [c.pb] w w'):PCok c w':=h.kept k (by simpa using h.n0)
theorem PCok.k2 {c:PCtx} {b:Nat} {w w':World} (h:PCok c w) (k:Chg [c.pb,b] w w') (hb:c.n0≤b):PCok c w':=h.kept k (by simpa using ⟨h.n0,hb⟩)
theorem qX9 {ts r:List Tok} (h:r <:+ ts) (hr:r≠[]):ts.getD (ts.length - r.length) gT0=here r∧ts.length - r.length<ts.length:=by
  obtain⟨a,rfl⟩:=h
  cases r with
  | nil=>exact absurd rfl hr
  | cons x l=>
    have e:(a++x::l).length - (x::l).length=a.length:=by simp
    rw [e]
    exact⟨by simp [List.getD,here],by simp⟩
theorem zB6 {ts r:List Tok} (h:r <:+ ts):r.length≤ts.length:=h.length_le
theorem zM7 {ts r:List Tok} (h:r <:+ ts):r.tail <:+ ts:=(List.tail_suffix r).trans h
theorem kI5 {ts r:List Tok} (h:∀ t∈ts,t.word≤9223372036854775807) (hr:r <:+ ts):(here r).word≤9223372036854775807:=by
  cases r with
  | nil=>exact Nat.zero_le _
  | cons x l=>exact h x (hr.subset (.head _))
theorem jF1 {n:Nat} (h:n≤9223372036854775807):IntKind.i64.wrap (0 - (n:Int))= -(n:Int):=by rw [IntWalk.i64_in _ ⟨by omega,by omega⟩];omega
theorem kV7 {r:List Tok} (h:r.length=0):here r=gT0:=by rw [List.eq_nil_of_length_eq_zero h];rfl
theorem jH5 {e:Nat} {r:List Tok} (h:r.length=0):atT e r=e:=by rw [List.eq_nil_of_length_eq_zero h];rfl
theorem kZ4 {e:Nat} {r:List Tok} (h:r≠[]):atT e r=(here r).at_:=by cases r with|nil=>exact absurd rfl h|cons x l=>rfl
theorem PCok.tok {c:PCtx} {w:World} (h:PCok c w) {r:List Tok} (hs:r <:+ c.ts) (hr:r≠[]):∃ b off,c.oa=some ⟨b,off,none⟩∧∀ i v,(tkL (here r))[i]?=some v→w.cell? ⟨b,off+(c.ts.length - r.length)*4+i,none⟩=some v:=by
  obtain⟨h1,h2⟩:=qX9 hs hr
  rcases h.row with h0|⟨b,off,e,hb,hl,hc⟩
  · omega
  · refine⟨b,off,e,fun i v hi=>(hc _ h2).2 i v ?_⟩
    dsimp only;rw [h1];exact hi
def gH7 {α:Type} (c:PCtx) (r:List Tok) (res:PR α) (M:List Nat) (w:World) (H:α→Value→World→Prop) (v:Value) (w':World):Prop:=
  ∃ x r',res=.ok (x,r')∧r' <:+ r∧r'.length<r.length∧PAt c r' w'∧Chg M w w'∧H x v w'
def gB4 {α:Type} (c:PCtx) (res:Except Flt α) (M:List Nat) (w:World) (v:Value) (w':World):Prop:=
  ∃ f,res=.error f∧v=jL9 c f∧Chg M w w'
section
variable {w w' w0:World} {M:List Nat} {hs:List Res}
theorem St.prs {b:Nat} {o o':Obj} (st:St w0 M hs w) (i:Nat) (hi:nth hs i=some (.blk b o)) (ch:Chg [b] w w') (hm:b∈M∨w0.heap.size≤b) (h':w'.heap[b]?=some o'):St w0 M (zA0 hs i (.blk b o')) w':=
  st.turn hi rfl rfl ch hm h'
theorem St.prsT {b:Nat} {o o':Obj} {q:Res} (st:St w0 M hs w) (i:Nat) (hi:nth hs i=some (.blk b o)) (ch:Chg [b] w w') (hm:b∈M∨w0.heap.size≤b) (h':w'.heap[b]?=some o')
    (hq:q.holds w0.heap.size w') (hqa:∀ k∈q.at?,w.heap.size≤k):St w0 M (q::zA0 hs i (.blk b o')) w':=
  st.swapPush hi ch (by simp [Res.at?]) (by simpa using hm) (by simp [Res.at?]) h' hq hqa
theorem St.bne {b b':Nat} {o o':Obj} (st:St w0 M hs w) (i j:Nat) (hij:i≠j) (hi:nth hs i=some (.blk b o)) (hj:nth hs j=some (.blk b' o')):b≠b':=fun e=>zH3 st.nodup hij hi hj b (.head _) (by rw [e];exact .head _)
theorem zF9 {tE base:Nat} {oa:Option Addr} {cap:Nat} {es:List Ex} {S:List Nat} (h:ExR tE w oa cap es S):(Res.tree S fun w=>ExR tE w oa cap es S).holds base w:=zD2 h h.lt (fun a b h hk=>h.kept hk)
theorem zM8 {tE tS base:Nat} {oa:Option Addr} {cap:Nat} {es:List Sm} {S:List Nat} (h:SmR tE tS w oa cap es S):(Res.tree S fun w=>SmR tE tS w oa cap es S).holds base w:=zD2 h h.lt (fun a b h hk=>h.kept hk)
theorem qH3 {tD base:Nat} {oa:Option Addr} {cap:Nat} {es:List Dc} {S:List Nat} (h:DcR tD w oa cap es S):(Res.tree S fun w=>DcR tD w oa cap es S).holds base w:=zD2 h h.lt (fun a b h hk=>h.kept hk)
end
end Sx
namespace Go.Proofs.YtnmhlpnapgojjaaGreatDoor.Pq
open Go.RowKit Sx LexS ParS _root_.Go.Proofs.Tryz
theorem qA6 (k:Int) (w:World):Ret Tryz.prog 157 [.int .u8 k] w fun v w'=>v=.bool (zL5 k)∧w'=w:=by
 refine zB [_] func157 rfl ntmps157 rfl ?_;have st:=St.init w [];refine a9 ?_;refine vmb ?_ ?_;intro hg5;(try simp only [dn] at hg5);refine a3 ?_
 rotate_left
 intro hg5;(try simp only [dn] at hg5);refine a3 ?_
 all_goals
  refine a4 ?_;refine vr1 st results157 ?_;refine⟨?_,rfl⟩;congr 1;unfold zL5
  (symm;simp;omega)
theorem gP7 (k:Int) (w:World):Ret Tryz.prog 104 [.int .u8 k] w fun v w'=>v=.bool (zP9 k)∧w'=w:=by
 refine zB [_] func104 rfl ntmps104 rfl ?_;have st:=St.init w [];refine a8 ?_;refine zA3 (zA1 [_] rfl rfl call157 rfl (qA6 _ _) ?_);rintro _ _ ⟨rfl,rfl⟩;refine vmb ?_ ?_
 focus
  intro hg5;refine a3 ?_;refine vmb ?_ ?_;intro hg9;refine a3 ?_
  rotate_left
  intro hg9;refine a3 ?_
 rotate_left 2
 intro hg5;refine a7 ?_
 all_goals
  refine a4 ?_;refine vr1 st results104 ?_;refine⟨?_,rfl⟩;show Value.bool _=Value.bool _;congr 1;unfold zL5 at *;unfold zP9;simp only [decide_eq_true_eq,decide_eq_false_iff_not,Bool.not_eq_true',Bool.not_eq_false'] at *
  first|(symm;rw [decide_eq_false_iff_not];omega)|(rw [Bool.eq_iff_iff];simp only [Bool.not_eq_true',decide_eq_false_iff_not,decide_eq_true_eq];omega)
theorem zR3 (k:Int) (w:World) (hs:SigAt 0 w):Ret Tryz.prog 105 [.int .u8 k] w fun v w'=>v=.int .i64 (zI8 k)∧w'=w:=by
 refine zB [_] func105 rfl ntmps105 rfl ?_;have st:=St.init w [];refine a9 ?_;refine zA3 (zA1 [_] rfl rfl call157 rfl (qA6 _ _) ?_);rintro _ _ ⟨rfl,rfl⟩;refine a3 ?_;refine vif ?_ ?_;intro hc5;refine a7 ?_;refine vr1 st results105 ?_;refine⟨?_,rfl⟩;unfold zI8;rw [if_neg (by simpa using hc5)];intro hc5;have hk:0<k∧k<19:=by simpa [zL5] using hc5
 obtain⟨m,rfl⟩:∃ m:Nat,k=(m:Int):=⟨k.toNat,by omega⟩
 refine a5 ?_;refine vy (gB0 (k:=m) rfl rfl underlying204 sizeOf203 rfl (by omega)) ?_;refine vy (zU9 (k:=1) rfl underlying203 rfl rfl qZ3 rfl) ?_;refine vy ((by exact zD8 rfl qA3 (by have h:=(hs m (by omega)).2;rw [Nat.zero_add];exact h))) ?_;refine a4 ?_;refine vr1 st results105 ?_;refine⟨?_,rfl⟩;unfold zI8;rw [if_pos (by simpa using hc5)];rfl
def jH9 (s:List UInt8) (j:Nat):Prop:=∀ k,k<j→(zP9 (k:Int) && decide (sgn k=s))=false
theorem gY7 {s:List UInt8} {j:Nat} (hj:j<19) (h:jH9 s j) (h2:zP9 (j:Int)=true) (h3:sgn j=s):zN9 s=some j:=by
 unfold zN9;rw [List.find?_eq_some_iff_append];refine⟨by simp [h2,h3],List.range j,(List.range' (j+1) (18 - j)),?_,fun k hk=>(by have:=h k (by simpa using hk);show (!(zP9 (k:Int) && decide (sgn k=s)))=true;rw [this];rfl)⟩;rw [List.range_eq_range',List.range_eq_range',show 19=j+(19 - j) by omega,← List.range'_append_1];rw [show 19 - j=(18 - j)+1 by omega,List.range'_succ];simp
theorem gY3 {s:List UInt8} (h:jH9 s 19):zN9 s=none:=by
 unfold zN9;rw [List.find?_eq_none];intro k hk;have:=h k (by simpa using hk);show ¬ (zP9 (k:Int) && decide (sgn k=s))=true;rw [this];simp
theorem qF2 {s:List UInt8} {j:Nat} (h:jH9 s j) (h2:(zP9 (j:Int) && decide (sgn j=s))=false):jH9 s (j+1):=fun k hk=>by
 rcases Nat.lt_or_ge k j with h1|h1
 ·exact h k h1
 ·obtain rfl:k=j:=by omega
  exact h2
theorem kX (s:List UInt8) (w:World) (hs:SigAt 0 w):Ret Tryz.prog 110 [str s] w fun v w'=>v=.tuple [.int .u8 (((zN9 s).getD 0:Nat):Int),.bool (zN9 s).isSome].toArray∧w'=w:=by
 refine zB [_] func110 rfl ntmps110 rfl ?_;have st:=St.init w [];obtain⟨w0,rfl⟩:∃ w0,w0=w:=⟨_,rfl⟩
 refine a13 ?_;refine zC (w0:=w0) (M:=[]) (fun (j:Nat)=>[(0,str s),(5,.int .u8 (j:Int))]) (fun _=>[]) (fun j w'=>j≤19∧jH9 s j∧w'=w0) (fun j=>19 - j) 0 ⟨rfl,rfl,trivial⟩ st ⟨by simp,fun k hk=>by omega,rfl⟩ ?_;clear st;rintro j w ⟨hj,hno,rfl⟩ st;refine a6 ?_;refine vif ?_ ?_;intro hc6;(try simp only [dn] at hc6);refine a13 ?_;refine zA3 (zA1 [_] rfl rfl call104 rfl (gP7 _ _) ?_);rintro _ _ ⟨rfl,rfl⟩;refine vmb ?_ ?_;intro hg10;(try simp only [dn] at hg10);refine a1 ?_;refine vy (gB0 (k:=j) rfl rfl underlying204 sizeOf203 rfl (by omega)) ?_;refine vy (zC3 rfl underlying203 rfl rfl qZ9 rfl) ?_;refine vy ((by exact zD8 rfl qA9 (by have h:=(hs j (by omega)).1;rw [Nat.zero_add];exact h))) ?_;refine a5 ?_;refine vif ?_ ?_;intro hc17;(try simp only [dn] at hc17);refine a13 ?_;refine zG3 st (.inl rfl) results110 (.tmp rfl) (.tmp rfl) ?_;refine⟨_,rfl,?_⟩;have he:zN9 s=some j:=gY7 (by omega) hno (by simp_all) (by simp_all);rw [he];exact⟨rfl,rfl⟩;intro hc17;(try simp only [dn] at hc17);refine a4 ?_;refine vy (qJ1 rfl rfl (by rw [qD2];omega:_=((j+1:Nat):Int))) ?_;refine a2 ?_;refine zA7 (j+1)  ⟨rfl,rfl,trivial⟩ st ?_ ?_;exact⟨by omega,qF2 hno (by simp_all),rfl⟩;omega;intro hg10;(try simp only [dn] at hg10);refine a14 ?_;refine vy (qJ1 rfl rfl (by rw [qD2];omega:_=((j+1:Nat):Int))) ?_;refine a2 ?_;refine zA7 (j+1)  ⟨rfl,rfl,trivial⟩ st ?_ ?_;exact⟨by omega,qF2 hno (by simp_all),rfl⟩;omega;intro hc6;(try simp only [dn] at hc6);refine a12 ?_;refine zG3 st (.inl rfl) results110 (.tmp rfl) (.tmp rfl) ?_;refine⟨_,rfl,?_⟩;obtain rfl:j=19:=by omega
 have he:zN9 s=none:=gY3 hno;rw [he];exact⟨rfl,rfl⟩
theorem zY (c:PCtx) (r:List Tok) (hr:r <:+ c.ts) (w:World) (hC:PCok c w) (hP:PAt c r w):Ret Tryz.prog 109 [.pointer (some ⟨c.pb,0,none⟩)] w fun v w'=>v=.agg (tkL (here r)).toArray∧Chg [] w w':=by
 obtain⟨pb,n0,oa,cap,ts,e,TT,R,g⟩:=c;dsimp only [PAt,zO3] at hr hP ⊢;refine zB [_] func109 rfl ntmps109 rfl ?_;obtain⟨w0,rfl⟩:∃ w0,w0=w:=⟨_,rfl⟩
 have st:=St.of1 [] hP;refine sr ?_;refine zA3 (zF8 (l:=[_,_,_,_]) st rfl rfl qV118 rfl ?_);intro b2 w hb2 st;refine et (zC5 (zC5 ?_));refine qJ5 Tryz.mixed [Yt 0,Yt 1,Yt 2,Yt 3,Yt 4,Yt 5,Yt 6,Yt 7,Yt 8,Yt 9] st ?_;clear st;intro w st hS;refine pm hS ?_;refine pnk hS ?_;refine pfz hS 1 qU91 qZ3 ?_;refine pld hS 1 qA3 ?_;refine pm hS ?_;refine pnk hS ?_;refine pf0 hS qU91 qZ89 ?_;refine pld hS 1 qA89 ?_;refine zA2 rfl rfl rfl hS (fun w st=>zB1 rfl qU89) ?_;refine zA2 rfl rfl rfl hS (fun w st=>zM5 rfl rfl) ?_;refine zC6 (zA6 ?_);refine vif ?_ ?_;intro hc12;(try simp only [dn] at hc12);have hne:r≠[]:=by rintro rfl;simp at hc12
 obtain⟨tb,tq,hoa,hc⟩:=hC.tok hr hne;have hlt:=(qX9 hr hne).2;dsimp only at hoa hc hlt;subst hoa;refine zC5 ?_;refine vdr Tryz.mixed [Yt 0,Yt 1,Yt 2,Yt 3,Yt 4,Yt 5,Yt 6,Yt 7,Yt 8,Yt 9,Nt 10] [.blk pb (.cells [.slice (some ⟨tb,tq,none⟩) ts.length cap,.int .i64 ((ts.length - r.length:Nat):Int),.int .i64 (e:Int)].toArray TT (0,0))] st ?_;clear st;intro w st hS;refine pm hS ?_;refine pnk hS ?_;refine pf0 hS qU91 qZ89 ?_;refine pld hS 0 qA89 ?_;refine pm hS ?_;refine pnk hS ?_;refine pfz hS 1 qU91 qZ3 ?_;refine pld hS 0 qA3 ?_;refine zA2 rfl rfl rfl hS (fun w st=>zM3 (k:=(ts.length - r.length)) rfl rfl qU89 qZ118 rfl (hlt)) ?_;refine zA2 rfl rfl rfl hS (fun w st=>zE6 (tkL (here r)) rfl qA118 qZ118 rfl (fun i v hi=>st.chg.cell (hc i v hi) (by simp))) ?_;refine zD0 rfl (zC4 st 0 [_,_,_,_] qZ118 ?_);intro w st;dsimp only [zA0,wr] at st;refine zA9 st.dr ?_;intro hS;refine zC6 (zA6 (zA8 (zA ?_)));refine zB7 st (.inl rfl) results109 (by exact .cell 0 rfl rfl qA118 qZ118) ?_;refine⟨_,rfl,?_⟩;exact⟨rfl,st.chg⟩;intro hc12;(try simp only [dn] at hc12);have h0:r.length=0:=by have:=zB6 hr;omega
 refine kt (sr ?_);refine vy (ybd (.agg #[_,_,_,_]) []) ?_;refine zA3 (zC4 st 0 [_,_,_,_] qZ118 ?_);intro w st;dsimp only [zA0,wr] at st;refine et (zA8 ?_);refine zB7 st (.inl rfl) results109 (by exact .cell 0 rfl rfl qA118 qZ118) ?_;refine⟨_,rfl,?_⟩;rw [kV7 h0];exact⟨rfl,st.chg⟩
theorem kJ1 (c:PCtx) (r:List Tok) (hr:r <:+ c.ts) (w:World) (hC:PCok c w) (hP:PAt c r w):Ret Tryz.prog 112 [.pointer (some ⟨c.pb,0,none⟩)] w fun v w'=>v=.int .i64 (atT c.e r:Int)∧Chg [] w w':=by
 obtain⟨pb,n0,oa,cap,ts,e,TT,R,g⟩:=c;dsimp only [PAt,zO3] at hr hP ⊢;refine zB [_] func112 rfl ntmps112 rfl ?_;obtain⟨w0,rfl⟩:∃ w0,w0=w:=⟨_,rfl⟩
 have st:=St.of1 [] hP;refine sr ?_;refine ya ?_;refine et (zC5 (zC5 ?_));refine qJ5 Tryz.mixed [Yt 0,Yt 1,Yt 2,Yt 3,Yt 4,Yt 5,Yt 6,Yt 7,Yt 8,Yt 9] st ?_;clear st;intro w st hS;refine pm hS ?_;refine pnk hS ?_;refine pfz hS 1 qU91 qZ3 ?_;refine pld hS 0 qA3 ?_;refine pm hS ?_;refine pnk hS ?_;refine pf0 hS qU91 qZ89 ?_;refine pld hS 0 qA89 ?_;refine zA2 rfl rfl rfl hS (fun w st=>zB1 rfl qU89) ?_;refine zA2 rfl rfl rfl hS (fun w st=>zM5 rfl rfl) ?_;refine zC6 (zA6 ?_);refine vif ?_ ?_;intro hc12;(try simp only [dn] at hc12);have hne:r≠[]:=by rintro rfl;simp at hc12
 obtain⟨tb,tq,hoa,hc⟩:=hC.tok hr hne;have hlt:=(qX9 hr hne).2;dsimp only at hoa hc hlt;subst hoa;refine zC5 ?_;refine qJ5 Tryz.mixed [Yt 0,Yt 1,Yt 2,Yt 3,Yt 4,Yt 5,Yt 6,Yt 7,Yt 8,Yt 9,Yt 10,Yt 11] st ?_;clear st;intro w st hS;refine pm hS ?_;refine pnk hS ?_;refine pf0 hS qU91 qZ89 ?_;refine pld hS 0 qA89 ?_;refine pm hS ?_;refine pnk hS ?_;refine pfz hS 1 qU91 qZ3 ?_;refine pld hS 0 qA3 ?_;refine zA2 rfl rfl rfl hS (fun w st=>zM3 (k:=(ts.length - r.length)) rfl rfl qU89 qZ118 rfl (hlt)) ?_;refine zA2 rfl rfl rfl hS (fun w st=>zU9 (k:=3) rfl qU118 rfl rfl qZ3 rfl) ?_;refine zA2 rfl rfl rfl hS (fun w st=>zD8 rfl qA3 (st.chg.cell (hc 3 _ rfl) (by simp))) ?_;refine zA2 rfl rfl rfl hS (fun w st=>qL1 rfl) ?_;refine zC6 (zA6 (zA8 (zA ?_)));refine vr1 st results112 ?_;rw [kZ4 hne];exact⟨rfl,st.chg⟩;intro hc12;(try simp only [dn] at hc12);have h0:r.length=0:=by have:=zB6 hr;omega
 refine kt (sr ?_);refine ym ?_;refine ynk ?_;refine yfz 2 qU91 qZ3 ?_;refine yl st 0 qA3 ?_;refine ya ?_;refine et (zA8 ?_);refine vr1 st results112 ?_;rw [jH5 h0];exact⟨rfl,st.chg⟩
theorem qP2 (c:PCtx) (s:List UInt8) (r:List Tok) (hr:r <:+ c.ts) (w:World) (hC:PCok c w) (hP:PAt c r w):Ret Tryz.prog 90 [.pointer (some ⟨c.pb,0,none⟩),str s] w fun v w'=>v=.bool (isT s r)∧Chg [] w w':=by
 refine zB [_,_] func90 rfl ntmps90 rfl ?_;have st:=St.init w [];obtain⟨w0,rfl⟩:∃ w0,w0=w:=⟨_,rfl⟩
 refine sr ?_;refine ya ?_;refine et (sr ?_);refine ym ?_;refine zA3 (zA1 [_] rfl rfl call109 rfl (zY c r hr _ hC hP) ?_);rintro _ w ⟨rfl,cw⟩;replace st:=st.call0 cw;refine zA3 (zF8 (l:=[_,_,_,_]) st rfl rfl qV118 rfl ?_);intro b5 w hb5 st;refine zA3 (zC4 st 0 [_,_,_,_] qZ118 ?_);intro w st;dsimp only [zA0,wr] at st;refine et (sr ?_);refine yfz 1 qU118 qZ9 ?_;refine yl st 0 qA9 ?_;refine ym ?_;refine vy (zN4 rfl rfl) ?_;refine vmb ?_ ?_
 focus
  intro hg12;(try simp only [dn] at hg12);refine vy (zC3 rfl qU118 rfl rfl qZ116 rfl) ?_;refine yl st 0 qA116 ?_;refine vy (zK5 rfl rfl) ?_;refine vmb ?_ ?_;intro hg16;(try simp only [dn] at hg16);(iterate 3 refine vsk ?_);refine ypt ?_
  rotate_left
  intro hg16;(try simp only [dn] at hg16);refine vy (zC3 rfl qU118 rfl rfl qZ116 rfl) ?_;refine yl st 0 qA116 ?_;refine vy (zK5 rfl rfl) ?_;refine ypf ?_
  all_goals
   refine a1 ?_
 rotate_left 2
 intro hg12;(try simp only [dn] at hg12);(iterate 8 refine vsk ?_);refine ypf ?_
 all_goals
  refine ya ?_;refine et (zA8 ?_);refine vr1 st results90 ?_;have hk2:((here r).kind:Int)=2↔(here r).kind=2:=by omega
  have hk4:((here r).kind:Int)=4↔(here r).kind=4:=by omega
  refine⟨?_,st.chg⟩;unfold isT
  simp_all
theorem zO5 (c:PCtx) (s:List UInt8) (r:List Tok) (hr:r <:+ c.ts) (w:World) (hC:PCok c w) (hP:PAt c r w):Ret Tryz.prog 86 [.pointer (some ⟨c.pb,0,none⟩),str s] w fun v w'=>v=.bool (isT s r)∧PAt c (if isT s r=true then r.tail else r) w'∧Chg [c.pb] w w':=by
 refine zB [_,_] func86 rfl ntmps86 rfl ?_;obtain⟨w0,rfl⟩:∃ w0,w0=w:=⟨_,rfl⟩
 have hP':=hP;dsimp only [PAt,zO3] at hP;have st:=St.of1 [c.pb] hP;have h20:=hC.len;have hl:=zB6 hr;refine sr ?_;refine ya ?_;refine et (zC5 (sr ?_));(iterate 2 refine ym ?_);refine zA3 (zA1 [_,_] rfl rfl call90 rfl (qP2 c s r hr _ hC hP') ?_);rintro _ w ⟨rfl,cw⟩;replace st:=st.call0 cw;refine vy (zG5 rfl) ?_;refine et ?_;refine vif ?_ ?_;intro hc8;(try simp only [dn] at hc8);have hF:isT s r=false:=by simpa using hc8
 refine sr ?_;refine ya ?_;refine et (zA8 (zA ?_));refine vr1 st results86 ?_;rw [hF];exact⟨rfl,st.res (i:=0) rfl,st.chg⟩;intro hc8;(try simp only [dn] at hc8);have hT:isT s r=true:=by simpa using hc8
 have ht:=zC2 (zI5 hT);have ht2:r.tail.length=r.length - 1:=List.length_tail;refine kt (sr ?_);refine ym ?_;refine ynk ?_;refine yfz 1 qU91 qZ3 ?_;refine yl st 0 qA3 ?_;refine vy (yin ((c.ts.length - r.tail.length:Nat):Int)) ?_;refine ynk ?_;refine yfz 1 qU91 qZ3 ?_;refine zA3 (est st 0 qZ3 ?_);intro w st;dsimp only [zA0,wr] at st;refine et ((sr ?_));refine ya ?_;refine et (zA8 ?_);refine vr1 st results86 ?_;rw [hT];exact⟨rfl,st.res (i:=0) rfl,st.chg⟩
theorem zX2 (c:PCtx) (r:List Tok) (hr:r <:+ c.ts) (hne:r≠[]) (w:World) (hC:PCok c w) (hP:PAt c r w):Ret Tryz.prog 111 [.pointer (some ⟨c.pb,0,none⟩)] w fun v w'=>v=.agg (tkL (here r)).toArray∧PAt c r.tail w'∧Chg [c.pb] w w':=by
 refine zB [_] func111 rfl ntmps111 rfl ?_;obtain⟨w0,rfl⟩:∃ w0,w0=w:=⟨_,rfl⟩
 have hP':=hP;dsimp only [PAt,zO3] at hP;have st:=St.of1 [c.pb] hP;have h20:=hC.len;have hl:=zB6 hr;have ht:=zC2 hne;have ht2:r.tail.length=r.length - 1:=List.length_tail;replace st:=st.call0 (Chg.refl _ _);have stP:=hP';refine sr ?_;refine zA3 (zF8 (l:=[_,_,_,_]) st rfl rfl qV118 rfl ?_);intro b2 w hb2 st;refine et (sr ?_);refine ym ?_;refine zA3 (zA1 [_] rfl rfl call109 rfl (zY c r hr _ (hC.k1 st.chg) (st.res (i:=1) rfl)) ?_);rintro _ w ⟨rfl,cw⟩;replace st:=st.call0 cw;refine zA3 (zF8 (l:=[_,_,_,_]) st rfl rfl qV118 rfl ?_);intro b3 w hb3 st;refine zA3 (zC4 st 0 [_,_,_,_] qZ118 ?_);intro w st;dsimp only [zA0,wr] at st;refine et (sr ?_);refine ym ?_;refine ynk ?_;refine yfz 1 qU91 qZ3 ?_;refine yl st 2 qA3 ?_;refine vy (yin ((c.ts.length - r.tail.length:Nat):Int)) ?_;refine ynk ?_;refine yfz 1 qU91 qZ3 ?_;refine zA3 (est st 2 qZ3 ?_);intro w st;dsimp only [zA0,wr] at st;refine et (sr ?_);refine yla st 0 [_,_,_,_] qA118 qZ118 ?_;refine zA3 (zC4 st 1 [_,_,_,_] qZ118 ?_);intro w st;dsimp only [zA0,wr] at st;refine et (zA8 ?_);refine zB7 st (.inl rfl) results111 (by exact .cell 1 rfl rfl qA118 qZ118) ?_;refine⟨_,rfl,?_⟩;exact⟨rfl,st.res (i:=2) rfl,st.chg⟩
theorem zU3 (c:PCtx) (rule:Nat) (r:List Tok) (hr:r <:+ c.ts) (w:World) (hC:PCok c w) (hP:PAt c r w) (hR:c.R=75):qP5 Tryz.prog 50 [.pointer (some ⟨c.pb,0,none⟩),.int .i64 (rule:Int)] w (fun _ _=>False) (fun v w'=>v=jL9 c (atT c.e r,rule)∧Chg [] w w'):=by
 refine zN0 [_,_] func50 rfl ntmps50 rfl ?_;have st:=St.init w [];obtain⟨w0,rfl⟩:∃ w0,w0=w:=⟨_,rfl⟩
 refine zB4 ?_;refine ym ?_;refine zA3 (zA1 [_] rfl rfl call112 rfl (kJ1 c r hr _ hC hP) ?_);rintro _ w ⟨rfl,cw⟩;replace st:=st.call0 cw;refine ym ?_;refine vy (ybd (.agg #[_,_]) [(0,_),(1,_)]) ?_;refine vy (ybd (.agg #[_,_]) [(0,_)]) ?_;refine vy (y_mki rfl qU75) ?_;refine zA3 (kZ2 rfl rfl (fun a ha=>And.intro ha (Or.inr ⟨_,rfl,by rw [jL9,hR],st.chg⟩)))
theorem zL7 (c:PCtx) (ss:List (List UInt8)) (hss:ss.length≤4) (lb n cap E:Nat) (hn:n=ss.length) (r:List Tok) (hr:r <:+ c.ts) (w:World) (hC:PCok c w) (hP:PAt c r w) (hR:c.R=75)
    (hL:w.heap[lb]?=some (.cells (ss.map str).toArray E (0,0))) (hne:lb≠c.pb):qP5 Tryz.prog 145 [.pointer (some ⟨c.pb,0,none⟩),.slice (some ⟨lb,0,none⟩) n cap] w
  (fun v w'=>∃ r',gA0 c.e ss r=.ok r'∧r' <:+ r∧r'.length+ss.length≤r.length∧PAt c r' w'∧Chg [c.pb] w w') (gB4 c (gA0 c.e ss r) [c.pb] w):=by
 refine zN0 [_,_] func145 rfl ntmps145 rfl ?_;obtain⟨w0,rfl⟩:∃ w0,w0=w:=⟨_,rfl⟩
 subst hn;have hP':=hP;dsimp only [PAt,zO3] at hP;have st:=St.of1 [c.pb] hP;have h20:=hC.len;have hl:=zB6 hr;refine sr ?_;refine ym ?_;refine vy (zB1 rfl qU50) ?_;refine ym ?_;refine et (zD6 ?_);refine zC (w0:=w0) (M:=[c.pb]) (fun (y:Nat×List Tok)=>[(0,.pointer (some ⟨c.pb,0,none⟩)),(6,.slice (some ⟨lb,0,none⟩) ss.length cap),(7,.int .i64 (ss.length:Int)),(8,.int .i64 (y.1:Int))]) (fun y=>[.blk c.pb (.cells (zO3 c y.2).toArray c.T (0,0))]) (fun y _=>y.1≤ss.length∧y.2 <:+ r∧y.2.length+y.1≤r.length∧gA0 c.e ss r=gA0 c.e (ss.drop y.1) y.2) (fun y=>ss.length - y.1) (0,r) ⟨rfl,rfl,rfl,rfl,trivial⟩ st ⟨by simp,List.suffix_refl _,by simp,by simp⟩ ?_;clear st;rintro ⟨j,r1⟩ w ⟨hj,hr1,hl1,hw⟩ st;dsimp only at hj hr1 hl1 hw st;refine sr ?_;refine vy (zM5 rfl rfl) ?_;refine et (zC5 ?_);refine vif ?_ ?_;intro hc9;(try simp only [dn] at hc9);have hjl:j<ss.length:=by omega
 obtain⟨s,hs⟩:∃ s,ss[j]?=some s:=⟨_,List.getElem?_eq_getElem hjl⟩
 have hcell:w0.cell? ⟨lb,j*1,none⟩=some (str s):=zO hL (by rw [zL8,Nat.mul_one];simp [hs]);have hd:ss.drop j=s::ss.drop (j+1):=by rw [List.drop_eq_getElem_cons hjl];congr 1;rw [List.getElem?_eq_getElem hjl] at hs;exact Option.some.inj hs
 rw [hd] at hw;have hr2:=hr1.trans hr;refine kt (zC5 (zD6 (sr ?_)));refine vy (qA (k:=j) rfl rfl qU50 qZ9 rfl (by omega)) ?_;refine vy (zD8 rfl qA9 (st.chg.cell hcell (by simpa using hne))) ?_;refine ya ?_;refine et (sr ?_);(iterate 2 refine ym ?_);refine zA3 (zA1 [_,_] rfl rfl call86 rfl (zO5 c s r1 hr2 _ (hC.k1 st.chg) (st.res (i:=0) rfl)) ?_);rintro _ w ⟨rfl,hP1,cw⟩;replace st:=st.prs 0 rfl cw (.inl (.head _)) hP1;dsimp only [zA0] at st;refine vy (zG5 rfl) ?_;refine et ?_;refine vif ?_ ?_;intro hc15;(try simp only [dn] at hc15);have hF:isT s r1=false:=by simpa using hc15
 simp only [hF,Bool.false_eq_true,if_false] at st;refine zB4 ?_;refine ym ?_;refine zA3 (zD1 [_,_] rfl rfl call50 rfl (zU3 c 2 r1 hr2 _ (hC.k1 st.chg) (st.res (i:=0) rfl) hR) (by rintro _ w' ⟨rfl,ch⟩ a ha;exact And.intro ha (Or.inr ⟨_,rfl,(atT c.e r1,2),by rw [hw];simp only [gA0,qT4 hF],rfl,st.chg.trans ch.of_nil⟩)) (fun _ _ h=>h.elim));intro hc15;(try simp only [dn] at hc15);have hT:isT s r1=true:=by simpa using hc15
 simp only [hT,if_true] at st;have ht:=zC2 (zI5 hT);refine zA5 (zE0 (zA6 (zB4 ?_)));refine vy (yin ((j+1:Nat):Int)) ?_;refine ym ?_;refine zI6 ?_;refine zA7 (j+1,r1.tail)  ⟨rfl,rfl,rfl,rfl,trivial⟩ st ?_ ?_;exact⟨by dsimp only;omega,(List.tail_suffix _).trans hr1,by dsimp only;omega,by rw [hw];simp only [gA0,qU4 hT]⟩;dsimp only;omega;intro hc9;(try simp only [dn] at hc9);refine zJ1 (zB3 (zB3 (zC0 ?_)));refine zD4 (.inr rfl) results145 ?_;refine .inl ⟨_,rfl,?_⟩;obtain rfl:j=ss.length:=by omega
 rw [List.drop_length] at hw;exact⟨r1,hw,hr1,hl1,st.res (i:=0) rfl,st.chg⟩
theorem Tryz.info63:Tryz.prog.info? 63=some Tryz.t63:=by kernel_rfl
theorem qG6 (c:PCtx) (hR:c.R=75) (r:List Tok) (hr:r <:+ c.ts) (w:World) (hC:PCok c w) (hP:PAt c r w):qP5 Tryz.prog 146 [.pointer (some ⟨c.pb,0,none⟩)] w
    (gH7 c r (zH1 c.e r) [c.pb] w fun t v _=>v=.agg (tkL t).toArray) (gB4 c (zH1 c.e r) [c.pb] w):=by
 refine zN0 [_] func146 rfl ntmps146 rfl ?_;obtain⟨w0,rfl⟩:∃ w0,w0=w:=⟨_,rfl⟩
 have hP':=hP;dsimp only [PAt,zO3] at hP;have st:=St.of1 [c.pb] hP;have h20:=hC.len;have hl:=zB6 hr;refine a2 ?_;refine zA3 (zF8 (l:=[_,_,_,_]) st rfl rfl qV118 rfl ?_);intro b2 w hb2 st;refine a6 ?_;refine zA3 (zA1 [_] rfl rfl call109 rfl (zY c r hr _ (hC.k1 st.chg) (by exact st.rs 1)) ?_);rintro _ w ⟨rfl,cw⟩;replace st:=st.call0 cw;refine vy (gK2 rfl qU118 rfl rfl qA116 rfl) ?_;refine a3 ?_;refine vif ?_ ?_;intro hc6;(try simp only [dn] at hc6);have hk:¬ (here r).kind=1:=by omega
 have hs:zH1 c.e r=fail c.e 2 r:=by unfold zH1;rw [if_neg hk]
 refine a2 ?_;refine zA3 (zD1 [_,_] rfl rfl call50 rfl (zU3 c 2 r hr _ (hC.k1 st.chg) (by exact st.rs 1) hR) (by rintro _ w' ⟨rfl,ch⟩ a ha;exact And.intro ha (Or.inr ⟨_,rfl,(atT c.e r,2),by rw [hs];rfl,rfl,st.chg.trans ch.of_nil⟩)) (fun _ _ h=>h.elim));intro hc6;(try simp only [dn] at hc6);have hk:(here r).kind=1:=by omega
 have hs:zH1 c.e r=.ok (here r,r.tail):=by unfold zH1;rw [if_pos hk]
 have hne:=zN7 hk (by decide);have hlt:=zC2 hne;refine a5 ?_;refine zA3 (zA1 [_] rfl rfl call111 rfl (zX2 c r hr hne _ (hC.k1 st.chg) (by exact st.rs 1)) ?_);rintro _ w ⟨rfl,hP1,cw⟩;replace st:=St.prs (b:=c.pb) st 1 rfl cw (.inl (.head _)) hP1;dsimp only [zA0] at st;refine zA3 (zC4 st 0 [_,_,_,_] qZ118 ?_);intro w st;dsimp only [zA0,wr] at st;refine a3 ?_;refine zB7 st (.inl rfl) results146 (by exact .cell 0 rfl rfl qA118 qZ118) ?_;refine .inl ⟨_,rfl,?_⟩;exact⟨_,_,hs,List.tail_suffix _,hlt,(by exact st.rs 1),st.chg,rfl⟩
theorem gJ0 (c:PCtx) (hR:c.R=75) (r:List Tok) (hr:r <:+ c.ts) (w:World) (hC:PCok c w) (hP:PAt c r w):qP5 Tryz.prog 89 [.pointer (some ⟨c.pb,0,none⟩)] w
    (gH7 c r (declP c.e r) [c.pb] w fun d v _=>v=.agg (dcL d).toArray) (gB4 c (declP c.e r) [c.pb] w):=by
 refine zN0 [_] func89 rfl ntmps89 rfl ?_;obtain⟨w0,rfl⟩:∃ w0,w0=w:=⟨_,rfl⟩
 have hP':=hP;dsimp only [PAt,zO3] at hP;have st:=St.of1 [c.pb] hP;have h20:=hC.len;have hl:=zB6 hr;have hs:=declP.eq_1 c.e r;refine a2 ?_;refine zA3 (zF8 (l:=[_,_,_]) st rfl rfl qV63 rfl ?_);intro b2 w hb2 st;refine a5 ?_;refine zA3 (zD1 [_] rfl rfl call146 rfl (qG6 c hR r hr _ (hC.k1 st.chg) (by exact st.rs 1)) (by rintro _ w' ⟨f,hf,rfl,ch⟩ a ha;exact And.intro ha (Or.inr ⟨_,rfl,f,by rw [hs,hf],rfl,st.chg.trans ch⟩)) ?_);rintro _ w ⟨t,r1,hx,hsf,hln,hP1,cw,rfl⟩;replace st:=St.prs (b:=c.pb) st 1 rfl cw (.inl (.head _)) hP1;rw [hx] at hs;dsimp only at hs;have hr1:=hsf.trans hr;refine zA3 (zF8 (l:=[_,_,_,_]) st rfl rfl qV118 rfl ?_);intro b3 w hb3 st;refine zA3 (zC4 st 0 [_,_,_,_] qZ118 ?_);intro w st;refine a4 ?_;refine yfz 1 qU118 qZ9 ?_;refine yl st 0 qA9 ?_;refine yfz 3 qU118 qZ3 ?_;refine yl st 0 qA3 ?_;refine vy (ybd (.agg #[_,_,_]) [(0,_),(2,_)]) ?_;refine zA3 (zC4 st 1 [_,_,_] qZ63 ?_);intro w st;refine a3 ?_;refine zB7 st (.inl rfl) results89 (by exact .cell 1 rfl rfl qA63 qZ63) ?_;refine .inl ⟨_,rfl,?_⟩;exact⟨_,_,hs,hsf,hln,(by exact st.rs 2),st.chg,rfl⟩
theorem kO (c:PCtx) (hR:c.R=75) (r:List Tok) (hr:r <:+ c.ts) (w:World) (hC:PCok c w) (hP:PAt c r w):qP5 Tryz.prog 88 [.pointer (some ⟨c.pb,0,none⟩)] w
    (gH7 c r (initP c.e r) [c.pb] w fun d v _=>v=.agg (dcL d).toArray) (gB4 c (initP c.e r) [c.pb] w):=by
 refine zN0 [_] func88 rfl ntmps88 rfl ?_;obtain⟨w0,rfl⟩:∃ w0,w0=w:=⟨_,rfl⟩
 have hP':=hP;dsimp only [PAt,zO3] at hP;have st:=St.of1 [c.pb] hP;have h20:=hC.len;have hl:=zB6 hr;have hs:=initP.eq_1 c.e r;unfold declP at *;refine a2 ?_;refine zA3 (zF8 (l:=[_,_,_]) st rfl rfl qV63 rfl ?_);intro b2 w hb2 st;refine a5 ?_;refine zA3 (zD1 [_] rfl rfl call89 rfl (gJ0 c hR r hr _ (hC.k1 st.chg) (by exact st.rs 1)) (by rintro _ w' ⟨f,hf,rfl,ch⟩ a ha;exact And.intro ha (Or.inr ⟨_,rfl,f,(by rw [hs];unfold declP at hf;cases hn:zH1 c.e r with|error g=>rw [hn] at hf;exact hf|ok q=>rw [hn] at hf;cases hf),rfl,st.chg.trans ch⟩)) ?_);rintro _ w ⟨d,r1,hx,hsf,hln,hP1,cw,rfl⟩;replace st:=St.prs (b:=c.pb) st 1 rfl cw (.inl (.head _)) hP1;dsimp only [zA0] at st
 obtain⟨t,hn,rfl⟩:∃ t,zH1 c.e r=.ok (t,r1)∧d=⟨t.text,0,(t.at_:Int)⟩:=by
  unfold declP at hx
  cases hn:zH1 c.e r with
  | error g=>rw [hn] at hx;cases hx
  | ok q=>rw [hn] at hx;cases hx;exact⟨q.1,rfl,rfl⟩
 rw [hn] at hs;dsimp only at hs;have hr1:=hsf.trans hr;refine zA3 (zF8 (l:=[_,_,_]) st rfl rfl qV63 rfl ?_);intro b3 w hb3 st;refine zA3 (zC4 st 0 [_,_,_] qZ63 ?_);intro w st;dsimp only [zA0,wr] at st;refine a6 ?_;refine zA3 (zA1 [_,_] rfl rfl call86 rfl (zO5 c [61] r1 hr1 _ (hC.k1 st.chg) (by exact st.rs 2)) ?_);rintro _ w ⟨rfl,hP1,cw⟩;replace st:=St.prs (b:=c.pb) st 2 rfl cw (.inl (.head _)) hP1;dsimp only [zA0] at st;refine a3 ?_;refine vif ?_ ?_;intro hc9;(try simp only [dn] at hc9);have hF:isT [61] r1=false:=by simpa using hc9
 simp only [hF,Bool.false_eq_true,if_false] at st hs;refine a2 ?_;refine yla st 0 [_,_,_] qA63 qZ63 ?_;refine zA3 (zC4 st 1 [_,_,_] qZ63 ?_);intro w st;dsimp only [zA0,wr] at st;refine a4 ?_;refine zB7 st (.inl rfl) results88 (by exact .cell 1 rfl rfl qA63 qZ63) ?_;refine .inl ⟨_,rfl,?_⟩;exact⟨_,_,hs,hsf,hln,(by exact st.rs 2),st.chg,rfl⟩;intro hc9;(try simp only [dn] at hc9);have hT:isT [61] r1=true:=by simpa using hc9
 simp only [hT,if_true] at st hs;have ht:=zC2 (zI5 hT);have hr2:=zM7 hr1;refine a5 ?_;refine zA3 (zA1 [_,_] rfl rfl call86 rfl (zO5 c [45] r1.tail hr2 _ (hC.k1 st.chg) (by exact st.rs 2)) ?_);rintro _ w ⟨rfl,hP1,cw⟩;replace st:=St.prs (b:=c.pb) st 2 rfl cw (.inl (.head _)) hP1;dsimp only [zA0] at st;obtain⟨r3,hr3e⟩:∃ r3,r3=(if isT [45] r1.tail=true then r1.tail.tail else r1.tail):=⟨_,rfl⟩
 have hsf3:r3 <:+ r1.tail:=by rw [hr3e];split;exact List.tail_suffix _;exact List.suffix_refl _
 rw [← hr3e] at st hs;have hr3:=hsf3.trans hr2;unfold qO4 at hs;refine a7 ?_;refine zA3 (zA1 [_] rfl rfl call109 rfl (zY c r3 hr3 _ (hC.k1 st.chg) (by exact st.rs 2)) ?_);rintro _ w ⟨rfl,cw⟩;replace st:=st.call0 cw;refine vy (gK2 rfl qU118 rfl rfl qA116 rfl) ?_;refine a3 ?_;refine vif ?_ ?_;intro hc16;(try simp only [dn] at hc16);have hk:¬ (here r3).kind=3:=by omega
 rw [if_neg hk] at hs;refine a2 ?_;refine zA3 (zD1 [_,_] rfl rfl call50 rfl (zU3 c 2 r3 hr3 _ (hC.k1 st.chg) (by exact st.rs 2) hR) (by rintro _ w' ⟨rfl,ch⟩ a ha;exact And.intro ha (Or.inr ⟨_,rfl,(atT c.e r3,2),by rw [hs];rfl,rfl,st.chg.trans ch.of_nil⟩)) (fun _ _ h=>h.elim));intro hc16;(try simp only [dn] at hc16);have hk:(here r3).kind=3:=by omega
 rw [if_pos hk] at hs;dsimp only at hs;have hne:=zN7 hk (by decide);have hlt:=zC2 hne;have hle3:=hsf3.length_le;refine a5 ?_;refine zA3 (zA1 [_] rfl rfl call111 rfl (zX2 c r3 hr3 hne _ (hC.k1 st.chg) (by exact st.rs 2)) ?_);rintro _ w ⟨rfl,hP1,cw⟩;replace st:=St.prs (b:=c.pb) st 2 rfl cw (.inl (.head _)) hP1;dsimp only [zA0] at st;refine vy (gK2 rfl qU118 rfl rfl qA2 rfl) ?_;refine yfz 1 qU63 qZ2 ?_;refine zA3 (est st 0 qZ2 ?_);intro w st;dsimp only [zA0,wr] at st;refine a8 ?_;refine vif ?_ ?_;intro hc23;(try simp only [dn] at hc23);rw [if_pos hc23] at hs;refine a1 ?_;refine yfz 1 qU63 qZ2 ?_;refine yl st 0 qA2 ?_;refine vy (jM3 rfl (jF1 (kI5 hC.wd hr3))) ?_;refine yfz 1 qU63 qZ2 ?_;refine zA3 (est st 0 qZ2 ?_);intro w st;dsimp only [zA0,wr] at st;refine a1 ?_
 rotate_left
 intro hc23;(try simp only [dn] at hc23);rw [if_neg (by rw [hc23];simp)] at hs;refine a1 ?_
 all_goals
  refine a3 ?_;refine yla st 0 [_,_,_] qA63 qZ63 ?_;refine zA3 (zC4 st 1 [_,_,_] qZ63 ?_);intro w st;dsimp only [zA0,wr] at st;refine a3 ?_;refine zB7 st (.inl rfl) results88 (by exact .cell 1 rfl rfl qA63 qZ63) ?_;refine .inl ⟨_,rfl,?_⟩;exact⟨_,_,hs,(List.tail_suffix _).trans (hsf3.trans ((List.tail_suffix _).trans hsf)),by omega,(by exact st.rs 2),st.chg,rfl⟩
def kK7 (c : PCtx) (fo : FuncId) (F : List Tok → PR Dc) : Prop := ∀ (r : List Tok) (hr : r <:+ c.ts) (w : World) (hC : PCok c w) (hP : PAt c r w), qP5 Tryz.prog fo [.pointer (some ⟨c.pb, 0, none⟩)] w
    (gH7 c r (F r) [c.pb] w fun d v _=>v=.agg (dcL d).toArray) (gB4 c (F r) [c.pb] w)
def gB6 (e : Nat) (one : List Tok → PR Dc) (n : Nat) (acc : List Dc) (r : List Tok) : PR (List Dc) := if isT [44] r = true then (match zH0 e one n r.tail with
    | .error f=>.error f
    | .ok (l,r')=>.ok (acc++l,r'))
 else match want e [59] r with
  | .error f=>.error f
  | .ok r'=>.ok (acc,r')
theorem gC0 (e:Nat) (one:List Tok→PR Dc) (n:Nat) (ts:List Tok):zH0 e one (n+1) ts=match one ts with
  | .error f=>.error f
  | .ok (d,r)=>gB6 e one n [d] r:=by
 rw [zH0]
 cases one ts with
 | error f=>rfl
 | ok q=>simp only [gB6,List.singleton_append] <;> rfl
theorem kE1 (e:Nat) (one:List Tok→PR Dc) (n:Nat) (acc:List Dc) (r:List Tok) (h:isT [44] r=true):gB6 e one (n+1) acc r=match one r.tail with
  | .error f=>.error f
  | .ok (d,r')=>gB6 e one n (acc++[d]) r':=by
 rw [gB6,if_pos h,gC0]
 cases one r.tail with
 | error f=>rfl
 | ok q=>
  by_cases hc:isT [44] q.2=true
  ·simp only [gB6,if_pos hc]
   cases zH0 e one n q.2.tail with
   | error f=>rfl
   | ok q2=>simp
  ·simp only [gB6,if_neg hc]
   cases want e [59] q.2 with
   | error f=>rfl
   | ok r2=>simp
theorem kF9 (e:Nat) (one:List Tok→PR Dc) (n:Nat) (acc:List Dc) (r:List Tok) (h:isT [44] r=false):gB6 e one n acc r=match want e [59] r with
  | .error f=>.error f
  | .ok r'=>.ok (acc,r'):=by rw [gB6,if_neg (by simp [h])]
theorem gB (c:PCtx) (hR:c.R=75) (fo:FuncId) (F:List Tok→PR Dc) (hcf:∀ (az:Array Value) w,(callFunc fo az).run Tryz.prog w=.ok (.enter fo az) w) (hF:kK7 c fo F) (n:Nat) (r:List Tok) (hn:r.length<n) (hr:r <:+ c.ts) (w:World) (hC:PCok c w) (hP:PAt c r w) :
    qP5 Tryz.prog 87 [.pointer (some ⟨c.pb,0,none⟩),.func (.func fo) [.pointer (some ⟨c.pb,0,none⟩)].toArray #[]] w
  (gH7 c r (zH0 c.e F n r) [c.pb] w fun ds v w'=>∃ oa cap Sq,v=.slice oa ds.length cap∧DcR 63 w' oa cap ds Sq∧Nw w.heap.size Sq) (gB4 c (zH0 c.e F n r) [c.pb] w):=by
 obtain⟨n,rfl⟩:∃ m,n=m+1:=⟨n - 1,by omega⟩
 refine zN0 [_,_] func87 rfl ntmps87 rfl ?_;obtain⟨w0,rfl⟩:∃ w0,w0=w:=⟨_,rfl⟩
 have hP':=hP;dsimp only [PAt,zO3] at hP;have st:=St.of1 [c.pb] hP;have h20:=hC.len;have hl:=zB6 hr;have hs:=gC0 c.e F n r;refine a8 ?_;refine zA3 (qD5 [] rfl rfl rfl hcf rfl (hF r hr _ (hC.k1 st.chg) (by exact st.rs 0)) (by rintro _ w' ⟨f,hf,rfl,ch⟩ a ha;exact And.intro ha (Or.inr ⟨_,rfl,f,by rw [hs,hf],rfl,st.chg.trans ch⟩)) ?_);rintro _ w ⟨d0,r1,hx,hsf,hln,hP1,cw,rfl⟩;replace st:=St.prs (b:=c.pb) st 0 rfl cw (.inl (.head _)) hP1;dsimp only [zA0] at st;rw [hx] at hs;dsimp only at hs;have hr1:=hsf.trans hr;refine zA3 (zI4 (l:=[_,_,_]) st rfl rfl rfl rfl qU23 qZ63 rfl rfl rfl qV63 ?_);intro b8 w hb8 st;replace st:=st.toOwn (len:=1) (size:=3) hb8 rfl (by unfold maxLen;omega);refine a5 ?_;refine zC (w0:=w0) (M:=[c.pb]) (fun (y:Nat×List Dc×List Tok×Option Addr×Nat)=>[(0,.pointer (some ⟨c.pb,0,none⟩)),(1,.func (.func fo) [.pointer (some ⟨c.pb,0,none⟩)].toArray #[]),(5,.slice y.2.2.2.1 y.2.1.length y.2.2.2.2)]) (fun y=>[.own (.slice y.2.2.2.1 y.2.1.length y.2.2.2.2) 63 3 y.2.1.length (y.2.1.flatMap dcL),.blk c.pb (.cells (zO3 c y.2.2.1).toArray c.T (0,0))]) (fun y _=>y.2.2.1 <:+ r∧y.2.2.1.length+y.2.1.length≤r.length∧y.2.2.1.length<y.1+1∧zH0 c.e F (n+1) r=gB6 c.e F y.1 y.2.1 y.2.2.1) (fun y=>y.2.2.1.length) (n,[d0],r1,_,_) ⟨rfl,rfl,rfl,trivial⟩ (by simpa [dcL] using st) ⟨hsf,by simp;omega,by dsimp only;omega,hs⟩ ?_;clear st hs;rintro ⟨m,acc,r2,oq,cq⟩ w ⟨hsf2,hl2,hm2,hs⟩ st;dsimp only at hsf2 hl2 hm2 hs st;have hr2:=hsf2.trans hr;refine a4 ?_;refine zA3 (zA1 [_,_] rfl rfl call86 rfl (zO5 c [44] r2 hr2 _ (hC.k1 st.chg) (by exact st.rs 1)) ?_);rintro _ w ⟨rfl,hP1,cw⟩;replace st:=St.prs (b:=c.pb) st 1 rfl cw (.inl (.head _)) hP1;dsimp only [zA0] at st;refine a2 ?_;refine vif ?_ ?_;intro hc10;(try simp only [dn] at hc10);simp only [hc10,if_true] at st;have ht:=zC2 (zI5 hc10);have hr3:=zM7 hr2;obtain⟨m,rfl⟩:∃ k,m=k+1:=⟨m - 1,by omega⟩
 rw [kE1 _ _ _ _ _ hc10] at hs;refine a6 ?_;refine zA3 (qD5 [] rfl rfl rfl hcf rfl (hF r2.tail hr3 _ (hC.k1 st.chg) (by exact st.rs 1)) (by rintro _ w' ⟨f,hf,rfl,ch⟩ a ha;exact And.intro ha (Or.inr ⟨_,rfl,f,by rw [hs,hf],rfl,st.chg.trans ch⟩)) ?_);rintro _ w ⟨d1,r4,hx4,hsf4,hln4,hP1,cw,rfl⟩;replace st:=St.prs (b:=c.pb) st 1 rfl cw (.inl (.head _)) hP1;dsimp only [zA0] at st;rw [hx4] at hs;dsimp only at hs;have hr4:=hsf4.trans hr3;have h40:=hl2;have h41:=hr.length_le;refine zA3 (zI4 (l:=[_,_,_]) st rfl rfl rfl rfl qU23 qZ63 rfl rfl rfl qV63 ?_);intro b14 w hb14 st;refine zA3 (qE3 (bytes:=32) st 1 0 rfl rfl rfl rfl rfl rfl qU23 Tryz.info63 rfl rfl rfl rfl rfl (by simp) rfl rfl (by unfold maxLen;omega) (by omega) ?_);intro oaQ capQ w st;dsimp only [zA0] at st;replace st:=st.pick [1,2] rfl (by decide);refine a3 ?_;refine zA7 (m,acc++[d1],r4,oaQ,capQ)  (by refine⟨rfl,rfl,?_,trivial⟩;simp [find,put]) (by simpa [dcL] using st) ?_ ?_;exact⟨(hsf4.trans (List.tail_suffix _)).trans hsf2,by simp;omega,by dsimp only;omega,hs⟩;dsimp only;omega;intro hc10;(try simp only [dn] at hc10);simp only [hc10,Bool.false_eq_true,if_false] at st;rw [kF9 _ _ _ _ _ hc10] at hs;refine a8 ?_;refine zA3 (zI4 (l:=[_]) st rfl rfl rfl rfl qU50 qZ9 rfl rfl rfl qV9 ?_);intro b17 w hb17 st;refine zA3 (zD1 [_,_] rfl rfl call145 rfl (zL7 c [[59]] (by simp) _ _ _ _ rfl r2 hr2 _ (hC.k1 st.chg) (by exact st.rs 2) hR (st.res (i:=0) rfl) (by exact st.bne 0 2 (by decide) rfl rfl)) (by rintro _ w' ⟨f,hf,rfl,ch⟩ a ha;rw [zE7] at hf;exact And.intro ha (Or.inr ⟨_,rfl,f,by rw [hs,hf],rfl,st.chg.trans ch⟩)) ?_);rintro _ w ⟨r5,hx,hsfr5,hlnr5,hP1,cw⟩;rw [zE7] at hx;rw [hx] at hs;dsimp only at hs;replace st:=St.prs (b:=c.pb) st 2 rfl cw (.inl (.head _)) hP1;dsimp only [zA0] at st;have hr5:=hsfr5.trans hr2;refine a9 ?_;refine zB7 st (.inl rfl) results87 (.tmp rfl) ?_;refine .inl ⟨_,rfl,?_⟩;have hown:=st.ownNw (i:=1) rfl;exact⟨_,_,hs,hsfr5.trans hsf2,by simp at hlnr5;omega,(by exact st.rs 2),st.chg,oq,cq,obk oq,rfl,⟨hown.1,rfl⟩,hown.2⟩
end Go.Proofs.YtnmhlpnapgojjaaGreatDoor.Pq
/- A parser's trees: operators that wait;new rows of one and of two. -/
namespace Sx
open Go Go.RowKit LexS ParS
abbrev pdC (p:qS8) (oa:Option Addr) (cap:Nat):List Value:=[.int .u8 (p.1:Int),.int .i64 (p.2.1:Int),.int .u8 p.2.2.k,.int .u8 p.2.2.op,.int .i64 p.2.2.wd,str p.2.2.nm,.slice oa p.2.2.kids.length cap,.int .i64 p.2.2.a]
def PdSs (tE:Nat) (w:World):List qS8→List Value→List Nat→Prop
  | [],xs,S=>xs=[]∧S=[]
  | p::W,xs,S=>∃ oa cap S1 xr Sr,xs=xr++pdC p oa cap∧S=Sr++S1∧ExR tE w oa cap p.2.2.kids S1∧PdSs tE w W xr Sr
section
variable {tE:Nat} {w w':World}
theorem PdSs.len:∀ {W:List qS8} {xs:List Value} {S:List Nat},PdSs tE w W xs S→xs.length=W.length*8
  | [],xs,S,h=>by rw [h.1];rfl
  | p::W,xs,S,⟨oa,cap,S1,xr,Sr,e1,e2,h1,h2⟩=>by
    have:=PdSs.len h2
    rw [e1];simp;omega
theorem PdSs.lt:∀ {W:List qS8} {xs:List Value} {S:List Nat},PdSs tE w W xs S→∀ b∈S,b<w.heap.size
  | [],xs,S,h,b,hb=>by rw [h.2] at hb;simp at hb
  | p::W,xs,S,⟨oa,cap,S1,xr,Sr,e1,e2,h1,h2⟩,b,hb=>by
    rw [e2] at hb
    rcases List.mem_append.1 hb with h|h
    · exact PdSs.lt h2 b h
    · exact h1.lt b h
theorem PdSs.kept:∀ {W:List qS8} {xs:List Value} {S:List Nat},PdSs tE w W xs S→(∀ b∈S,w'.heap[b]?=w.heap[b]?)→PdSs tE w' W xs S
  | [],xs,S,h,_=>h
  | p::W,xs,S,⟨oa,cap,S1,xr,Sr,e1,e2,h1,h2⟩,hk=>by
    subst e2
    exact⟨oa,cap,S1,xr,Sr,e1,rfl,h1.kept (fun b hb=>hk b (List.mem_append.2 (.inr hb))),PdSs.kept h2 (fun b hb=>hk b (List.mem_append.2 (.inl hb)))⟩
theorem gW {base:Nat} {W:List qS8} {xs:List Value} {S:List Nat} (h:PdSs tE w W xs S):(Res.tree S fun w=>PdSs tE w W xs S).holds base w:=zD2 h h.lt (fun a b h hk=>h.kept hk)
theorem qY6 {oa:Option Addr} {cap:Nat} {es:List Ex} {S:List Nat}:Loc S fun w=>ExR tE w oa cap es S:=qG2 fun a b h hk=>h.kept hk
theorem jA6 {W:List qS8} {xs:List Value} {S:List Nat}:Loc S fun w=>PdSs tE w W xs S:=qG2 fun a b h hk=>h.kept hk
theorem kQ {b E sz len:Nat} {l:List Value} (h:w.heap[b]?=some (.cells l.toArray E (0,0))) (hlen:l.length=len*sz) (hm:len≤maxLen):w.ownsRow 0 E sz (.slice (some ⟨b,0,none⟩) len len) len l:=by
  refine⟨hlen,.inr ⟨b,len,l.toArray,rfl,Nat.zero_le _,h,Nat.le_refl _,hm,by simpa using hlen,?_⟩⟩
  rw [← hlen]
  simp
theorem qE7 {b:Nat} {x:Ex} {ox:Option Addr} {cx:Nat} {S:List Nat} (h:w.heap[b]?=some (.cells (exC x ox cx).toArray tE (0,0))) (hx:ExR tE w ox cx x.kids S):ExR tE w (some ⟨b,0,none⟩) 1 [x] (b::S):=
  ⟨exC x ox cx,S,kQ h rfl (by simp [maxLen]),rfl,ExSs_one.2 (ExS_iff.2 ⟨ox,cx,rfl,hx⟩)⟩
theorem kL2 {b:Nat} {x y:Ex} {ox oy:Option Addr} {cx cy:Nat} {S T:List Nat} (h:w.heap[b]?=some (.cells (exC x ox cx++exC y oy cy).toArray tE (0,0))) (hx:ExR tE w ox cx x.kids S) (hy:ExR tE w oy cy y.kids T) :
    ExR tE w (some ⟨b,0,none⟩) 2 [x,y] (b::(S++T)):=
  ⟨exC x ox cx++exC y oy cy,S++T,kQ h rfl (by simp [maxLen]),rfl,(ExSs_app (a:=[x]) (b:=[y])).2 ⟨_,_,S,T,rfl,rfl,ExSs_one.2 (ExS_iff.2 ⟨ox,cx,rfl,hx⟩),ExSs_one.2 (ExS_iff.2 ⟨oy,cy,rfl,hy⟩)⟩⟩
end
section
variable {w w' w0:World} {M:List Nat} {hs:List Res}
theorem kX6 {base E size n m cap:Nat} {oa:Option Addr} {xs ys:List Value} (h:w.ownsRow base E size (.slice oa n cap) n (xs++ys)) (hm:m≤n) (hx:xs.length=m*size):w.ownsRow base E size (.slice oa m cap) m xs:=by
  rcases h with ⟨hl,h⟩
  refine⟨hx,?_⟩
  rcases h with ⟨e,h0⟩|⟨g,c,cur,e,hb,hg,hnc,hcm,hcs,htake⟩
  · simp only [Value.slice.injEq] at e
    obtain⟨rfl,e2,rfl⟩:=e
    obtain rfl:m=0:=by omega
    exact .inl ⟨rfl,rfl⟩
  · simp only [Value.slice.injEq] at e
    obtain⟨rfl,-,rfl⟩:=e
    refine .inr ⟨g,cap,cur,rfl,hb,hg,by omega,hcm,hcs,?_⟩
    have h1:cur.toList.take (n*size)=xs++ys:=by simpa using htake
    have h2:m*size≤n*size:=Nat.mul_le_mul_right _ hm
    have h3:cur.toList.take (m*size)=xs:=by
      have:cur.toList.take (m*size)=(cur.toList.take (n*size)).take (m*size):=by rw [List.take_take,Nat.min_eq_left h2]
      rw [this,h1,← hx,List.take_left]
    simpa using h3
theorem jF {base E size n cap:Nat} {oa:Option Addr} {xs:List Value} (h:w.ownsRow base E size (.slice oa n cap) n xs):n≤cap:=by
  rcases h.2 with ⟨e,h0⟩|⟨g,c,cur,e,hb,hg,hnc,_⟩
  · omega
  · simp only [Value.slice.injEq] at e;omega
theorem gT9 {base E size n cap:Nat} {oa:Option Addr} {xs:List Value} (h:w.ownsRow base E size (.slice oa n cap) n xs) (hn:0<n):∃ g,oa=some ⟨g,0,none⟩:=by
  obtain⟨g,c,e,-⟩:=qI4 h hn
  simp only [Value.slice.injEq] at e
  exact⟨g,e.1⟩
theorem kI {α:Type} {xr l:List α} {k j:Nat} (h:xr.length=k):(xr++l)[k+j]?=l[j]?:=by rw [List.getElem?_append_right (by omega)];congr 1;omega
theorem St.shrink {E size n m cap:Nat} {oa:Option Addr} {xs ys:List Value} (st:St w0 M (.own (.slice oa n cap) E size n (xs++ys)::hs) w) (hm:m≤n) (hx:xs.length=m*size):St w0 M (.own (.slice oa m cap) E size m xs::hs) w:=
  st.turn0 (fun k hk=>by rw [Res.at?,zE8] at hk ⊢;exact hk) (kX6 (st.res (i:=0) rfl) hm hx)
end
def gK1 (u:List Tok→PR Ex) (n:Nat) (W:List qS8) (x:Ex) (r:List Tok):PR Ex:=match zN5 u n r with
  | .error f=>.error f
  | .ok (l,r')=>.ok (qS5 l W x,r')
theorem kC7 (u:List Tok→PR Ex) (r:List Tok):zX4 u r=match u r with
    | .error f=>.error f
    | .ok (x,r1)=>gK1 u (r1.length+1) [] x r1:=by
  unfold zX4 gK1
  cases u r with
  | error f=>rfl
  | ok p=>rfl
theorem gX7:∀ (lv lv':Int) (W:List qS8) (x:Ex),qL4 true lv W x=qL4 true lv' W x
  | lv,lv',[],x=>rfl
  | lv,lv',(op,a,l)::W,x=>by simp only [qL4,true_or,if_true];exact gX7 lv lv' W _
theorem kC0 {u:List Tok→PR Ex} {n:Nat} {W:List qS8} {x z:Ex} {r:List Tok} {lv:Int} (h:opT (here r)=none) (hz:qL4 true lv W x=([],z)):gK1 u (n+1) W x r=.ok (z,r):=by
  simp only [gK1,zN5,h,qS5]
  rw [gX7 0 lv,hz]
theorem kB8 {u:List Tok→PR Ex} {n:Nat} {W W':List qS8} {x z:Ex} {r:List Tok} {op:Nat} (h:opT (here r)=some op) (hz:qL4 false (zI8 (op:Int)) W x=(W',z)):gK1 u (n+1) W x r=match u r.tail with
    | .error f=>.error f
    | .ok (y,r')=>gK1 u n ((op,(here r).at_,z)::W') y r':=by
  simp only [gK1,zN5,h]
  cases hu:u r.tail with
  | error f=>rfl
  | ok p=>
    simp only
    cases hf:zN5 u n p.2 with
    | error f=>rfl
    | ok q=>simp only [qS5];rw [hz]
structure ESt where
  W:List qS8
  x:Ex
  r:List Tok
  n:Nat
  ow:Option Addr
  cw:Nat
  xs:List Value
  SW:List Nat
  ox:Option Addr
  cx:Nat
  Sx:List Nat
end Sx
