/- A part of the proof: contracts of functions and plain laws; each theorem says its own conditions. -/
import Derived.Test.YtnmhlpnapgojjaaGreatDoorPrettyLaidAl
import Derived.Test.YtnmhlpnapgojjaaGreatDoorPrettyLaidK3
import Derived.Test.YtnmhlpnapgojjaaGreatDoorPrettyLaidK2
import Derived.Test.YtnmhlpnapgojjaaGreatDoorPrettyLaidK13
import Derived.Test.YtnmhlpnapgojjaaGreatDoorPrettyLaidK0
import Derived.Test.YtnmhlpnapgojjaaGreatDoorPrettyLaidTryzShelfP
set_option linter.unusedVariables false
set_option linter.unusedSimpArgs false
namespace Go.Proofs.YtnmhlpnapgojjaaGreatDoor.Pq
open Go.RowKit Sx LexS ParS _root_.Go.Proofs.Tryz
theorem Tryz.info67:Tryz.prog.info? 67=some Tryz.t67:=by kernel_rfl
def HB (w:World) (l:List Sm) (v:Value) (w':World):Prop:=∃ oq cq Sq,v=.slice oq l.length cq∧SmR 42 67 w' oq cq l Sq∧Nw w.heap.size Sq
def HS (w:World) (s:Sm) (v:Value) (w':World):Prop:=∃ oe ob ol ce cb cl Sq,v=.agg (smC s oe ob ol ce cb cl).toArray∧SmS 42 67 w' s (smC s oe ob ol ce cb cl) Sq∧Nw w.heap.size Sq
def kT (fo : FuncId) (c : PCtx) (d : Nat) (F : List Tok → PR (List Sm)) : Prop := ∀ (r : List Tok) (hr : r <:+ c.ts) (w : World) (hC : PCok c w) (hP : PAt c r w), qP5 Tryz.prog fo [.pointer (some ⟨c.pb, 0, none⟩), .int .i64 (d : Int)] w
    (gH7 c r (F r) [c.pb] w (HB w)) (gB4 c (F r) [c.pb] w)
def kV3 (c : PCtx) (d : Nat) (F : List Tok → PR Sm) : Prop := ∀ (r : List Tok) (hr : r <:+ c.ts) (w : World) (hC : PCok c w) (hP : PAt c r w), qP5 Tryz.prog 201 [.pointer (some ⟨c.pb, 0, none⟩), .int .i64 (d : Int)] w
    (gH7 c r (F r) [c.pb] w (HS w)) (gB4 c (F r) [c.pb] w)
theorem zP8 {w:World} {base:Nat} {s:Sm} {l:List Value} {S:List Nat} (h:SmS 42 67 w s l S):(Res.tree S fun w=>SmS 42 67 w s l S).holds base w:=zD2 h h.lt (fun a b h hk=>h.kept hk)
theorem qI0 {w:World} {base:Nat} {s:List Sm} {l:List Value} {S:List Nat} (h:SmSs 42 67 w s l S):(Res.tree S fun w=>SmSs 42 67 w s l S).holds base w:=zD2 h h.lt (fun a b h hk=>h.kept hk)
theorem gM2 {e m:Nat} {r:List Tok} (h:isT [123] r=true→m≠0):gN e m r=match want e [123] r with
  | .error f=>.error f
  | .ok r1=>zN3 (zO4 e (m - 1)) (r1.length+1) r1:=by
 cases m with
 | zero=>
  have hF:isT [123] r=false:=by cases hc:isT [123] r with|false=>rfl|true=>exact absurd rfl (h hc)
  rw [qT4 hF]
  simp only [gN,hF,Bool.false_eq_true,if_false] <;> rfl
 | succ m=>rfl
set_option maxHeartbeats 1000000 in
theorem gI6 (c:PCtx) (hR:c.R=75) (d m n:Nat) (hS:kV3 c d (zO4 c.e m)) (r:List Tok) (hn:r.length<n) (hr:r <:+ c.ts) (w:World) (hC:PCok c w) (hP:PAt c r w):qP5 Tryz.prog 147 [.pointer (some ⟨c.pb,0,none⟩),.int .i64 (d:Int)] w
    (gH7 c r (zN3 (zO4 c.e m) n r) [c.pb] w (HB w)) (gB4 c (zN3 (zO4 c.e m) n r) [c.pb] w):=by
 refine zN0 [_,_] func147 rfl ntmps147 rfl ?_;obtain⟨w0,rfl⟩:∃ w0,w0=w:=⟨_,rfl⟩
 have hP':=hP;dsimp only [PAt,zO3] at hP;have st:=St.of1 [c.pb] hP;have h20:=hC.len;have hl:=zB6 hr;have hs:=kJ5 (zO4 c.e m) n r;replace st:=St.pushR (r:=.tree [] (fun w=>SmSs 42 67 w [] [] [])) st (Chg.refl _ _) (qI0 (by simp [SmSs])) (by simp [Res.at?]);replace st:=st.ownNil 67 7;refine a12 ?_;refine zC (w0:=w0) (M:=[c.pb]) (fun (y:List Sm×List Tok×Nat×Option Addr×Nat×List Value×List Nat)=>[(0,.pointer (some ⟨c.pb,0,none⟩)),(1,.int .i64 (d:Int)),(5,.slice y.2.2.2.1 y.1.length y.2.2.2.2.1)]) (fun y=>[.own (.slice y.2.2.2.1 y.1.length y.2.2.2.2.1) 67 7 y.1.length y.2.2.2.2.2.1,.tree y.2.2.2.2.2.2 (fun w=>SmSs 42 67 w y.1 y.2.2.2.2.2.1 y.2.2.2.2.2.2),.blk c.pb (.cells (zO3 c y.2.1).toArray c.T (0,0))]) (fun y _=>y.2.1 <:+ r∧y.2.1.length+y.1.length≤r.length∧y.2.1.length<y.2.2.1∧Nw w0.heap.size y.2.2.2.2.2.2∧zN3 (zO4 c.e m) n r=gN0 (zO4 c.e m) y.2.2.1 y.1 y.2.1) (fun y=>y.2.1.length) ([],r,n,none,0,[],[]) ⟨rfl,rfl,rfl,trivial⟩ st ⟨List.suffix_refl _,by simp,hn,Nw.nil,hs⟩ ?_;clear st hs;rintro ⟨acc,r1,k,oq,cq,xs,Sq⟩ w ⟨hsf1,hl1,hk1,hSq,hs⟩ st;dsimp only at hsf1 hl1 hk1 hSq hs st;have hr1:=hsf1.trans hr;obtain⟨k,rfl⟩:∃ j,k=j+1:=⟨k - 1,by omega⟩
 refine a4 ?_;refine zA3 (zA1 [_,_] rfl rfl call86 rfl (zO5 c [125] r1 hr1 _ (hC.k1 st.chg) (by exact st.rs 2)) ?_);rintro _ w ⟨rfl,hP1,cw⟩;replace st:=St.prs (b:=c.pb) st 2 rfl cw (.inl (.head _)) hP1;refine a3 ?_;refine vif ?_ ?_;intro hc8;have hF:isT [125] r1=false:=by simpa using hc8
 simp only [hF,Bool.false_eq_true,if_false] at st;rw [kE hF] at hs;refine a7 ?_;refine zA3 (zD1 [_,_] rfl rfl call201 rfl (hS r1 hr1 _ (hC.k1 st.chg) (by exact st.rs 2)) (by rintro _ w' ⟨f,hf,rfl,ch⟩ a ha;exact And.intro ha (Or.inr ⟨_,rfl,f,by rw [hs,hf],rfl,st.chg.trans ch⟩)) ?_);rintro _ w ⟨s,r2,hx,hsfr2,hlnr2,hP1,cw,oe,ob,ol,ce,cb,cl,Ss,rfl,hQ,hN⟩;have hNSs:=hN.le st.chg.size;replace st:=St.prsT (b:=c.pb) st 2 rfl cw (.inl (.head _)) hP1 (zP8 hQ) hN.2;rw [hx] at hs;dsimp only at hs;have h41:=hr.length_le;refine zA3 (zI4 (l:=[_,_,_,_,_,_,_]) st rfl rfl rfl rfl qU65 qZ67 rfl rfl rfl qV67 ?_);intro b13 w hb13 st;refine zA3 (qE3 (bytes:=120) st 2 0 rfl rfl rfl rfl rfl rfl qU65 Tryz.info67 rfl rfl rfl rfl rfl (by simp) rfl rfl (by unfold maxLen;omega) (by omega) ?_);intro oaQ capQ w st;have hS2:=SmSs.snoc (st.res (i:=3) rfl).1 (st.res (i:=1) rfl).1;have hN2:=hSq.app hNSs (st.ne (i:=3) (j:=1) (by decide) rfl rfl);replace st:=((st.pick [3,1,2,4] rfl (by decide)).join (q:=.tree (Sq++Ss) fun w=>SmSs 42 67 w (acc++[s]) (xs++smC s oe ob ol ce cb cl) (Sq++Ss)) (fun k hk=>List.mem_append.1 hk) (qI0 hS2)).pick [1,0,2] rfl (by decide);refine a3 ?_;refine zA7 (acc++[s],r2,k,oaQ,capQ,xs++smC s oe ob ol ce cb cl,Sq++Ss)  (by refine⟨rfl,rfl,?_,trivial⟩;simp [find,put]) (by simpa using st) ?_ ?_;exact⟨hsfr2.trans hsf1,by simp;omega,by dsimp only;omega,hN2,hs⟩;dsimp only;omega;intro hc8;have hT:isT [125] r1=true:=by simpa using hc8
 simp only [hT,if_true] at st;rw [kN hT] at hs;have ht:=zC2 (zI5 hT);refine a12 ?_;refine zB7 st (.inl rfl) results147 (.tmp rfl) ?_;refine .inl ⟨_,rfl,?_⟩;have hown:=st.ownNw (i:=0) rfl;exact⟨acc,_,hs,(List.tail_suffix _).trans hsf1,by omega,(by exact st.rs 2),st.chg,oq,cq,obk oq++Sq,rfl,⟨xs,Sq,hown.1,rfl,(st.res (i:=1) rfl).1⟩,hown.2.app hSq (fun b hb=>st.ne (i:=0) (j:=1) (by decide) rfl rfl b (by simpa [Res.at?,zE8] using hb))⟩
theorem gL7 (c:PCtx) (hR:c.R=75) (d m:Nat) (hd:d+m=64) (hB:∀ k,m=k+1→kV3 c (d+1) (zO4 c.e k)):kT 261 c d (gN c.e m):=by
 intro r hr w hC hP;refine zN0 [_,_] func261 rfl ntmps261 rfl ?_;obtain⟨w0,rfl⟩:∃ w0,w0=w:=⟨_,rfl⟩
 have hP':=hP;dsimp only [PAt,zO3] at hP;have st:=St.of1 [c.pb] hP;have h20:=hC.len;have hl:=zB6 hr;refine a9 ?_;refine zA3 (zA1 [_,_] rfl rfl call90 rfl (qP2 c [123] r hr _ (hC.k1 st.chg) (by exact st.rs 0)) ?_);rintro _ w ⟨rfl,cw⟩;replace st:=st.call0 cw;refine vmb ?_ ?_;intro hg7;(try simp only [dn] at hg7);refine a5 ?_;refine vif ?_ ?_;intro hc10;(try simp only [dn] at hc10);have hd64:d=64:=by omega
 obtain rfl:m=0:=by omega
 have hs:gN c.e 0 r=fail c.e 3 r:=by simp only [gN];rw [if_pos hg7]
 refine a2 ?_;refine zA3 (zD1 [_,_] rfl rfl call50 rfl (zU3 c 3 r hr _ (hC.k1 st.chg) (by exact st.rs 0) hR) (by rintro _ w' ⟨rfl,ch⟩ a ha;exact And.intro ha (Or.inr ⟨_,rfl,(atT c.e r,3),by rw [hs];rfl,rfl,st.chg.trans ch.of_nil⟩)) (fun _ _ h=>h.elim));intro hc10;(try simp only [dn] at hc10);have hm0:isT [123] r=true→m≠0:=fun _=>by omega
 have hs:=gM2 (e:=c.e) hm0;refine a5 ?_;refine zA3 (zI4 (l:=[_]) st rfl rfl rfl rfl qU50 qZ9 rfl rfl rfl qV9 ?_);intro b14 w hb14 st;refine zA3 (zD1 [_,_] rfl rfl call145 rfl (zL7 c [[123]] (by simp) _ _ _ _ rfl r hr _ (hC.k1 st.chg) (by exact st.rs 1) hR (st.res (i:=0) rfl) (by exact st.bne 0 1 (by decide) rfl rfl)) (by rintro _ w' ⟨f,hf,rfl,ch⟩ a ha;rw [zE7] at hf;exact And.intro ha (Or.inr ⟨_,rfl,f,by rw [hs,hf],rfl,st.chg.trans ch⟩)) ?_);rintro _ w ⟨r1,hx,hsfr1,hlnr1,hP1,cw⟩;rw [zE7] at hx;rw [hx] at hs;dsimp only at hs;replace st:=St.prs (b:=c.pb) st 1 rfl cw (.inl (.head _)) hP1;dsimp only [zA0] at st;have hr1:=hsfr1.trans hr;obtain⟨k,rfl⟩:∃ k,m=k+1:=⟨m - 1,by have:=hm0 (qF (by assumption)).1;omega⟩
 rw [Nat.add_sub_cancel] at hs;refine a6 ?_;refine vy (yin ((d+1:Nat):Int)) ?_;refine zA3 (zD1 [_,_] rfl rfl call147 rfl (gI6 c hR (d+1) k (r1.length+1) (hB k rfl) r1 (Nat.lt_succ_self _) hr1 _ (hC.k1 st.chg) (by exact st.rs 1)) (by rintro _ w' ⟨f,hf,rfl,ch⟩ a ha;exact And.intro ha (Or.inr ⟨_,rfl,f,by rw [hs,hf],rfl,st.chg.trans ch⟩)) ?_);rintro _ w ⟨l,r2,hx,hsfr2,hlnr2,hP1,cw,ob,cb,Sb,rfl,hQ,hN⟩;have hNSb:=hN.le st.chg.size;replace st:=St.prsT (b:=c.pb) st 1 rfl cw (.inl (.head _)) hP1 (zM8 hQ) hN.2;dsimp only [zA0] at st;rw [hx] at hs;refine a4 ?_;refine zB7 st (.inl rfl) results261 (.tmp rfl) ?_;refine .inl ⟨_,rfl,?_⟩;exact⟨l,r2,hs,hsfr2.trans hsfr1,by simp at hlnr1;omega,(by exact st.rs 2),st.chg,ob,cb,Sb,rfl,(st.res (i:=0) rfl).1,hNSb⟩;intro hg7;(try simp only [dn] at hg7);have hm0:isT [123] r=true→m≠0:=fun h=>by rw [hg7] at h;cases h
 have hs:=gM2 (e:=c.e) hm0;refine a11 ?_;refine zA3 (zI4 (l:=[_]) st rfl rfl rfl rfl qU50 qZ9 rfl rfl rfl qV9 ?_);intro b14 w hb14 st;refine zA3 (zD1 [_,_] rfl rfl call145 rfl (zL7 c [[123]] (by simp) _ _ _ _ rfl r hr _ (hC.k1 st.chg) (by exact st.rs 1) hR (st.res (i:=0) rfl) (by exact st.bne 0 1 (by decide) rfl rfl)) (by rintro _ w' ⟨f,hf,rfl,ch⟩ a ha;rw [zE7] at hf;exact And.intro ha (Or.inr ⟨_,rfl,f,by rw [hs,hf],rfl,st.chg.trans ch⟩)) ?_);rintro _ w ⟨r1,hx,hsfr1,hlnr1,hP1,cw⟩;rw [zE7] at hx;rw [hx] at hs;dsimp only at hs;replace st:=St.prs (b:=c.pb) st 1 rfl cw (.inl (.head _)) hP1;dsimp only [zA0] at st;have hr1:=hsfr1.trans hr;obtain⟨k,rfl⟩:∃ k,m=k+1:=⟨m - 1,by have:=hm0 (qF (by assumption)).1;omega⟩
 rw [Nat.add_sub_cancel] at hs;refine a6 ?_;refine vy (yin ((d+1:Nat):Int)) ?_;refine zA3 (zD1 [_,_] rfl rfl call147 rfl (gI6 c hR (d+1) k (r1.length+1) (hB k rfl) r1 (Nat.lt_succ_self _) hr1 _ (hC.k1 st.chg) (by exact st.rs 1)) (by rintro _ w' ⟨f,hf,rfl,ch⟩ a ha;exact And.intro ha (Or.inr ⟨_,rfl,f,by rw [hs,hf],rfl,st.chg.trans ch⟩)) ?_);rintro _ w ⟨l,r2,hx,hsfr2,hlnr2,hP1,cw,ob,cb,Sb,rfl,hQ,hN⟩;have hNSb:=hN.le st.chg.size;replace st:=St.prsT (b:=c.pb) st 1 rfl cw (.inl (.head _)) hP1 (zM8 hQ) hN.2;dsimp only [zA0] at st;rw [hx] at hs;refine a4 ?_;refine zB7 st (.inl rfl) results261 (.tmp rfl) ?_;refine .inl ⟨_,rfl,?_⟩;exact⟨l,r2,hs,hsfr2.trans hsfr1,by simp at hlnr1;omega,(by exact st.rs 2),st.chg,ob,cb,Sb,rfl,(st.res (i:=0) rfl).1,hNSb⟩
set_option maxHeartbeats 1000000 in
theorem kB7 (c:PCtx) (hR:c.R=75) (hg:c.g=0) (d:Nat) (blk:List Tok→PR (List Sm)) (hB:kT 261 c d blk) (a:Nat) (r:List Tok) (hr:r <:+ c.ts) (w:World) (hC:PCok c w) (hP:PAt c r w) (xb:Nat) (hX:w.heap[xb]?=some (.cells (jF8 (a:Int)).toArray 67 (0,0))) (hne:c.pb≠xb) (hxn:c.n0≤xb):qP5 Tryz.prog 245 [.pointer (some ⟨c.pb,0,none⟩),.pointer (some ⟨xb,0,none⟩),.int .i64 (d:Int)] w
    (gH7 c r (choiceP c.e blk a r) [c.pb,xb] w (fun s _ w'=>jI1 42 67 xb w.heap.size s w')) (gB4 c (choiceP c.e blk a r) [c.pb,xb] w):=by
 refine zN0 [_,_,_] func245 rfl ntmps245 rfl ?_;obtain⟨w0,rfl⟩:∃ w0,w0=w:=⟨_,rfl⟩
 have hP':=hP;dsimp only [PAt,zO3] at hP;have st:=St.of2 [c.pb,xb] hP hX hne;have KC:∀ {w'},Chg [c.pb,xb] w0 w'→PCok c w':=fun ch=>hC.k2 ch hxn
 have h20:=hC.len;have hl:=zB6 hr;have hs:=choiceP.eq_1 c.e blk a r;refine a5 ?_;refine zA3 (zD1 [_] rfl rfl call260 rfl (gL4 c hR hg r hr _ (KC st.chg) (by exact st.rs 0)) (by rintro _ w' ⟨f,hf,rfl,ch⟩ a ha;exact And.intro ha (Or.inr ⟨_,rfl,f,by rw [hs,hf],rfl,st.chg.trans (ch.mono (by simp))⟩)) ?_);rintro _ w ⟨x,r1,hx,hsfr1,hlnr1,hP1,cw,ox,cx,Sx,rfl,hQ,hN⟩;have hNSx:=hN.le st.chg.size;replace st:=St.prsT (b:=c.pb) st 0 rfl cw (.inl (.head _)) hP1 (zF9 hQ) hN.2;rw [hx] at hs;dsimp only at hs;have hr1:=hsfr1.trans hr;refine a1 ?_;refine vy (zC3 rfl qU67 rfl rfl qZ64 rfl) ?_;refine zA3 (est st 2 qZ64 ?_);intro w st;refine a1 ?_;refine yfz 3 qU67 qZ40 ?_;refine zA3 (est st 2 qZ40 ?_);intro w st;refine a7 ?_;refine zA3 (zD1 [_,_] rfl rfl call261 rfl (hB r1 hr1 _ (KC st.chg) (by exact st.rs 1)) (by rintro _ w' ⟨f,hf,rfl,ch⟩ a ha;exact And.intro ha (Or.inr ⟨_,rfl,f,by rw [hs,hf],rfl,st.chg.trans (ch.mono (by simp))⟩)) ?_);rintro _ w ⟨l1,r2,hx,hsfr2,hlnr2,hP1,cw,ob,cb,Sb,rfl,hQ,hN⟩;have hNSb:=hN.le st.chg.size;replace st:=St.prsT (b:=c.pb) st 1 rfl cw (.inl (.head _)) hP1 (zM8 hQ) hN.2;rw [hx] at hs;dsimp only at hs;have hr2:=hsfr2.trans hr1;refine a1 ?_;refine yfz 4 qU67 qZ65 ?_;refine zA3 (est st 3 qZ65 ?_);intro w st;refine a5 ?_;refine zA3 (zA1 [_,_] rfl rfl call86 rfl (zO5 c zS6 r2 hr2 _ (KC st.chg) (by exact st.rs 2)) ?_);rintro _ w ⟨rfl,hP1,cw⟩;replace st:=St.prs (b:=c.pb) st 2 rfl cw (.inl (.head _)) hP1;refine a2 ?_;refine vif ?_ ?_;intro hc21;simp only [hc21,if_true] at st hs;have ht:=zC2 (zI5 hc21);have hr2t:=zM7 hr2;refine a4 ?_;refine zA3 (zD1 [_,_] rfl rfl call261 rfl (hB r2.tail hr2t _ (KC st.chg) (by exact st.rs 2)) (by rintro _ w' ⟨f,hf,rfl,ch⟩ a ha;exact And.intro ha (Or.inr ⟨_,rfl,f,by rw [hs,hf],rfl,st.chg.trans (ch.mono (by simp))⟩)) ?_);rintro _ w ⟨l2,r3,hx,hsfr3,hlnr3,hP1,cw,ol,cl,Sl,rfl,hQ,hN⟩;have hNSl:=hN.le st.chg.size;replace st:=St.prsT (b:=c.pb) st 2 rfl cw (.inl (.head _)) hP1 (zM8 hQ) hN.2;rw [hx] at hs;dsimp only at hs;have hr3:=hsfr3.trans hr2t;refine a1 ?_;refine yfz 5 qU67 qZ65 ?_;refine zA3 (est st 4 qZ65 ?_);intro w st;refine a1 ?_;refine zD4 (.inr rfl) results245 ?_;refine .inl ⟨_,rfl,?_⟩;exact⟨_,r3,hs,hsfr3.trans ((List.tail_suffix _).trans (hsfr2.trans hsfr1)),by omega,(by exact st.rs 3),st.chg,ox,ob,ol,cx,cb,cl,Sx,Sb,Sl,(by exact st.rs 4),(st.res (i:=2) rfl).1,(st.res (i:=1) rfl).1,(st.res (i:=0) rfl).1,hNSx.app (hNSb.app hNSl (st.ne (i:=1) (j:=0) (by decide) rfl rfl)) (fun b hb hb'=>(List.mem_append.1 hb').elim (st.ne (i:=2) (j:=1) (by decide) rfl rfl b hb) (st.ne (i:=2) (j:=0) (by decide) rfl rfl b hb))⟩;intro hc21;simp only [hc21,Bool.false_eq_true,if_false] at st hs;refine a1 ?_;refine zD4 (.inr rfl) results245 ?_
 refine .inl ⟨_,rfl,?_⟩;exact⟨_,r2,hs,hsfr2.trans hsfr1,by omega,(by exact st.rs 2),st.chg,ox,ob,none,cx,cb,0,Sx,Sb,[],(by exact st.rs 3),(st.res (i:=1) rfl).1,(st.res (i:=0) rfl).1,zL3,by rw [List.append_nil];exact hNSx.app hNSb (st.ne (i:=1) (j:=0) (by decide) rfl rfl)⟩
theorem kX4 (c:PCtx) (hR:c.R=75) (hg:c.g=0) (d:Nat) (blk:List Tok→PR (List Sm)) (hB:kT 261 c d blk) (a:Nat) (r:List Tok) (hr:r <:+ c.ts) (w:World) (hC:PCok c w) (hP:PAt c r w) (xb:Nat) (hX:w.heap[xb]?=some (.cells (jF8 (a:Int)).toArray 67 (0,0))) (hne:c.pb≠xb) (hxn:c.n0≤xb):qP5 Tryz.prog 246 [.pointer (some ⟨c.pb,0,none⟩),.pointer (some ⟨xb,0,none⟩),.int .i64 (d:Int)] w
    (gH7 c r (loopP c.e blk a r) [c.pb,xb] w (fun s _ w'=>jI1 42 67 xb w.heap.size s w')) (gB4 c (loopP c.e blk a r) [c.pb,xb] w):=by
 refine zN0 [_,_,_] func246 rfl ntmps246 rfl ?_;obtain⟨w0,rfl⟩:∃ w0,w0=w:=⟨_,rfl⟩
 have hP':=hP;dsimp only [PAt,zO3] at hP;have st:=St.of2 [c.pb,xb] hP hX hne;have KC:∀ {w'},Chg [c.pb,xb] w0 w'→PCok c w':=fun ch=>hC.k2 ch hxn
 have h20:=hC.len;have hl:=zB6 hr;have hs:=loopP.eq_1 c.e blk a r;refine a5 ?_;refine zA3 (zD1 [_] rfl rfl call260 rfl (gL4 c hR hg r hr _ (KC st.chg) (by exact st.rs 0)) (by rintro _ w' ⟨f,hf,rfl,ch⟩ a ha;exact And.intro ha (Or.inr ⟨_,rfl,f,by rw [hs,hf],rfl,st.chg.trans (ch.mono (by simp))⟩)) ?_);rintro _ w ⟨x,r1,hx,hsfr1,hlnr1,hP1,cw,ox,cx,Sx,rfl,hQ,hN⟩;have hNSx:=hN.le st.chg.size;replace st:=St.prsT (b:=c.pb) st 0 rfl cw (.inl (.head _)) hP1 (zF9 hQ) hN.2;rw [hx] at hs;dsimp only at hs;have hr1:=hsfr1.trans hr;refine a1 ?_;refine vy (zC3 rfl qU67 rfl rfl qZ64 rfl) ?_;refine zA3 (est st 2 qZ64 ?_);intro w st;refine a1 ?_;refine yfz 3 qU67 qZ40 ?_;refine zA3 (est st 2 qZ40 ?_);intro w st;refine a6 ?_;refine zA3 (zD1 [_,_] rfl rfl call261 rfl (hB r1 hr1 _ (KC st.chg) (by exact st.rs 1)) (by rintro _ w' ⟨f,hf,rfl,ch⟩ a ha;exact And.intro ha (Or.inr ⟨_,rfl,f,by rw [hs,hf],rfl,st.chg.trans (ch.mono (by simp))⟩)) ?_);rintro _ w ⟨l1,r2,hx,hsfr2,hlnr2,hP1,cw,ob,cb,Sb,rfl,hQ,hN⟩;have hNSb:=hN.le st.chg.size;replace st:=St.prsT (b:=c.pb) st 1 rfl cw (.inl (.head _)) hP1 (zM8 hQ) hN.2;rw [hx] at hs;dsimp only at hs;have hr2:=hsfr2.trans hr1;refine a1 ?_;refine yfz 4 qU67 qZ65 ?_;refine zA3 (est st 3 qZ65 ?_);intro w st;refine a1 ?_;refine zD4 (.inr rfl) results246 ?_;refine .inl ⟨_,rfl,?_⟩;exact⟨_,r2,hs,hsfr2.trans hsfr1,by omega,(by exact st.rs 2),st.chg,ox,ob,none,cx,cb,0,Sx,Sb,[],(by exact st.rs 3),(st.res (i:=1) rfl).1,(st.res (i:=0) rfl).1,zL3,by rw [List.append_nil];exact hNSx.app hNSb (st.ne (i:=1) (j:=0) (by decide) rfl rfl)⟩
theorem kI7 (c:PCtx) (hR:c.R=75) (hg:c.g=0) (d:Nat) (blk:List Tok→PR (List Sm)) (hB:kT 261 c d blk) (a:Nat) (r:List Tok) (hr:r <:+ c.ts) (w:World) (hC:PCok c w) (hP:PAt c r w) (xb:Nat) (hX:w.heap[xb]?=some (.cells (jF8 (a:Int)).toArray 67 (0,0))) (hne:c.pb≠xb) (hxn:c.n0≤xb):qP5 Tryz.prog 247 [.pointer (some ⟨c.pb,0,none⟩),.pointer (some ⟨xb,0,none⟩),.int .i64 (d:Int)] w
    (gH7 c r (guardP c.e blk a r) [c.pb,xb] w (fun s _ w'=>jI1 42 67 xb w.heap.size s w')) (gB4 c (guardP c.e blk a r) [c.pb,xb] w):=by
 refine zN0 [_,_,_] func247 rfl ntmps247 rfl ?_;obtain⟨w0,rfl⟩:∃ w0,w0=w:=⟨_,rfl⟩
 have hP':=hP;dsimp only [PAt,zO3] at hP;have st:=St.of2 [c.pb,xb] hP hX hne;have KC:∀ {w'},Chg [c.pb,xb] w0 w'→PCok c w':=fun ch=>hC.k2 ch hxn
 have h20:=hC.len;have hl:=zB6 hr;have hs:=guardP.eq_1 c.e blk a r;refine a5 ?_;refine zA3 (zD1 [_] rfl rfl call146 rfl (qG6 c hR r hr _ (KC st.chg) (by exact st.rs 0)) (by rintro _ w' ⟨f,hf,rfl,ch⟩ a ha;exact And.intro ha (Or.inr ⟨_,rfl,f,by rw [hs,hf],rfl,st.chg.trans (ch.mono (by simp))⟩)) ?_);rintro _ w ⟨t,r1,hx,hsf,hln,hP1,cw,rfl⟩;replace st:=St.prs (b:=c.pb) st 0 rfl cw (.inl (.head _)) hP1;rw [hx] at hs;dsimp only at hs;have hr1:=hsf.trans hr;have hsfr1:=hsf;have hlnr1:=hln;refine vy (gK2 rfl qU118 rfl rfl qA9 rfl) ?_;refine a1 ?_;refine vy (zC3 rfl qU67 rfl rfl qZ64 rfl) ?_;refine zA3 (est st 1 qZ64 ?_);intro w st;refine a1 ?_;refine yfz 1 qU67 qZ9 ?_;refine zA3 (est st 1 qZ9 ?_);intro w st;refine a6 ?_;refine zA3 (zD1 [_,_] rfl rfl call261 rfl (hB r1 hr1 _ (KC st.chg) (by exact st.rs 0)) (by rintro _ w' ⟨f,hf,rfl,ch⟩ a ha;exact And.intro ha (Or.inr ⟨_,rfl,f,by rw [hs,hf],rfl,st.chg.trans (ch.mono (by simp))⟩)) ?_);rintro _ w ⟨l1,r2,hx,hsfr2,hlnr2,hP1,cw,ob,cb,Sb,rfl,hQ,hN⟩;have hNSb:=hN.le st.chg.size;replace st:=St.prsT (b:=c.pb) st 0 rfl cw (.inl (.head _)) hP1 (zM8 hQ) hN.2;rw [hx] at hs;dsimp only at hs;have hr2:=hsfr2.trans hr1;refine a1 ?_;refine yfz 4 qU67 qZ65 ?_;refine zA3 (est st 2 qZ65 ?_);intro w st;refine a1 ?_;refine zD4 (.inr rfl) results247 ?_;refine .inl ⟨_,rfl,?_⟩;exact⟨_,r2,hs,hsfr2.trans hsfr1,by omega,(by exact st.rs 1),st.chg,none,ob,none,0,cb,0,[],Sb,[],(by exact st.rs 2),qC6,(st.res (i:=0) rfl).1,zL3,by simpa using hNSb⟩
abbrev jB2 (c:PCtx):List (Wd×Value):=[(wIf,.func (.func 245) [.pointer (some ⟨c.pb,0,none⟩)].toArray #[]),(zH,.func (.func 246) [.pointer (some ⟨c.pb,0,none⟩)].toArray #[]),(zH7,.func (.func 247) [.pointer (some ⟨c.pb,0,none⟩)].toArray #[]),(zI2,.func (.func 248) [.pointer (some ⟨c.pb,0,none⟩)].toArray #[]),(zO9,.func (.func 249) [.pointer (some ⟨c.pb,0,none⟩)].toArray #[])]
theorem kD6 (c:PCtx) (w:World):Ret Tryz.prog 230 [.pointer (some ⟨c.pb,0,none⟩)] w fun v w'=>∃ b,v=.map (some b)∧w.heap.size≤b∧w'.heap[b]?=some (kF5 (jB2 c))∧Chg [] w w':=by
 refine zB [_] func230 rfl ntmps230 rfl ?_;have st:=St.init w [];obtain⟨w0,rfl⟩:∃ w0,w0=w:=⟨_,rfl⟩
 refine a7 ?_;refine zA3 (e_mkF st rfl rfl ?_);intro b3 w hb3 st;refine a1 ?_;refine vy (qT7 [_] [] rfl rfl) ?_;refine zA3 (kH st 0 rfl rfl rfl rfl rfl (by(right;assumption)) qU244 qU9 (by simp [qM1]) ?_);intro w st;dsimp only [zA0,List.cons_append,List.nil_append] at st;refine a1 ?_;refine vy (qT7 [_] [] rfl rfl) ?_;refine zA3 (kH st 0 rfl rfl rfl rfl rfl (by(right;assumption)) qU244 qU9 (by simp [qM1]) ?_);intro w st;dsimp only [zA0,List.cons_append,List.nil_append] at st;refine a1 ?_;refine vy (qT7 [_] [] rfl rfl) ?_;refine zA3 (kH st 0 rfl rfl rfl rfl rfl (by(right;assumption)) qU244 qU9 (by simp [qM1]) ?_);intro w st;dsimp only [zA0,List.cons_append,List.nil_append] at st;refine a1 ?_;refine vy (qT7 [_] [] rfl rfl) ?_;refine zA3 (kH st 0 rfl rfl rfl rfl rfl (by(right;assumption)) qU244 qU9 (by simp [qM1]) ?_);intro w st;dsimp only [zA0,List.cons_append,List.nil_append] at st;refine a1 ?_;refine vy (qT7 [_] [] rfl rfl) ?_;refine zA3 (kH st 0 rfl rfl rfl rfl rfl (by(right;assumption)) qU244 qU9 (by simp [qM1]) ?_);intro w st;dsimp only [zA0,List.cons_append,List.nil_append] at st;refine a5 ?_;refine vr1 st results230 ?_;exact⟨b3,rfl,hb3,st.res (i:=0) rfl,st.chg⟩
set_option maxHeartbeats 2000000 in
theorem gU1 (c:PCtx) (hR:c.R=75) (hg:c.g=0) (d:Nat) (blk:List Tok→PR (List Sm)) (hB:kT 261 c d blk):kV3 c d (zS0 c.e blk):=by
 intro r hr w hC hP;refine zN0 [_,_] func201 rfl ntmps201 rfl ?_;obtain⟨w0,rfl⟩:∃ w0,w0=w:=⟨_,rfl⟩
 have hP':=hP;dsimp only [PAt,zO3] at hP;have st:=St.of1 [c.pb] hP;have h20:=hC.len;have hl:=zB6 hr;have hs:=zV6 c.e blk r;refine a2 ?_;refine zA3 (zF8 (l:=[_,_,_,_,_,_,_]) st rfl rfl qV67 rfl ?_);intro b4 w hb4 st;refine a5 ?_;refine zA3 (zA1 [_] rfl rfl call112 rfl (kJ1 c r hr _ (hC.k1 st.chg) (by exact st.rs 1)) ?_);rintro _ w ⟨rfl,cw⟩;replace st:=st.call0 cw;refine vy (ybd (.agg #[_,_,_,_,_,_,_]) [(6,_)]) ?_;refine zA3 (zF8 (l:=[_,_,_,_,_,_,_]) st rfl rfl qV67 rfl ?_);intro b5 w hb5 st;refine zA3 (zC4 st 0 [_,_,_,_,_,_,_] qZ67 ?_);intro w st;dsimp only [zA0,wr] at st;refine a4 ?_;have hpx:c.pb≠b5:=st.bne 2 0 (by decide) rfl rfl;refine a1 ?_;refine zA3 (zA1 [_] rfl rfl call109 rfl (zY c r hr _ (hC.k1 st.chg) (by exact st.rs 2)) ?_);rintro _ w ⟨rfl,cw⟩;replace st:=st.call0 cw;refine zA3 (zF8 (l:=[_,_,_,_]) st rfl rfl qV118 rfl ?_);intro b6 w hb6 st;refine zA3 (zC4 st 0 [_,_,_,_] qZ118 ?_);intro w st;dsimp only [zA0,wr] at st;refine a4 ?_;refine vdr Tryz.mixed [Yt 0,Yt 2,Yt 3,Nt 1,Nt 4,Yt 5,Yt 6,Yt 7,Yt 8,Yt 9] [.blk b6 (.cells (tkL (here r)).toArray 118 (0,0))] st ?_;clear st;intro w st hS;refine pm hS ?_;refine pfz hS 1 qU118 qZ9 ?_;refine pld hS 0 qA9 ?_;refine zD0 rfl (zA1 [_] rfl rfl call230 rfl (kD6 c _) ?_);rintro _ w ⟨bm,rfl,hbm,hMp,cw⟩;replace st:=St.pushR (r:=.blk bm (kF5 (jB2 c))) st cw hMp (by simpa [Res.at?] using hbm);refine zA9 st.dr ?_;intro hS;refine zD0 rfl (e_lkF st 0 rfl rfl rfl rfl rfl qU244 qU9 zeroValue242 ?_);refine zA9 st.dr ?_;intro hS;refine pm hS ?_;(iterate 2 refine zA2 rfl rfl rfl hS (fun w st=>zV7 rfl rfl) ?_);(iterate 2 refine zA2 rfl rfl rfl hS (fun w st=>qL1 rfl) ?_);refine zC6 (zA6 (sr ?_));refine a1 ?_;refine vmb ?_ ?_
 ·intro hg23;(try simp only [dn] at hg23);refine vy (zC3 rfl qU118 rfl rfl qZ116 rfl) ?_;refine yl st 1 qA116 ?_;refine a4 ?_;refine vif ?_ ?_
  ·intro hc27;(try simp only [dn] at hc27);refine a3 ?_;refine zA3 (zA1 [_] rfl rfl call111 rfl (zX2 c r hr (zN7 (k:=2) (by omega) (by decide)) _ (hC.k1 st.chg) (by exact st.rs 4)) ?_);rintro _ w ⟨rfl,hP1,cw⟩;replace st:=St.prs (b:=c.pb) st 4 rfl cw (.inl (.head _)) hP1;dsimp only [zA0] at st;refine a6 ?_;have hkd:(here r).kind=2:=by omega
   have hlt:=zC2 (zN7 hkd (by decide));rcases jK4 (v1:=(.func (.func 245) [.pointer (some ⟨c.pb,0,none⟩)].toArray #[])) (v2:=(.func (.func 246) [.pointer (some ⟨c.pb,0,none⟩)].toArray #[])) (v3:=(.func (.func 247) [.pointer (some ⟨c.pb,0,none⟩)].toArray #[])) (v4:=(.func (.func 248) [.pointer (some ⟨c.pb,0,none⟩)].toArray #[])) (v5:=(.func (.func 249) [.pointer (some ⟨c.pb,0,none⟩)].toArray #[])) (here r).text with ⟨he1,he2⟩|⟨he1,he2⟩|⟨he1,he2⟩|⟨he1,he2⟩|⟨he1,he2⟩|⟨he1,he2⟩
   rotate_right 1
   exfalso;rw [he2] at hg23;cases hg23;have hform:formT (here r) wIf=true:=by unfold formT;simp [he1,hkd]
   rw [if_pos hform] at hs
   refine zA3 (qD5 (f:=245) (first:=[.pointer (some ⟨c.pb,0,none⟩)]) (captured:=[]) [_,_] rfl rfl (by show some _=some _;rw [he2];rfl) call245 rfl (kB7 c hR hg d blk hB (atT c.e r) r.tail (zM7 hr) _ (hC.k1 st.chg) (st.res (i:=4) rfl) b5 (st.res (i:=2) rfl) hpx (Nat.le_trans hC.le hb5)) (by
     rintro _ w' ⟨f,hf,rfl,ch⟩ a ha
     exact And.intro ha (Or.inr ⟨_,rfl,f,by rw [hs,hf],rfl,st.chg.trans' ch (fun k hk=>by
       rcases List.mem_cons.1 hk with rfl|hk
       · exact .inl (.head _)
       · exact .inr (by simp at hk;subst hk;exact hb5))⟩)) ?_)
   rintro _ w ⟨s,r2,hx,hsfr2,hlnr2,hP1,cw,oe,ob,ol,ce,cb,cl,Se,Sb,Sl,hX2,hE2,hB2,hL2,hN2⟩;rw [hx] at hs;have hN3:=hN2.le st.chg.size;have hS2:SmS 42 67 w s (smC s oe ob ol ce cb cl) (Se++(Sb++Sl)):=SmS_iff.2 ⟨oe,ce,ob,cb,ol,cl,Se,Sb,Sl,rfl,hE2,hB2,hL2,rfl⟩;replace st:=(st.pick [4,2,0,1,3] rfl (by decide)).prs2 cw (.inl (.head _)) (.inr hb5) hP1 hX2 (zP8 hS2) hN2.2;refine a4 ?_;refine yla st 2 [_,_,_,_,_,_,_] qA67 qZ67 ?_;refine zA3 (zC4 st 5 [_,_,_,_,_,_,_] qZ67 ?_);intro w st;dsimp only [zA0,wr] at st;refine a4 ?_;refine zB7 st (.inl rfl) results201 (by exact .cell 5 rfl rfl qA67 qZ67) ?_;refine .inl ⟨_,rfl,?_⟩;exact⟨s,r2,hs,hsfr2.trans (List.tail_suffix _),by omega,(by exact st.rs 1),st.chg,oe,ob,ol,ce,cb,cl,_,rfl,(st.res (i:=0) rfl).1,hN3⟩;have hform:formT (here r) zH=true:=by unfold formT;simp [he1,hkd]
   rw [if_neg (zZ9 (s:=wIf) he1 (by decide)),if_pos hform] at hs
   refine zA3 (qD5 (f:=246) (first:=[.pointer (some ⟨c.pb,0,none⟩)]) (captured:=[]) [_,_] rfl rfl (by show some _=some _;rw [he2];rfl) call246 rfl (kX4 c hR hg d blk hB (atT c.e r) r.tail (zM7 hr) _ (hC.k1 st.chg) (st.res (i:=4) rfl) b5 (st.res (i:=2) rfl) hpx (Nat.le_trans hC.le hb5)) (by
     rintro _ w' ⟨f,hf,rfl,ch⟩ a ha
     exact And.intro ha (Or.inr ⟨_,rfl,f,by rw [hs,hf],rfl,st.chg.trans' ch (fun k hk=>by
       rcases List.mem_cons.1 hk with rfl|hk
       · exact .inl (.head _)
       · exact .inr (by simp at hk;subst hk;exact hb5))⟩)) ?_)
   rintro _ w ⟨s,r2,hx,hsfr2,hlnr2,hP1,cw,oe,ob,ol,ce,cb,cl,Se,Sb,Sl,hX2,hE2,hB2,hL2,hN2⟩;rw [hx] at hs;have hN3:=hN2.le st.chg.size;have hS2:SmS 42 67 w s (smC s oe ob ol ce cb cl) (Se++(Sb++Sl)):=SmS_iff.2 ⟨oe,ce,ob,cb,ol,cl,Se,Sb,Sl,rfl,hE2,hB2,hL2,rfl⟩;replace st:=(st.pick [4,2,0,1,3] rfl (by decide)).prs2 cw (.inl (.head _)) (.inr hb5) hP1 hX2 (zP8 hS2) hN2.2;refine a4 ?_;refine yla st 2 [_,_,_,_,_,_,_] qA67 qZ67 ?_;refine zA3 (zC4 st 5 [_,_,_,_,_,_,_] qZ67 ?_);intro w st;dsimp only [zA0,wr] at st;refine a4 ?_;refine zB7 st (.inl rfl) results201 (by exact .cell 5 rfl rfl qA67 qZ67) ?_;refine .inl ⟨_,rfl,?_⟩;exact⟨s,r2,hs,hsfr2.trans (List.tail_suffix _),by omega,(by exact st.rs 1),st.chg,oe,ob,ol,ce,cb,cl,_,rfl,(st.res (i:=0) rfl).1,hN3⟩;have hform:formT (here r) zH7=true:=by unfold formT;simp [he1,hkd]
   rw [if_neg (zZ9 (s:=wIf) he1 (by decide)),if_neg (zZ9 (s:=zH) he1 (by decide)),if_pos hform] at hs
   refine zA3 (qD5 (f:=247) (first:=[.pointer (some ⟨c.pb,0,none⟩)]) (captured:=[]) [_,_] rfl rfl (by show some _=some _;rw [he2];rfl) call247 rfl (kI7 c hR hg d blk hB (atT c.e r) r.tail (zM7 hr) _ (hC.k1 st.chg) (st.res (i:=4) rfl) b5 (st.res (i:=2) rfl) hpx (Nat.le_trans hC.le hb5)) (by
     rintro _ w' ⟨f,hf,rfl,ch⟩ a ha
     exact And.intro ha (Or.inr ⟨_,rfl,f,by rw [hs,hf],rfl,st.chg.trans' ch (fun k hk=>by
       rcases List.mem_cons.1 hk with rfl|hk
       · exact .inl (.head _)
       · exact .inr (by simp at hk;subst hk;exact hb5))⟩)) ?_)
   rintro _ w ⟨s,r2,hx,hsfr2,hlnr2,hP1,cw,oe,ob,ol,ce,cb,cl,Se,Sb,Sl,hX2,hE2,hB2,hL2,hN2⟩;rw [hx] at hs;have hN3:=hN2.le st.chg.size;have hS2:SmS 42 67 w s (smC s oe ob ol ce cb cl) (Se++(Sb++Sl)):=SmS_iff.2 ⟨oe,ce,ob,cb,ol,cl,Se,Sb,Sl,rfl,hE2,hB2,hL2,rfl⟩;replace st:=(st.pick [4,2,0,1,3] rfl (by decide)).prs2 cw (.inl (.head _)) (.inr hb5) hP1 hX2 (zP8 hS2) hN2.2;refine a4 ?_;refine yla st 2 [_,_,_,_,_,_,_] qA67 qZ67 ?_;refine zA3 (zC4 st 5 [_,_,_,_,_,_,_] qZ67 ?_);intro w st;dsimp only [zA0,wr] at st;refine a4 ?_;refine zB7 st (.inl rfl) results201 (by exact .cell 5 rfl rfl qA67 qZ67) ?_;refine .inl ⟨_,rfl,?_⟩;exact⟨s,r2,hs,hsfr2.trans (List.tail_suffix _),by omega,(by exact st.rs 1),st.chg,oe,ob,ol,ce,cb,cl,_,rfl,(st.res (i:=0) rfl).1,hN3⟩;have hform:formT (here r) zI2=true:=by unfold formT;simp [he1,hkd]
   rw [if_neg (zZ9 (s:=wIf) he1 (by decide)),if_neg (zZ9 (s:=zH) he1 (by decide)),if_neg (zZ9 (s:=zH7) he1 (by decide)),if_pos hform] at hs
   refine zA3 (qD5 (f:=248) (first:=[.pointer (some ⟨c.pb,0,none⟩)]) (captured:=[]) [_,_] rfl rfl (by show some _=some _;rw [he2];rfl) call248 rfl (gZ3 c hR hg  (atT c.e r) r.tail (zM7 hr) _ (hC.k1 st.chg) (st.res (i:=4) rfl) b5 (st.res (i:=2) rfl) hpx (Nat.le_trans hC.le hb5) (.int .i64 (d:Int))) (by
     rintro _ w' ⟨f,hf,rfl,ch⟩ a ha
     exact And.intro ha (Or.inr ⟨_,rfl,f,by rw [hs,hf],rfl,st.chg.trans' ch (fun k hk=>by
       rcases List.mem_cons.1 hk with rfl|hk
       · exact .inl (.head _)
       · exact .inr (by simp at hk;subst hk;exact hb5))⟩)) ?_)
   rintro _ w ⟨s,r2,hx,hsfr2,hlnr2,hP1,cw,oe,ob,ol,ce,cb,cl,Se,Sb,Sl,hX2,hE2,hB2,hL2,hN2⟩;rw [hx] at hs;have hN3:=hN2.le st.chg.size;have hS2:SmS 42 67 w s (smC s oe ob ol ce cb cl) (Se++(Sb++Sl)):=SmS_iff.2 ⟨oe,ce,ob,cb,ol,cl,Se,Sb,Sl,rfl,hE2,hB2,hL2,rfl⟩;replace st:=(st.pick [4,2,0,1,3] rfl (by decide)).prs2 cw (.inl (.head _)) (.inr hb5) hP1 hX2 (zP8 hS2) hN2.2;refine a4 ?_;refine yla st 2 [_,_,_,_,_,_,_] qA67 qZ67 ?_;refine zA3 (zC4 st 5 [_,_,_,_,_,_,_] qZ67 ?_);intro w st;dsimp only [zA0,wr] at st;refine a4 ?_;refine zB7 st (.inl rfl) results201 (by exact .cell 5 rfl rfl qA67 qZ67) ?_;refine .inl ⟨_,rfl,?_⟩;exact⟨s,r2,hs,hsfr2.trans (List.tail_suffix _),by omega,(by exact st.rs 1),st.chg,oe,ob,ol,ce,cb,cl,_,rfl,(st.res (i:=0) rfl).1,hN3⟩;have hform:formT (here r) zO9=true:=by unfold formT;simp [he1,hkd]
   rw [if_neg (zZ9 (s:=wIf) he1 (by decide)),if_neg (zZ9 (s:=zH) he1 (by decide)),if_neg (zZ9 (s:=zH7) he1 (by decide)),if_neg (zZ9 (s:=zI2) he1 (by decide)),if_pos hform] at hs
   refine zA3 (qD5 (f:=249) (first:=[.pointer (some ⟨c.pb,0,none⟩)]) (captured:=[]) [_,_] rfl rfl (by show some _=some _;rw [he2];rfl) call249 rfl (kP6 c hR hg  (atT c.e r) r.tail (zM7 hr) _ (hC.k1 st.chg) (st.res (i:=4) rfl) b5 (st.res (i:=2) rfl) hpx (Nat.le_trans hC.le hb5) (.int .i64 (d:Int))) (by
     rintro _ w' ⟨f,hf,rfl,ch⟩ a ha
     exact And.intro ha (Or.inr ⟨_,rfl,f,by rw [hs,hf],rfl,st.chg.trans' ch (fun k hk=>by
       rcases List.mem_cons.1 hk with rfl|hk
       · exact .inl (.head _)
       · exact .inr (by simp at hk;subst hk;exact hb5))⟩)) ?_)
   rintro _ w ⟨s,r2,hx,hsfr2,hlnr2,hP1,cw,oe,ob,ol,ce,cb,cl,Se,Sb,Sl,hX2,hE2,hB2,hL2,hN2⟩;rw [hx] at hs;have hN3:=hN2.le st.chg.size;have hS2:SmS 42 67 w s (smC s oe ob ol ce cb cl) (Se++(Sb++Sl)):=SmS_iff.2 ⟨oe,ce,ob,cb,ol,cl,Se,Sb,Sl,rfl,hE2,hB2,hL2,rfl⟩;replace st:=(st.pick [4,2,0,1,3] rfl (by decide)).prs2 cw (.inl (.head _)) (.inr hb5) hP1 hX2 (zP8 hS2) hN2.2;refine a4 ?_;refine yla st 2 [_,_,_,_,_,_,_] qA67 qZ67 ?_;refine zA3 (zC4 st 5 [_,_,_,_,_,_,_] qZ67 ?_);intro w st;dsimp only [zA0,wr] at st;refine a4 ?_;refine zB7 st (.inl rfl) results201 (by exact .cell 5 rfl rfl qA67 qZ67) ?_;refine .inl ⟨_,rfl,?_⟩;exact⟨s,r2,hs,hsfr2.trans (List.tail_suffix _),by omega,(by exact st.rs 1),st.chg,oe,ob,ol,ce,cb,cl,_,rfl,(st.res (i:=0) rfl).1,hN3⟩
  intro hc27;(try simp only [dn] at hc27);have hs:=qR6 (e:=c.e) (blk:=blk) (ts:=r) (.inr (by omega));refine a5 ?_
  refine zA3 (zD1 [_,_] rfl rfl call231 rfl (qX5 c hR hg  (atT c.e r) r hr _ (hC.k1 st.chg) (st.res (i:=4) rfl) b5 (st.res (i:=2) rfl) hpx (Nat.le_trans hC.le hb5)) (by
    rintro _ w' ⟨f,hf,rfl,ch⟩ a ha
    exact And.intro ha (Or.inr ⟨_,rfl,f,by rw [hs,hf],rfl,st.chg.trans' ch (fun k hk=>by
      rcases List.mem_cons.1 hk with rfl|hk
      · exact .inl (.head _)
      · exact .inr (by simp at hk;subst hk;exact hb5))⟩)) ?_)
  rintro _ w ⟨s,r2,hx,hsfr2,hlnr2,hP1,cw,oe,ob,ol,ce,cb,cl,Se,Sb,Sl,hX2,hE2,hB2,hL2,hN2⟩;rw [hx] at hs;have hN3:=hN2.le st.chg.size;have hS2:SmS 42 67 w s (smC s oe ob ol ce cb cl) (Se++(Sb++Sl)):=SmS_iff.2 ⟨oe,ce,ob,cb,ol,cl,Se,Sb,Sl,rfl,hE2,hB2,hL2,rfl⟩;replace st:=(st.pick [4,2,0,1,3] rfl (by decide)).prs2 cw (.inl (.head _)) (.inr hb5) hP1 hX2 (zP8 hS2) hN2.2;refine a4 ?_;refine yla st 2 [_,_,_,_,_,_,_] qA67 qZ67 ?_;refine zA3 (zC4 st 5 [_,_,_,_,_,_,_] qZ67 ?_);intro w st;dsimp only [zA0,wr] at st;refine a3 ?_;refine zB7 st (.inl rfl) results201 (by exact .cell 5 rfl rfl qA67 qZ67) ?_;refine .inl ⟨_,rfl,?_⟩;exact⟨s,r2,hs,hsfr2,hlnr2,(by exact st.rs 1),st.chg,oe,ob,ol,ce,cb,cl,_,rfl,(st.res (i:=0) rfl).1,hN3⟩
 intro hg23;(try simp only [dn] at hg23)
 have hs:=qR6 (e:=c.e) (blk:=blk) (ts:=r) (.inl (by
   rcases jK4 (v1:=(.func (.func 245) [.pointer (some ⟨c.pb,0,none⟩)].toArray #[])) (v2:=(.func (.func 246) [.pointer (some ⟨c.pb,0,none⟩)].toArray #[])) (v3:=(.func (.func 247) [.pointer (some ⟨c.pb,0,none⟩)].toArray #[])) (v4:=(.func (.func 248) [.pointer (some ⟨c.pb,0,none⟩)].toArray #[])) (v5:=(.func (.func 249) [.pointer (some ⟨c.pb,0,none⟩)].toArray #[])) (here r).text with ⟨_,he2⟩|⟨_,he2⟩|⟨_,he2⟩|⟨_,he2⟩|⟨_,he2⟩|⟨he1,_⟩
   all_goals first|exact he1|(exfalso;rw [he2] at hg23;cases hg23)))
 refine a12 ?_
 refine zA3 (zD1 [_,_] rfl rfl call231 rfl (qX5 c hR hg  (atT c.e r) r hr _ (hC.k1 st.chg) (st.res (i:=4) rfl) b5 (st.res (i:=2) rfl) hpx (Nat.le_trans hC.le hb5)) (by
   rintro _ w' ⟨f,hf,rfl,ch⟩ a ha
   exact And.intro ha (Or.inr ⟨_,rfl,f,by rw [hs,hf],rfl,st.chg.trans' ch (fun k hk=>by
     rcases List.mem_cons.1 hk with rfl|hk
     · exact .inl (.head _)
     · exact .inr (by simp at hk;subst hk;exact hb5))⟩)) ?_)
 rintro _ w ⟨s,r2,hx,hsfr2,hlnr2,hP1,cw,oe,ob,ol,ce,cb,cl,Se,Sb,Sl,hX2,hE2,hB2,hL2,hN2⟩;rw [hx] at hs;have hN3:=hN2.le st.chg.size;have hS2:SmS 42 67 w s (smC s oe ob ol ce cb cl) (Se++(Sb++Sl)):=SmS_iff.2 ⟨oe,ce,ob,cb,ol,cl,Se,Sb,Sl,rfl,hE2,hB2,hL2,rfl⟩;replace st:=(st.pick [4,2,0,1,3] rfl (by decide)).prs2 cw (.inl (.head _)) (.inr hb5) hP1 hX2 (zP8 hS2) hN2.2;refine a4 ?_;refine yla st 2 [_,_,_,_,_,_,_] qA67 qZ67 ?_;refine zA3 (zC4 st 5 [_,_,_,_,_,_,_] qZ67 ?_);intro w st;dsimp only [zA0,wr] at st;refine a3 ?_;refine zB7 st (.inl rfl) results201 (by exact .cell 5 rfl rfl qA67 qZ67) ?_;refine .inl ⟨_,rfl,?_⟩;exact⟨s,r2,hs,hsfr2,hlnr2,(by exact st.rs 1),st.chg,oe,ob,ol,ce,cb,cl,_,rfl,(st.res (i:=0) rfl).1,hN3⟩
theorem gO (c:PCtx) (hR:c.R=75) (hg:c.g=0):∀ (m d:Nat),d+m=64→kV3 c d (zO4 c.e m)
 | 0,d,h=>by
  rw [zO7]
  exact gU1 c hR hg d _ (gL7 c hR d 0 h (fun k hk=>by omega))
 | m+1,d,h=>by
  rw [zO7]
  exact gU1 c hR hg d _ (gL7 c hR d (m+1) h (fun k hk=>by
    obtain rfl:k=m:=by omega
    exact gO c hR hg k (d+1) (by omega)))
theorem kL5 (c:PCtx) (hR:c.R=75) (hg:c.g=0) (r:List Tok) (hr:r <:+ c.ts) (w:World) (hC:PCok c w) (hP:PAt c r w):qP5 Tryz.prog 147 [.pointer (some ⟨c.pb,0,none⟩),.int .i64 1] w
    (gH7 c r (qD c.e 63 r) [c.pb] w (HB w)) (gB4 c (qD c.e 63 r) [c.pb] w):=gI6 c hR 1 63 (r.length+1) (gO c hR hg 63 1 rfl) r (Nat.lt_succ_self _) hr w hC hP
theorem Tryz.info69:Tryz.prog.info? 69=some Tryz.t69:=by kernel_rfl
def HT (w:World) (t:Th) (v:Value) (w':World):Prop:=∃ ol ob cl cb Sq,v=.agg (thC t ol ob cl cb).toArray∧ThS 42 67 63 w' t (thC t ol ob cl cb) Sq∧Nw w.heap.size Sq
theorem jM6 (c:PCtx) (hR:c.R=75):kK7 c 89 (declP c.e):=fun r hr w hC hP=>gJ0 c hR r hr w hC hP
theorem hinit (c:PCtx) (hR:c.R=75):kK7 c 88 (initP c.e):=fun r hr w hC hP=>kO c hR r hr w hC hP
theorem kG8 {w:World} {base:Nat} {s:Th} {l:List Value} {S:List Nat} (h:ThS 42 67 63 w s l S):(Res.tree S fun w=>ThS 42 67 63 w s l S).holds base w:=zD2 h h.lt (fun a b h hk=>h.kept hk)
theorem qI6 {w:World} {base:Nat} {s:List Th} {l:List Value} {S:List Nat} (h:ThSs 42 67 63 w s l S):(Res.tree S fun w=>ThSs 42 67 63 w s l S).holds base w:=zD2 h h.lt (fun a b h hk=>h.kept hk)
theorem gE3 {w:World} {oa:Option Addr} {cap:Nat} {ds:List Dc} {S:List Nat} (h:DcR 63 w oa cap ds S):kL3 w oa (ds.flatMap dcL):=by
 obtain⟨h1,-⟩:=h;rcases Nat.eq_zero_or_pos ds.length with h0|h0;exact .inl (by rw [List.eq_nil_of_length_eq_zero h0];rfl);obtain⟨g,rfl⟩:=gT9 h1 h0;exact .inr ⟨_,rfl,fun k u hk=>by rw [zP4,Nat.zero_add];exact qD7 h1 hk⟩
def qJ4 (e n:Nat) (acc:List Dc) (r:List Tok):PR (List Dc):=match zF1 e n r with
 | .error f=>.error f
 | .ok (l,r')=>.ok (acc++l,r')
theorem kE0 (e n:Nat) (r:List Tok):zF1 e n r=qJ4 e n [] r:=by unfold qJ4;cases zF1 e n r with|error f=>rfl|ok p=>rfl
theorem kD1 {e n:Nat} {acc:List Dc} {r:List Tok} (h:isT zM4 r=false):qJ4 e (n+1) acc r=.ok (acc,r):=by
 simp only [qJ4,zF1,if_neg (show ¬ isT zM4 r=true by simp [h]),List.append_nil]
theorem qW9 {e n:Nat} {acc:List Dc} {r:List Tok} (h:isT zM4 r=true):qJ4 e (n+1) acc r=match zH0 e (declP e) (r.length+1) r.tail with
  | .error f=>.error f
  | .ok (l,r')=>qJ4 e n (acc++l) r':=by
 simp only [qJ4,zF1,if_pos h]
 cases zH0 e (declP e) (r.length+1) r.tail with
 | error f=>rfl
 | ok p=>
  simp only
  cases zF1 e n p.2 with
  | error f=>rfl
  | ok q=>simp
theorem gZ4 (e:Nat) (ts:List Tok):zM0 e ts=match zH1 e ts with
  | .error f=>.error f
  | .ok (t,r)=>match want e [123] r with
   | .error f=>.error f
   | .ok r1=>match qJ4 e (r1.length+1) [] r1 with
    | .error f=>.error f
    | .ok (l,r2)=>match qD e 63 r2 with
     | .error f=>.error f
     | .ok (b,r3)=>.ok (⟨t.text,l,b,(t.at_:Int)⟩,r3):=by
 unfold zM0
 cases zH1 e ts with
 | error f=>rfl
 | ok p=>
  simp only
  cases want e [123] p.2 with
  | error f=>rfl
  | ok r1=>simp only;rw [← kE0];rfl
theorem zX7 (e:Nat) (one:List Tok→PR Dc) (h1:∀ r x r',one r=.ok (x,r')→r'.length<r.length):∀ (n:Nat) (r:List Tok) (l:List Dc) (r':List Tok),zH0 e one n r=.ok (l,r')→l.length+r'.length≤r.length
 | 0,r,l,r',h=>by simp [zH0] at h
 | n+1,r,l,r',h=>by
  simp only [zH0] at h
  cases ho:one r with
  | error f=>rw [ho] at h;cases h
  | ok p=>
   obtain⟨x,r1⟩:=p
   have hl:=h1 _ _ _ ho
   rw [ho] at h;simp only at h
   split at h
   ·rename_i hc
    have ht:=zC2 (zI5 hc)
    cases hq:zH0 e one n r1.tail with
    | error f=>rw [hq] at h;cases h
    | ok q=>
     obtain⟨l2,r2⟩:=q
     rw [hq] at h;cases h
     have:=zX7 e one h1 n _ _ _ hq
     simp;omega
   ·cases hq:want e [59] r1 with
    | error f=>rw [hq] at h;cases h
    | ok r2=>
     rw [hq] at h;cases h
     obtain⟨hc,rfl⟩:=qF hq
     have ht:=zC2 (zI5 hc)
     simp;omega
theorem gN2 {e:Nat} {r r':List Tok} {t:Tok} (h:zH1 e r=.ok (t,r')):r'.length<r.length:=by
 unfold zH1 at h;split at h;rename_i hk;cases h;exact zC2 (zN7 hk (by decide));cases h
theorem qN7 {e:Nat} (r:List Tok) (x:Dc) (r':List Tok) (h:declP e r=.ok (x,r')):r'.length<r.length:=by
 unfold declP at h
 cases hn:zH1 e r with
 | error f=>rw [hn] at h;cases h
 | ok p=>rw [hn] at h;cases h;exact gN2 hn
theorem gK3 {e:Nat} (r:List Tok) (x:Dc) (r':List Tok) (h:initP e r=.ok (x,r')):r'.length<r.length:=by
 unfold initP at h
 cases hn:zH1 e r with
 | error f=>rw [hn] at h;cases h
 | ok p=>
  obtain⟨t,r1⟩:=p
  have hl:=gN2 hn
  rw [hn] at h;simp only at h
  split at h
  ·rename_i hc
   have ht:=zC2 (zI5 hc)
   obtain⟨R,hR⟩:∃ R,R=(if isT [45] r1.tail=true then r1.tail.tail else r1.tail):=⟨_,rfl⟩
   have h4:R.length≤r1.tail.length:=by
    rw [hR];split
    ·rw [List.length_tail];omega
    ·exact Nat.le_refl _
   rw [← hR] at h
   cases hw:qO4 e (isT [45] r1.tail) R with
   | error f=>rw [hw] at h;cases h
   | ok q=>
    rw [hw] at h;cases h
    unfold qO4 at hw;split at hw
    ·rename_i hk
     cases hw
     have h3:=zC2 (zN7 hk (by decide))
     simp only at hl ⊢
     omega
    ·cases hw
  ·cases h;simpa using hl
set_option maxHeartbeats 1000000 in
theorem gQ8 (c:PCtx) (hR:c.R=75) (hg:c.g=0) (r:List Tok) (hr:r <:+ c.ts) (w:World) (hC:PCok c w) (hP:PAt c r w):qP5 Tryz.prog 91 [.pointer (some ⟨c.pb,0,none⟩)] w
    (gH7 c r (zM0 c.e r) [c.pb] w (HT w)) (gB4 c (zM0 c.e r) [c.pb] w):=by
 refine zN0 [_] func91 rfl ntmps91 rfl ?_;obtain⟨w0,rfl⟩:∃ w0,w0=w:=⟨_,rfl⟩
 have hP':=hP;dsimp only [PAt,zO3] at hP;have st:=St.of1 [c.pb] hP;have h20:=hC.len;have hl:=zB6 hr;have hs:=gZ4 c.e r;replace st:=st.ownNil 63 3;refine a2 ?_;refine zA3 (zF8 (l:=[_,_,_,_]) st rfl rfl qV69 rfl ?_);intro b2 w hb2 st;refine a5 ?_;refine zA3 (zD1 [_] rfl rfl call146 rfl (qG6 c hR r hr _ (hC.k1 st.chg) (by exact st.rs 2)) (by rintro _ w' ⟨f,hf,rfl,ch⟩ a ha;exact And.intro ha (Or.inr ⟨_,rfl,f,by rw [hs,hf],rfl,st.chg.trans ch⟩)) ?_);rintro _ w ⟨t,r1,hx,hsf,hln,hP1,cw,rfl⟩;replace st:=St.prs (b:=c.pb) st 2 rfl cw (.inl (.head _)) hP1;rw [hx] at hs;dsimp only at hs;have hr1:=hsf.trans hr;have hsfr1:=hsf;have hlnr1:=hln;refine zA3 (zF8 (l:=[_,_,_,_]) st rfl rfl qV118 rfl ?_);intro b3 w hb3 st;refine zA3 (zC4 st 0 [_,_,_,_] qZ118 ?_);intro w st;refine a4 ?_;refine yfz 1 qU118 qZ9 ?_;refine yl st 0 qA9 ?_;refine yfz 3 qU118 qZ3 ?_;refine yl st 0 qA3 ?_;refine vy (ybd (.agg #[_,_,_,_]) [(0,_),(3,_)]) ?_;refine zA3 (zF8 (l:=[_,_,_,_]) st rfl rfl qV69 rfl ?_);intro b4 w hb4 st;refine zA3 (zC4 st 0 [_,_,_,_] qZ69 ?_);intro w st;refine a5 ?_;refine zA3 (zI4 (l:=[_]) st rfl rfl rfl rfl qU50 qZ9 rfl rfl rfl qV9 ?_);intro b13 w hb13 st;refine zA3 (zD1 [_,_] rfl rfl call145 rfl (zL7 c [[123]] (by simp) _ _ _ _ rfl r1 hr1 _ (hC.k1 st.chg) (by exact st.rs 5) hR (st.res (i:=0) rfl) (by exact st.bne 0 5 (by decide) rfl rfl)) (by rintro _ w' ⟨f,hf,rfl,ch⟩ a ha;rw [zE7] at hf;exact And.intro ha (Or.inr ⟨_,rfl,f,by rw [hs,hf],rfl,st.chg.trans ch⟩)) ?_);rintro _ w ⟨r2,hx,hsfr2,hlnr2,hP1,cw⟩;rw [zE7] at hx;rw [hx] at hs;dsimp only at hs;replace st:=St.prs (b:=c.pb) st 5 rfl cw (.inl (.head _)) hP1;have hr2:=hsfr2.trans hr1;refine a4 ?_;refine zC (w0:=w0) (M:=[c.pb]) (fun (y:List Dc×List Tok×Nat×Option Addr×Nat)=>[(0,.pointer (some ⟨c.pb,0,none⟩)),(2,.pointer (some ⟨b2,0,none⟩)),(4,.pointer (some ⟨b4,0,none⟩))]) (fun y=>[.blk b4 (.cells [str t.text,.slice y.2.2.2.1 y.1.length y.2.2.2.2,.slice none 0 0,.int .i64 (t.at_:Int)].toArray 69 (0,0)),.own (.slice y.2.2.2.1 y.1.length y.2.2.2.2) 63 3 y.1.length (y.1.flatMap dcL),.blk b2 (.cells [str [],.slice none 0 0,.slice none 0 0,.int .i64 0].toArray 69 (0,0)),.blk c.pb (.cells (zO3 c y.2.1).toArray c.T (0,0))]) (fun y _=>y.2.1 <:+ r2∧y.2.1.length+y.1.length≤r2.length∧y.2.1.length<y.2.2.1∧qJ4 c.e (r2.length+1) [] r2=qJ4 c.e y.2.2.1 y.1 y.2.1) (fun y=>y.2.1.length) ([],r2,r2.length+1,none,0) ⟨rfl,rfl,rfl,trivial⟩ (st.pick [1,4,3,5] rfl (by decide)) ⟨List.suffix_refl _,by simp,by simp,rfl⟩ ?_;clear st;rintro ⟨acc,r3,k,oq,cq⟩ w ⟨hsf3,hl3,hk3,hlo⟩ st;dsimp only at hsf3 hl3 hk3 hlo st;have hr3:=hsf3.trans hr2;obtain⟨k,rfl⟩:∃ j,k=j+1:=⟨k - 1,by omega⟩
 refine a4 ?_;refine zA3 (zA1 [_,_] rfl rfl call86 rfl (zO5 c zM4 r3 hr3 _ (hC.k1 st.chg) (by exact st.rs 3)) ?_);rintro _ w ⟨rfl,hP1,cw⟩;replace st:=St.prs (b:=c.pb) st 3 rfl cw (.inl (.head _)) hP1;refine a2 ?_;refine vif ?_ ?_;intro hc16;simp only [hc16,if_true] at st;have ht:=zC2 (zI5 hc16);have hr3t:=zM7 hr3;rw [hlo,qW9 hc16] at hs;have h40:=hr2.length_le;refine a3 ?_;refine kdr Tryz.mixed [Yt 0,Yt 2,Yt 3,Yt 4,Yt 1,Nt 5,Nt 6,Yt 7,Nt 8] 8 [.blk b4 (.cells [str t.text,.slice oq acc.length cq,.slice none 0 0,.int .i64 (t.at_:Int)].toArray 69 (0,0))] st ?_;clear st;intro w st hS;refine zB0 rfl rfl rfl rfl (fun _=>hS) (fun w=>(by exact zV8 (k:=1) rfl qU69 rfl rfl qZ23 rfl)) ?_;(iterate 2 refine km hS ?_);refine zB0 rfl rfl rfl rfl (fun _=>hS) (fun w=>qT7 [_] [] rfl rfl) ?_;refine zE4 rfl rfl rfl rfl hS (fun w st=>qE6 st 0 rfl qA23 rfl rfl) ?_;refine zG7 rfl rfl (zD1 [_,_] rfl rfl call87 rfl (gB c hR 89 (declP c.e) call89 (jM6 c hR) (r3.length+1) r3.tail (by rw [List.length_tail];omega) hr3t _ (hC.k1 st.chg) (by exact st.rs 3)) (by rintro _ w' ⟨f,hf,rfl,ch⟩ a ha;exact And.intro ha (Or.inr ⟨_,rfl,f,by rw [hs,hf],rfl,st.chg.trans ch⟩)) ?_);rintro _ w ⟨l,r4,hx,hsfr4,hlnr4,hP1,cw,oD,cD,SD,rfl,hQ,hN⟩;have hNSD:=hN.le st.chg.size;replace st:=St.prsT (b:=c.pb) st 3 rfl cw (.inl (.head _)) hP1 (qH3 hQ) hN.2;rw [hx] at hs;dsimp only at hs;have hr4:=hsfr4.trans hr3t;have hll:=zX7 c.e _ qN7 _ _ _ _ (by assumption);refine zF0 st.dr ?_;intro hS;refine zG7 rfl rfl (qE1 (bytes:=32) (len':=(acc++l).length) (ys:=(acc++l).flatMap dcL) st 2 rfl rfl rfl rfl rfl (gE3 (st.res (i:=0) rfl).1) qU23 Tryz.info63 rfl rfl rfl rfl rfl (zU8 l) (zU7 l) (by unfold maxLen;omega) (by omega) (by simp) (by simp) ?_);intro oaQ capQ w st;refine zF0 st.dr ?_;intro hS;refine zB0 rfl rfl rfl rfl (fun _=>hS) (fun w=>(by exact zV8 (k:=1) rfl qU69 rfl rfl qZ23 rfl)) ?_;refine zG7 rfl rfl (est st 1 qZ23 ?_);intro w st;refine zJ7 ?_;refine zS1 ?_;refine a1 ?_;refine zA7 (acc++l,r4,k,oaQ,capQ)  ⟨rfl,rfl,rfl,trivial⟩ (st.pick [1,2,3,4] rfl (by decide)) ?_ ?_;exact⟨(hsfr4.trans (List.tail_suffix _)).trans hsf3,by simp;omega,by dsimp only;omega,by rw [hlo,qW9 hc16,(by assumption:zH0 c.e (declP c.e) (r3.length+1) r3.tail=_)]⟩;dsimp only;omega;intro hc16;simp only [hc16,Bool.false_eq_true,if_false] at st;rw [hlo,kD1 hc16] at hs;dsimp only at hs;refine a8 ?_;refine zA3 (zD1 [_,_] rfl rfl call147 rfl (kL5 c hR hg r3 hr3 _ (hC.k1 st.chg) (by exact st.rs 3)) (by rintro _ w' ⟨f,hf,rfl,ch⟩ a ha;exact And.intro ha (Or.inr ⟨_,rfl,f,by rw [hs,hf],rfl,st.chg.trans ch⟩)) ?_);rintro _ w ⟨l,r4,hx,hsfr4,hlnr4,hP1,cw,ob,cb,Sb,rfl,hQ,hN⟩;have hNSb:=hN.le st.chg.size
 replace st:=St.prsT (b:=c.pb) st 3 rfl cw (.inl (.head _)) hP1 (zM8 hQ) hN.2;rw [hx] at hs;refine yfz 2 qU69 qZ65 ?_;refine zA3 (est st 1 qZ65 ?_);intro w st;refine a4 ?_;refine yla st 1 [_,_,_,_] qA69 qZ69 ?_;refine zA3 (zC4 st 3 [_,_,_,_] qZ69 ?_);intro w st;refine a3 ?_;refine zB7 st (.inl rfl) results91 (by exact .cell 3 rfl rfl qA69 qZ69) ?_;refine .inl ⟨_,rfl,?_⟩;have hown:=st.ownNw (i:=2) rfl;exact⟨_,r4,hs,hsfr4.trans (hsf3.trans (hsfr2.trans hsfr1)),by have:=hsf3.length_le;simp at hlnr2;omega,(by exact st.rs 4),st.chg,oq,ob,cq,cb,obk oq++Sb,rfl,⟨oq,cq,ob,cb,obk oq,Sb,rfl,⟨hown.1,rfl⟩,(st.res (i:=0) rfl).1,rfl⟩,hown.2.app hNSb (fun b hb=>st.ne (i:=2) (j:=0) (by decide) rfl rfl b (by simpa [Res.at?,zE8] using hb))⟩
def HP (w:World) (q:Pg) (v:Value) (w':World):Prop:=∃ os ol ot cs cl ct Sq,v=.agg (pgC q os ol ot cs cl ct).toArray∧PgS 42 67 63 69 w' q (pgC q os ol ot cs cl ct) Sq∧Nw w.heap.size Sq
def gA8 (e n:Nat) (acc:List Th) (r:List Tok):PR (List Th):=match zG0 e n r with
 | .error f=>.error f
 | .ok (l,r')=>.ok (acc++l,r')
theorem kP1 (e n:Nat) (r:List Tok):zG0 e n r=gA8 e n [] r:=by unfold gA8;cases zG0 e n r with|error f=>rfl|ok p=>rfl
theorem gK4 {e n:Nat} {acc:List Th} {r:List Tok} (h:isT zJ8 r=false):gA8 e (n+1) acc r=.ok (acc,r):=by
 simp only [gA8,zG0,if_neg (show ¬ isT zJ8 r=true by simp [h]),List.append_nil]
theorem gD7 {e n:Nat} {acc:List Th} {r:List Tok} (h:isT zJ8 r=true):gA8 e (n+1) acc r=match zM0 e r.tail with
  | .error f=>.error f
  | .ok (t,r')=>gA8 e n (acc++[t]) r':=by
 simp only [gA8,zG0,if_pos h]
 cases zM0 e r.tail with
 | error f=>rfl
 | ok p=>
  simp only
  cases zG0 e n p.2 with
  | error f=>rfl
  | ok q=>simp
def qG4 (e n:Nat) (sh lk:List Dc) (r:List Tok):Except Flt Pg:=match zM6 e n r with
 | .error f=>.error f
 | .ok p=>.ok ⟨sh++p.shared,lk++p.locks,p.threads⟩
theorem kE9 (e n:Nat) (r:List Tok):zM6 e n r=qG4 e n [] [] r:=by unfold qG4;cases zM6 e n r with|error f=>rfl|ok p=>rfl
theorem kI8 {e n:Nat} {sh lk:List Dc} {r:List Tok} (h:isT zI9 r=true):qG4 e (n+1) sh lk r=match zH0 e (initP e) (r.length+1) r.tail with
  | .error f=>.error f
  | .ok (l,r')=>qG4 e n (sh++l) lk r':=by
 simp only [qG4,zM6,if_pos h]
 cases zH0 e (initP e) (r.length+1) r.tail with
 | error f=>rfl
 | ok p=>
  simp only
  cases zM6 e n p.2 with
  | error f=>rfl
  | ok q=>simp
theorem kH6 {e n:Nat} {sh lk:List Dc} {r:List Tok} (h0:isT zI9 r=false) (h:isT zH7 r=true):qG4 e (n+1) sh lk r=match zH0 e (declP e) (r.length+1) r.tail with
  | .error f=>.error f
  | .ok (l,r')=>qG4 e n sh (lk++l) r':=by
 simp only [qG4,zM6,if_neg (show ¬ isT zI9 r=true by simp [h0]),if_pos h]
 cases zH0 e (declP e) (r.length+1) r.tail with
 | error f=>rfl
 | ok p=>
  simp only
  cases zM6 e n p.2 with
  | error f=>rfl
  | ok q=>simp
theorem kI3 {e n:Nat} {sh lk:List Dc} {r:List Tok} (h0:isT zI9 r=false) (h1:isT zH7 r=false):qG4 e (n+1) sh lk r=match gA8 e (r.length+1) [] r with
  | .error f=>.error f
  | .ok (l,r')=>if r'.length=0 then .ok ⟨sh,lk,l⟩ else fail e 2 r':=by
 simp only [qG4,zM6,if_neg (show ¬ isT zI9 r=true by simp [h0]),if_neg (show ¬ isT zH7 r=true by simp [h1])];rw [kP1]
 cases gA8 e (r.length+1) [] r with
 | error f=>rfl
 | ok p=>
  simp only
  by_cases hc:p.2.length=0
  ·simp only [if_pos hc,List.append_nil]
  ·simp only [if_neg hc] <;> rfl
def PResG (c:PCtx) (r:List Tok) (res:Except Flt Pg) (M:List Nat) (w:World) (v:Value) (w':World):Prop:=∃ q,res=.ok q∧Chg M w w'∧HP w q v w'
set_option maxHeartbeats 2000000 in
theorem kN1 (c:PCtx) (hR:c.R=75) (hg:c.g=0) (r:List Tok) (hr:r <:+ c.ts) (w:World) (hC:PCok c w) (hP:PAt c r w) (n:Nat) (hn:r.length<n):qP5 Tryz.prog 37 [.pointer (some ⟨c.pb,0,none⟩)] w
    (PResG c r (zM6 c.e n r) [c.pb] w) (gB4 c (zM6 c.e n r) [c.pb] w):=by
 refine zN0 [_] func37 rfl ntmps37 rfl ?_;obtain⟨w0,rfl⟩:∃ w0,w0=w:=⟨_,rfl⟩
 have hP':=hP;dsimp only [PAt,zO3] at hP;have st:=St.of1 [c.pb] hP;have h20:=hC.len;have hl:=zB6 hr;have hs:=kE9 c.e n r;replace st:=(st.ownNil 63 3).ownNil 63 3;refine a2 ?_;refine zA3 (zF8 (l:=[_,_,_]) st rfl rfl qV26 rfl ?_);intro b2 w hb2 st;refine a4 ?_;refine zA3 (zF8 (l:=[_,_,_]) st rfl rfl qV26 rfl ?_);intro b3 w hb3 st;refine a3 ?_;refine zC (w0:=w0) (M:=[c.pb]) (fun (y:List Dc×List Dc×List Tok×Nat×Option Addr×Nat×Option Addr×Nat)=>[(0,.pointer (some ⟨c.pb,0,none⟩)),(2,.pointer (some ⟨b2,0,none⟩)),(3,.pointer (some ⟨b3,0,none⟩))]) (fun y=>[.blk b3 (.cells [.slice y.2.2.2.2.1 y.1.length y.2.2.2.2.2.1,.slice y.2.2.2.2.2.2.1 y.2.1.length y.2.2.2.2.2.2.2,.slice none 0 0].toArray 26 (0,0)),.own (.slice y.2.2.2.2.1 y.1.length y.2.2.2.2.2.1) 63 3 y.1.length (y.1.flatMap dcL),.own (.slice y.2.2.2.2.2.2.1 y.2.1.length y.2.2.2.2.2.2.2) 63 3 y.2.1.length (y.2.1.flatMap dcL),.blk b2 (.cells [.slice none 0 0,.slice none 0 0,.slice none 0 0].toArray 26 (0,0)),.blk c.pb (.cells (zO3 c y.2.2.1).toArray c.T (0,0))]) (fun y _=>y.2.2.1 <:+ r∧y.2.2.1.length+y.1.length+y.2.1.length≤r.length∧y.2.2.1.length<y.2.2.2.1∧zM6 c.e n r=qG4 c.e y.2.2.2.1 y.1 y.2.1 y.2.2.1) (fun y=>y.2.2.1.length) ([],[],r,n,none,0,none,0) ⟨rfl,rfl,rfl,trivial⟩ (st.pick [0,2,3,1,4] rfl (by decide)) ⟨List.suffix_refl _,by simp,hn,hs⟩ ?_;clear st hs;rintro ⟨sh,lk,r1,k,os,cs,ol,cl⟩ w ⟨hsf1,hl1,hk1,hs⟩ st;dsimp only at hsf1 hl1 hk1 hs st;have hr1:=hsf1.trans hr;obtain⟨k,rfl⟩:∃ j,k=j+1:=⟨k - 1,by omega⟩
 have h40:=hr.length_le;refine a5 ?_;refine zA3 (zA1 [_,_] rfl rfl call86 rfl (zO5 c zI9 r1 hr1 _ (hC.k1 st.chg) (by exact st.rs 4)) ?_);rintro _ w ⟨rfl,hP1,cw⟩;replace st:=St.prs (b:=c.pb) st 4 rfl cw (.inl (.head _)) hP1;dsimp only [zA0] at st;refine a3 ?_;refine vif ?_ ?_;intro hc5;(try simp only [dn] at hc5);simp only [hc5,if_true] at st;have ht:=zC2 (zI5 hc5);have hr1t:=zM7 hr1;rw [kI8 hc5] at hs;refine kdr Tryz.mixed [Yt 0,Yt 2,Yt 3,Yt 4,Yt 1,Nt 5,Nt 6,Yt 7,Nt 8] 8 [.blk b3 (.cells [.slice os sh.length cs,.slice ol lk.length cl,.slice none 0 0].toArray 26 (0,0))] st ?_;clear st;intro w st hS;refine zB0 rfl rfl rfl rfl (fun _=>hS) (fun w=>zC3 rfl qU26 rfl rfl qZ23 rfl) ?_;(iterate 2 refine km hS ?_);refine zB0 rfl rfl rfl rfl (fun _=>hS) (fun w=>qT7 [_] [] rfl rfl) ?_;refine zE4 rfl rfl rfl rfl hS (fun w st=>qE6 st 0 rfl qA23 rfl rfl) ?_;refine zG7 rfl rfl (zD1 [_,_] rfl rfl call87 rfl (gB c hR 88 (initP c.e) call88 (hinit c hR) (r1.length+1) r1.tail (by rw [List.length_tail];omega) hr1t _ (hC.k1 st.chg) (by exact st.rs 4)) (by rintro _ w' ⟨f,hf,rfl,ch⟩ a ha;exact And.intro ha (Or.inr ⟨_,rfl,f,by rw [hs,hf],rfl,st.chg.trans ch⟩)) ?_);rintro _ w ⟨l,r2,hx,hsfr2,hlnr2,hP1,cw,oD,cD,SD,rfl,hQ,hN⟩;have hNSD:=hN.le st.chg.size;replace st:=St.prsT (b:=c.pb) st 4 rfl cw (.inl (.head _)) hP1 (qH3 hQ) hN.2;dsimp only [zA0] at st;rw [hx] at hs;dsimp only at hs;have hr2:=hsfr2.trans hr1t;have hll:=zX7 c.e _ gK3 _ _ _ _ (by assumption);refine zF0 st.dr ?_;intro hS;refine zG7 rfl rfl (qE1 (bytes:=32) (len':=(sh++l).length) (ys:=(sh++l).flatMap dcL) st 2 rfl rfl rfl rfl rfl (gE3 (st.res (i:=0) rfl).1) qU23 Tryz.info63 rfl rfl rfl rfl rfl (zU8 l) (zU7 l) (by unfold maxLen;omega) (by omega) (by simp) (by simp) ?_);intro oaQ capQ w st;dsimp only [zA0] at st;refine zF0 st.dr ?_;intro hS;refine zB0 rfl rfl rfl rfl (fun _=>hS) (fun w=>zC3 rfl qU26 rfl rfl qZ23 rfl) ?_;refine zG7 rfl rfl (est st 1 qZ23 ?_);intro w st;dsimp only [zA0,wr] at st;refine zJ7 ?_;refine zS1 ?_;refine a2 ?_;refine zA7 (sh++l,lk,r2,k,oaQ,capQ,ol,cl)  ⟨rfl,rfl,rfl,trivial⟩ (st.pick [1,2,3,4,5] rfl (by decide)) ?_ ?_;exact⟨(hsfr2.trans (List.tail_suffix _)).trans hsf1,by simp;omega,by dsimp only;omega,hs⟩;dsimp only;omega;intro hc5;(try simp only [dn] at hc5);simp only [hc5,Bool.false_eq_true,if_false] at st;refine a3 ?_;refine zA3 (zA1 [_,_] rfl rfl call86 rfl (zO5 c zH7 r1 hr1 _ (hC.k1 st.chg) (by exact st.rs 4)) ?_);rintro _ w ⟨rfl,hP1,cw⟩;replace st:=St.prs (b:=c.pb) st 4 rfl cw (.inl (.head _)) hP1;dsimp only [zA0] at st;refine a3 ?_;refine vif ?_ ?_;intro hc16;(try simp only [dn] at hc16);simp only [hc16,if_true] at st;have ht:=zC2 (zI5 hc16)
 have hr1t:=zM7 hr1;rw [kH6 hc5 hc16] at hs;refine kdr Tryz.mixed [Yt 0,Yt 2,Yt 3,Yt 4,Yt 1,Nt 5,Nt 6,Yt 7,Nt 8] 8 [.blk b3 (.cells [.slice os sh.length cs,.slice ol lk.length cl,.slice none 0 0].toArray 26 (0,0))] st ?_;clear st;intro w st hS;refine zB0 rfl rfl rfl rfl (fun _=>hS) (fun w=>(by exact zV8 (k:=1) rfl qU26 rfl rfl qZ23 rfl)) ?_;(iterate 2 refine km hS ?_);refine zB0 rfl rfl rfl rfl (fun _=>hS) (fun w=>qT7 [_] [] rfl rfl) ?_;refine zE4 rfl rfl rfl rfl hS (fun w st=>qE6 st 0 rfl qA23 rfl rfl) ?_;refine zG7 rfl rfl (zD1 [_,_] rfl rfl call87 rfl (gB c hR 89 (declP c.e) call89 (jM6 c hR) (r1.length+1) r1.tail (by rw [List.length_tail];omega) hr1t _ (hC.k1 st.chg) (by exact st.rs 4)) (by rintro _ w' ⟨f,hf,rfl,ch⟩ a ha;exact And.intro ha (Or.inr ⟨_,rfl,f,by rw [hs,hf],rfl,st.chg.trans ch⟩)) ?_);rintro _ w ⟨l,r2,hx,hsfr2,hlnr2,hP1,cw,oD,cD,SD,rfl,hQ,hN⟩;have hNSD:=hN.le st.chg.size;replace st:=St.prsT (b:=c.pb) st 4 rfl cw (.inl (.head _)) hP1 (qH3 hQ) hN.2;dsimp only [zA0] at st;rw [hx] at hs;dsimp only at hs;have hr2:=hsfr2.trans hr1t;have hll:=zX7 c.e _ qN7 _ _ _ _ (by assumption);refine zF0 st.dr ?_;intro hS;refine zG7 rfl rfl (qE1 (bytes:=32) (len':=(lk++l).length) (ys:=(lk++l).flatMap dcL) st 3 rfl rfl rfl rfl rfl (gE3 (st.res (i:=0) rfl).1) qU23 Tryz.info63 rfl rfl rfl rfl rfl (zU8 l) (zU7 l) (by unfold maxLen;omega) (by omega) (by simp) (by simp) ?_);intro oaQ capQ w st;dsimp only [zA0] at st;refine zF0 st.dr ?_;intro hS;refine zB0 rfl rfl rfl rfl (fun _=>hS) (fun w=>(by exact zV8 (k:=1) rfl qU26 rfl rfl qZ23 rfl)) ?_;refine zG7 rfl rfl (est st 1 qZ23 ?_);intro w st;dsimp only [zA0,wr] at st;refine zJ7 ?_;refine zS1 ?_;refine a2 ?_;refine zA7 (sh,lk++l,r2,k,os,cs,oaQ,capQ)  ⟨rfl,rfl,rfl,trivial⟩ (st.pick [1,2,3,4,5] rfl (by decide)) ?_ ?_;exact⟨(hsfr2.trans (List.tail_suffix _)).trans hsf1,by simp;omega,by dsimp only;omega,hs⟩;dsimp only;omega;intro hc16;(try simp only [dn] at hc16);simp only [hc16,Bool.false_eq_true,if_false] at st;rw [kI3 hc5 hc16] at hs;refine a3 ?_;refine zA3 (zA1 [_,_] rfl rfl call90 rfl (qP2 c zJ8 r1 hr1 _ (hC.k1 st.chg) (by exact st.rs 4)) ?_);rintro _ w ⟨rfl,cw⟩;replace st:=st.call0 cw;refine a3 ?_;refine vif ?_ ?_;intro hc27;(try simp only [dn] at hc27);replace st:=St.pushR (r:=.tree [] (fun w=>ThSs 42 67 63 w [] [] [])) st (Chg.refl _ _) (qI6 (by simp [ThSs])) (by simp [Res.at?]);replace st:=st.ownNil 69 4;refine a2 ?_
 refine zC (w0:=w0) (M:=[c.pb]) (fun (z:List Th×List Tok×Nat×Option Addr×Nat×List Value×List Nat)=>[(0,.pointer (some ⟨c.pb,0,none⟩)),(2,.pointer (some ⟨b2,0,none⟩)),(3,.pointer (some ⟨b3,0,none⟩))]) (fun z=>[.blk b3 (.cells [.slice os sh.length cs,.slice ol lk.length cl,.slice z.2.2.2.1 z.1.length z.2.2.2.2.1].toArray 26 (0,0)),.own (.slice os sh.length cs) 63 3 sh.length (sh.flatMap dcL),.own (.slice ol lk.length cl) 63 3 lk.length (lk.flatMap dcL),.own (.slice z.2.2.2.1 z.1.length z.2.2.2.2.1) 69 4 z.1.length z.2.2.2.2.2.1,.tree z.2.2.2.2.2.2 (fun w=>ThSs 42 67 63 w z.1 z.2.2.2.2.2.1 z.2.2.2.2.2.2),.blk b2 (.cells [.slice none 0 0,.slice none 0 0,.slice none 0 0].toArray 26 (0,0)),.blk c.pb (.cells (zO3 c z.2.1).toArray c.T (0,0))]) (fun z _=>z.2.1 <:+ r1∧z.2.1.length+z.1.length≤r1.length∧z.2.1.length<z.2.2.1∧Nw w0.heap.size z.2.2.2.2.2.2∧gA8 c.e (r1.length+1) [] r1=gA8 c.e z.2.2.1 z.1 z.2.1) (fun z=>z.2.1.length) ([],r1,r1.length+1,none,0,[],[]) ⟨rfl,rfl,rfl,trivial⟩ (st.pick [2,3,4,0,1,5,6] rfl (by decide)) ⟨List.suffix_refl _,by simp,by simp,Nw.nil,rfl⟩ ?_;clear st;rintro ⟨acc,r2,j,ot,ct,xs,Sq⟩ w ⟨hsf2,hl2,hj2,hSq,hlo⟩ st;dsimp only at hsf2 hl2 hj2 hSq hlo st;have hr2:=hsf2.trans hr1;obtain⟨j,rfl⟩:∃ i,j=i+1:=⟨j - 1,by omega⟩
 refine a4 ?_;refine zA3 (zA1 [_,_] rfl rfl call86 rfl (zO5 c zJ8 r2 hr2 _ (hC.k1 st.chg) (by exact st.rs 6)) ?_);rintro _ w ⟨rfl,hP1,cw⟩;replace st:=St.prs (b:=c.pb) st 6 rfl cw (.inl (.head _)) hP1;dsimp only [zA0] at st;refine a2 ?_;refine vif ?_ ?_;intro hc31;(try simp only [dn] at hc31);simp only [hc31,if_true] at st;have ht:=zC2 (zI5 hc31);have hr2t:=zM7 hr2;rw [hlo,gD7 hc31] at hs;refine a3 ?_;refine kdr Tryz.mixed [Yt 0,Yt 2,Yt 1,Nt 3,Nt 4,Nt 5,Yt 6,Nt 7] 7 [.blk b3 (.cells [.slice os sh.length cs,.slice ol lk.length cl,.slice ot acc.length ct].toArray 26 (0,0))] st ?_;clear st;intro w st hS;refine zB0 rfl rfl rfl rfl (fun _=>hS) (fun w=>(by exact zV8 (k:=2) rfl qU26 rfl rfl qZ24 rfl)) ?_;refine km hS ?_;refine zE4 rfl rfl rfl rfl hS (fun w st=>qE6 st 0 rfl qA24 rfl rfl) ?_;refine zG7 rfl rfl (zD1 [_] rfl rfl call91 rfl (gQ8 c hR hg r2.tail hr2t _ (hC.k1 st.chg) (by exact st.rs 6)) (by rintro _ w' ⟨f,hf,rfl,ch⟩ a ha;exact And.intro ha (Or.inr ⟨_,rfl,f,by rw [hs,hf],rfl,st.chg.trans ch⟩)) ?_);rintro _ w ⟨t,r3,hx,hsfr3,hlnr3,hP1,cw,tl,tb,cll,cbb,St_,rfl,hQ,hN⟩;have hNSt:=hN.le st.chg.size;replace st:=St.prsT (b:=c.pb) st 6 rfl cw (.inl (.head _)) hP1 (kG8 hQ) hN.2;dsimp only [zA0] at st;have hx3:=hx;refine zF0 st.dr ?_;intro hS;refine zG7 rfl rfl (zI4 (l:=[_,_,_,_]) st rfl rfl rfl rfl qU24 qZ69 rfl rfl rfl qV69 ?_);intro b36 w hb36 st;refine zF0 st.dr ?_;intro hS;refine zG7 rfl rfl (qE3 (bytes:=72) st 5 0 rfl rfl rfl rfl rfl rfl qU24 Tryz.info69 rfl rfl rfl rfl rfl (by simp) rfl rfl (by unfold maxLen;omega) (by omega) ?_);intro oaQ capQ w st;dsimp only [zA0] at st;have hT2:=ThSs.snoc (st.res (i:=6) rfl).1 (st.res (i:=1) rfl).1;have hN2:=hSq.app hNSt (st.ne (i:=6) (j:=1) (by decide) rfl rfl);replace st:=((st.pick [6,1,2,3,4,5,7,8] rfl (by decide)).join (q:=.tree (Sq++St_) fun w=>ThSs 42 67 63 w (acc++[t]) (xs++thC t tl tb cll cbb) (Sq++St_)) (fun k hk=>List.mem_append.1 hk) (qI6 hT2)).pick [1,2,3,4,0,5,6] rfl (by decide);refine zF0 st.dr ?_;intro hS;refine zB0 rfl rfl rfl rfl (fun _=>hS) (fun w=>(by exact zV8 (k:=2) rfl qU26 rfl rfl qZ24 rfl)) ?_;refine zG7 rfl rfl (est st 0 qZ24 ?_);intro w st;dsimp only [zA0,wr] at st;refine zJ7 ?_;refine zS1 ?_;refine a1 ?_;refine zA7 (acc++[t],r3,j,oaQ,capQ,xs++thC t tl tb cll cbb,Sq++St_)  ⟨rfl,rfl,rfl,trivial⟩ (by simpa using st) ?_ ?_;exact⟨(hsfr3.trans (List.tail_suffix _)).trans hsf2,by simp;omega,by dsimp only;omega,hN2,by rw [hlo,gD7 hc31,hx3]⟩;dsimp only;omega;intro hc31;(try simp only [dn] at hc31);simp only [hc31,Bool.false_eq_true,if_false] at st;rw [hlo,gK4 hc31] at hs;dsimp only at hs;refine a7 ?_
 refine qJ5 Tryz.mixed [Yt 0,Yt 1,Yt 2,Yt 3,Yt 4,Yt 5,Yt 6,Yt 7,Yt 8,Yt 9] st ?_;clear st;intro w st hS;refine pm hS ?_;refine pnk hS ?_;refine pfz hS 1 qU91 qZ3 ?_;refine pld hS 6 qA3 ?_;refine pm hS ?_;refine pnk hS ?_;refine pf0 hS qU91 qZ89 ?_;refine pld hS 6 qA89 ?_;refine zA2 rfl rfl rfl hS (fun w st=>zB1 rfl qU89) ?_;refine zA2 rfl rfl rfl hS (fun w st=>zM5 rfl rfl) ?_;refine zC6 (zA6 ?_);refine vif ?_ ?_;intro hc48;(try simp only [dn] at hc48);have h0:¬ r2.length=0:=by omega
 rw [if_neg h0] at hs;refine a2 ?_;refine zA3 (zD1 [_,_] rfl rfl call50 rfl (zU3 c 2 r2 hr2 _ (hC.k1 st.chg) (by exact st.rs 6) hR) (by rintro _ w' ⟨rfl,ch⟩ a ha;exact And.intro ha (Or.inr ⟨_,rfl,(atT c.e r2,2),by rw [hs];rfl,rfl,st.chg.trans ch.of_nil⟩)) (fun _ _ h=>h.elim));intro hc48;(try simp only [dn] at hc48);have h41:=hr2.length_le;have h0:r2.length=0:=by omega
 rw [if_pos h0] at hs;refine a4 ?_;refine yla st 0 [_,_,_] qA26 qZ26 ?_;refine zA3 (zC4 st 5 [_,_,_] qZ26 ?_);intro w st;dsimp only [zA0,wr] at st;refine a7 ?_;refine zB7 st (.inl rfl) results37 (by exact .cell 5 rfl rfl qA26 qZ26) ?_;refine .inl ⟨_,rfl,?_⟩;have o1:=st.ownNw (i:=1) rfl;have o2:=st.ownNw (i:=2) rfl;have o3:=st.ownNw (i:=3) rfl;have d12:∀ k∈obk os,k∉obk ol:=fun k hk hk'=>st.ne (i:=1) (j:=2) (by decide) rfl rfl k (by simpa [Res.at?,zE8] using hk) (by simpa [Res.at?,zE8] using hk')
 have d13:∀ k∈obk os,k∉obk ot:=fun k hk hk'=>st.ne (i:=1) (j:=3) (by decide) rfl rfl k (by simpa [Res.at?,zE8] using hk) (by simpa [Res.at?,zE8] using hk')
 have d23:∀ k∈obk ol,k∉obk ot:=fun k hk hk'=>st.ne (i:=2) (j:=3) (by decide) rfl rfl k (by simpa [Res.at?,zE8] using hk) (by simpa [Res.at?,zE8] using hk')
 have d14:∀ k∈obk os,k∉Sq:=fun k hk=>st.ne (i:=1) (j:=4) (by decide) rfl rfl k (by simpa [Res.at?,zE8] using hk)
 have d24:∀ k∈obk ol,k∉Sq:=fun k hk=>st.ne (i:=2) (j:=4) (by decide) rfl rfl k (by simpa [Res.at?,zE8] using hk)
 have d34:∀ k∈obk ot,k∉Sq:=fun k hk=>st.ne (i:=3) (j:=4) (by decide) rfl rfl k (by simpa [Res.at?,zE8] using hk)
 exact⟨⟨sh,lk,acc⟩,hs,st.chg,os,ol,ot,cs,cl,ct,obk os++(obk ol++(obk ot++Sq)),rfl,⟨os,cs,ol,cl,ot,ct,obk os,obk ol,obk ot++Sq,rfl,⟨o1.1,rfl⟩,⟨o2.1,rfl⟩,⟨xs,Sq,o3.1,rfl,(st.res (i:=4) rfl).1⟩,rfl⟩,
   o1.2.app (o2.2.app (o3.2.app hSq d34) (fun b hb hb'=>(List.mem_append.1 hb').elim (d23 b hb) (d24 b hb))) (fun b hb hb'=>(List.mem_append.1 hb').elim (d12 b hb) fun h=>(List.mem_append.1 h).elim (d13 b hb) (d14 b hb))⟩
 intro hc27;(try simp only [dn] at hc27);rw [gK4 hc27] at hs;dsimp only at hs;refine a1 ?_;refine qJ5 Tryz.mixed [Yt 0,Yt 1,Yt 2,Yt 3,Yt 4,Yt 5,Yt 6,Yt 7,Yt 8,Yt 9,Yt 10] st ?_;clear st;intro w st hS;refine pm hS ?_;refine pnk hS ?_;refine pfz hS 1 qU91 qZ3 ?_;refine pld hS 4 qA3 ?_;refine pm hS ?_;refine pnk hS ?_;refine pf0 hS qU91 qZ89 ?_;refine pld hS 4 qA89 ?_;refine zA2 rfl rfl rfl hS (fun w st=>zB1 rfl qU89) ?_;refine zA2 rfl rfl rfl hS (fun w st=>zM5 rfl rfl) ?_;refine zA2 rfl rfl rfl hS (fun w st=>qL1 rfl) ?_;refine zC6 (zA6 ?_);refine vif ?_ ?_;intro hc52;(try simp only [dn] at hc52);have h0:¬ r1.length=0:=by omega
 rw [if_neg h0] at hs;refine a2 ?_;refine zA3 (zD1 [_,_] rfl rfl call50 rfl (zU3 c 2 r1 hr1 _ (hC.k1 st.chg) (by exact st.rs 4) hR) (by rintro _ w' ⟨rfl,ch⟩ a ha;exact And.intro ha (Or.inr ⟨_,rfl,(atT c.e r1,2),by rw [hs];rfl,rfl,st.chg.trans ch.of_nil⟩)) (fun _ _ h=>h.elim));intro hc52;(try simp only [dn] at hc52);have h41:=hr1.length_le;have h0:r1.length=0:=by omega
 rw [if_pos h0] at hs;refine a2 ?_;refine yla st 0 [_,_,_] qA26 qZ26 ?_;refine zA3 (zC4 st 3 [_,_,_] qZ26 ?_);intro w st;dsimp only [zA0,wr] at st;refine a7 ?_;refine zB7 st (.inl rfl) results37 (by exact .cell 3 rfl rfl qA26 qZ26) ?_;refine .inl ⟨_,rfl,?_⟩;have o1:=st.ownNw (i:=1) rfl;have o2:=st.ownNw (i:=2) rfl;have d12:∀ k∈obk os,k∉obk ol:=fun k hk hk'=>st.ne (i:=1) (j:=2) (by decide) rfl rfl k (by simpa [Res.at?,zE8] using hk) (by simpa [Res.at?,zE8] using hk')
 exact⟨⟨sh,lk,[]⟩,hs,st.chg,os,ol,none,cs,cl,0,obk os++(obk ol++[]),rfl,⟨os,cs,ol,cl,none,0,obk os,obk ol,[],rfl,⟨o1.1,rfl⟩,⟨o2.1,rfl⟩,⟨[],[],World.ownsRow_nil _ _ _ _,rfl,rfl,rfl⟩,rfl⟩,
   by rw [List.append_nil];exact o1.2.app o2.2 d12⟩
end Go.Proofs.YtnmhlpnapgojjaaGreatDoor.Pq
namespace Go.Proofs.YtnmhlpnapgojjaaGreatDoor
open Go.RowKit Sx LexS _root_.Go.Proofs.Tryz
abbrev scn (s:List UInt8) (i:Int) (fa fr:Int):Obj:=.cells [str s,.int .i64 i,.int .i64 fa,.int .i64 fr].toArray 178 (0,0)
theorem gQ (l:List UInt8) (w:World):Ret Tryz.prog 227 [str l,.int .u8 10] w fun v w'=>v=.int .i64 (Lib.indexByte l 10)∧w'=w:=
 (Tryz.strings_IndexByte ⟨l.toArray⟩ 10 w).mono fun e w' ⟨he,hw⟩=>⟨_,he,rfl,hw⟩
theorem gJ6 (l:List UInt8):Lib.hasPrefix l [47,47]=zT5 l:=by
 match l with
 | []=>rfl
 | [a]=>simp [Lib.hasPrefix,zT5,List.isPrefixOf]
 | a::b::r=>
  have h:Lib.hasPrefix (a::b::r) [47,47]=((47 == a) && (47 == b)):=by simp [Lib.hasPrefix,List.isPrefixOf]
  rw [h,zT5]
  apply Bool.eq_iff_iff.2
  simp only [Bool.and_eq_true,beq_iff_eq,decide_eq_true_eq]
  exact⟨fun ⟨h1,h2⟩=>⟨h1.symm,h2.symm⟩,fun ⟨h1,h2⟩=>⟨h1.symm,h2.symm⟩⟩
theorem kF4 (l:List UInt8) (w:World):Ret Tryz.prog 154 [str l,str [47,47]] w fun v w'=>v=.bool (zT5 l)∧w'=w:=
 (Tryz.strings_HasPrefix ⟨l.toArray⟩ ⟨[47,47].toArray⟩ w).mono fun e w' ⟨he,hw⟩=>⟨_,he,by rw [← gJ6],hw⟩
theorem zG8 {s:List UInt8} {j:Nat} (h:j<s.length):s.drop j=s.getD j 0::s.drop (j+1):=by
 rw [List.drop_eq_getElem_cons h];simp [List.getD,h]
theorem kZ3 (b:Nat) (s:List UInt8) (i:Nat) (fa fr:Int) (w:World) (hb:w.heap[b]?=some (scn s i fa fr)) (hi:i≤s.length) (hs:s.length≤3000000) :
    Ret Tryz.prog 197 [.pointer (some ⟨b,0,none⟩)] w fun v w'=>v=.tuple #[]∧Chg [b] w w'∧w'.heap[b]?=some (scn s ((i+skip (s.drop i):Nat):Int) fa fr):=by
 refine zB [_] func197 rfl ntmps197 rfl ?_;have st:=St.init w [b];replace st:=St.of1 [b] hb;refine a1 ?_;refine zC (w0:=_) (M:=_) (fun _=>[(0,.pointer (some ⟨b,0,none⟩))]) (fun (j:Nat)=>[.blk b (scn s j fa fr)]) (fun j _=>j≤s.length∧j+skip (s.drop j)=i+skip (s.drop i)) (fun j=>s.length - j) i ⟨rfl,trivial⟩ st ⟨hi,rfl⟩ ?_;rintro j w ⟨hj,he⟩ st;refine a2 ?_;refine qJ5 Tryz.mixed [Yt 0,Yt 1,Yt 2,Yt 3,Yt 4,Yt 5,Yt 6,Yt 7,Yt 8,Yt 9] st ?_;clear st;intro w st hS;refine pm hS ?_;refine pnk hS ?_;refine pfz hS 1 qU178 qZ3 ?_;refine pld hS 0 qA3 ?_;refine pm hS ?_;refine pnk hS ?_;refine pf0 hS qU178 qZ9 ?_;refine pld hS 0 qA9 ?_;refine zA2 rfl rfl rfl hS (fun w st=>zH8 rfl qU9) ?_;refine zA2 rfl rfl rfl hS (fun w st=>zM5 rfl rfl) ?_;refine zC6 (zA6 ?_);refine vif ?_ ?_
 ·intro hc12;(try simp only [dn] at hc12);have hd:=zG8 (s:=s) (j:=j) (by omega);refine a5 ?_;refine qJ5 Tryz.mixed [Yt 0,Yt 1,Yt 2,Yt 3,Yt 4,Yt 5,Yt 6,Yt 7,Yt 8,Nt 9,Yt 10] st ?_;clear st;intro w st hS;refine pm hS ?_;refine pnk hS ?_;refine pf0 hS qU178 qZ9 ?_;refine pld hS 0 qA9 ?_;refine pm hS ?_;refine pnk hS ?_;refine pfz hS 1 qU178 qZ3 ?_;refine pld hS 0 qA3 ?_;refine zA2 rfl rfl rfl hS (fun w st=>zP1 (k:=_) rfl rfl qU9 rfl (by omega)) ?_;refine zD0 rfl (zA1 [_] rfl rfl call226 rfl (kI4 _ _) ?_);rintro _ _ ⟨rfl,rfl⟩;refine zA9 (by exact st) ?_;intro hS;refine zA2 rfl rfl rfl hS (fun w st=>qL1 rfl) ?_;refine zC6 (zA6 ?_);refine vif ?_ ?_;intro hc13;(try simp only [dn] at hc13);refine a3 ?_;refine yfz 1 qU178 qZ3 ?_;refine yl st 0 qA3 ?_;refine vy (zK2 rfl rfl rfl (by omega) (by omega)) ?_;refine a1 ?_;refine yfz 1 qU178 qZ3 ?_
  first
  | refine zA3 (est st 0 qZ3 ?_)
  intro w st;dsimp only [zA0,wr] at st;refine a3 ?_;refine zA7 (j+1)  ⟨rfl,trivial⟩ st ?_ ?_;exact⟨by omega,by rw [hd,qH6 hc13] at he;omega⟩;omega;intro hc13;(try simp only [dn] at hc13);refine a1 ?_;refine qJ5 Tryz.mixed [Yt 0,Yt 1,Yt 2,Yt 3,Yt 4,Yt 5,Yt 6,Yt 7,Yt 8,Nt 9,Yt 10] st ?_;clear st;intro w st hS;refine pm hS ?_;refine pnk hS ?_;refine pf0 hS qU178 qZ9 ?_;refine pld hS 0 qA9 ?_;refine pm hS ?_;refine pnk hS ?_;refine pfz hS 1 qU178 qZ3 ?_;refine pld hS 0 qA3 ?_;refine zA2 rfl rfl rfl hS (fun w st=>jJ8 (i:=_) rfl rfl qU9 rfl (by omega)) ?_;refine zD0 rfl (zA1 [_,_] rfl rfl call154 rfl (kF4 _ _) ?_);rintro _ _ ⟨rfl,rfl⟩;refine zA9 (by exact st) ?_;intro hS;refine zA2 rfl rfl rfl hS (fun w st=>qL1 rfl) ?_;refine zC6 (zA6 ?_);refine vif ?_ ?_
  ·intro hc31;(try simp only [dn] at hc31);refine a1 ?_;refine qJ5 Tryz.mixed [Yt 0,Yt 1,Yt 2,Yt 3,Yt 4,Yt 5,Yt 6,Yt 7,Yt 8,Nt 9,Yt 10] st ?_;clear st;intro w st hS;refine pm hS ?_;refine pnk hS ?_;refine pf0 hS qU178 qZ9 ?_;refine pld hS 0 qA9 ?_;refine pm hS ?_;refine pnk hS ?_;refine pfz hS 1 qU178 qZ3 ?_;refine pld hS 0 qA3 ?_;refine zA2 rfl rfl rfl hS (fun w st=>jJ8 (i:=_) rfl rfl qU9 rfl (by omega)) ?_;refine zD0 rfl (zA1 [_,_] rfl rfl call227 rfl (gQ _ _) ?_);rintro _ _ ⟨rfl,rfl⟩;have hle:=kO1 (s.drop j);simp only [List.length_drop] at hle;have hn:=gK (s.drop j);simp only [List.length_drop] at hn;refine zA9 (by exact st) ?_;intro hS;refine zA2 rfl rfl rfl hS (fun w st=>qL1 rfl) ?_;refine zC6 (zA6 (zC5 (sr ?_)));refine a4 ?_;refine vif ?_ ?_;intro hc53;(try simp only [dn] at hc53);refine qJ5 Tryz.mixed [Yt 0,Yt 1,Yt 2,Yt 3,Yt 4,Yt 5,Yt 6,Yt 7,Yt 8,Yt 9,Yt 10] st ?_;clear st;intro w st hS;refine pm hS ?_;refine pnk hS ?_;refine pf0 hS qU178 qZ9 ?_;refine pld hS 0 qA9 ?_;refine zA2 rfl rfl rfl hS (fun w st=>zH8 rfl qU9) ?_;refine pm hS ?_;refine pnk hS ?_;refine pfz hS 1 qU178 qZ3 ?_;refine pld hS 0 qA3 ?_;refine zA2 rfl rfl rfl hS (fun w st=>qF4 rfl rfl rfl (by omega) (by omega)) ?_;refine zA2 rfl rfl rfl hS (fun w st=>qL1 rfl) ?_;refine zC6 ?_
   rotate_left
   intro hc53;(try simp only [dn] at hc53);refine a1 ?_
   all_goals
    refine a4 ?_;refine yfz 1 qU178 qZ3 ?_;refine yl st 0 qA3 ?_;refine a1 ?_;refine vy (yin ((j+qO8 (List.drop j s):Nat):Int)) ?_;refine a1 ?_;refine yfz 1 qU178 qZ3 ?_
    first
    | refine zA3 (est st 0 qZ3 ?_)
    intro w st;dsimp only [zA0,wr] at st;refine a3 ?_;refine zA7 (j+qO8 (List.drop j s))  ⟨rfl,trivial⟩ st ?_ ?_;exact⟨by omega,by rw [qS7 hc31,List.drop_drop] at he;omega⟩;have:=qH5 hc31;omega
  intro hc31;(try simp only [dn] at hc31);refine a5 ?_;refine zD4 (.inl rfl) results197 ?_;refine⟨_,rfl,?_⟩;exact⟨rfl,st.chg,by have h:=st.res (i:=0) rfl;rw [hd] at hc31;rw [hd,zQ8 hc13 hc31] at he;rw [show i+skip (List.drop i s)=j by omega];exact h⟩
 intro hc12;(try simp only [dn] at hc12);obtain rfl:j=s.length:=by omega
 simp only [List.drop_length,qI2] at he;refine a4 ?_;refine zD4 (.inr rfl) results197 ?_;refine⟨_,rfl,?_⟩;exact⟨rfl,st.chg,by have h:=st.res (i:=0) rfl;rw [show i+skip (List.drop i s)=s.length by omega];exact h⟩
abbrev kW5 (t:Tok):List Value:=[.int .u8 (t.kind:Int),str t.text,.int .i64 (t.word:Int),.int .i64 (t.at_:Int)]
abbrev zeroL:List Value:=[.int .u8 0,str [],.int .i64 0,.int .i64 0]
def gX (b:Nat) (s:List UInt8) (i:Nat) (fa fr:Int) (res:TokR) (v:Value) (w':World):Prop:=match res with
 | .tok t=>v=.agg (kW5 t).toArray∧w'.heap[b]?=some (scn s ((i+t.text.length:Nat):Int) fa fr)
 | .bad rule p=>v=.agg zeroL.toArray∧∃ j:Int,w'.heap[b]?=some (scn s j (p:Int) (rule:Int))
theorem qI8 {s:List UInt8} {i:Nat} (h:i<s.length) (hc:zE9 (s.getD i 0)=true):zK7 (s.drop i) i=
    if zP0 ((s.drop i).takeWhile zF4) then .tok ⟨2,(s.drop i).takeWhile zF4,0,i⟩ else if 32<((s.drop i).takeWhile zF4).length then .bad 2 (i+32) else .tok ⟨1,(s.drop i).takeWhile zF4,0,i⟩:=by
 rw [zG8 h];simp only [zK7,hc,if_true]
theorem qK5 {p:UInt8→Bool} {s:List UInt8} {i j:Nat} (hij:i≤j) (hj:j<s.length) (hp:p (s.getD j 0)=true)
    (h:(s.drop i).takeWhile p=(s.drop i).take (j - i)++(s.drop j).takeWhile p):(s.drop i).takeWhile p=(s.drop i).take (j+1 - i)++(s.drop (j+1)).takeWhile p:=by
 rw [h,zG8 hj,List.takeWhile_cons,if_pos hp,show j+1 - i=(j - i)+1 from by omega,List.take_succ_eq_append_getElem (by simp;omega)];simp [List.getD,hj,show i+(j - i)=j from by omega]
theorem qR9 {p:UInt8→Bool} {s:List UInt8} {i j:Nat} (hp:j<s.length→p (s.getD j 0)=false)
    (h:(s.drop i).takeWhile p=(s.drop i).take (j - i)++(s.drop j).takeWhile p):(s.drop i).takeWhile p=(s.drop i).take (j - i):=by
 by_cases hj:j<s.length
 rw [h,zG8 hj,List.takeWhile_cons,hp hj];simp;have e:s.drop j=[]:=List.drop_eq_nil_of_le (by omega);rw [h,e];simp
theorem qI5 (c:UInt8) (h:zE9 c=true∨zB5 c=true):zF4 c=true:=by unfold zF4;rcases h with h|h <;> simp [h]
theorem gE2 (c:UInt8) (h:zE9 c=false) (h':zB5 c=false):zF4 c=false:=by unfold zF4;simp [h,h']
theorem zN2 (b:Nat) (s:List UInt8) (i fa fr at_ rule:Int) (w:World) (hb:w.heap[b]?=some (scn s i fa fr)) :
    Ret Tryz.prog 229 [.pointer (some ⟨b,0,none⟩),.int .i64 at_,.int .i64 rule] w fun v w'=>v=.agg zeroL.toArray∧Chg [b] w w'∧w'.heap[b]?=some (scn s i at_ rule):=by
 refine zB [_,_,_] func229 rfl ntmps229 rfl ?_;have st:=St.init w [b];replace st:=St.of1 [b] hb;refine a2 ?_;refine zA3 (zF8 (l:=[_,_,_,_]) st rfl rfl qV118 rfl ?_);intro b6 w hb6 st;refine a7 ?_;refine vy (ybd (.agg #[_,_]) [(0,_),(1,_)]) ?_;refine a1 ?_;refine yfz 2 qU178 qZ29 ?_;refine zA3 (zC4 st 1 [_,_] qZ29 ?_);intro w st;refine a4 ?_;refine vy (ybd (.agg #[_,_,_,_]) []) ?_;refine zA3 (zC4 st 0 [_,_,_,_] qZ118 ?_);intro w st;refine a3 ?_;refine zB7 st (.inl rfl) results229 (by exact .cell 0 rfl rfl qA118 qZ118) ?_;refine⟨_,rfl,?_⟩;exact⟨rfl,st.chg,st.res (i:=1) rfl⟩
theorem jD0 (b:Nat) (s:List UInt8) (i:Nat) (fa fr:Int) (w:World) (hb:w.heap[b]?=some (scn s i fa fr)) (hi:i<s.length) (hs:s.length≤3000000) (hc:zE9 (s.getD i 0)=true) :
    Ret Tryz.prog 199 [.pointer (some ⟨b,0,none⟩)] w fun v w'=>Chg [b] w w'∧gX b s i fa fr (zK7 (s.drop i) i) v w':=by
 refine zB [_] func199 rfl ntmps199 rfl ?_;have st:=St.init w [b];replace st:=St.of1 [b] hb;refine a2 ?_;refine zA3 (zF8 (l:=[_,_,_,_]) st rfl rfl qV118 rfl ?_);intro b2 w hb2 st;refine a6 ?_;refine yfz 1 qU178 qZ3 ?_;refine yl st 1 qA3 ?_;refine a5 ?_;refine zC (w0:=_) (M:=_) (fun _=>[(0,.pointer (some ⟨b,0,none⟩)),(2,.pointer (some ⟨b2,0,none⟩)),(3,.int .i64 (i:Int))]) (fun (j:Nat)=>[.blk b2 (.cells zeroL.toArray 118 (0,0)),.blk b (scn s j fa fr)]) (fun j _=>i≤j∧j≤s.length∧(s.drop i).takeWhile zF4=(s.drop i).take (j - i)++(s.drop j).takeWhile zF4) (fun j=>s.length - j) i ⟨rfl,rfl,rfl,trivial⟩ st ⟨by omega,by omega,by simp⟩ ?_;rintro j w ⟨hij,hj,he⟩ st;refine a2 ?_;refine qJ5 Tryz.mixed [Yt 0,Yt 1,Yt 2,Yt 3,Yt 4,Yt 5,Yt 6,Yt 7,Yt 8,Yt 9,Yt 10,Yt 11,Yt 12,Yt 13,Yt 14,Yt 15,Yt 16,Yt 17,Yt 18,Yt 19,Nt 20,Yt 21,Yt 22,Yt 23,Yt 24,Yt 25,Yt 26,Yt 27,Yt 28,Yt 29,Yt 30,Nt 31,Yt 32,Yt 33] st ?_;clear st;intro w st hS;refine pm hS ?_;refine pnk hS ?_;refine pfz hS 1 qU178 qZ3 ?_;refine pld hS 1 qA3 ?_;refine pm hS ?_;refine pnk hS ?_;refine pf0 hS qU178 qZ9 ?_;refine pld hS 1 qA9 ?_;refine zA2 rfl rfl rfl hS (fun w st=>zH8 rfl qU9) ?_;refine zA2 rfl rfl rfl hS (fun w st=>zM5 rfl rfl) ?_;refine zL4 rfl rfl rfl hS rfl ?_ ?_
 ·intro hg19;(try simp only [dn] at hg19);refine pm hS ?_;refine pnk hS ?_;refine pf0 hS qU178 qZ9 ?_;refine pld hS 1 qA9 ?_;refine pm hS ?_;refine pnk hS ?_;refine pfz hS 1 qU178 qZ3 ?_;refine pld hS 1 qA3 ?_;refine zA2 rfl rfl rfl hS (fun w st=>zP1 (k:=_) rfl rfl qU9 rfl (by omega)) ?_;refine zD0 rfl (zA1 [_] rfl rfl call115 rfl (zS3 _ _) ?_);rintro _ _ ⟨rfl,rfl⟩;refine zA9 (by exact st) ?_;intro hS;refine zL4 rfl rfl rfl hS rfl ?_ ?_;intro hg30;(try simp only [dn] at hg30);(iterate 9 refine zF5 rfl rfl rfl hS ?_);refine zD0 rfl (zO6 rfl rfl (zA9 hS (fun hS=>?_)));(iterate 2 refine zA2 rfl rfl rfl hS (fun w st=>zJ0 rfl rfl) ?_);refine zC6 (zA6 ?_);refine a7 ?_;refine yfz 1 qU178 qZ3 ?_;refine yl st 1 qA3 ?_;refine vy (zK2 rfl rfl rfl (by omega) (by omega)) ?_;refine a1 ?_;refine yfz 1 qU178 qZ3 ?_;refine zA3 (est st 1 qZ3 ?_);intro w st;dsimp only [zA0,wr] at st;refine a2 ?_;refine zA7 (j+1)  ⟨rfl,rfl,rfl,trivial⟩ st ?_ ?_;exact⟨by omega,by omega,qK5 hij (by omega) (qI5 _ (by(left;assumption))) he⟩;omega;intro hg30;(try simp only [dn] at hg30);refine pm hS ?_;refine pnk hS ?_;refine pf0 hS qU178 qZ9 ?_;refine pld hS 1 qA9 ?_;refine pm hS ?_;refine pnk hS ?_;refine pfz hS 1 qU178 qZ3 ?_;refine pld hS 1 qA3 ?_;refine zA2 rfl rfl rfl hS (fun w st=>zP1 (k:=_) rfl rfl qU9 rfl (by omega)) ?_;refine zD0 rfl (zA1 [_] rfl rfl call113 rfl (qF3 _ _) ?_);rintro _ _ ⟨rfl,rfl⟩;refine zA9 (by exact st) ?_;intro hS;refine zA2 rfl rfl rfl hS (fun w st=>zN rfl rfl) ?_;refine zA2 rfl rfl rfl hS (fun w st=>zJ0 rfl rfl) ?_;refine zC6 (zA6 ?_);refine vif ?_ ?_;intro hc42;(try simp only [dn] at hc42);refine a6 ?_;refine yfz 1 qU178 qZ3 ?_;refine yl st 1 qA3 ?_;refine vy (zK2 rfl rfl rfl (by omega) (by omega)) ?_;refine a1 ?_;refine yfz 1 qU178 qZ3 ?_;refine zA3 (est st 1 qZ3 ?_);intro w st;dsimp only [zA0,wr] at st;refine a2 ?_;refine zA7 (j+1)  ⟨rfl,rfl,rfl,trivial⟩ st ?_ ?_;exact⟨by omega,by omega,qK5 hij (by omega) (qI5 _ (by(right;assumption))) he⟩;omega;intro hc42;(try simp only [dn] at hc42);have hT:=qR9 (fun _=>gE2 _ (by assumption) (by assumption)) he;refine a6 ?_;refine vdr Tryz.mixed [Yt 0,Yt 1,Yt 2,Yt 3,Yt 4,Yt 5,Yt 6,Yt 7,Yt 8,Yt 9,Yt 10,Yt 11,Nt 12,Nt 13] [.blk b (scn s j fa fr)] st ?_;clear st;intro w st hS;refine pm hS ?_;refine pnk hS ?_;refine pf0 hS qU178 qZ9 ?_;refine pld hS 0 qA9 ?_;(iterate 2 refine pm hS ?_);refine pnk hS ?_;refine pfz hS 1 qU178 qZ3 ?_;refine pld hS 0 qA3 ?_;refine zA2 rfl rfl rfl hS (fun w st=>zT6 (i:=_) (j:=_) rfl rfl rfl qU9 rfl rfl (by omega) (by omega)) ?_;refine pm hS ?_
  refine zA2 rfl rfl rfl hS (fun w st=>ybd (.agg #[_,_,_,_]) [(0,_),(1,_),(3,_)]) ?_;refine zD0 rfl (zF8 (l:=[_,_,_,_]) st rfl rfl qV118 rfl ?_);intro b4 w hb4 st;refine zA9 st.dr ?_;intro hS;refine zD0 rfl (zC4 st 0 [_,_,_,_] qZ118 ?_);intro w st;dsimp only [zA0,wr] at st;refine zA9 st.dr ?_;intro hS;refine zC6 (zA6 (zC5 (sr ?_)));refine yfz 1 qU118 qZ9 ?_;refine yl st 0 qA9 ?_;refine zA3 (zA1 [_] rfl rfl call114 rfl (gG0 _ _) ?_);rintro _ _ ⟨rfl,rfl⟩;refine a2 ?_;refine vif ?_ ?_;intro hc64;(try simp only [dn] at hc64);refine a1 ?_;refine vy (zC3 rfl qU118 rfl rfl qZ116 rfl) ?_;refine zA3 (est st 0 qZ116 ?_);intro w st;dsimp only [zA0,wr] at st;refine a4 ?_;refine yla st 0 [_,_,_,_] qA118 qZ118 ?_;refine zA3 (zC4 st 1 [_,_,_,_] qZ118 ?_);intro w st;dsimp only [zA0,wr] at st;refine a3 ?_
  rotate_left
  focus
   intro hc64;(try simp only [dn] at hc64);refine a2 ?_;refine yfz 1 qU118 qZ9 ?_;refine yl st 0 qA9 ?_;refine vy (zH8 rfl qU9) ?_;refine a3 ?_;refine vif ?_ ?_;intro hc69;(try simp only [dn] at hc69);refine a4 ?_;refine vy (zK2 rfl rfl rfl (by omega) (by omega)) ?_;refine zA3 (zA1 [_,_,_] rfl rfl call229 rfl (zN2 b s _ _ _ _ _ _ (st.res (i:=2) rfl)) ?_);rintro _ w ⟨rfl,cw,hw⟩;replace st:=st.turn (i:=2) (r':=.blk b _) rfl rfl rfl cw (.inl (by simp)) hw;dsimp only [zA0] at st;refine zA3 (zC4 st 1 [_,_,_,_] qZ118 ?_);intro w st;dsimp only [zA0,wr] at st;refine a4 ?_
   rotate_left
   intro hc69;(try simp only [dn] at hc69);refine a4 ?_;refine yla st 0 [_,_,_,_] qA118 qZ118 ?_;refine zA3 (zC4 st 1 [_,_,_,_] qZ118 ?_);intro w st;dsimp only [zA0,wr] at st;refine a3 ?_
  all_goals
   refine zB7 st (.inl rfl) results199 (by exact .cell 1 rfl rfl qA118 qZ118) ?_;refine⟨_,rfl,?_⟩;have hlen:(List.take (j - i) (List.drop i s)).length=j - i:=by simp;omega
   refine⟨st.chg,?_⟩;rw [qI8 hi hc,hT]
   first
   | (rw [if_pos hc64];exact⟨rfl,by dsimp only;rw [hlen,show i+(j - i)=j from by omega];exact st.res (i:=2) rfl⟩)
   | (rw [if_neg (by rw [hc64];simp),if_pos (by omega)];exact⟨rfl,_,st.res (i:=2) rfl⟩)
   | (rw [if_neg (by rw [hc64];simp),if_neg (by omega)];exact⟨rfl,by dsimp only;rw [hlen,show i+(j - i)=j from by omega];exact st.res (i:=2) rfl⟩)
 intro hg19;(try simp only [dn] at hg19);have hT:=qR9 (fun h=>absurd h (by omega)) he;(iterate 9 refine zF5 rfl rfl rfl hS ?_);refine zD0 rfl (zO6 rfl rfl (zA9 hS (fun hS=>?_)));(iterate 10 refine zF5 rfl rfl rfl hS ?_);refine zD0 rfl (zO6 rfl rfl (zA9 hS (fun hS=>?_)));refine zF5 rfl rfl rfl hS ?_;refine zA2 rfl rfl rfl hS (fun w st=>zN rfl rfl) ?_;refine zC6 (zA6 ?_);refine a7 ?_;refine vdr Tryz.mixed [Yt 0,Yt 1,Yt 2,Yt 3,Yt 4,Yt 5,Yt 6,Yt 7,Yt 8,Yt 9,Yt 10,Yt 11,Nt 12,Nt 13] [.blk b (scn s j fa fr)] st ?_;clear st;intro w st hS;refine pm hS ?_;refine pnk hS ?_;refine pf0 hS qU178 qZ9 ?_;refine pld hS 0 qA9 ?_;(iterate 2 refine pm hS ?_);refine pnk hS ?_;refine pfz hS 1 qU178 qZ3 ?_;refine pld hS 0 qA3 ?_;refine zA2 rfl rfl rfl hS (fun w st=>zT6 (i:=_) (j:=_) rfl rfl rfl qU9 rfl rfl (by omega) (by omega)) ?_;refine pm hS ?_;refine zA2 rfl rfl rfl hS (fun w st=>ybd (.agg #[_,_,_,_]) [(0,_),(1,_),(3,_)]) ?_;refine zD0 rfl (zF8 (l:=[_,_,_,_]) st rfl rfl qV118 rfl ?_);intro b4 w hb4 st;refine zA9 st.dr ?_;intro hS;refine zD0 rfl (zC4 st 0 [_,_,_,_] qZ118 ?_);intro w st;dsimp only [zA0,wr] at st;refine zA9 st.dr ?_;intro hS;refine zC6 (zA6 (zC5 (sr ?_)));refine yfz 1 qU118 qZ9 ?_;refine yl st 0 qA9 ?_;refine zA3 (zA1 [_] rfl rfl call114 rfl (gG0 _ _) ?_);rintro _ _ ⟨rfl,rfl⟩;refine a2 ?_;refine vif ?_ ?_;intro hc64;(try simp only [dn] at hc64);refine a1 ?_;refine vy (zC3 rfl qU118 rfl rfl qZ116 rfl) ?_;refine zA3 (est st 0 qZ116 ?_);intro w st;dsimp only [zA0,wr] at st;refine a4 ?_;refine yla st 0 [_,_,_,_] qA118 qZ118 ?_;refine zA3 (zC4 st 1 [_,_,_,_] qZ118 ?_);intro w st;dsimp only [zA0,wr] at st;refine a3 ?_
 rotate_left
 focus
  intro hc64;(try simp only [dn] at hc64);refine a2 ?_;refine yfz 1 qU118 qZ9 ?_;refine yl st 0 qA9 ?_;refine vy (zH8 rfl qU9) ?_;refine a3 ?_;refine vif ?_ ?_;intro hc69;(try simp only [dn] at hc69);refine a4 ?_;refine vy (zK2 rfl rfl rfl (by omega) (by omega)) ?_;refine zA3 (zA1 [_,_,_] rfl rfl call229 rfl (zN2 b s _ _ _ _ _ _ (st.res (i:=2) rfl)) ?_);rintro _ w ⟨rfl,cw,hw⟩;replace st:=st.turn (i:=2) (r':=.blk b _) rfl rfl rfl cw (.inl (by simp)) hw;dsimp only [zA0] at st;refine zA3 (zC4 st 1 [_,_,_,_] qZ118 ?_);intro w st;dsimp only [zA0,wr] at st;refine a4 ?_
  rotate_left
  intro hc69;(try simp only [dn] at hc69);refine a4 ?_;refine yla st 0 [_,_,_,_] qA118 qZ118 ?_;refine zA3 (zC4 st 1 [_,_,_,_] qZ118 ?_);intro w st;dsimp only [zA0,wr] at st;refine a3 ?_
 all_goals
  refine zB7 st (.inl rfl) results199 (by exact .cell 1 rfl rfl qA118 qZ118) ?_;refine⟨_,rfl,?_⟩;have hlen:(List.take (j - i) (List.drop i s)).length=j - i:=by simp;omega
  refine⟨st.chg,?_⟩;rw [qI8 hi hc,hT]
  first
  | (rw [if_pos hc64];exact⟨rfl,by dsimp only;rw [hlen,show i+(j - i)=j from by omega];exact st.res (i:=2) rfl⟩)
  | (rw [if_neg (by rw [hc64];simp),if_pos (by omega)];exact⟨rfl,_,st.res (i:=2) rfl⟩)
  | (rw [if_neg (by rw [hc64];simp),if_neg (by omega)];exact⟨rfl,by dsimp only;rw [hlen,show i+(j - i)=j from by omega];exact st.res (i:=2) rfl⟩)
end Go.Proofs.YtnmhlpnapgojjaaGreatDoor
