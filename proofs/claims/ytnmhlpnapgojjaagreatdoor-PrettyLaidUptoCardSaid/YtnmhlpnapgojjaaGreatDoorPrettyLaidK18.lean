/- A part of the proof: contracts of functions and plain laws; each theorem says its own conditions. -/
import Derived.Test.YtnmhlpnapgojjaaGreatDoorPrettyLaidAl
import Derived.Test.YtnmhlpnapgojjaaGreatDoorPrettyLaidK3
import Derived.Test.YtnmhlpnapgojjaaGreatDoorPrettyLaidK2
import Derived.Test.YtnmhlpnapgojjaaGreatDoorPrettyLaidK17
import Derived.Test.YtnmhlpnapgojjaaGreatDoorPrettyLaidK0
import Derived.Test.YtnmhlpnapgojjaaGreatDoorPrettyLaidK15
set_option linter.unusedVariables false
set_option linter.unusedSimpArgs false
namespace Go.Proofs.YtnmhlpnapgojjaaGreatDoor.Pq
open Go.RowKit Sx LexS ParS _root_.Go.Proofs.Tryz
set_option maxHeartbeats 1000000 in
theorem gQ5 (a:Nat) (c:RCtx) (σ:RS) (hr:σ.r <:+ c.ts) (w:World) (hC:RCok c w) (hP:RAt c σ w):Ret Tryz.prog 257 [.pointer (some ⟨c.rb,0,none⟩),.agg (jF8 (a:Int)).toArray] w (kA4 c σ (zK9 c.e a) w (HS w)):=by
 refine zB [_,_] func257 rfl ntmps257 rfl ?_;obtain⟨w0,rfl⟩:∃ w0,w0=w:=⟨_,rfl⟩
 have hP':=hP;dsimp only [RAt,zQ4] at hP;have st:=St.of1 [c.rb] hP;have h20:=hC.len;have hl:=zB6 hr;have hrσ:=hr;refine a2 ?_;refine zA3 (zT2 (l:=[_,_,_,_,_,_,_]) st rfl rfl rfl rfl ?_);intro b3 w hb3 st;refine zA3 (zF8 (l:=[_,_,_,_,_,_,_]) st rfl rfl qV67 rfl ?_);intro b4 w hb4 st;refine a5 ?_;refine zA3 (zA1 [_] rfl rfl call220 rfl (zM9 c σ hrσ _ (hC.k1 st.chg) (by exact st.rs 2)) ?_);rintro _ w ⟨rfl,hP1,cw⟩;replace st:=St.prs (b:=c.rb) st 2 rfl cw (.inl (.head _)) hP1;obtain⟨σ1,hσ1⟩:∃ x,zJ5 c.e σ=x:=⟨_,rfl⟩
 rw [hσ1] at st;have hsfσ1:σ1.r <:+ σ.r:=by rw [← hσ1];exact qB4
 have hrσ1:=hsfσ1.trans hrσ;have hlσ1:=zB6 hsfσ1;refine a10 ?_;refine yfz 1 qU67 qZ9 ?_;refine zA3 (est st 1 qZ9 ?_);intro w st;refine a5 ?_;refine zA3 (zA1 [_,_] rfl rfl call223 rfl (zG2 c [61] σ1 hrσ1 _ (hC.k1 st.chg) (by exact st.rs 2)) ?_);rintro _ w ⟨rfl,hP1,cw⟩;replace st:=St.prs (b:=c.rb) st 2 rfl cw (.inl (.head _)) hP1;obtain⟨σ2,hσ2⟩:∃ x,zF3 c.e [61] σ1=x:=⟨_,rfl⟩
 rw [hσ2] at st;have hsfσ2:σ2.r <:+ σ1.r:=by rw [← hσ2];exact wantR_suf
 have hrσ2:=hsfσ2.trans hrσ1;refine a6 ?_;refine zA3 (zA1 [_,_] rfl rfl call175 rfl (zH2 c zY5 σ2 hrσ2 _ (hC.k1 st.chg) (by exact st.rs 2)) ?_);rintro _ w ⟨rfl,hP1,cw⟩;replace st:=St.prs (b:=c.rb) st 2 rfl cw (.inl (.head _)) hP1;refine a2 ?_;refine vif ?_ ?_;intro hc19;have hT:zC7 zY5 σ2=true:=hc19;rw [zH6 hT] at st;obtain⟨σ3,hσ3⟩:∃ x,(RS.mk σ2.r.tail σ2.f)=x:=⟨_,rfl⟩
 rw [hσ3] at st;have hsfσ3:σ3.r <:+ σ2.r:=by rw [← hσ3];exact List.tail_suffix _
 have hrσ3:=hsfσ3.trans hrσ2;refine a2 ?_;refine vy (zC3 rfl qU67 rfl rfl qZ64 rfl) ?_;refine zA3 (est st 1 qZ64 ?_);intro w st;refine a5 ?_;refine zA3 (zA1 [_,_] rfl rfl call223 rfl (zG2 c [40] σ3 hrσ3 _ (hC.k1 st.chg) (by exact st.rs 2)) ?_);rintro _ w ⟨rfl,hP1,cw⟩;replace st:=St.prs (b:=c.rb) st 2 rfl cw (.inl (.head _)) hP1;obtain⟨σ4,hσ4⟩:∃ x,zF3 c.e [40] σ3=x:=⟨_,rfl⟩
 rw [hσ4] at st;have hsfσ4:σ4.r <:+ σ3.r:=by rw [← hσ4];exact wantR_suf
 have hrσ4:=hsfσ4.trans hrσ3;refine a5 ?_;refine zA3 (zA1 [_] rfl rfl call220 rfl (zM9 c σ4 hrσ4 _ (hC.k1 st.chg) (by exact st.rs 2)) ?_);rintro _ w ⟨rfl,hP1,cw⟩;replace st:=St.prs (b:=c.rb) st 2 rfl cw (.inl (.head _)) hP1;obtain⟨σ5,hσ5⟩:∃ x,zJ5 c.e σ4=x:=⟨_,rfl⟩
 rw [hσ5] at st;have hsfσ5:σ5.r <:+ σ4.r:=by rw [← hσ5];exact qB4
 have hrσ5:=hsfσ5.trans hrσ4;have hlσ5:=zB6 hsfσ5;refine a10 ?_;refine yfz 2 qU67 qZ9 ?_;refine zA3 (est st 1 qZ9 ?_);intro w st;refine a5 ?_;refine zA3 (zA1 [_,_] rfl rfl call223 rfl (zG2 c [44] σ5 hrσ5 _ (hC.k1 st.chg) (by exact st.rs 2)) ?_);rintro _ w ⟨rfl,hP1,cw⟩;replace st:=St.prs (b:=c.rb) st 2 rfl cw (.inl (.head _)) hP1;obtain⟨σ6,hσ6⟩:∃ x,zF3 c.e [44] σ5=x:=⟨_,rfl⟩
 rw [hσ6] at st;have hsfσ6:σ6.r <:+ σ5.r:=by rw [← hσ6];exact wantR_suf
 have hrσ6:=hsfσ6.trans hrσ5;refine a5 ?_;refine zA3 (zA1 [_,_,_] rfl rfl call256 rfl (qB c σ6 hrσ6 _ (hC.k1 st.chg) (by exact st.rs 2)) ?_);rintro _ w ⟨x,σ7,hDσ7,hsfσ7,hP1,cw,ox,cx,Sx,rfl,hQ,hN⟩;have hNSx:=hN.le st.chg.size;replace st:=St.prsT (b:=c.rb) st 2 rfl cw (.inl (.head _)) hP1 (zF9 hQ) hN.2;have hrσ7:=hsfσ7.trans hrσ6;refine zA3 (zI4 (l:=[_,_,_,_,_,_]) st rfl rfl rfl rfl qU40 qZ42 rfl rfl rfl qV42 ?_);intro b34 w hb34 st;refine yfz 3 qU67 qZ40 ?_;refine zA3 (est st 3 qZ40 ?_);intro w st;refine a4 ?_;refine zA3 (zA1 [_,_] rfl rfl call223 rfl (zG2 c [41] σ7 hrσ7 _ (hC.k1 st.chg) (by exact st.rs 4)) ?_);rintro _ w ⟨rfl,hP1,cw⟩;replace st:=St.prs (b:=c.rb) st 4 rfl cw (.inl (.head _)) hP1;obtain⟨σ8,hσ8⟩:∃ x,zF3 c.e [41] σ7=x:=⟨_,rfl⟩
 rw [hσ8] at st;have hsfσ8:σ8.r <:+ σ7.r:=by rw [← hσ8];exact wantR_suf
 have hrσ8:=hsfσ8.trans hrσ7;refine a5 ?_;refine zA3 (zA1 [_,_] rfl rfl call223 rfl (zG2 c [59] σ8 hrσ8 _ (hC.k1 st.chg) (by exact st.rs 4)) ?_);rintro _ w ⟨rfl,hP1,cw⟩;replace st:=St.prs (b:=c.rb) st 4 rfl cw (.inl (.head _)) hP1;obtain⟨σ9,hσ9⟩:∃ x,zF3 c.e [59] σ8=x:=⟨_,rfl⟩
 rw [hσ9] at st;have hsfσ9:σ9.r <:+ σ8.r:=by rw [← hσ9];exact wantR_suf
 have hrσ9:=hsfσ9.trans hrσ8;refine a4 ?_;refine yla st 3 [_,_,_,_,_,_,_] qA67 qZ67 ?_;refine zA3 (zC4 st 2 [_,_,_,_,_,_,_] qZ67 ?_);intro w st;refine a3 ?_;refine zB7 st (.inl rfl) results257 (by exact .cell 2 rfl rfl qA67 qZ67) ?_;refine⟨_,rfl,?_⟩
 have hdone:Done (run (zK9 c.e a) σ) (.mk 2 (zQ σ) (zQ σ4) [x] [] [] (a:Int)) σ9:=by
  rw [← hσ9,← hσ8]
  exact gO5 (by rw [hσ1,hσ2];exact hT) (by rw [hσ1,hσ2,hσ3];exact hσ4.symm) (by rw [hσ5,hσ6];exact hDσ7)
 refine⟨_,σ9,hdone,hsfσ9.trans (hsfσ8.trans (hsfσ7.trans (hsfσ6.trans (hsfσ5.trans (hsfσ4.trans (hsfσ3.trans (hsfσ2.trans hsfσ1))))))),(by exact st.rs 4),st.chg,some ⟨b34,0,none⟩,none,none,1,0,0,b34::Sx,rfl,SmS_iff.2 ⟨some ⟨b34,0,none⟩,1,none,0,none,0,b34::Sx,[],[],rfl,(by exact qE7 (st.res (i:=0) rfl) (st.res (i:=1) rfl).1),zL3,zL3,by simp⟩,Nw.app (S:=[b34]) ⟨by simp,by simpa using hb34⟩ hNSx (fun b hb hb'=>by exact st.ne (i:=0) (j:=1) (by decide) rfl rfl b hb hb')⟩;intro hc19;have hF:zC7 zY5 σ2=false:=hc19;rw [zG9 hF] at st;refine a2 ?_;refine vy (zC3 rfl qU67 rfl rfl qZ64 rfl) ?_;refine zA3 (est st 1 qZ64 ?_);intro w st;refine a4 ?_;refine zA3 (zA1 [_,_,_] rfl rfl call256 rfl (qB c σ2 hrσ2 _ (hC.k1 st.chg) (by exact st.rs 2)) ?_);rintro _ w ⟨x,σ7,hDσ7,hsfσ7,hP1,cw,ox,cx,Sx,rfl,hQ,hN⟩;have hNSx:=hN.le st.chg.size;replace st:=St.prsT (b:=c.rb) st 2 rfl cw (.inl (.head _)) hP1 (zF9 hQ) hN.2;have hrσ7:=hsfσ7.trans hrσ2;refine zA3 (zI4 (l:=[_,_,_,_,_,_]) st rfl rfl rfl rfl qU40 qZ42 rfl rfl rfl qV42 ?_);intro b41 w hb41 st;refine yfz 3 qU67 qZ40 ?_;refine zA3 (est st 3 qZ40 ?_);intro w st;refine a5 ?_;refine zA3 (zA1 [_,_] rfl rfl call223 rfl (zG2 c [59] σ7 hrσ7 _ (hC.k1 st.chg) (by exact st.rs 4)) ?_);rintro _ w ⟨rfl,hP1,cw⟩;replace st:=St.prs (b:=c.rb) st 4 rfl cw (.inl (.head _)) hP1;obtain⟨σ9,hσ9⟩:∃ x,zF3 c.e [59] σ7=x:=⟨_,rfl⟩
 rw [hσ9] at st;have hsfσ9:σ9.r <:+ σ7.r:=by rw [← hσ9];exact wantR_suf
 have hrσ9:=hsfσ9.trans hrσ7;refine a4 ?_;refine yla st 3 [_,_,_,_,_,_,_] qA67 qZ67 ?_;refine zA3 (zC4 st 2 [_,_,_,_,_,_,_] qZ67 ?_);intro w st;refine a3 ?_;refine zB7 st (.inl rfl) results257 (by exact .cell 2 rfl rfl qA67 qZ67) ?_;refine⟨_,rfl,?_⟩
 have hdone:Done (run (zK9 c.e a) σ) (.mk 1 (zQ σ) [] [x] [] [] (a:Int)) σ9:=by
  rw [← hσ9]
  exact gK6 (by rw [hσ1,hσ2];exact hF) (by rw [hσ1,hσ2];exact hDσ7)
 refine⟨_,σ9,hdone,hsfσ9.trans (hsfσ7.trans (hsfσ2.trans hsfσ1)),(by exact st.rs 4),st.chg,some ⟨b41,0,none⟩,none,none,1,0,0,b41::Sx,rfl,SmS_iff.2 ⟨some ⟨b41,0,none⟩,1,none,0,none,0,b41::Sx,[],[],rfl,(by exact qE7 (st.res (i:=0) rfl) (st.res (i:=1) rfl).1),zL3,zL3,by simp⟩,Nw.app (S:=[b41]) ⟨by simp,by simpa using hb41⟩ hNSx (fun b hb hb'=>by exact st.ne (i:=0) (j:=1) (by decide) rfl rfl b hb hb')⟩
set_option maxHeartbeats 2000000 in
theorem jA3 (c:RCtx) (n:Nat) (hB:∀ k,k<n→BKR c k):SMR c n:=by
 intro m d hd σ hr ho hn w hC hP;refine zB [_,_] func242 rfl ntmps242 rfl ?_;obtain⟨w0,rfl⟩:∃ w0,w0=w:=⟨_,rfl⟩
 have hP':=hP;dsimp only [RAt,zQ4] at hP;have st:=St.of1 [c.rb] hP;have h20:=hC.len;have hl:=zB6 hr
 have hk4:(here σ.r).kind=4→zM1 (here σ.r).text=true:=fun hk=>by
  have hne:=zN7 hk (by decide)
  obtain⟨x,l,hxl⟩:∃ x l,σ.r=x::l:=by
   cases hq:σ.r with
   | nil=>exact absurd hq hne
   | cons x l=>exact⟨x,l,rfl⟩
  rw [hxl] at hk ⊢
  exact hC.sg x (hr.subset (by rw [hxl];exact .head _)) hk
 refine a2 ?_;refine zA3 (zF8 (l:=[_,_,_,_,_,_,_]) st rfl rfl qV67 rfl ?_);intro b4 w hb4 st;refine a5 ?_;refine zA3 (zA1 [_] rfl rfl call221 rfl (zX c σ hr _ (hC.k1 st.chg) (by exact st.rs 1)) ?_);rintro _ w ⟨rfl,cw⟩;replace st:=st.call0 cw;refine vy (gK2 rfl qU118 rfl rfl qA3 rfl) ?_;refine vy (ybd (.agg #[_,_,_,_,_,_,_]) [(6,_)]) ?_;refine zA3 (zF8 (l:=[_,_,_,_,_,_,_]) st rfl rfl qV67 rfl ?_);intro b5 w hb5 st;refine zA3 (zC4 st 0 [_,_,_,_,_,_,_] qZ67 ?_);intro w st;refine a7 ?_;refine zA3 (zA1 [_,_] rfl rfl call175 rfl (zH2 c wIf σ hr _ (hC.k1 st.chg) (by exact st.rs 2)) ?_);rintro _ w ⟨rfl,hP1,cw⟩;replace st:=St.prs (b:=c.rb) st 2 rfl cw (.inl (.head _)) hP1;refine a3 ?_;refine vif ?_ ?_;intro hc15;have hT1:zC7 wIf σ=true:=hc15;have htl:=zC2 (zI5 (zC8 hT1).2);rw [zH6 hT1] at st;obtain⟨σ1,hσ1⟩:∃ x,(RS.mk σ.r.tail σ.f)=x:=⟨_,rfl⟩
 rw [hσ1] at st;have hsfσ1:σ1.r <:+ σ.r:=by rw [← hσ1];exact List.tail_suffix _
 have hrσ1:=hsfσ1.trans hr;have hl1:σ1.r.length<σ.r.length:=by rw [← hσ1];exact htl
 refine a2 ?_;refine vy (zC3 rfl qU67 rfl rfl qZ64 rfl) ?_;refine zA3 (est st 0 qZ64 ?_);intro w st;refine a5 ?_;refine zA3 (zA1 [_] rfl rfl call254 rfl (gE4 c σ1 hrσ1 _ (hC.k1 st.chg) (by exact st.rs 2)) ?_);rintro _ w ⟨x,σ2,hDσ2,hsfσ2,hP1,cw,ox,cx,Sx,rfl,hQ,hN⟩;have hNSx:=hN.le st.chg.size;replace st:=St.prsT (b:=c.rb) st 2 rfl cw (.inl (.head _)) hP1 (zF9 hQ) hN.2;have hrσ2:=hsfσ2.trans hrσ1;have hlσ2:=zB6 hsfσ2;refine yfz 3 qU67 qZ40 ?_;refine zA3 (est st 1 qZ40 ?_);intro w st;refine a6 ?_;refine zA3 (zA1 [_,_] rfl rfl call255 rfl (hB σ1.r.length (by omega) m d hd σ2 hrσ2 (fun _=>by omega) _ (hC.k1 st.chg) (by exact st.rs 3)) ?_);rintro _ w ⟨b,σ3,hDσ3,hsfσ3,hP1,cw,ob,cb,Sb,rfl,hQ,hN⟩;have hNSb:=hN.le st.chg.size;replace st:=St.prsT (b:=c.rb) st 3 rfl cw (.inl (.head _)) hP1 (zM8 hQ) hN.2;have hrσ3:=hsfσ3.trans hrσ2;have hlσ3:=zB6 hsfσ3;refine yfz 4 qU67 qZ65 ?_;refine zA3 (est st 2 qZ65 ?_);intro w st;refine a5 ?_;refine zA3 (zA1 [_,_] rfl rfl call175 rfl (zH2 c zS6 σ3 hrσ3 _ (hC.k1 st.chg) (by exact st.rs 4)) ?_);rintro _ w ⟨rfl,hP1,cw⟩;replace st:=St.prs (b:=c.rb) st 4 rfl cw (.inl (.head _)) hP1;refine a2 ?_;refine vif ?_ ?_;intro hc27;have hTe:zC7 zS6 σ3=true:=hc27;rw [zH6 hTe] at st;obtain⟨σ4,hσ4⟩:∃ x,(RS.mk σ3.r.tail σ3.f)=x:=⟨_,rfl⟩
 rw [hσ4] at st;have hsfσ4:σ4.r <:+ σ3.r:=by rw [← hσ4];exact List.tail_suffix _
 have hrσ4:=hsfσ4.trans hrσ3;have hlσ4:=zB6 hsfσ4;refine a3 ?_;refine zA3 (zA1 [_,_] rfl rfl call255 rfl (hB σ1.r.length (by omega) m d hd σ4 hrσ4 (fun _=>by omega) _ (hC.k1 st.chg) (by exact st.rs 4)) ?_);rintro _ w ⟨l,σ5,hDσ5,hsfσ5,hP1,cw,ol,cl,Sl,rfl,hQ,hN⟩;have hNSl:=hN.le st.chg.size;replace st:=St.prsT (b:=c.rb) st 4 rfl cw (.inl (.head _)) hP1 (zM8 hQ) hN.2;have hrσ5:=hsfσ5.trans hrσ4;have hlσ5:=zB6 hsfσ5;refine yfz 5 qU67 qZ65 ?_;refine zA3 (est st 3 qZ65 ?_);intro w st;refine a5 ?_;refine yla st 3 [_,_,_,_,_,_,_] qA67 qZ67 ?_;refine zA3 (zC4 st 4 [_,_,_,_,_,_,_] qZ67 ?_);intro w st;refine a3 ?_;refine zB7 st (.inl rfl) results242 (by exact .cell 4 rfl rfl qA67 qZ67) ?_;refine⟨_,rfl,?_⟩;have hdone:=gO6 (a:=atT c.e σ.r) hDσ2 hDσ3 hTe (by rw [hσ4];exact hDσ5);rw [← hσ1,← kS5 hk4 hT1,← zO7] at hdone;rw [← zZ2] at hdone;refine⟨_,σ5,hdone,hsfσ5.trans (hsfσ4.trans (hsfσ3.trans (hsfσ2.trans hsfσ1))),(by exact st.rs 5),st.chg,ox,ob,ol,cx,cb,cl,Sx++(Sb++Sl),rfl,SmS_iff.2 ⟨ox,cx,ob,cb,ol,cl,Sx,Sb,Sl,rfl,(st.res (i:=2) rfl).1,(st.res (i:=1) rfl).1,(st.res (i:=0) rfl).1,rfl⟩,hNSx.app (hNSb.app hNSl (st.ne (i:=1) (j:=0) (by decide) rfl rfl)) (fun k hk hk'=>(List.mem_append.1 hk').elim ((st.ne (i:=2) (j:=1) (by decide) rfl rfl) k hk) ((st.ne (i:=2) (j:=0) (by decide) rfl rfl) k hk))⟩;intro hc27;have hFe:zC7 zS6 σ3=false:=hc27;rw [zG9 hFe] at st;refine a5 ?_;refine yla st 2 [_,_,_,_,_,_,_] qA67 qZ67 ?_;refine zA3 (zC4 st 3 [_,_,_,_,_,_,_] qZ67 ?_);intro w st;refine a3 ?_;refine zB7 st (.inl rfl) results242 (by exact .cell 3 rfl rfl qA67 qZ67) ?_;refine⟨_,rfl,?_⟩;have hdone:=kA7 (a:=atT c.e σ.r) hDσ2 hDσ3 hFe;rw [← hσ1,← kS5 hk4 hT1,← zO7] at hdone;rw [← zZ2] at hdone;refine⟨_,σ3,hdone,hsfσ3.trans (hsfσ2.trans hsfσ1),(by exact st.rs 4),st.chg,ox,ob,none,cx,cb,0,Sx++(Sb++[]),rfl,SmS_iff.2 ⟨ox,cx,ob,cb,none,0,Sx,Sb,[],rfl,(st.res (i:=1) rfl).1,(st.res (i:=0) rfl).1,zL3,rfl⟩,by rw [List.append_nil];exact hNSx.app hNSb (st.ne (i:=1) (j:=0) (by decide) rfl rfl)⟩;intro hc15;have hF1:zC7 wIf σ=false:=hc15;rw [zG9 hF1] at st;refine a3 ?_;refine zA3 (zA1 [_,_] rfl rfl call175 rfl (zH2 c zH σ hr _ (hC.k1 st.chg) (by exact st.rs 2)) ?_);rintro _ w ⟨rfl,hP1,cw⟩;replace st:=St.prs (b:=c.rb) st 2 rfl cw (.inl (.head _)) hP1;refine a3 ?_;refine vif ?_ ?_;intro hc32;have hT2:zC7 zH σ=true:=hc32;have htl:=zC2 (zI5 (zC8 hT2).2);rw [zH6 hT2] at st;obtain⟨σ1,hσ1⟩:∃ x,(RS.mk σ.r.tail σ.f)=x:=⟨_,rfl⟩
 rw [hσ1] at st;have hsfσ1:σ1.r <:+ σ.r:=by rw [← hσ1];exact List.tail_suffix _
 have hrσ1:=hsfσ1.trans hr;have hl1:σ1.r.length<σ.r.length:=by rw [← hσ1];exact htl
 refine a2 ?_;refine vy (zC3 rfl qU67 rfl rfl qZ64 rfl) ?_;refine zA3 (est st 0 qZ64 ?_);intro w st;refine a5 ?_;refine zA3 (zA1 [_] rfl rfl call254 rfl (gE4 c σ1 hrσ1 _ (hC.k1 st.chg) (by exact st.rs 2)) ?_);rintro _ w ⟨x,σ2,hDσ2,hsfσ2,hP1,cw,ox,cx,Sx,rfl,hQ,hN⟩;have hNSx:=hN.le st.chg.size;replace st:=St.prsT (b:=c.rb) st 2 rfl cw (.inl (.head _)) hP1 (zF9 hQ) hN.2;have hrσ2:=hsfσ2.trans hrσ1;have hlσ2:=zB6 hsfσ2;refine yfz 3 qU67 qZ40 ?_;refine zA3 (est st 1 qZ40 ?_);intro w st;refine a5 ?_;refine zA3 (zA1 [_,_] rfl rfl call255 rfl (hB σ1.r.length (by omega) m d hd σ2 hrσ2 (fun _=>by omega) _ (hC.k1 st.chg) (by exact st.rs 3)) ?_);rintro _ w ⟨b,σ3,hDσ3,hsfσ3,hP1,cw,ob,cb,Sb,rfl,hQ,hN⟩;have hNSb:=hN.le st.chg.size;replace st:=St.prsT (b:=c.rb) st 3 rfl cw (.inl (.head _)) hP1 (zM8 hQ) hN.2;have hrσ3:=hsfσ3.trans hrσ2;have hlσ3:=zB6 hsfσ3;refine yfz 4 qU67 qZ65 ?_;refine zA3 (est st 2 qZ65 ?_);intro w st;refine a5 ?_;refine yla st 2 [_,_,_,_,_,_,_] qA67 qZ67 ?_;refine zA3 (zC4 st 3 [_,_,_,_,_,_,_] qZ67 ?_);intro w st;refine a3 ?_;refine zB7 st (.inl rfl) results242 (by exact .cell 3 rfl rfl qA67 qZ67) ?_;refine⟨_,rfl,?_⟩;have hdone:=kN0 (a:=atT c.e σ.r) hDσ2 hDσ3;rw [← hσ1,← kB hk4 hF1 hT2,← zO7] at hdone;rw [← zZ2] at hdone;refine⟨_,σ3,hdone,hsfσ3.trans (hsfσ2.trans hsfσ1),(by exact st.rs 4),st.chg,ox,ob,none,cx,cb,0,Sx++(Sb++[]),rfl,SmS_iff.2 ⟨ox,cx,ob,cb,none,0,Sx,Sb,[],rfl,(st.res (i:=1) rfl).1,(st.res (i:=0) rfl).1,zL3,rfl⟩,by rw [List.append_nil];exact hNSx.app hNSb (st.ne (i:=1) (j:=0) (by decide) rfl rfl)⟩;intro hc32;have hF2:zC7 zH σ=false:=hc32;rw [zG9 hF2] at st;refine a3 ?_;refine zA3 (zA1 [_,_] rfl rfl call175 rfl (zH2 c zH7 σ hr _ (hC.k1 st.chg) (by exact st.rs 2)) ?_);rintro _ w ⟨rfl,hP1,cw⟩;replace st:=St.prs (b:=c.rb) st 2 rfl cw (.inl (.head _)) hP1;refine a3 ?_;refine vif ?_ ?_;intro hc43;have hT3:zC7 zH7 σ=true:=hc43;have htl:=zC2 (zI5 (zC8 hT3).2);rw [zH6 hT3] at st;obtain⟨σ1,hσ1⟩:∃ x,(RS.mk σ.r.tail σ.f)=x:=⟨_,rfl⟩
 rw [hσ1] at st;have hsfσ1:σ1.r <:+ σ.r:=by rw [← hσ1];exact List.tail_suffix _
 have hrσ1:=hsfσ1.trans hr;have hl1:σ1.r.length<σ.r.length:=by rw [← hσ1];exact htl
 refine a2 ?_;refine vy (zC3 rfl qU67 rfl rfl qZ64 rfl) ?_;refine zA3 (est st 0 qZ64 ?_);intro w st;refine a5 ?_;refine zA3 (zA1 [_] rfl rfl call220 rfl (zM9 c σ1 hrσ1 _ (hC.k1 st.chg) (by exact st.rs 2)) ?_);rintro _ w ⟨rfl,hP1,cw⟩;replace st:=St.prs (b:=c.rb) st 2 rfl cw (.inl (.head _)) hP1;obtain⟨σ2,hσ2⟩:∃ x,zJ5 c.e σ1=x:=⟨_,rfl⟩
 rw [hσ2] at st;have hsfσ2:σ2.r <:+ σ1.r:=by rw [← hσ2];exact qB4
 have hrσ2:=hsfσ2.trans hrσ1;have hlσ2:=zB6 hsfσ2;refine a10 ?_;refine yfz 1 qU67 qZ9 ?_;refine zA3 (est st 0 qZ9 ?_);intro w st;refine a5 ?_;refine zA3 (zA1 [_,_] rfl rfl call255 rfl (hB σ1.r.length (by omega) m d hd σ2 hrσ2 (fun _=>by omega) _ (hC.k1 st.chg) (by exact st.rs 2)) ?_);rintro _ w ⟨b,σ3,hDσ3,hsfσ3,hP1,cw,ob,cb,Sb,rfl,hQ,hN⟩;have hNSb:=hN.le st.chg.size;replace st:=St.prsT (b:=c.rb) st 2 rfl cw (.inl (.head _)) hP1 (zM8 hQ) hN.2;have hrσ3:=hsfσ3.trans hrσ2;have hlσ3:=zB6 hsfσ3;refine yfz 4 qU67 qZ65 ?_;refine zA3 (est st 1 qZ65 ?_);intro w st;refine a5 ?_;refine yla st 1 [_,_,_,_,_,_,_] qA67 qZ67 ?_;refine zA3 (zC4 st 2 [_,_,_,_,_,_,_] qZ67 ?_);intro w st;refine a3 ?_;refine zB7 st (.inl rfl) results242 (by exact .cell 2 rfl rfl qA67 qZ67) ?_;refine⟨_,rfl,?_⟩;have hdone:=kC9 (a:=atT c.e σ.r) (σ:=σ1) (by rw [hσ2];exact hDσ3);rw [← hσ1,← kQ1 hk4 hF1 hF2 hT3,← zO7,hσ1] at hdone;rw [← zZ2] at hdone;refine⟨_,σ3,hdone,hsfσ3.trans (hsfσ2.trans hsfσ1),(by exact st.rs 3),st.chg,none,ob,none,0,cb,0,[]++(Sb++[]),rfl,SmS_iff.2 ⟨none,0,ob,cb,none,0,[],Sb,[],rfl,qC6,(by exact(st.res (i:=0) rfl).1),zL3,rfl⟩,by simpa using hNSb⟩;intro hc43;have hF3:zC7 zH7 σ=false:=hc43;rw [zG9 hF3] at st;refine a3 ?_;refine zA3 (zA1 [_,_] rfl rfl call175 rfl (zH2 c zI2 σ hr _ (hC.k1 st.chg) (by exact st.rs 2)) ?_);rintro _ w ⟨rfl,hP1,cw⟩;replace st:=St.prs (b:=c.rb) st 2 rfl cw (.inl (.head _)) hP1;refine a3 ?_;refine vif ?_ ?_;intro hc58;have hT4:zC7 zI2 σ=true:=hc58;have htl:=zC2 (zI5 (zC8 hT4).2);rw [zH6 hT4] at st;obtain⟨σ1,hσ1⟩:∃ x,(RS.mk σ.r.tail σ.f)=x:=⟨_,rfl⟩
 rw [hσ1] at st;have hsfσ1:σ1.r <:+ σ.r:=by rw [← hσ1];exact List.tail_suffix _
 have hrσ1:=hsfσ1.trans hr;have hl1:σ1.r.length<σ.r.length:=by rw [← hσ1];exact htl
 refine a2 ?_;refine vy (zC3 rfl qU67 rfl rfl qZ64 rfl) ?_;refine zA3 (est st 0 qZ64 ?_);intro w st;refine a5 ?_;refine zA3 (zA1 [_,_,_] rfl rfl call256 rfl (qB c σ1 hrσ1 _ (hC.k1 st.chg) (by exact st.rs 2)) ?_);rintro _ w ⟨x,σ2,hDσ2,hsfσ2,hP1,cw,ox,cx,Sx,rfl,hQ,hN⟩;have hNSx:=hN.le st.chg.size;replace st:=St.prsT (b:=c.rb) st 2 rfl cw (.inl (.head _)) hP1 (zF9 hQ) hN.2;have hrσ2:=hsfσ2.trans hrσ1;refine zA3 (zI4 (l:=[_,_,_,_,_,_]) st rfl rfl rfl rfl qU40 qZ42 rfl rfl rfl qV42 ?_);intro b64 w hb64 st;refine yfz 3 qU67 qZ40 ?_;refine zA3 (est st 2 qZ40 ?_);intro w st;refine a4 ?_;refine zA3 (zA1 [_,_] rfl rfl call223 rfl (zG2 c [59] σ2 hrσ2 _ (hC.k1 st.chg) (by exact st.rs 4)) ?_);rintro _ w ⟨rfl,hP1,cw⟩;replace st:=St.prs (b:=c.rb) st 4 rfl cw (.inl (.head _)) hP1;obtain⟨σ3,hσ3⟩:∃ x,zF3 c.e [59] σ2=x:=⟨_,rfl⟩
 rw [hσ3] at st;have hsfσ3:σ3.r <:+ σ2.r:=by rw [← hσ3];exact wantR_suf
 have hrσ3:=hsfσ3.trans hrσ2;refine a5 ?_;refine yla st 2 [_,_,_,_,_,_,_] qA67 qZ67 ?_;refine zA3 (zC4 st 3 [_,_,_,_,_,_,_] qZ67 ?_);intro w st;refine a3 ?_;refine zB7 st (.inl rfl) results242 (by exact .cell 3 rfl rfl qA67 qZ67) ?_;refine⟨_,rfl,?_⟩;have hdone:=kA5 (a:=atT c.e σ.r) hDσ2;rw [← hσ1,← kD (blk:=gN c.e m) hk4 hF1 hF2 hF3 hT4,← zO7,hσ3] at hdone;rw [← zZ2] at hdone;refine⟨_,σ3,hdone,hsfσ3.trans (hsfσ2.trans hsfσ1),(by exact st.rs 4),st.chg,(some ⟨b64,0,none⟩),none,none,1,0,0,(b64::Sx)++([]++[]),rfl,SmS_iff.2 ⟨(some ⟨b64,0,none⟩),1,none,0,none,0,(b64::Sx),[],[],rfl,(by exact qE7 (st.res (i:=0) rfl) (st.res (i:=1) rfl).1),zL3,zL3,rfl⟩,by simpa using Nw.app (S:=[b64]) ⟨by simp,by simpa using hb64⟩ hNSx (fun b hb hb'=>by exact st.ne (i:=0) (j:=1) (by decide) rfl rfl b hb hb')⟩;intro hc58;have hF4:zC7 zI2 σ=false:=hc58;rw [zG9 hF4] at st;refine a3 ?_;refine zA3 (zA1 [_,_] rfl rfl call175 rfl (zH2 c zO9 σ hr _ (hC.k1 st.chg) (by exact st.rs 2)) ?_);rintro _ w ⟨rfl,hP1,cw⟩;replace st:=St.prs (b:=c.rb) st 2 rfl cw (.inl (.head _)) hP1;refine a3 ?_;refine vif ?_ ?_;intro hc68;have hT5:zC7 zO9 σ=true:=hc68;have htl:=zC2 (zI5 (zC8 hT5).2);rw [zH6 hT5] at st;obtain⟨σ1,hσ1⟩:∃ x,(RS.mk σ.r.tail σ.f)=x:=⟨_,rfl⟩
 rw [hσ1] at st;have hsfσ1:σ1.r <:+ σ.r:=by rw [← hσ1];exact List.tail_suffix _
 have hrσ1:=hsfσ1.trans hr;have hl1:σ1.r.length<σ.r.length:=by rw [← hσ1];exact htl
 refine a2 ?_;refine vy (zC3 rfl qU67 rfl rfl qZ64 rfl) ?_;refine zA3 (est st 0 qZ64 ?_);intro w st;refine a4 ?_;refine zA3 (zA1 [_,_] rfl rfl call223 rfl (zG2 c [59] σ1 hrσ1 _ (hC.k1 st.chg) (by exact st.rs 2)) ?_);rintro _ w ⟨rfl,hP1,cw⟩;replace st:=St.prs (b:=c.rb) st 2 rfl cw (.inl (.head _)) hP1;obtain⟨σ3,hσ3⟩:∃ x,zF3 c.e [59] σ1=x:=⟨_,rfl⟩
 rw [hσ3] at st;have hsfσ3:σ3.r <:+ σ1.r:=by rw [← hσ3];exact wantR_suf
 have hrσ3:=hsfσ3.trans hrσ1;refine a5 ?_;refine yla st 0 [_,_,_,_,_,_,_] qA67 qZ67 ?_;refine zA3 (zC4 st 1 [_,_,_,_,_,_,_] qZ67 ?_);intro w st;refine a3 ?_;refine zB7 st (.inl rfl) results242 (by exact .cell 1 rfl rfl qA67 qZ67) ?_;refine⟨_,rfl,?_⟩;have hdone:=kQ8 (e:=c.e) (a:=atT c.e σ.r) (σ:=σ1);rw [hσ3,← hσ1,← kI0 (blk:=gN c.e m) hk4 hF1 hF2 hF3 hF4 hT5,← zO7] at hdone;rw [← zZ2] at hdone;refine⟨_,σ3,hdone,hsfσ3.trans hsfσ1,(by exact st.rs 2),st.chg,none,none,none,0,0,0,[]++([]++[]),rfl,SmS_iff.2 ⟨none,0,none,0,none,0,[],[],[],rfl,qC6,zL3,zL3,rfl⟩,Nw.nil⟩;intro hc68;have hF5:zC7 zO9 σ=false:=hc68;rw [zG9 hF5] at st;refine a2 ?_;refine yla st 0 [_,_,_,_,_,_,_] qA67 qZ67 ?_;refine zA3 (zA1 [_,_] rfl rfl call257 rfl (gQ5 (zZ6 c.e σ.r).at_ c σ hr _ (hC.k1 st.chg) (by exact st.rs 2)) ?_);rintro _ w ⟨s,σ3,hD,hsf,hP1,cw,oe,ob,ol,ce,cb,cl,Ss,rfl,hQ,hN⟩;have hNSs:=hN.le st.chg.size;replace st:=St.prsT (b:=c.rb) st 2 rfl cw (.inl (.head _)) hP1 (zP8 hQ) hN.2;rw [zZ2] at hD;refine zA3 (zC4 st 1 [_,_,_,_,_,_,_] qZ67 ?_);intro w st;refine a5 ?_;refine yla st 1 [_,_,_,_,_,_,_] qA67 qZ67 ?_;refine zA3 (zC4 st 2 [_,_,_,_,_,_,_] qZ67 ?_);intro w st;refine a3 ?_;refine zB7 st (.inl rfl) results242 (by exact .cell 2 rfl rfl qA67 qZ67) ?_;refine⟨_,rfl,?_⟩;exact⟨s,σ3,by rw [zO7,gS8 hk4 hF1 hF2 hF3 hF4 hF5];exact hD,hsf,(by exact st.rs 3),st.chg,oe,ob,ol,ce,cb,cl,Ss,rfl,(by exact(st.res (i:=0) rfl).1),hNSs⟩
theorem kL6 (c:RCtx):∀ n,SMR c n∧SSR c n∧BKR c n:=fun n=>by
 induction n using Nat.strongRecOn with
 | _ n ih=>
  have hS:=jA3 c n (fun k hk=>(ih k hk).2.2)
  have hSS:=kQ4 c n hS
  exact⟨hS,hSS,kG9 c n hSS⟩
theorem kA8 (c:RCtx) (σ:RS) (hr:σ.r <:+ c.ts) (w:World) (hC:RCok c w) (hP:RAt c σ w):Ret Tryz.prog 224 [.pointer (some ⟨c.rb,0,none⟩),.int .i64 1] w (kA4 c σ (qD c.e 63) w (HB w)):=
 (kL6 c σ.r.length).2.1 63 1 (by omega) σ hr (fun _=>⟨rfl,Nat.le_refl _⟩) w hC hP
theorem kH2 {base:Nat} {w:World} {oa:Option Addr} {cap:Nat} {es:List Th} {S:List Nat} (h:ThR 42 67 63 69 w oa cap es S):(Res.tree S fun w=>ThR 42 67 63 69 w oa cap es S).holds base w:=zD2 h h.lt (fun a b h hk=>h.kept hk)
def HTs (sh lk:List Dc) (os ol:Option Addr) (cs cl:Nat) (w:World) (l:List Th) (v:Value) (w':World):Prop:=∃ ot ct Sq,v=.agg (pgC ⟨sh,lk,l⟩ os ol ot cs cl ct).toArray∧ThR 42 67 63 69 w' ot ct l Sq∧Nw w.heap.size Sq
set_option maxHeartbeats 2000000 in
theorem gM4 (n:Nat) (sh lk:List Dc) (os ol:Option Addr) (cs cl:Nat) (c:RCtx) (σ:RS) (hr:σ.r <:+ c.ts) (w:World) (hC:RCok c w) (hP:RAt c σ w) (hn:σ.r.length<n):Ret Tryz.prog 178 [.pointer (some ⟨c.rb,0,none⟩),.agg (pgC ⟨sh,lk,[]⟩ os ol none cs cl 0).toArray] w (kA4 c σ (qE0 c.e n) w (HTs sh lk os ol cs cl w)):=by
 refine zB [_,_] func178 rfl ntmps178 rfl ?_;obtain⟨w0,rfl⟩:∃ w0,w0=w:=⟨_,rfl⟩
 have hP':=hP;dsimp only [RAt,zQ4] at hP;have st:=St.of1 [c.rb] hP;have h20:=hC.len;have hl:=zB6 hr;replace st:=St.pushR (r:=.tree [] (fun w=>ThSs 42 67 63 w [] [] [])) st (Chg.refl _ _) (qI6 (by simp [ThSs])) (by simp [Res.at?]);replace st:=st.ownNil 69 4;refine a2 ?_;refine zA3 (zT2 (l:=[_,_,_]) st rfl rfl rfl rfl ?_);intro b3 w hb3 st;refine zA3 (zF8 (l:=[_,_,_]) st rfl rfl qV26 rfl ?_);intro b4 w hb4 st;refine a4 ?_;refine zC (w0:=w0) (M:=[c.rb]) (fun (y:(List Th×RS×Nat×Option Addr×Nat×List Value×List Nat))=>[(0,.pointer (some ⟨c.rb,0,none⟩)),(3,.pointer (some ⟨b3,0,none⟩)),(4,.pointer (some ⟨b4,0,none⟩))]) (fun (y:(List Th×RS×Nat×Option Addr×Nat×List Value×List Nat))=>[.blk b3 (.cells [.slice os sh.length cs,.slice ol lk.length cl,.slice y.2.2.2.1 y.1.length y.2.2.2.2.1].toArray 26 (0,0)),.own (.slice y.2.2.2.1 y.1.length y.2.2.2.2.1) 69 4 y.1.length y.2.2.2.2.2.1,.tree y.2.2.2.2.2.2 (fun w=>ThSs 42 67 63 w y.1 y.2.2.2.2.2.1 y.2.2.2.2.2.2),.blk b4 (.cells [.slice none 0 0,.slice none 0 0,.slice none 0 0].toArray 26 (0,0)),.blk c.rb (.cells (zQ4 c y.2.1).toArray c.T (0,0))]) (fun (y:(List Th×RS×Nat×Option Addr×Nat×List Value×List Nat)) _=>y.2.1.r <:+ σ.r∧(y.2.1.ok→y.1.length+y.2.1.r.length≤σ.r.length∧y.2.1.r.length<y.2.2.1)∧Nw w0.heap.size y.2.2.2.2.2.2∧run (qE0 c.e n) σ=gB5 y.1 (run (qE0 c.e y.2.2.1) y.2.1)) (fun (y:(List Th×RS×Nat×Option Addr×Nat×List Value×List Nat))=>RS.mu y.2.1) ([],σ,n,none,0,[],[]) ⟨rfl,rfl,rfl,trivial⟩ (st.pick [1,2,3,0,4] rfl (by decide)) ⟨List.suffix_refl _,fun _=>⟨by simp,hn⟩,Nw.nil,(qM5 _).symm⟩ ?_;clear st;rintro ⟨acc,σ1,k,ot,ct,xs,Sq⟩ w ⟨hsf1,hl1,hSq,hG⟩ st;dsimp only at hsf1 hl1 hSq hG st;have hrσ1:=hsf1.trans hr;have h40:=zB6 hrσ1;refine a2 ?_;refine vdr Tryz.mixed [Yt 0,Nt 1,Yt 2,Yt 3,Yt 4,Yt 5,Yt 6,Yt 7,Yt 8,Yt 9,Yt 10,Yt 11,Yt 12,Yt 13] [.blk c.rb (.cells (zQ4 c σ1).toArray c.T (0,0))] st ?_;clear st;intro w st hS;refine pm hS ?_;refine zD0 rfl (zA1 [_] rfl rfl call140 rfl (zR5 c σ1 hrσ1 _ (hC.k1 st.chg) (by exact st.rs 4)) ?_);rintro _ w ⟨rfl,cw⟩;replace st:=st.call0 cw;refine zA9 st.dr ?_;intro hS;refine zL4 rfl rfl rfl hS rfl ?_ ?_;intro hg10;(try simp only [dn] at hg10);have ho:σ1.ok:=by simpa using hg10
 obtain⟨hl2,hk1⟩:=hl1 ho;obtain⟨k,rfl⟩:∃ j,k=j+1:=⟨k - 1,by omega⟩
 refine pm hS ?_;refine pnk hS ?_;refine pfz hS 1 qU168 qZ3 ?_;refine pld hS 0 qA3 ?_;refine pm hS ?_;refine pnk hS ?_;refine pf0 hS qU168 qZ89 ?_;refine pld hS 0 qA89 ?_;refine zA2 rfl rfl rfl hS (fun w st=>zB1 rfl qU89) ?_;refine zA2 rfl rfl rfl hS (fun w st=>zM5 rfl rfl) ?_;refine zA2 rfl rfl rfl hS (fun w st=>zJ0 rfl rfl) ?_;refine zC6 (zA6 ?_);refine vif ?_ ?_;intro hc21;(try simp only [dn] at hc21);have hne:σ1.r≠[]:=by intro h0;rw [h0] at hc21;simp at hc21
 refine a6 ?_;refine zA3 (zA1 [_,_] rfl rfl call223 rfl (zG2 c zJ8 σ1 hrσ1 _ (hC.k1 st.chg) (by exact st.rs 4)) ?_);rintro _ w ⟨rfl,hP1,cw⟩;replace st:=St.prs (b:=c.rb) st 4 rfl cw (.inl (.head _)) hP1;dsimp only [zA0] at st;obtain⟨σ2,hσ2⟩:∃ x,zF3 c.e zJ8 σ1=x:=⟨_,rfl⟩
 rw [hσ2] at st;have hsfσ2:σ2.r <:+ σ1.r:=by rw [← hσ2];exact wantR_suf
 have hrσ2:=hsfσ2.trans hrσ1;have hlσ2:=zB6 hsfσ2;refine a5 ?_;refine zA3 (zA1 [_] rfl rfl call220 rfl (zM9 c σ2 hrσ2 _ (hC.k1 st.chg) (by exact st.rs 4)) ?_);rintro _ w ⟨rfl,hP1,cw⟩;replace st:=St.prs (b:=c.rb) st 4 rfl cw (.inl (.head _)) hP1;dsimp only [zA0] at st;obtain⟨σ3,hσ3⟩:∃ x,zJ5 c.e σ2=x:=⟨_,rfl⟩
 rw [hσ3] at st;have hsfσ3:σ3.r <:+ σ2.r:=by rw [← hσ3];exact qB4
 have hrσ3:=hsfσ3.trans hrσ2;have hlσ3:=zB6 hsfσ3;refine a11 ?_;refine vy (ybd (.agg #[_,_,_,_]) [(0,_),(3,_)]) ?_;refine zA3 (zF8 (l:=[_,_,_,_]) st rfl rfl qV69 rfl ?_);intro b7 w hb7 st;refine zA3 (zC4 st 0 [_,_,_,_] qZ69 ?_);intro w st;dsimp only [zA0,wr] at st;refine a4 ?_;replace st:=st.ownNil 63 3;refine a1 ?_;refine zA3 (zA1 [_,_] rfl rfl call223 rfl (zG2 c [123] σ3 hrσ3 _ (hC.k1 st.chg) (by exact st.rs 6)) ?_);rintro _ w ⟨rfl,hP1,cw⟩;replace st:=St.prs (b:=c.rb) st 6 rfl cw (.inl (.head _)) hP1;dsimp only [zA0] at st;obtain⟨σ4,hσ4⟩:∃ x,zF3 c.e [123] σ3=x:=⟨_,rfl⟩
 rw [hσ4] at st;have hsfσ4:σ4.r <:+ σ3.r:=by rw [← hσ4];exact wantR_suf
 have hrσ4:=hsfσ4.trans hrσ3;have hlσ4:=zB6 hsfσ4;refine a4 ?_;refine zC (w0:=w0) (M:=[c.rb]) (fun (z:(List Dc×RS×Nat×Option Addr×Nat))=>[(0,.pointer (some ⟨c.rb,0,none⟩)),(3,.pointer (some ⟨b3,0,none⟩)),(4,.pointer (some ⟨b4,0,none⟩)),(7,.pointer (some ⟨b7,0,none⟩))]) (fun (z:(List Dc×RS×Nat×Option Addr×Nat))=>[.blk b7 (.cells [str (zQ σ2),.slice z.2.2.2.1 z.1.length z.2.2.2.2,.slice none 0 0,.int .i64 (zW4 σ2:Int)].toArray 69 (0,0)),.own (.slice z.2.2.2.1 z.1.length z.2.2.2.2) 63 3 z.1.length (z.1.flatMap dcL),.blk b3 (.cells [.slice os sh.length cs,.slice ol lk.length cl,.slice ot acc.length ct].toArray 26 (0,0)),.own (.slice ot acc.length ct) 69 4 acc.length xs,.tree Sq (fun w=>ThSs 42 67 63 w acc xs Sq),.blk b4 (.cells [.slice none 0 0,.slice none 0 0,.slice none 0 0].toArray 26 (0,0)),.blk c.rb (.cells (zQ4 c z.2.1).toArray c.T (0,0))]) (fun (z:(List Dc×RS×Nat×Option Addr×Nat)) _=>z.2.1.r <:+ σ4.r∧z.1.length≤2097154∧(z.2.1.ok→z.1.length+z.2.1.r.length≤σ4.r.length∧z.2.1.r.length<z.2.2.1)∧run (fun r=>zF1 c.e (r.length+1) r) σ4=gB5 z.1 (run (zF1 c.e z.2.2.1) z.2.1)) (fun (z:(List Dc×RS×Nat×Option Addr×Nat))=>RS.mu z.2.1) ([],σ4,σ4.r.length+1,none,0) ⟨rfl,rfl,rfl,rfl,trivial⟩ (st.pick [1,0,2,3,4,5,6] rfl (by decide)) ⟨List.suffix_refl _,by simp,fun _=>⟨by simp,by simp⟩,(qM5 _).symm⟩ ?_;clear st;rintro ⟨lo,σ5,j,o,cc⟩ w ⟨hsfσ5,hlo,hl5,hG5⟩ st;dsimp only at hsfσ5 hlo hl5 hG5 st;have hrσ5:=hsfσ5.trans hrσ4;have h45:=zB6 hrσ5;refine a4 ?_;refine zA3 (zA1 [_,_] rfl rfl call175 rfl (zH2 c zM4 σ5 hrσ5 _ (hC.k1 st.chg) (by exact st.rs 6)) ?_);rintro _ w ⟨rfl,hP1,cw⟩;replace st:=St.prs (b:=c.rb) st 6 rfl cw (.inl (.head _)) hP1;dsimp only [zA0] at st;refine a2 ?_;refine vif ?_ ?_;intro hc35;(try simp only [dn] at hc35);have hT:zC7 zM4 σ5=true:=hc35;have ho5:=(zC8 hT).1;obtain⟨hl6,hj1⟩:=hl5 ho5;obtain⟨j,rfl⟩:∃ i,j=i+1:=⟨j - 1,by omega⟩
 have htl:=zC2 (zI5 (zC8 hT).2);rw [zH6 hT] at st;obtain⟨σ6,hσ6⟩:∃ x,(RS.mk σ5.r.tail σ5.f)=x:=⟨_,rfl⟩
 rw [hσ6] at st;have hsfσ6:σ6.r <:+ σ5.r:=by rw [← hσ6];exact List.tail_suffix _
 have hrσ6:=hsfσ6.trans hrσ5;have hl6b:σ6.r.length<σ5.r.length:=by rw [← hσ6];exact htl
 refine a3 ?_;refine kdr Tryz.mixed [Yt 0,Yt 2,Yt 1,Nt 3,Nt 4,Yt 5,Nt 6] 6 [.blk b7 (.cells [str (zQ σ2),.slice o lo.length cc,.slice none 0 0,.int .i64 (zW4 σ2:Int)].toArray 69 (0,0))] st ?_;clear st;intro w st hS;refine zB0 rfl rfl rfl rfl (fun _=>hS) (fun w=>(by exact zV8 (k:=1) rfl qU69 rfl rfl qZ23 rfl)) ?_;refine km hS ?_;refine zE4 rfl rfl rfl rfl hS (fun w st=>qE6 st 0 rfl qA23 rfl rfl) ?_;refine zG7 rfl rfl (zA1 [_] rfl rfl call177 rfl (gE1 (σ5.r.length+1) c σ6 hrσ6 _ (hC.k1 st.chg) (by exact st.rs 6) (by omega)) ?_);rintro _ w ⟨l,σ7,hD7,hsfσ7,hP1,cw,oD,cD,SD,rfl,hQ,hN,hll⟩;have hNSD:=hN.le st.chg.size;replace st:=St.prsT (b:=c.rb) st 6 rfl cw (.inl (.head _)) hP1 (qH3 hQ) hN.2;dsimp only [zA0] at st;have hrσ7:=hsfσ7.trans hrσ6;have hl7:=zB6 hsfσ7;rw [← hσ6] at hD7
 have hlen7:σ7.ok→l.length+σ7.r.length≤σ6.r.length:=fun h=>by
  have:=zX7 c.e _ qN7 _ _ _ _ (hD7.ok_inv h).2
  rw [← hσ6];exact this
 refine zF0 st.dr ?_;intro hS;refine zG7 rfl rfl (qE1 (bytes:=32) (len':=(lo++l).length) (ys:=(lo++l).flatMap dcL) st 2 rfl rfl rfl rfl rfl (gE3 (st.res (i:=0) rfl).1) qU23 Tryz.info63 rfl rfl rfl rfl rfl (zU8 l) (zU7 l) (by unfold maxLen;omega) (by omega) (by simp) (by simp) ?_);intro oaQ capQ w st;dsimp only [zA0] at st;refine zF0 st.dr ?_;intro hS;refine zB0 rfl rfl rfl rfl (fun _=>hS) (fun w=>(by exact zV8 (k:=1) rfl qU69 rfl rfl qZ23 rfl)) ?_;refine zG7 rfl rfl (est st 1 qZ23 ?_);intro w st;dsimp only [zA0,wr] at st;refine zJ7 ?_;refine zS1 ?_;refine a1 ?_;refine zA7 (lo++l,σ7,j,oaQ,capQ)  ⟨rfl,rfl,rfl,rfl,trivial⟩ (st.pick [1,2,3,4,5,6,7] rfl (by decide)) ?_ ?_;exact⟨(hsfσ7.trans hsfσ6).trans hsfσ5,by simp;omega,fun h=>⟨by have:=hlen7 h;simp;omega,by dsimp only;omega⟩,hG5.trans (gS0 hT hD7)⟩;unfold RS.mu;dsimp only;rw [if_pos ho5];split <;> omega;intro hc35;(try simp only [dn] at hc35);have hF:zC7 zM4 σ5=false:=hc35;rw [zG9 hF] at st
 have hlocs:Done (run (fun r=>zF1 c.e (r.length+1) r) σ4) lo σ5:=by
  rw [hG5]
  by_cases ho5:σ5.ok
  ·obtain⟨i,rfl⟩:∃ i,j=i+1:=⟨j - 1,by have:=(hl5 ho5).2;omega⟩
   exact(kA9 hF).add_nil
  ·rw [zF6 ho5];exact⟨rfl,ho5⟩
 refine a8 ?_;refine zA3 (zA1 [_,_] rfl rfl call224 rfl (kA8 c σ5 hrσ5 _ (hC.k1 st.chg) (by exact st.rs 6)) ?_);rintro _ w ⟨b,σ8,hD8,hsfσ8,hP1,cw,ob,cb,Sb,rfl,hQ,hN⟩;have hNSb:=hN.le st.chg.size;replace st:=St.prsT (b:=c.rb) st 6 rfl cw (.inl (.head _)) hP1 (zM8 hQ) hN.2;dsimp only [zA0] at st;have hrσ8:=hsfσ8.trans hrσ5;have hthr:=gP6 (by rw [← hσ3] at hσ4;exact hσ4.symm) hlocs hD8
 have hl8:σ8.ok→σ8.r.length<σ1.r.length:=fun h=>by
  have h1:=kF (hthr.ok_inv h).2
  omega
 refine yfz 2 qU69 qZ65 ?_;refine zA3 (est st 1 qZ65 ?_);intro w st;dsimp only [zA0,wr] at st;refine a3 ?_;refine yfz 2 qU26 qZ24 ?_;refine yl st 3 qA24 ?_;refine yla st 1 [_,_,_,_] qA69 qZ69 ?_;refine zA3 (zI4 (l:=[_,_,_,_]) st rfl rfl rfl rfl qU24 qZ69 rfl rfl rfl qV69 ?_);intro b48 w hb48 st;refine zA3 (qE3 (bytes:=72) st 5 0 rfl rfl rfl rfl rfl rfl qU24 Tryz.info69 rfl rfl rfl rfl rfl (by simp) rfl rfl (by unfold maxLen;omega) (by omega) ?_);intro oaQ capQ w st;dsimp only [zA0] at st;have hown:=st.ownNw (i:=3) rfl;have hT1:ThS 42 67 63 w ⟨zQ σ2,lo,b,(zW4 σ2:Int)⟩ (thC ⟨zQ σ2,lo,b,(zW4 σ2:Int)⟩ o ob cc cb) (obk o++Sb):=⟨o,cc,ob,cb,obk o,Sb,rfl,⟨hown.1,rfl⟩,(st.res (i:=1) rfl).1,rfl⟩
 have hNt:=hown.2.app hNSb (fun b hb=>st.ne (i:=3) (j:=1) (by decide) rfl rfl b (by simpa [Res.at?,zE8] using hb));have hdis:∀ b∈Sq,b∉obk o++Sb:=fun b hb hb'=>(List.mem_append.1 hb').elim (fun h=>st.ne (i:=6) (j:=3) (by decide) rfl rfl b hb (by simpa [Res.at?,zE8] using h)) (fun h=>st.ne (i:=6) (j:=1) (by decide) rfl rfl b hb h)
 have hT2:=ThSs.snoc (st.res (i:=6) rfl).1 hT1;have hN2:=hSq.app hNt hdis
 replace st:=((st.pick [6,3,1,4,5,7,8] rfl (by decide)).joinN 3 (q:=.tree (Sq++(obk o++Sb)) fun w=>ThSs 42 67 63 w (acc++[⟨zQ σ2,lo,b,(zW4 σ2:Int)⟩]) (xs++thC ⟨zQ σ2,lo,b,(zW4 σ2:Int)⟩ o ob cc cb) (Sq++(obk o++Sb))) (fun k hk=>by
     rcases List.mem_append.1 hk with h|h
     · exact⟨_,.head _,h⟩
     · rcases List.mem_append.1 h with h|h
       · exact⟨_,.tail _ (.head _),by simpa [Res.at?,zE8] using h⟩
       · exact⟨_,.tail _ (.tail _ (.head _)),h⟩) (qI6 hT2)).pick [1,2,0,3,4] rfl (by decide)
 refine yfz 2 qU26 qZ24 ?_;refine zA3 (est st 0 qZ24 ?_);intro w st;dsimp only [zA0,wr] at st;refine a2 ?_;refine zA7 (acc++[⟨zQ σ2,lo,b,(zW4 σ2:Int)⟩],σ8,k,oaQ,capQ,xs++thC ⟨zQ σ2,lo,b,(zW4 σ2:Int)⟩ o ob cc cb,Sq++(obk o++Sb))  ⟨rfl,rfl,rfl,trivial⟩ (by simpa using st) ?_ ?_;exact⟨hsfσ8.trans (hsfσ5.trans (hsfσ4.trans (hsfσ3.trans (hsfσ2.trans hsf1)))),fun h=>⟨by have:=hl8 h;simp;omega,by have:=hl8 h;dsimp only;omega⟩,hN2,hG.trans (kX7 ho hne (by rw [hσ2];exact hthr))⟩;unfold RS.mu;dsimp only;rw [if_pos ho];split;have:=hl8 (by assumption);omega;omega;intro hc21;(try simp only [dn] at hc21);have hnil:σ1.r=[]:=List.eq_nil_of_length_eq_zero (by omega);refine a7 ?_;refine yla st 0 [_,_,_] qA26 qZ26 ?_;refine zA3 (zC4 st 3 [_,_,_] qZ26 ?_);intro w st;dsimp only [zA0,wr] at st;refine a3 ?_;refine zB7 st (.inl rfl) results178 (by exact .cell 3 rfl rfl qA26 qZ26) ?_;refine⟨_,rfl,?_⟩;have hown:=st.ownNw (i:=1) rfl;exact⟨acc,σ1,by rw [hG];exact(jC0 hnil).add_nil,hsf1,(by exact st.rs 4),st.chg,ot,ct,obk ot++Sq,rfl,⟨xs,Sq,hown.1,rfl,(st.res (i:=2) rfl).1⟩,hown.2.app hSq (fun b hb=>st.ne (i:=1) (j:=2) (by decide) rfl rfl b (by simpa [Res.at?,zE8] using hb))⟩;intro hg10;(try simp only [dn] at hg10);have ho:¬ σ1.ok:=by simpa using hg10
 (iterate 10 refine zF5 rfl rfl rfl hS ?_);refine zA2 rfl rfl rfl hS (fun w st=>zN rfl rfl) ?_;refine zC6 (zA6 ?_);refine a8 ?_;refine yla st 0 [_,_,_] qA26 qZ26 ?_;refine zA3 (zC4 st 3 [_,_,_] qZ26 ?_);intro w st;dsimp only [zA0,wr] at st;refine a3 ?_;refine zB7 st (.inl rfl) results178 (by exact .cell 3 rfl rfl qA26 qZ26) ?_;refine⟨_,rfl,?_⟩;have hown:=st.ownNw (i:=1) rfl;exact⟨acc,σ1,by rw [hG,zF6 ho];exact⟨rfl,ho⟩,hsf1,(by exact st.rs 4),st.chg,ot,ct,obk ot++Sq,rfl,⟨xs,Sq,hown.1,rfl,(st.res (i:=2) rfl).1⟩,hown.2.app hSq (fun b hb=>st.ne (i:=1) (j:=2) (by decide) rfl rfl b (by simpa [Res.at?,zE8] using hb))⟩
set_option maxHeartbeats 2000000 in
theorem kS6 (n:Nat) (c:RCtx) (σ:RS) (hr:σ.r <:+ c.ts) (w:World) (hC:RCok c w) (hP:RAt c σ w) (hn:σ.r.length<n):Ret Tryz.prog 139 [.pointer (some ⟨c.rb,0,none⟩)] w (kA4 c σ (qJ0 c.e n) w (HP w)):=by
 refine zB [_] func139 rfl ntmps139 rfl ?_;obtain⟨w0,rfl⟩:∃ w0,w0=w:=⟨_,rfl⟩
 have hP':=hP;dsimp only [RAt,zQ4] at hP;have st:=St.of1 [c.rb] hP;have h20:=hC.len;have hl:=zB6 hr;replace st:=(st.ownNil 63 3).ownNil 63 3;refine a2 ?_;refine zA3 (zF8 (l:=[_,_,_]) st rfl rfl qV26 rfl ?_);intro b2 w hb2 st;refine a4 ?_;refine vy (ybd (.agg #[_,_,_]) []) ?_;refine zA3 (zF8 (l:=[_,_,_]) st rfl rfl qV26 rfl ?_);intro b3 w hb3 st;refine zA3 (zC4 st 0 [_,_,_] qZ26 ?_);intro w st;refine a4 ?_;refine zC (w0:=w0) (M:=[c.rb]) (fun (y:(List Dc×List Dc×RS×Nat×Option Addr×Nat×Option Addr×Nat))=>[(0,.pointer (some ⟨c.rb,0,none⟩)),(2,.pointer (some ⟨b2,0,none⟩)),(3,.pointer (some ⟨b3,0,none⟩))]) (fun (y:(List Dc×List Dc×RS×Nat×Option Addr×Nat×Option Addr×Nat))=>[.blk b3 (.cells [.slice y.2.2.2.2.1 y.1.length y.2.2.2.2.2.1,.slice y.2.2.2.2.2.2.1 y.2.1.length y.2.2.2.2.2.2.2,.slice none 0 0].toArray 26 (0,0)),.own (.slice y.2.2.2.2.1 y.1.length y.2.2.2.2.2.1) 63 3 y.1.length (y.1.flatMap dcL),.own (.slice y.2.2.2.2.2.2.1 y.2.1.length y.2.2.2.2.2.2.2) 63 3 y.2.1.length (y.2.1.flatMap dcL),.blk b2 (.cells [.slice none 0 0,.slice none 0 0,.slice none 0 0].toArray 26 (0,0)),.blk c.rb (.cells (zQ4 c y.2.2.1).toArray c.T (0,0))]) (fun (y:(List Dc×List Dc×RS×Nat×Option Addr×Nat×Option Addr×Nat)) _=>y.2.2.1.r <:+ σ.r∧(y.2.2.1.ok→y.1.length+y.2.1.length+y.2.2.1.r.length≤σ.r.length∧y.2.2.1.r.length<y.2.2.2.1)∧run (qJ0 c.e n) σ=kS7 y.1 y.2.1 (run (qJ0 c.e y.2.2.2.1) y.2.2.1)) (fun (y:(List Dc×List Dc×RS×Nat×Option Addr×Nat×Option Addr×Nat))=>y.2.2.1.r.length) ([],[],σ,n,none,0,none,0) ⟨rfl,rfl,rfl,trivial⟩ (st.pick [0,2,3,1,4] rfl (by decide)) ⟨List.suffix_refl _,fun _=>⟨by simp,hn⟩,(kX0 _).symm⟩ ?_;clear st;rintro ⟨sh,lk,σ1,k,os,cs,ol,cl⟩ w ⟨hsf1,hl1,hG⟩ st;dsimp only at hsf1 hl1 hG st;have hrσ1:=hsf1.trans hr;have h40:=zB6 hrσ1;refine a4 ?_;refine zA3 (zA1 [_] rfl rfl call140 rfl (zR5 c σ1 hrσ1 _ (hC.k1 st.chg) (by exact st.rs 4)) ?_);rintro _ w ⟨rfl,cw⟩;replace st:=st.call0 cw;refine a2 ?_;refine vif ?_ ?_;intro hc6;have ho:σ1.ok:=by simpa using hc6
 obtain⟨hl2,hk1⟩:=hl1 ho;obtain⟨k,rfl⟩:∃ j,k=j+1:=⟨k - 1,by omega⟩
 refine a7 ?_;refine zA3 (zA1 [_,_] rfl rfl call175 rfl (zH2 c zI9 σ1 hrσ1 _ (hC.k1 st.chg) (by exact st.rs 4)) ?_);rintro _ w ⟨rfl,hP1,cw⟩;replace st:=St.prs (b:=c.rb) st 4 rfl cw (.inl (.head _)) hP1;refine a3 ?_;refine vif ?_ ?_;intro hc10;have hT1:zC7 zI9 σ1=true:=hc10;have htl:=zC2 (zI5 (zC8 hT1).2);rw [zH6 hT1] at st;obtain⟨σ6,hσ6⟩:∃ x,(RS.mk σ1.r.tail σ1.f)=x:=⟨_,rfl⟩
 rw [hσ6] at st;have hsfσ6:σ6.r <:+ σ1.r:=by rw [← hσ6];exact List.tail_suffix _
 have hrσ6:=hsfσ6.trans hrσ1;have hl6:σ6.r.length<σ1.r.length:=by rw [← hσ6];exact htl
 refine kdr Tryz.mixed [Yt 0,Yt 2,Yt 1,Nt 3,Nt 4,Yt 5,Nt 6] 6 [.blk b3 (.cells [.slice os sh.length cs,.slice ol lk.length cl,.slice none 0 0].toArray 26 (0,0))] st ?_;clear st;intro w st hS;refine zB0 rfl rfl rfl rfl (fun _=>hS) (fun w=>zC3 rfl qU26 rfl rfl qZ23 rfl) ?_;refine km hS ?_;refine zE4 rfl rfl rfl rfl hS (fun w st=>qE6 st 0 rfl qA23 rfl rfl) ?_;refine zG7 rfl rfl (zA1 [_] rfl rfl call176 rfl (gS7 (σ1.r.length+1) c σ6 hrσ6 _ (hC.k1 st.chg) (by exact st.rs 4) (by omega)) ?_);rintro _ w ⟨l,σ7,hD7,hsfσ7,hP1,cw,oD,cD,SD,rfl,hQ,hN,hll⟩;have hNSD:=hN.le st.chg.size;replace st:=St.prsT (b:=c.rb) st 4 rfl cw (.inl (.head _)) hP1 (qH3 hQ) hN.2;have hrσ7:=hsfσ7.trans hrσ6;have hl7:=zB6 hsfσ7;rw [← hσ6] at hD7
 have hlen7:σ7.ok→l.length+σ7.r.length≤σ6.r.length:=fun h=>by
  have:=zX7 c.e _ gK3 _ _ _ _ (hD7.ok_inv h).2
  rw [← hσ6];exact this
 refine zF0 st.dr ?_;intro hS;refine zG7 rfl rfl (qE1 (bytes:=32) (len':=(sh++l).length) (ys:=(sh++l).flatMap dcL) st 2 rfl rfl rfl rfl rfl (gE3 (st.res (i:=0) rfl).1) qU23 Tryz.info63 rfl rfl rfl rfl rfl (zU8 l) (zU7 l) (by unfold maxLen;omega) (by omega) (by simp) (by simp) ?_);intro oaQ capQ w st;refine zF0 st.dr ?_;intro hS;refine zB0 rfl rfl rfl rfl (fun _=>hS) (fun w=>zC3 rfl qU26 rfl rfl qZ23 rfl) ?_;refine zG7 rfl rfl (est st 1 qZ23 ?_);intro w st;refine zJ7 ?_;refine zS1 ?_;refine a2 ?_;refine zA7 (sh++l,lk,σ7,k,oaQ,capQ,ol,cl)  ⟨rfl,rfl,rfl,trivial⟩ (st.pick [1,2,3,4,5] rfl (by decide)) ?_ ?_;exact⟨(hsfσ7.trans hsfσ6).trans hsf1,fun h=>⟨by have:=hlen7 h;simp;omega,by dsimp only;omega⟩,hG.trans (jC1 hT1 hD7)⟩;dsimp only;omega;intro hc10;have hF1:zC7 zI9 σ1=false:=hc10;rw [zG9 hF1] at st;refine a3 ?_;refine zA3 (zA1 [_,_] rfl rfl call175 rfl (zH2 c zH7 σ1 hrσ1 _ (hC.k1 st.chg) (by exact st.rs 4)) ?_);rintro _ w ⟨rfl,hP1,cw⟩;replace st:=St.prs (b:=c.rb) st 4 rfl cw (.inl (.head _)) hP1;refine a3 ?_;refine vif ?_ ?_;intro hc19;have hT2:zC7 zH7 σ1=true:=hc19;have htl:=zC2 (zI5 (zC8 hT2).2);rw [zH6 hT2] at st;obtain⟨σ6,hσ6⟩:∃ x,(RS.mk σ1.r.tail σ1.f)=x:=⟨_,rfl⟩
 rw [hσ6] at st;have hsfσ6:σ6.r <:+ σ1.r:=by rw [← hσ6];exact List.tail_suffix _
 have hrσ6:=hsfσ6.trans hrσ1;have hl6:σ6.r.length<σ1.r.length:=by rw [← hσ6];exact htl
 refine kdr Tryz.mixed [Yt 0,Yt 2,Yt 1,Nt 3,Nt 4,Yt 5,Nt 6] 6 [.blk b3 (.cells [.slice os sh.length cs,.slice ol lk.length cl,.slice none 0 0].toArray 26 (0,0))] st ?_;clear st;intro w st hS;refine zB0 rfl rfl rfl rfl (fun _=>hS) (fun w=>(by exact zV8 (k:=1) rfl qU26 rfl rfl qZ23 rfl)) ?_;refine km hS ?_;refine zE4 rfl rfl rfl rfl hS (fun w st=>qE6 st 0 rfl qA23 rfl rfl) ?_;refine zG7 rfl rfl (zA1 [_] rfl rfl call177 rfl (gE1 (σ1.r.length+1) c σ6 hrσ6 _ (hC.k1 st.chg) (by exact st.rs 4) (by omega)) ?_);rintro _ w ⟨l,σ7,hD7,hsfσ7,hP1,cw,oD,cD,SD,rfl,hQ,hN,hll⟩;have hNSD:=hN.le st.chg.size;replace st:=St.prsT (b:=c.rb) st 4 rfl cw (.inl (.head _)) hP1 (qH3 hQ) hN.2;have hrσ7:=hsfσ7.trans hrσ6;have hl7:=zB6 hsfσ7;rw [← hσ6] at hD7
 have hlen7:σ7.ok→l.length+σ7.r.length≤σ6.r.length:=fun h=>by
  have:=zX7 c.e _ qN7 _ _ _ _ (hD7.ok_inv h).2
  rw [← hσ6];exact this
 refine zF0 st.dr ?_;intro hS;refine zG7 rfl rfl (qE1 (bytes:=32) (len':=(lk++l).length) (ys:=(lk++l).flatMap dcL) st 3 rfl rfl rfl rfl rfl (gE3 (st.res (i:=0) rfl).1) qU23 Tryz.info63 rfl rfl rfl rfl rfl (zU8 l) (zU7 l) (by unfold maxLen;omega) (by omega) (by simp) (by simp) ?_);intro oaQ capQ w st;refine zF0 st.dr ?_;intro hS;refine zB0 rfl rfl rfl rfl (fun _=>hS) (fun w=>(by exact zV8 (k:=1) rfl qU26 rfl rfl qZ23 rfl)) ?_;refine zG7 rfl rfl (est st 1 qZ23 ?_);intro w st;refine zJ7 ?_;refine zS1 ?_;refine a2 ?_;refine zA7 (sh,lk++l,σ7,k,os,cs,oaQ,capQ)  ⟨rfl,rfl,rfl,trivial⟩ (st.pick [1,2,3,4,5] rfl (by decide)) ?_ ?_;exact⟨(hsfσ7.trans hsfσ6).trans hsf1,fun h=>⟨by have:=hlen7 h;simp;omega,by dsimp only;omega⟩,hG.trans (jF3 hF1 hT2 hD7)⟩;dsimp only;omega;intro hc19;have hF2:zC7 zH7 σ1=false:=hc19;rw [zG9 hF2] at st;refine a3 ?_;refine yla st 0 [_,_,_] qA26 qZ26 ?_;refine zA3 (zA1 [_,_] rfl rfl call178 rfl (gM4 (σ1.r.length+1) sh lk os ol cs cl c σ1 hrσ1 _ (hC.k1 st.chg) (by exact st.rs 4) (by omega)) ?_);rintro _ w ⟨l,σ7,hD7,hsfσ7,hP1,cw,ot,ct,Sq,rfl,hQ,hN⟩;have hNSq:=hN.le st.chg.size;replace st:=St.prsT (b:=c.rb) st 4 rfl cw (.inl (.head _)) hP1 (kH2 hQ) hN.2;refine zA3 (zC4 st 4 [_,_,_] qZ26 ?_);intro w st;refine a8 ?_;refine zB7 st (.inl rfl) results139 (by exact .cell 4 rfl rfl qA26 qZ26) ?_;refine⟨_,rfl,?_⟩;have o1:=st.ownNw (i:=2) rfl;have o2:=st.ownNw (i:=3) rfl;have d12:∀ k∈obk os,k∉obk ol:=fun k hk hk'=>st.ne (i:=2) (j:=3) (by decide) rfl rfl k (by simpa [Res.at?,zE8] using hk) (by simpa [Res.at?,zE8] using hk')
 have d14:∀ k∈obk os,k∉Sq:=fun k hk=>st.ne (i:=2) (j:=0) (by decide) rfl rfl k (by simpa [Res.at?,zE8] using hk)
 have d24:∀ k∈obk ol,k∉Sq:=fun k hk=>st.ne (i:=3) (j:=0) (by decide) rfl rfl k (by simpa [Res.at?,zE8] using hk)
 exact⟨⟨sh,lk,l⟩,σ7,by rw [hG];exact jE8 hF1 hF2 hD7,hsfσ7.trans hsf1,(by exact st.rs 5),st.chg,os,ol,ot,cs,cl,ct,obk os++(obk ol++Sq),rfl,⟨os,cs,ol,cl,ot,ct,obk os,obk ol,Sq,rfl,⟨o1.1,rfl⟩,⟨o2.1,rfl⟩,(st.res (i:=0) rfl).1,rfl⟩,
   o1.2.app (o2.2.app hNSq d24) (fun b hb hb'=>(List.mem_append.1 hb').elim (d12 b hb) (d14 b hb))⟩
 intro hc6;have ho:¬ σ1.ok:=by simpa using hc6
 refine a7 ?_;refine yla st 0 [_,_,_] qA26 qZ26 ?_;refine zA3 (zC4 st 3 [_,_,_] qZ26 ?_);intro w st;refine a3 ?_;refine zB7 st (.inl rfl) results139 (by exact .cell 3 rfl rfl qA26 qZ26) ?_;refine⟨_,rfl,?_⟩;have o1:=st.ownNw (i:=1) rfl;have o2:=st.ownNw (i:=2) rfl;have d12:∀ k∈obk os,k∉obk ol:=fun k hk hk'=>st.ne (i:=1) (j:=2) (by decide) rfl rfl k (by simpa [Res.at?,zE8] using hk) (by simpa [Res.at?,zE8] using hk')
 exact⟨⟨sh,lk,[]⟩,σ1,by rw [hG];exact kX3 ho _,hsf1,(by exact st.rs 4),st.chg,os,ol,none,cs,cl,0,obk os++(obk ol++[]),rfl,⟨os,cs,ol,cl,none,0,obk os,obk ol,[],rfl,⟨o1.1,rfl⟩,⟨o2.1,rfl⟩,⟨[],[],World.ownsRow_nil _ _ _ _,rfl,rfl,rfl⟩,rfl⟩,
   by rw [List.append_nil];exact o1.2.app o2.2 d12⟩
end Go.Proofs.YtnmhlpnapgojjaaGreatDoor.Pq
namespace Go.Proofs.YtnmhlpnapgojjaaGreatDoor
open Go.RowKit Sx LexS _root_.Go.Proofs.Tryz
theorem qV2 (l:List UInt8) (w:World):Ret Tryz.prog 253 [str l] w fun v w'=>v=.bool (zM1 l)∧w'=w:=by
 refine zB [_] func253 rfl ntmps253 rfl ?_;have st:=St.init w [];refine sr ?_;refine ya ?_;refine et (zC5 (sr ?_));refine ym ?_;refine et (zD6 (zC5 (sr ?_)));refine vy (zN4 rfl rfl) ?_;refine ya ?_;refine et ?_;refine vif ?_ ?_;intro hc4;(try simp only [dn] at hc4);refine kt ?_;refine zC9 rfl ?_;refine sr ?_;refine ya ?_;refine et (zA8 (zA4 (zA ?_)))
 rotate_left
 focus
  intro hc4;(try simp only [dn] at hc4);refine sr ?_;refine vy (zN4 rfl rfl) ?_;refine ya ?_;refine et ?_;refine vif ?_ ?_;intro hc4;(try simp only [dn] at hc4);refine kt ?_;refine zC9 rfl ?_;refine sr ?_;refine ya ?_;refine et (zA8 (zA4 (zA ?_)))
  rotate_left
  focus
   intro hc4;(try simp only [dn] at hc4);refine sr ?_;refine vy (zN4 rfl rfl) ?_;refine ya ?_;refine et ?_;refine vif ?_ ?_;intro hc4;(try simp only [dn] at hc4);refine kt ?_;refine zC9 rfl ?_;refine sr ?_;refine ya ?_;refine et (zA8 (zA4 (zA ?_)))
   rotate_left
   focus
    intro hc4;(try simp only [dn] at hc4);refine sr ?_;refine vy (zN4 rfl rfl) ?_;refine ya ?_;refine et ?_;refine vif ?_ ?_;intro hc4;(try simp only [dn] at hc4);refine kt ?_;refine zC9 rfl ?_;refine sr ?_;refine ya ?_;refine et (zA8 (zA4 (zA ?_)))
    rotate_left
    focus
     intro hc4;(try simp only [dn] at hc4);refine sr ?_;refine vy (zN4 rfl rfl) ?_;refine ya ?_;refine et ?_;refine vif ?_ ?_;intro hc4;(try simp only [dn] at hc4);refine kt ?_;refine zC9 rfl ?_;refine sr ?_;refine ya ?_;refine et (zA8 (zA4 (zA ?_)))
     rotate_left
     focus
      intro hc4;(try simp only [dn] at hc4);refine sr ?_;refine vy (zN4 rfl rfl) ?_;refine ya ?_;refine et ?_;refine vif ?_ ?_;intro hc4;(try simp only [dn] at hc4);refine kt ?_;refine zC9 rfl ?_;refine sr ?_;refine ya ?_;refine et (zA8 (zA4 (zA ?_)))
      rotate_left
      focus
       intro hc4;(try simp only [dn] at hc4);refine sr ?_;refine vy (zN4 rfl rfl) ?_;refine ya ?_;refine et ?_;refine vif ?_ ?_;intro hc4;(try simp only [dn] at hc4);refine kt ?_;refine zC9 rfl ?_;refine sr ?_;refine ya ?_;refine et (zA8 (zA4 (zA ?_)))
       rotate_left
       focus
        intro hc4;(try simp only [dn] at hc4);refine sr ?_;refine vy (zN4 rfl rfl) ?_;refine ya ?_;refine et ?_;refine vif ?_ ?_;intro hc4;(try simp only [dn] at hc4);refine kt ?_;refine zC9 rfl ?_;refine sr ?_;refine ya ?_;refine et (zA8 (zA4 (zA ?_)))
        rotate_left
        focus
         intro hc4;(try simp only [dn] at hc4);refine sr ?_;refine vy (zN4 rfl rfl) ?_;refine ya ?_;refine et ?_;refine vif ?_ ?_;intro hc4;(try simp only [dn] at hc4);refine kt ?_;refine zC9 rfl ?_;refine sr ?_;refine ya ?_;refine et (zA8 (zA4 (zA ?_)))
         rotate_left
         focus
          intro hc4;(try simp only [dn] at hc4);refine sr ?_;refine vy (zN4 rfl rfl) ?_;refine ya ?_;refine et ?_;refine vif ?_ ?_;intro hc4;(try simp only [dn] at hc4);refine kt ?_;refine zC9 rfl ?_;refine sr ?_;refine ya ?_;refine et (zA8 (zA4 (zA ?_)))
          rotate_left
          focus
           intro hc4;(try simp only [dn] at hc4);refine sr ?_;refine vy (zN4 rfl rfl) ?_;refine ya ?_;refine et ?_;refine vif ?_ ?_;intro hc4;(try simp only [dn] at hc4);refine kt ?_;refine zC9 rfl ?_;refine sr ?_;refine ya ?_;refine et (zA8 (zA4 (zA ?_)))
           rotate_left
           focus
            intro hc4;(try simp only [dn] at hc4);refine sr ?_;refine vy (zN4 rfl rfl) ?_;refine ya ?_;refine et ?_;refine vif ?_ ?_;intro hc4;(try simp only [dn] at hc4);refine kt ?_;refine zC9 rfl ?_;refine sr ?_;refine ya ?_;refine et (zA8 (zA4 (zA ?_)))
            rotate_left
            focus
             intro hc4;(try simp only [dn] at hc4);refine sr ?_;refine vy (zN4 rfl rfl) ?_;refine ya ?_;refine et ?_;refine vif ?_ ?_;intro hc4;(try simp only [dn] at hc4);refine kt ?_;refine zC9 rfl ?_;refine sr ?_;refine ya ?_;refine et (zA8 (zA4 (zA ?_)))
             rotate_left
             focus
              intro hc4;(try simp only [dn] at hc4);refine sr ?_;refine vy (zN4 rfl rfl) ?_;refine ya ?_;refine et ?_;refine vif ?_ ?_;intro hc4;(try simp only [dn] at hc4);refine kt ?_;refine zC9 rfl ?_;refine sr ?_;refine ya ?_;refine et (zA8 (zA4 (zA ?_)))
              rotate_left
              focus
               intro hc4;(try simp only [dn] at hc4);refine sr ?_;refine vy (zN4 rfl rfl) ?_;refine ya ?_;refine et ?_;refine vif ?_ ?_;intro hc4;(try simp only [dn] at hc4);refine kt ?_;refine zC9 rfl ?_;refine sr ?_;refine ya ?_;refine et (zA8 (zA4 (zA ?_)))
               rotate_left
               focus
                intro hc4;(try simp only [dn] at hc4);refine sr ?_;refine vy (zN4 rfl rfl) ?_;refine ya ?_;refine et ?_;refine vif ?_ ?_;intro hc4;(try simp only [dn] at hc4);refine kt ?_;refine zC9 rfl ?_;refine sr ?_;refine ya ?_;refine et (zA8 (zA4 (zA ?_)))
                rotate_left
                focus
                 intro hc4;(try simp only [dn] at hc4);refine sr ?_;refine vy (zN4 rfl rfl) ?_;refine ya ?_;refine et ?_;refine vif ?_ ?_;intro hc4;(try simp only [dn] at hc4);refine kt ?_;refine zC9 rfl ?_;refine sr ?_;refine ya ?_;refine et (zA8 (zA4 (zA ?_)))
                 rotate_left
                 focus
                  intro hc4;(try simp only [dn] at hc4);refine sr ?_;refine vy (zN4 rfl rfl) ?_;refine ya ?_;refine et ?_;refine vif ?_ ?_;intro hc4;(try simp only [dn] at hc4);refine kt ?_;refine zC9 rfl ?_;refine sr ?_;refine ya ?_;refine et (zA8 (zA4 (zA ?_)))
                  rotate_left
                  focus
                   intro hc4;(try simp only [dn] at hc4);refine sr ?_;refine vy (zN4 rfl rfl) ?_;refine ya ?_;refine et ?_;refine vif ?_ ?_;intro hc4;(try simp only [dn] at hc4);refine kt ?_;refine zC9 rfl ?_;refine sr ?_;refine ya ?_;refine et (zA8 (zA4 (zA ?_)))
                   rotate_left
                   focus
                    intro hc4;(try simp only [dn] at hc4);refine sr ?_;refine vy (zN4 rfl rfl) ?_;refine ya ?_;refine et ?_;refine vif ?_ ?_;intro hc4;(try simp only [dn] at hc4);refine kt ?_;refine zC9 rfl ?_;refine sr ?_;refine ya ?_;refine et (zA8 (zA4 (zA ?_)))
                    rotate_left
                    focus
                     intro hc4;(try simp only [dn] at hc4);refine sr ?_;refine vy (zN4 rfl rfl) ?_;refine ya ?_;refine et ?_;refine vif ?_ ?_;intro hc4;(try simp only [dn] at hc4);refine kt ?_;refine zC9 rfl ?_;refine sr ?_;refine ya ?_;refine et (zA8 (zA4 (zA ?_)))
                     rotate_left
                     focus
                      intro hc4;(try simp only [dn] at hc4);refine sr ?_;refine vy (zN4 rfl rfl) ?_;refine ya ?_;refine et ?_;refine vif ?_ ?_;intro hc4;(try simp only [dn] at hc4);refine kt ?_;refine zC9 rfl ?_;refine sr ?_;refine ya ?_;refine et (zA8 (zA4 (zA ?_)))
                      rotate_left
                      focus
                       intro hc4;(try simp only [dn] at hc4);refine sr ?_;refine vy (zN4 rfl rfl) ?_;refine ya ?_;refine et ?_;refine vif ?_ ?_;intro hc4;(try simp only [dn] at hc4);refine kt ?_;refine zC9 rfl ?_;refine sr ?_;refine ya ?_;refine et (zA8 (zA4 (zA ?_)))
                       rotate_left
                       focus
                        intro hc4;(try simp only [dn] at hc4);refine zB4 ?_;refine vy (zN4 rfl rfl) ?_;refine ya ?_;refine et ?_;refine vif ?_ ?_;intro hc4;(try simp only [dn] at hc4);refine sr ?_;refine ya ?_;refine et (zA8 (zA4 (zA ?_)))
                        rotate_left
                        intro hc4;(try simp only [dn] at hc4);refine zA5 (zE0 (zA6 (zR0 [] trivial (sr ?_))));refine ya ?_;refine et (zA8 ?_)
 all_goals
  refine vr1 st results253 ?_;refine⟨?_,rfl⟩;rw [Value.bool.injEq,kB0]
  first
  | (symm;simp only [decide_eq_true_eq];simp only [*,true_or,or_true];done)
  | (symm;simp only [decide_eq_false_iff_not];simp only [*,or_self,not_false_eq_true])
theorem kE2 {s:List UInt8} {j:Nat} (hj:j<s.length) (h1:((s.getD j 0).toNat:Int)=47) (h2:j+1<s.length) (h3:((s.getD (j+1) 0).toNat:Int)=47):zT5 (s.drop j)=true:=by
 rw [zG8 hj,zG8 h2];simp only [zT5,decide_eq_true_eq];exact⟨UInt8.toNat_inj.1 (by simp only [UInt8.reduceToNat];omega),UInt8.toNat_inj.1 (by simp only [UInt8.reduceToNat];omega)⟩
theorem gG1 {s:List UInt8} {j:Nat} (hj:j<s.length) (h:¬((s.getD j 0).toNat:Int)=47∨s.length≤j+1∨¬((s.getD (j+1) 0).toNat:Int)=47):zT5 (s.drop j)=false:=by
 rw [zG8 hj]
 by_cases h2:j+1<s.length
 rw [zG8 h2];simp only [zT5,decide_eq_false_iff_not];rintro ⟨h4,h5⟩;rcases h with h|h|h;rw [h4] at h;exact h rfl;omega;rw [h5] at h;exact h rfl;rw [List.drop_eq_nil_of_le (by omega)];rfl
theorem kN3 {s:List UInt8} {j:Nat} (hj:j<s.length) (h:¬((s.getD j 0).toNat:Int)=10):qO8 (s.drop j)=qO8 (s.drop (j+1))+1:=by
 rw [zG8 hj];simp only [qO8];rw [if_neg];intro h';rw [h'] at h;exact h rfl
theorem qM8 {s:List UInt8} {j:Nat} (h:s.length≤j∨((s.getD j 0).toNat:Int)=10):qO8 (s.drop j)=0:=by
 by_cases hj:j<s.length
 rw [zG8 hj];simp only [qO8];rw [if_pos (UInt8.toNat_inj.1 (by simp only [UInt8.reduceToNat];omega))];rw [List.drop_eq_nil_of_le (by omega)];rfl
def qD9 (l:List UInt8):Nat×Bool:=if l=[]∨(1<l.length∧l.getD 0 0=48)∨l.all zB5=false∨9223372036854775807<zG6 l then (0,false) else (zG6 l,true)
theorem gR (a b:List UInt8):zG6 a≤zG6 (a++b):=by
 induction b generalizing a with
 | nil=>simp
 | cons c r ih=>
  have h:=ih (a++[c])
  rw [qC2] at h
  rw [show a++c::r=a++[c]++r by simp]
  omega
theorem qJ6 (l:List UInt8) (j:Nat):zG6 (l.take j)≤zG6 l:=by
 have h:=gR (l.take j) (l.drop j)
 rwa [List.take_append_drop] at h
theorem qC0 {l:List UInt8} {j:Nat} (hj:j<l.length):zG6 (l.take (j+1))=10*zG6 (l.take j)+((l.getD j 0).toNat - 48):=by
 rw [← qC2,List.take_succ_eq_append_getElem (by omega)];simp [List.getD,hj]
set_option maxHeartbeats 1000000 in
theorem gN7 (s:List UInt8) (i:Nat) (w:World) (hi:i≤s.length) (hs:s.length≤9000000000000000000) :
    Ret Tryz.prog 240 [str s,.int .i64 (i:Int)] w fun v w'=>v=.int .i64 ((i+skip (s.drop i):Nat):Int)∧w'=w:=by
 refine zB [_,_] func240 rfl ntmps240 rfl ?_;have st:=St.init w [];refine a7 ?_;refine zC (w0:=_) (M:=_) (fun (j:Nat)=>[(0,str s),(1,.int .i64 (j:Int))]) (fun _=>[]) (fun j w'=>j≤s.length∧j+skip (s.drop j)=i+skip (s.drop i)∧w'=w) (fun j=>s.length - j) i ⟨rfl,rfl,trivial⟩ st ⟨hi,rfl,rfl⟩ ?_;rintro j w' ⟨hj,he,rfl⟩ st;refine a5 ?_;refine vy (zH8 rfl qU9) ?_;refine a3 ?_;refine vif ?_ ?_
 ·intro hc8;(try simp only [dn] at hc8);refine a8 ?_;refine vy (zP1 (k:=j) rfl rfl qU9 rfl (by omega)) ?_;refine zA3 (zA1 [_] rfl rfl call251 rfl (kA _ _) ?_);rintro _ w ⟨rfl,rfl⟩;refine a2 ?_;refine vif ?_ ?_;intro hc12;(try simp only [dn] at hc12);refine a3 ?_;refine vy (zK2 rfl rfl rfl (by omega) (by omega)) ?_;refine a6 ?_;refine zA7 (j+1) ⟨rfl,rfl,trivial⟩ st ?_ ?_;exact⟨by omega,by rw [zG8 (by omega),qH6 (by assumption)] at he;omega,rfl⟩;omega;intro hc12;(try simp only [dn] at hc12);refine a7 ?_;refine vy (zP1 (k:=j) rfl rfl qU9 rfl (by omega)) ?_;refine a1 ?_;refine vmb ?_ ?_
  ·intro hg19;(try simp only [dn] at hg19);refine a16 ?_;refine a12 ?_;refine vr1 st results240 ?_;refine⟨?_,rfl⟩;rcases Nat.lt_or_ge j s.length with hjl|hjl
   case inr=>
    obtain rfl:j=s.length:=by omega
    simp only [List.drop_length,qI2] at he
    rw [← he];rfl
   case inl=>
      first
      | (have hr : zT5 (s.drop j) = false := gG1 (by omega) (by (left; omega))
         have hd:=zG8 (s:=s) (j:=j) (by omega)
         rw [hd] at hr
         rw [hd,zQ8 (by assumption) hr] at he
         rw [← he];rfl)
  intro hg19;(try simp only [dn] at hg19);refine a1 ?_;refine vy (zK2 rfl rfl rfl (by omega) (by omega)) ?_;refine a1 ?_;refine vy (zH8 rfl qU9) ?_;refine a2 ?_;refine vmb ?_ ?_
  ·intro hg26;(try simp only [dn] at hg26);refine a16 ?_;refine a5 ?_;refine vr1 st results240 ?_;refine⟨?_,rfl⟩;rcases Nat.lt_or_ge j s.length with hjl|hjl
   case inr=>
    obtain rfl:j=s.length:=by omega
    simp only [List.drop_length,qI2] at he
    rw [← he];rfl
   case inl=>
      first
      | (have hr : zT5 (s.drop j) = false := gG1 (by omega) (by (right; left; omega))
         have hd:=zG8 (s:=s) (j:=j) (by omega)
         rw [hd] at hr
         rw [hd,zQ8 (by assumption) hr] at he
         rw [← he];rfl)
  intro hg26;(try simp only [dn] at hg26);refine a2 ?_;refine vy (zK2 rfl rfl rfl (by omega) (by omega)) ?_;refine vy (zP1 (k:=(j+1)) rfl rfl qU9 rfl (by omega)) ?_;refine a4 ?_;refine vif ?_ ?_
  ·intro hc32;(try simp only [dn] at hc32);refine a12 ?_;refine vr1 st results240 ?_;refine⟨?_,rfl⟩;rcases Nat.lt_or_ge j s.length with hjl|hjl
   case inr=>
    obtain rfl:j=s.length:=by omega
    simp only [List.drop_length,qI2] at he
    rw [← he];rfl
   case inl=>
      first
      | (have hr : zT5 (s.drop j) = false := gG1 (by omega) (by (right; right; omega))
         have hd:=zG8 (s:=s) (j:=j) (by omega)
         rw [hd] at hr
         rw [hd,zQ8 (by assumption) hr] at he
         rw [← he];rfl)
  intro hc32;(try simp only [dn] at hc32);have hr:zT5 (s.drop j)=true:=kE2 (by omega) (by assumption) (by omega) (by assumption);refine a3 ?_;refine zC (w0:=_) (M:=_) (fun (m:Nat)=>[(0,str s),(1,.int .i64 (m:Int))]) (fun _=>[]) (fun m w''=>j≤m∧m≤s.length∧m+qO8 (s.drop m)=j+qO8 (s.drop j)∧w''=w) (fun m=>s.length - m) j ⟨rfl,rfl,trivial⟩ st ⟨by omega,by omega,rfl,rfl⟩ ?_;rintro m w' ⟨hjm,hm,hme,rfl⟩ st;refine a5 ?_;refine vy (zH8 rfl qU9) ?_;refine a1 ?_;refine vmb ?_ ?_;intro hg38;(try simp only [dn] at hg38);refine a2 ?_;refine vy (zP1 (k:=_) rfl rfl qU9 rfl (by omega)) ?_;refine a4 ?_;refine vif ?_ ?_;intro hc43;(try simp only [dn] at hc43);refine a5 ?_;refine vy (zK2 rfl rfl rfl (by omega) (by omega)) ?_;refine a3 ?_;refine zA7 (m+1) ⟨rfl,rfl,trivial⟩ st ?_ ?_;exact⟨by omega,by omega,by have:=kN3 (s:=s) (j:=m) (by omega) (by assumption);omega,rfl⟩;omega;intro hc43;(try simp only [dn] at hc43);refine a5 ?_;refine zA7 m ⟨rfl,rfl,trivial⟩ st ?_ ?_;have hz:=qM8 (s:=s) (j:=m) (by(right;assumption));exact⟨by omega,by rw [qS7 hr,List.drop_drop] at he;rw [show m=j+qO8 (List.drop j s) by omega];omega,rfl⟩;have:=qH5 hr;have hz:=qM8 (s:=s) (j:=m) (by(right;assumption));omega;intro hg38;(try simp only [dn] at hg38);refine a13 ?_;refine zA7 m ⟨rfl,rfl,trivial⟩ st ?_ ?_;have hz:=qM8 (s:=s) (j:=m) (by(left;omega));exact⟨by omega,by rw [qS7 hr,List.drop_drop] at he;rw [show m=j+qO8 (List.drop j s) by omega];omega,rfl⟩;have:=qH5 hr;have hz:=qM8 (s:=s) (j:=m) (by(left;omega));omega
 intro hc8;(try simp only [dn] at hc8);refine a12 ?_;refine vr1 st results240 ?_;refine⟨?_,rfl⟩;rcases Nat.lt_or_ge j s.length with hjl|hjl
 case inr=>
  obtain rfl:j=s.length:=by omega
  simp only [List.drop_length,qI2] at he
  rw [← he];rfl
 case inl=>
    (exfalso;omega)
set_option maxHeartbeats 1000000 in
theorem qZ8 (l:List UInt8) (w:World) (hs:l.length≤9000000000000000000) :
    Ret Tryz.prog 252 [str l] w fun v w'=>v=.tuple [.int .i64 ((qD9 l).1:Int),.bool (qD9 l).2].toArray∧w'=w:=by
 refine zB [_] func252 rfl ntmps252 rfl ?_;have st:=St.init w [];refine a11 ?_;refine vmb ?_ ?_;intro hg9;(try simp only [dn] at hg9);refine a16 ?_;refine a4 ?_;refine zG3 st (.inl rfl) results252 (.tmp rfl) (.tmp rfl) ?_;refine⟨_,rfl,?_⟩;refine⟨?_,rfl⟩;have fin:∀ (a:Nat) (b:Bool),qD9 l=(a,b)→(Value.tuple [.int .i64 (a:Int),.bool b].toArray)=.tuple [.int .i64 ((qD9 l).1:Int),.bool (qD9 l).2].toArray:=fun a b h=>by rw [h]
 (refine fin 0 false ?_;unfold qD9;rw [if_pos (.inl (by assumption))])
 intro hg9;(try simp only [dn] at hg9);refine a1 ?_;refine vy (zP1 (k:=0) rfl rfl qU9 rfl (by(rcases l with _|⟨_,_⟩ <;> simp at*))) ?_;refine a1 ?_;refine vmb ?_ ?_;intro hg13;(try simp only [dn] at hg13);refine a1 ?_;refine vy (zH8 rfl qU9) ?_;refine a5 ?_;refine vif ?_ ?_;intro hc18;(try simp only [dn] at hc18);refine a8 ?_;refine zG3 st (.inl rfl) results252 (.tmp rfl) (.tmp rfl) ?_;refine⟨_,rfl,?_⟩;refine⟨?_,rfl⟩;have fin:∀ (a:Nat) (b:Bool),qD9 l=(a,b)→(Value.tuple [.int .i64 (a:Int),.bool b].toArray)=.tuple [.int .i64 ((qD9 l).1:Int),.bool (qD9 l).2].toArray:=fun a b h=>by rw [h]
 (refine fin 0 false ?_;unfold qD9;rw [if_pos (.inr (.inl ⟨by omega,gR5 (by assumption)⟩))])
 intro hc18;(try simp only [dn] at hc18);refine a14 ?_;refine zC (w0:=_) (M:=_) (fun (x:Nat×Nat)=>[(0,str l),(4,.int .u64 (x.2:Int)),(5,.int .i64 (x.1:Int))]) (fun _=>[]) (fun x w'=>x.1≤l.length∧(l.take x.1).all zB5=true∧x.2=zG6 (l.take x.1)∧x.2≤9223372036854775807∧w'=w) (fun x=>l.length - x.1) (0,0) ⟨rfl,rfl,rfl,trivial⟩ st ⟨by simp,by simp,by simp [zG6],by simp,rfl⟩ ?_;rintro ⟨j,n⟩ w' ⟨hj,hall,hn,hM,rfl⟩ st;dsimp only at *;refine a5 ?_;refine vy (zH8 rfl qU9) ?_;refine a3 ?_;refine vif ?_ ?_;intro hc22;(try simp only [dn] at hc22);refine a8 ?_;refine vy (zP1 (k:=j) rfl rfl qU9 rfl (by omega)) ?_;refine vy (qV4 rfl rfl (by rw [qD2])) ?_;refine vy (qB7 rfl qU182 qU5 (by rw [zF7])) ?_;refine a8 ?_;refine vy (zP1 (k:=j) rfl rfl qU9 rfl (by omega)) ?_;refine zA3 (zA1 [_] rfl rfl call123 rfl (zS2 _ _) ?_);rintro _ w ⟨rfl,rfl⟩;refine a1 ?_;refine vmb ?_ ?_;intro hg35;(try simp only [dn] at hg35);refine a16 ?_;refine a6 ?_;refine zG3 st (.inl rfl) results252 (.tmp rfl) (.tmp rfl) ?_;refine⟨_,rfl,?_⟩;refine⟨?_,rfl⟩;have fin:∀ (a:Nat) (b:Bool),qD9 l=(a,b)→(Value.tuple [.int .i64 (a:Int),.bool b].toArray)=.tuple [.int .i64 ((qD9 l).1:Int),.bool (qD9 l).2].toArray:=fun a b h=>by rw [h]
 (refine fin 0 false ?_;unfold qD9;rw [if_pos (.inr (.inr (.inl (gU7 (m:=j) (by omega) (by assumption)))))])
 intro hg35;(try simp only [dn] at hg35);have hdg:=qX6 (by assumption);refine a2 ?_;refine vy (qV4 rfl rfl (by rw [zF7];omega:_=((9223372036854775807 - ((l.getD j 0).toNat - 48):Nat):Int))) ?_;refine vy (gL2 rfl rfl (by omega) (by omega) (by rw [zF7];omega:_=(((9223372036854775807 - ((l.getD j 0).toNat - 48)) / 10:Nat):Int))) ?_;refine a4 ?_;refine vif ?_ ?_;intro hc41;(try simp only [dn] at hc41);refine a13 ?_;refine zG3 st (.inl rfl) results252 (.tmp rfl) (.tmp rfl) ?_;refine⟨_,rfl,?_⟩;refine⟨?_,rfl⟩;have fin:∀ (a:Nat) (b:Bool),qD9 l=(a,b)→(Value.tuple [.int .i64 (a:Int),.bool b].toArray)=.tuple [.int .i64 ((qD9 l).1:Int),.bool (qD9 l).2].toArray:=fun a b h=>by rw [h]
 first
 | (refine fin 0 false ?_
    have h1:=qC0 (l:=l) (j:=j) (by omega)
    have h2:=qJ6 l (j+1)
    unfold qD9;rw [if_pos (.inr (.inr (.inr (by omega))))])
 intro hc41;(try simp only [dn] at hc41);refine a4 ?_;refine vy (gJ9 rfl rfl (by rw [zF7];omega:_=((10*n:Nat):Int))) ?_;refine a1 ?_;refine vy (qJ1 rfl rfl (by rw [zF7];omega:_=((10*n+((l.getD j 0).toNat - 48):Nat):Int))) ?_;refine a6 ?_;refine vy (zK2 rfl rfl rfl (by omega) (by omega)) ?_;refine a2 ?_;refine zA7 (j+1,10*n+((l.getD j 0).toNat - 48)) ⟨rfl,rfl,rfl,trivial⟩ st ?_ ?_;exact⟨by dsimp only;omega,zP3 (by omega) hall (by assumption),by dsimp only;rw [qC0 (by omega),← hn],by dsimp only;omega,rfl⟩;dsimp only;omega;intro hc22;(try simp only [dn] at hc22);refine a8 ?_;refine vy (qB7 rfl qU2 qU182 (IntWalk.i64_in _ ⟨by omega,by omega⟩:_=(n:Int))) ?_;refine a5 ?_;refine zG3 st (.inl rfl) results252 (.tmp rfl) (.tmp rfl) ?_;refine⟨_,rfl,?_⟩;refine⟨?_,rfl⟩;have fin:∀ (a:Nat) (b:Bool),qD9 l=(a,b)→(Value.tuple [.int .i64 (a:Int),.bool b].toArray)=.tuple [.int .i64 ((qD9 l).1:Int),.bool (qD9 l).2].toArray:=fun a b h=>by rw [h]
 first
 | (obtain rfl : j = l.length := by omega
    rw [List.take_length] at hn hall
    refine fin n true ?_
    unfold qD9
    rw [if_neg,hn]
    rintro (h|⟨h1,h2⟩|h|h)
    · contradiction
    · have h3:((l.getD 0 0).toNat:Int)=48:=by rw [h2];rfl
      omega
    · rw [hall] at h;cases h
    · omega)
 intro hg13;(try simp only [dn] at hg13);refine a16 ?_;refine a6 ?_;refine zC (w0:=_) (M:=_) (fun (x:Nat×Nat)=>[(0,str l),(4,.int .u64 (x.2:Int)),(5,.int .i64 (x.1:Int))]) (fun _=>[]) (fun x w'=>x.1≤l.length∧(l.take x.1).all zB5=true∧x.2=zG6 (l.take x.1)∧x.2≤9223372036854775807∧w'=w) (fun x=>l.length - x.1) (0,0) ⟨rfl,rfl,rfl,trivial⟩ st ⟨by simp,by simp,by simp [zG6],by simp,rfl⟩ ?_;rintro ⟨j,n⟩ w' ⟨hj,hall,hn,hM,rfl⟩ st;dsimp only at *;refine a5 ?_;refine vy (zH8 rfl qU9) ?_;refine a3 ?_;refine vif ?_ ?_;intro hc22;(try simp only [dn] at hc22);refine a8 ?_;refine vy (zP1 (k:=j) rfl rfl qU9 rfl (by omega)) ?_;refine vy (qV4 rfl rfl (by rw [qD2])) ?_;refine vy (qB7 rfl qU182 qU5 (by rw [zF7])) ?_;refine a8 ?_;refine vy (zP1 (k:=j) rfl rfl qU9 rfl (by omega)) ?_;refine zA3 (zA1 [_] rfl rfl call123 rfl (zS2 _ _) ?_);rintro _ w ⟨rfl,rfl⟩;refine a1 ?_;refine vmb ?_ ?_;intro hg35;(try simp only [dn] at hg35);refine a16 ?_;refine a6 ?_;refine zG3 st (.inl rfl) results252 (.tmp rfl) (.tmp rfl) ?_;refine⟨_,rfl,?_⟩;refine⟨?_,rfl⟩;have fin:∀ (a:Nat) (b:Bool),qD9 l=(a,b)→(Value.tuple [.int .i64 (a:Int),.bool b].toArray)=.tuple [.int .i64 ((qD9 l).1:Int),.bool (qD9 l).2].toArray:=fun a b h=>by rw [h]
 (refine fin 0 false ?_;unfold qD9;rw [if_pos (.inr (.inr (.inl (gU7 (m:=j) (by omega) (by assumption)))))])
 intro hg35;(try simp only [dn] at hg35);have hdg:=qX6 (by assumption);refine a2 ?_;refine vy (qV4 rfl rfl (by rw [zF7];omega:_=((9223372036854775807 - ((l.getD j 0).toNat - 48):Nat):Int))) ?_;refine vy (gL2 rfl rfl (by omega) (by omega) (by rw [zF7];omega:_=(((9223372036854775807 - ((l.getD j 0).toNat - 48)) / 10:Nat):Int))) ?_;refine a4 ?_;refine vif ?_ ?_;intro hc41;(try simp only [dn] at hc41);refine a13 ?_;refine zG3 st (.inl rfl) results252 (.tmp rfl) (.tmp rfl) ?_;refine⟨_,rfl,?_⟩;refine⟨?_,rfl⟩;have fin:∀ (a:Nat) (b:Bool),qD9 l=(a,b)→(Value.tuple [.int .i64 (a:Int),.bool b].toArray)=.tuple [.int .i64 ((qD9 l).1:Int),.bool (qD9 l).2].toArray:=fun a b h=>by rw [h]
 first
 | (refine fin 0 false ?_
    have h1:=qC0 (l:=l) (j:=j) (by omega)
    have h2:=qJ6 l (j+1)
    unfold qD9;rw [if_pos (.inr (.inr (.inr (by omega))))])
 intro hc41;(try simp only [dn] at hc41);refine a4 ?_;refine vy (gJ9 rfl rfl (by rw [zF7];omega:_=((10*n:Nat):Int))) ?_;refine a1 ?_;refine vy (qJ1 rfl rfl (by rw [zF7];omega:_=((10*n+((l.getD j 0).toNat - 48):Nat):Int))) ?_;refine a6 ?_;refine vy (zK2 rfl rfl rfl (by omega) (by omega)) ?_;refine a2 ?_;refine zA7 (j+1,10*n+((l.getD j 0).toNat - 48)) ⟨rfl,rfl,rfl,trivial⟩ st ?_ ?_;exact⟨by dsimp only;omega,zP3 (by omega) hall (by assumption),by dsimp only;rw [qC0 (by omega),← hn],by dsimp only;omega,rfl⟩;dsimp only;omega;intro hc22;(try simp only [dn] at hc22);refine a8 ?_;refine vy (qB7 rfl qU2 qU182 (IntWalk.i64_in _ ⟨by omega,by omega⟩:_=(n:Int))) ?_;refine a5 ?_;refine zG3 st (.inl rfl) results252 (.tmp rfl) (.tmp rfl) ?_;refine⟨_,rfl,?_⟩;refine⟨?_,rfl⟩;have fin:∀ (a:Nat) (b:Bool),qD9 l=(a,b)→(Value.tuple [.int .i64 (a:Int),.bool b].toArray)=.tuple [.int .i64 ((qD9 l).1:Int),.bool (qD9 l).2].toArray:=fun a b h=>by rw [h]
 first
 | (obtain rfl : j = l.length := by omega
    rw [List.take_length] at hn hall
    refine fin n true ?_
    unfold qD9
    rw [if_neg,hn]
    rintro (h|⟨h1,h2⟩|h|h)
    · contradiction
    · have h3:((l.getD 0 0).toNat:Int)=48:=by rw [h2];rfl
      contradiction
    · rw [hall] at h;cases h
    · omega)
def kQ7 (res:TokR) (v:Value):Prop:=match res with
 | .tok t=>v=.tuple [.agg (kW5 t).toArray,.int .i64 0,.int .i64 0].toArray
 | .bad rule p=>∃ k t wd a,v=.tuple [.agg (jI4 k t wd a).toArray,.int .i64 (rule:Int),.int .i64 (p:Int)].toArray
theorem gD3 {l:List UInt8} (h:zP0 l=true):l.length≤32:=by
 simp only [zP0,decide_eq_true_eq] at h;rcases h with h|h|h|h|h|h|h|h|h|h <;> rw [h] <;> decide
theorem gR0 {T:List UInt8} (hne:T≠[]) (hall:T.all zB5=true):qD9 T=if (1<T.length∧T.getD 0 0=48)∨9223372036854775807<zG6 T then (0,false) else (zG6 T,true):=by
 unfold qD9;simp only [hne,hall,Bool.true_eq_false,false_or]
theorem gF7 {p:UInt8→Bool} (l:List UInt8):(l.takeWhile p).all p=true:=by
 induction l with
 | nil=>rfl
 | cons c r ih => rw [List.takeWhile_cons]; split
                  · rename_i h;simp only [List.all_cons,h,ih,Bool.and_self]
                  · rfl
theorem gX8 {s:List UInt8} {i:Nat} (h:i<s.length) (hc:zE9 (s.getD i 0)=false) (hd:zB5 (s.getD i 0)=true) :
    zK7 (s.drop i) i=if (qD9 ((s.drop i).takeWhile zB5)).2=false then .bad 3 i
   else if i+((s.drop i).takeWhile zB5).length<s.length∧zE9 (s.getD (i+((s.drop i).takeWhile zB5).length) 0)=true then .bad 4 (i+((s.drop i).takeWhile zB5).length)
   else .tok ⟨3,(s.drop i).takeWhile zB5,(qD9 ((s.drop i).takeWhile zB5)).1,i⟩:=by
 rw [qY9 h hc hd];have hT:(s.drop i).takeWhile zB5=s.getD i 0::(s.drop (i+1)).takeWhile zB5:=by rw [zG8 h,List.takeWhile_cons,if_pos hd]
 have hall:=gF7 (p:=zB5) (s.drop i);rw [hT] at hall ⊢
 generalize (s.drop (i+1)).takeWhile zB5=U at *
 have h0:(s.getD i 0::U).getD 0 0=s.getD i 0:=rfl;rw [gR0 (by simp) hall,h0]
 by_cases hcond:(1<(s.getD i 0::U).length∧s.getD i 0=48)∨9223372036854775807<zG6 (s.getD i 0::U)
 rw [if_pos hcond,if_pos hcond,if_pos rfl];rw [if_neg hcond,if_neg hcond];simp only [Bool.true_eq_false,if_false]
set_option maxHeartbeats 2000000 in
theorem kX9 (s:List UInt8) (i:Nat) (w:World) (hi:i<s.length) (hs:s.length≤9000000000000000000) :
    Ret Tryz.prog 241 [str s,.int .i64 (i:Int)] w fun v w'=>kQ7 (zK7 (s.drop i) i) v∧Chg [] w w':=by
 refine zB [_,_] func241 rfl ntmps241 rfl ?_;have st:=St.init w [];refine a2 ?_;refine zA3 (zF8 (l:=[_,_,_,_]) st rfl rfl qV118 rfl ?_);intro b4 w hb4 st;refine a16 ?_;refine vy (zP1 (k:=i) rfl rfl qU9 rfl (by omega)) ?_;refine zA3 (zA1 [_] rfl rfl call125 rfl (zX0 _ _) ?_);rintro _ w ⟨rfl,rfl⟩;refine a3 ?_;refine vif ?_ ?_
 ·intro hc12;(try simp only [dn] at hc12);refine a2 ?_;refine zC (w0:=_) (M:=_) (fun (j:Nat)=>[(0,str s),(1,.int .i64 (i:Int)),(4,.pointer (some ⟨b4,0,none⟩)),(7,.int .i64 (j:Int))]) (fun _=>[.blk b4 (.cells zeroL.toArray 118 (0,0))]) (fun j _=>i≤j∧j≤s.length∧(s.drop i).takeWhile zF4=(s.drop i).take (j - i)++(s.drop j).takeWhile zF4) (fun j=>s.length - j) i ⟨rfl,rfl,rfl,rfl,trivial⟩ st ⟨by omega,by omega,by simp⟩ ?_;rintro j w ⟨hij,hj,he⟩ st;refine a5 ?_;refine vy (zH8 rfl qU9) ?_;refine a1 ?_;refine vmb ?_ ?_
  ·intro hg21;(try simp only [dn] at hg21);refine a2 ?_;refine vy (zP1 (k:=j) rfl rfl qU9 rfl (by omega)) ?_;refine zA3 (zA1 [_] rfl rfl call125 rfl (zX0 _ _) ?_);rintro _ w ⟨rfl,rfl⟩;refine vmb ?_ ?_;intro hg26;(try simp only [dn] at hg26);refine a14 ?_;refine vy (zK2 rfl rfl rfl (by omega) (by omega)) ?_;refine a3 ?_;refine zA7 (j+1) ⟨rfl,rfl,rfl,rfl,trivial⟩ st ?_ ?_;exact⟨by omega,by omega,qK5 hij (by omega) (qI5 _ (by(left;assumption))) he⟩;omega;intro hg26;(try simp only [dn] at hg26);refine a2 ?_;refine vy (zP1 (k:=j) rfl rfl qU9 rfl (by omega)) ?_;refine zA3 (zA1 [_] rfl rfl call123 rfl (zS2 _ _) ?_);rintro _ w ⟨rfl,rfl⟩;refine a4 ?_;refine vif ?_ ?_;intro hc32;(try simp only [dn] at hc32);refine a5 ?_;refine vy (zK2 rfl rfl rfl (by omega) (by omega)) ?_;refine a3 ?_;refine zA7 (j+1) ⟨rfl,rfl,rfl,rfl,trivial⟩ st ?_ ?_;exact⟨by omega,by omega,qK5 hij (by omega) (qI5 _ (by(right;assumption))) he⟩;omega;intro hc32;(try simp only [dn] at hc32);have hT:=qR9 (fun _=>gE2 _ (by assumption) (by assumption)) he;refine a10 ?_;refine vy (zT6 (i:=i) (j:=j) rfl rfl rfl qU9 rfl rfl (by omega) (by omega)) ?_;refine a1 ?_;refine vy (ybd (.agg #[_,_,_,_]) [(0,_),(1,_),(3,_)]) ?_;refine zA3 (zF8 (l:=[_,_,_,_]) st rfl rfl qV118 rfl ?_);intro b8 w hb8 st;refine zA3 (zC4 st 0 [_,_,_,_] qZ118 ?_);intro w st;dsimp only [zA0,wr] at st;refine a5 ?_;refine yfz 1 qU118 qZ9 ?_;refine yl st 0 qA9 ?_;refine zA3 (zA1 [_] rfl rfl call124 rfl (qX3 _ _) ?_);rintro _ w ⟨rfl,rfl⟩;refine a2 ?_;refine vif ?_ ?_;intro hc43;(try simp only [dn] at hc43);refine a1 ?_;refine vy (zC3 rfl qU118 rfl rfl qZ116 rfl) ?_;refine zA3 (est st 0 qZ116 ?_);intro w st;dsimp only [zA0,wr] at st;refine a1 ?_
   rotate_left
   intro hc43;(try simp only [dn] at hc43);refine a1 ?_
   all_goals
    refine a6 ?_;refine vy (qF4 rfl rfl rfl (by omega) (by omega)) ?_;refine a3 ?_;refine vif ?_ ?_;intro hc48;(try simp only [dn] at hc48);refine a2 ?_;refine yla st 0 [_,_,_,_] qA118 qZ118 ?_;refine a1 ?_;refine vy (yin ((i+32:Nat):Int)) ?_;refine zA3 (zC4 st 1 [_,_,_,_] qZ118 ?_);intro w st;dsimp only [zA0,wr] at st;refine a6 ?_
    rotate_left
    intro hc48;(try simp only [dn] at hc48);refine a4 ?_;refine yla st 0 [_,_,_,_] qA118 qZ118 ?_;refine zA3 (zC4 st 1 [_,_,_,_] qZ118 ?_);intro w st;dsimp only [zA0,wr] at st;refine a5 ?_
    all_goals
     refine a2 ?_;refine zL0 st (.inl rfl) results241 (by exact .cell 1 rfl rfl qA118 qZ118) (.tmp rfl) (.tmp rfl) ?_;refine⟨_,rfl,?_⟩;have hlen:(List.take (j - i) (List.drop i s)).length=j - i:=by simp;omega
     refine⟨?_,st.chg⟩;rw [qI8 hi (by assumption),hT,hlen]
     first
     | (exfalso;have:=gD3 hc43;omega)
     | (rw [if_pos hc43];rfl)
     | (rw [if_neg (by rw [hc43];simp),if_pos (by omega)];exact⟨_,_,_,_,rfl⟩)
     | (rw [if_neg (by rw [hc43];simp),if_neg (by omega)];rfl)
  intro hg21;(try simp only [dn] at hg21);have hT:=qR9 (fun h=>absurd h (by omega)) he;refine a16 ?_;refine a8 ?_;refine vy (zT6 (i:=i) (j:=j) rfl rfl rfl qU9 rfl rfl (by omega) (by omega)) ?_;refine a1 ?_;refine vy (ybd (.agg #[_,_,_,_]) [(0,_),(1,_),(3,_)]) ?_;refine zA3 (zF8 (l:=[_,_,_,_]) st rfl rfl qV118 rfl ?_);intro b8 w hb8 st;refine zA3 (zC4 st 0 [_,_,_,_] qZ118 ?_);intro w st;dsimp only [zA0,wr] at st;refine a5 ?_;refine yfz 1 qU118 qZ9 ?_;refine yl st 0 qA9 ?_;refine zA3 (zA1 [_] rfl rfl call124 rfl (qX3 _ _) ?_);rintro _ w ⟨rfl,rfl⟩;refine a2 ?_;refine vif ?_ ?_;intro hc43;(try simp only [dn] at hc43);refine a1 ?_;refine vy (zC3 rfl qU118 rfl rfl qZ116 rfl) ?_;refine zA3 (est st 0 qZ116 ?_);intro w st;dsimp only [zA0,wr] at st;refine a1 ?_
  rotate_left
  intro hc43;(try simp only [dn] at hc43);refine a1 ?_
  all_goals
   refine a6 ?_;refine vy (qF4 rfl rfl rfl (by omega) (by omega)) ?_;refine a3 ?_;refine vif ?_ ?_;intro hc48;(try simp only [dn] at hc48);refine a2 ?_;refine yla st 0 [_,_,_,_] qA118 qZ118 ?_;refine a1 ?_;refine vy (yin ((i+32:Nat):Int)) ?_;refine zA3 (zC4 st 1 [_,_,_,_] qZ118 ?_);intro w st;dsimp only [zA0,wr] at st;refine a6 ?_
   rotate_left
   intro hc48;(try simp only [dn] at hc48);refine a4 ?_;refine yla st 0 [_,_,_,_] qA118 qZ118 ?_;refine zA3 (zC4 st 1 [_,_,_,_] qZ118 ?_);intro w st;dsimp only [zA0,wr] at st;refine a5 ?_
   all_goals
    refine a2 ?_;refine zL0 st (.inl rfl) results241 (by exact .cell 1 rfl rfl qA118 qZ118) (.tmp rfl) (.tmp rfl) ?_;refine⟨_,rfl,?_⟩;have hlen:(List.take (j - i) (List.drop i s)).length=j - i:=by simp;omega
    refine⟨?_,st.chg⟩;rw [qI8 hi (by assumption),hT,hlen]
    first
    | (exfalso;have:=gD3 hc43;omega)
    | (rw [if_pos hc43];rfl)
    | (rw [if_neg (by rw [hc43];simp),if_pos (by omega)];exact⟨_,_,_,_,rfl⟩)
    | (rw [if_neg (by rw [hc43];simp),if_neg (by omega)];rfl)
 intro hc12;(try simp only [dn] at hc12);refine a4 ?_;refine vy (zP1 (k:=i) rfl rfl qU9 rfl (by omega)) ?_;refine zA3 (zA1 [_] rfl rfl call123 rfl (zS2 _ _) ?_);rintro _ w ⟨rfl,rfl⟩;refine a3 ?_;refine vif ?_ ?_
 ·intro hc53;(try simp only [dn] at hc53);refine a2 ?_;refine zC (w0:=_) (M:=_) (fun (j:Nat)=>[(0,str s),(1,.int .i64 (i:Int)),(4,.pointer (some ⟨b4,0,none⟩)),(7,.int .i64 (j:Int))]) (fun _=>[.blk b4 (.cells zeroL.toArray 118 (0,0))]) (fun j _=>i≤j∧j≤s.length∧(s.drop i).takeWhile zB5=(s.drop i).take (j - i)++(s.drop j).takeWhile zB5) (fun j=>s.length - j) i ⟨rfl,rfl,rfl,rfl,trivial⟩ st ⟨by omega,by omega,by simp⟩ ?_;rintro j w ⟨hij,hj,he⟩ st;refine a5 ?_;refine vy (zH8 rfl qU9) ?_;refine a1 ?_;refine vmb ?_ ?_
  ·intro hg62;(try simp only [dn] at hg62);refine a2 ?_;refine vy (zP1 (k:=j) rfl rfl qU9 rfl (by omega)) ?_;refine zA3 (zA1 [_] rfl rfl call123 rfl (zS2 _ _) ?_);rintro _ w ⟨rfl,rfl⟩;refine a3 ?_;refine vif ?_ ?_;intro hc67;(try simp only [dn] at hc67);refine a5 ?_;refine vy (zK2 rfl rfl rfl (by omega) (by omega)) ?_;refine a3 ?_;refine zA7 (j+1) ⟨rfl,rfl,rfl,rfl,trivial⟩ st ?_ ?_;exact⟨by omega,by omega,qK5 hij (by omega) (by assumption) he⟩;omega;intro hc67;(try simp only [dn] at hc67);have hT:=qR9 (fun _=>by assumption) he;refine a10 ?_;refine vy (zT6 (i:=i) (j:=j) rfl rfl rfl qU9 rfl rfl (by omega) (by omega)) ?_;refine zA3 (zA1 [_] rfl rfl call252 rfl (qZ8 _ _ (by simp;omega)) ?_);rintro _ w ⟨rfl,rfl⟩;refine a14 ?_;refine vif ?_ ?_;intro hc79;(try simp only [dn] at hc79);refine a2 ?_;refine vy (ybd (.agg #[_,_,_,_]) []) ?_;refine a1 ?_;refine zA3 (zC4 st 0 [_,_,_,_] qZ118 ?_);intro w st;dsimp only [zA0,wr] at st;refine a6 ?_
   rotate_left
   focus
    intro hc79;(try simp only [dn] at hc79);refine a7 ?_;refine vy (zH8 rfl qU9) ?_;refine a1 ?_;refine vmb ?_ ?_
    focus
     intro hg86;(try simp only [dn] at hg86);refine a2 ?_;refine vy (zP1 (k:=j) rfl rfl qU9 rfl (by omega)) ?_;refine zA3 (zA1 [_] rfl rfl call125 rfl (zX0 _ _) ?_);rintro _ w ⟨rfl,rfl⟩;refine a3 ?_;refine vif ?_ ?_;intro hc91;(try simp only [dn] at hc91);refine a2 ?_;refine vy (ybd (.agg #[_,_,_,_]) []) ?_;refine a1 ?_;refine zA3 (zC4 st 0 [_,_,_,_] qZ118 ?_);intro w st;dsimp only [zA0,wr] at st;refine a6 ?_
     rotate_left
     intro hc91;(try simp only [dn] at hc91);refine a7 ?_;refine vy (zT6 (i:=i) (j:=j) rfl rfl rfl qU9 rfl rfl (by omega) (by omega)) ?_;refine a2 ?_;refine vy (ybd (.agg #[_,_,_,_]) [(0,_),(1,_),(2,_),(3,_)]) ?_;refine zA3 (zC4 st 0 [_,_,_,_] qZ118 ?_);intro w st;dsimp only [zA0,wr] at st;refine a5 ?_
    rotate_left 2
    intro hg86;(try simp only [dn] at hg86);refine a15 ?_;refine vy (zT6 (i:=i) (j:=j) rfl rfl rfl qU9 rfl rfl (by omega) (by omega)) ?_;refine a2 ?_;refine vy (ybd (.agg #[_,_,_,_]) [(0,_),(1,_),(2,_),(3,_)]) ?_;refine zA3 (zC4 st 0 [_,_,_,_] qZ118 ?_);intro w st;dsimp only [zA0,wr] at st;refine a5 ?_
   all_goals
    refine a2 ?_;refine zL0 st (.inl rfl) results241 (by exact .cell 0 rfl rfl qA118 qZ118) (.tmp rfl) (.tmp rfl) ?_;refine⟨_,rfl,?_⟩;have hlen:(List.take (j - i) (List.drop i s)).length=j - i:=by simp;omega
    refine⟨?_,st.chg⟩;rw [gX8 hi (by assumption) (by assumption),hT,hlen,show i+(j - i)=j by omega]
    first
    | (rw [if_pos (by assumption)];exact⟨_,_,_,_,rfl⟩)
    | (rw [if_neg (by rw [hc79];simp),if_pos ⟨by omega,by assumption⟩];exact⟨_,_,_,_,rfl⟩)
    | (rw [if_neg (by rw [hc79];simp),if_neg (by rintro ⟨h1,h2⟩;first|omega|simp_all)];rfl)
  intro hg62;(try simp only [dn] at hg62);have hT:=qR9 (fun h=>absurd h (by omega)) he;refine a16 ?_;refine a2 ?_;refine vy (zT6 (i:=i) (j:=j) rfl rfl rfl qU9 rfl rfl (by omega) (by omega)) ?_;refine zA3 (zA1 [_] rfl rfl call252 rfl (qZ8 _ _ (by simp;omega)) ?_);rintro _ w ⟨rfl,rfl⟩;refine a14 ?_;refine vif ?_ ?_;intro hc79;(try simp only [dn] at hc79);refine a2 ?_;refine vy (ybd (.agg #[_,_,_,_]) []) ?_;refine a1 ?_;refine zA3 (zC4 st 0 [_,_,_,_] qZ118 ?_);intro w st;dsimp only [zA0,wr] at st;refine a6 ?_
  rotate_left
  focus
   intro hc79;(try simp only [dn] at hc79);refine a7 ?_;refine vy (zH8 rfl qU9) ?_;refine a1 ?_;refine vmb ?_ ?_
   focus
    intro hg86;(try simp only [dn] at hg86);refine a2 ?_;refine vy (zP1 (k:=j) rfl rfl qU9 rfl (by omega)) ?_;refine zA3 (zA1 [_] rfl rfl call125 rfl (zX0 _ _) ?_);rintro _ w ⟨rfl,rfl⟩;refine a3 ?_;refine vif ?_ ?_;intro hc91;(try simp only [dn] at hc91);refine a2 ?_;refine vy (ybd (.agg #[_,_,_,_]) []) ?_;refine a1 ?_;refine zA3 (zC4 st 0 [_,_,_,_] qZ118 ?_);intro w st;dsimp only [zA0,wr] at st;refine a6 ?_
    rotate_left
    intro hc91;(try simp only [dn] at hc91);refine a7 ?_;refine vy (zT6 (i:=i) (j:=j) rfl rfl rfl qU9 rfl rfl (by omega) (by omega)) ?_;refine a2 ?_;refine vy (ybd (.agg #[_,_,_,_]) [(0,_),(1,_),(2,_),(3,_)]) ?_;refine zA3 (zC4 st 0 [_,_,_,_] qZ118 ?_);intro w st;dsimp only [zA0,wr] at st;refine a5 ?_
   rotate_left 2
   intro hg86;(try simp only [dn] at hg86);refine a15 ?_;refine vy (zT6 (i:=i) (j:=j) rfl rfl rfl qU9 rfl rfl (by omega) (by omega)) ?_;refine a2 ?_;refine vy (ybd (.agg #[_,_,_,_]) [(0,_),(1,_),(2,_),(3,_)]) ?_;refine zA3 (zC4 st 0 [_,_,_,_] qZ118 ?_);intro w st;dsimp only [zA0,wr] at st;refine a5 ?_
  all_goals
   refine a2 ?_;refine zL0 st (.inl rfl) results241 (by exact .cell 0 rfl rfl qA118 qZ118) (.tmp rfl) (.tmp rfl) ?_;refine⟨_,rfl,?_⟩;have hlen:(List.take (j - i) (List.drop i s)).length=j - i:=by simp;omega
   refine⟨?_,st.chg⟩;rw [gX8 hi (by assumption) (by assumption),hT,hlen,show i+(j - i)=j by omega]
   first
   | (rw [if_pos (by assumption)];exact⟨_,_,_,_,rfl⟩)
   | (rw [if_neg (by rw [hc79];simp),if_pos ⟨by omega,by assumption⟩];exact⟨_,_,_,_,rfl⟩)
   | (rw [if_neg (by rw [hc79];simp),if_neg (by rintro ⟨h1,h2⟩;omega)];rfl)
 intro hc53;(try simp only [dn] at hc53);refine a3 ?_;refine vy (yin ((i+2:Nat):Int)) ?_;refine a1 ?_;refine vy (zH8 rfl qU9) ?_;refine a1 ?_;refine vmb ?_ ?_
 focus
  intro hg107;(try simp only [dn] at hg107);refine a3 ?_;refine vy (yin ((i+2:Nat):Int)) ?_;refine vy (zT6 (i:=i) (j:=(i+2)) rfl rfl rfl qU9 rfl rfl (by omega) (by omega)) ?_;refine zA3 (zA1 [_] rfl rfl call253 rfl (qV2 _ _) ?_);rintro _ w ⟨rfl,rfl⟩;refine a4 ?_;refine vif ?_ ?_;intro hc101;(try simp only [dn] at hc101);refine a5 ?_;refine vy (yin ((i+2:Nat):Int)) ?_;refine vy (zT6 (i:=i) (j:=(i+2)) rfl rfl rfl qU9 rfl rfl (by omega) (by omega)) ?_;refine a1 ?_;refine vy (ybd (.agg #[_,_,_,_]) [(0,_),(1,_),(3,_)]) ?_;refine zA3 (zC4 st 0 [_,_,_,_] qZ118 ?_);intro w st;dsimp only [zA0,wr] at st;refine a7 ?_
  rotate_left
  focus
   intro hc101;(try simp only [dn] at hc101);refine a5 ?_;refine vy (yin ((i+1:Nat):Int)) ?_;refine vy (zT6 (i:=i) (j:=(i+1)) rfl rfl rfl qU9 rfl rfl (by omega) (by omega)) ?_;refine zA3 (zA1 [_] rfl rfl call253 rfl (qV2 _ _) ?_);rintro _ w ⟨rfl,rfl⟩;refine a3 ?_;refine vif ?_ ?_;intro hc122;(try simp only [dn] at hc122);refine a5 ?_;refine vy (yin ((i+1:Nat):Int)) ?_;refine vy (zT6 (i:=i) (j:=(i+1)) rfl rfl rfl qU9 rfl rfl (by omega) (by omega)) ?_;refine a1 ?_;refine vy (ybd (.agg #[_,_,_,_]) [(0,_),(1,_),(3,_)]) ?_;refine zA3 (zC4 st 0 [_,_,_,_] qZ118 ?_);intro w st;dsimp only [zA0,wr] at st;refine a7 ?_
   rotate_left
   intro hc122;(try simp only [dn] at hc122);refine a5 ?_;refine vy (ybd (.agg #[_,_,_,_]) []) ?_;refine a1 ?_;refine zA3 (zC4 st 0 [_,_,_,_] qZ118 ?_);intro w st;dsimp only [zA0,wr] at st;refine a5 ?_
 rotate_left 3
 focus
  intro hg107;(try simp only [dn] at hg107);refine a16 ?_;refine vy (yin ((i+1:Nat):Int)) ?_;refine vy (zT6 (i:=i) (j:=(i+1)) rfl rfl rfl qU9 rfl rfl (by omega) (by omega)) ?_;refine zA3 (zA1 [_] rfl rfl call253 rfl (qV2 _ _) ?_);rintro _ w ⟨rfl,rfl⟩;refine a3 ?_;refine vif ?_ ?_;intro hc122;(try simp only [dn] at hc122);refine a5 ?_;refine vy (yin ((i+1:Nat):Int)) ?_;refine vy (zT6 (i:=i) (j:=(i+1)) rfl rfl rfl qU9 rfl rfl (by omega) (by omega)) ?_;refine a1 ?_;refine vy (ybd (.agg #[_,_,_,_]) [(0,_),(1,_),(3,_)]) ?_;refine zA3 (zC4 st 0 [_,_,_,_] qZ118 ?_);intro w st;dsimp only [zA0,wr] at st;refine a7 ?_
  rotate_left
  intro hc122;(try simp only [dn] at hc122);refine a5 ?_;refine vy (ybd (.agg #[_,_,_,_]) []) ?_;refine a1 ?_;refine zA3 (zC4 st 0 [_,_,_,_] qZ118 ?_);intro w st;dsimp only [zA0,wr] at st;refine a5 ?_
 all_goals
  refine zL0 st (.inl rfl) results241 (by exact .cell 0 rfl rfl qA118 qZ118) (.tmp rfl) (.tmp rfl) ?_;refine⟨_,rfl,?_⟩;refine⟨?_,st.chg⟩;rw [qR1 hi (by assumption) (by assumption)];simp only [show i+2 - i=2 by omega,show i+1 - i=1 by omega] at *;have h2l:(List.take 2 (List.drop i s)).length=min 2 (s.length - i):=by simp
  have h1l:(List.take 1 (List.drop i s)).length=1:=by simp;omega
  have e1:zM1 (List.take 1 (List.drop i s))=zK1 (List.take 1 (List.drop i s)):=by
   unfold zM1
   cases h:zG1 (List.take 1 (List.drop i s))
   ·rfl
   ·have:=zY1 h;omega
  have e2:zG1 (List.take 2 (List.drop i s))=if i+2≤s.length then zM1 (List.take 2 (List.drop i s)) else false:=by
   split
   ·unfold zM1
    cases h:zK1 (List.take 2 (List.drop i s))
    ·simp
    ·have:=qD0 h;omega
   ·cases h:zG1 (List.take 2 (List.drop i s))
    ·rfl
    ·have:=zY1 h;omega
  first
  | (rw [if_pos (by rw [e2,if_pos (by omega)];assumption)];rfl)
  | (rw [if_neg (by rw [e2,if_pos (by omega)];simp only [*];simp),if_pos (by rw [← e1];assumption)];rfl)
  | (rw [if_neg (by rw [e2,if_neg (by omega)];simp),if_pos (by rw [← e1];assumption)];rfl)
  | (rw [if_neg (by rw [e2,if_pos (by omega)];simp only [*];simp),if_neg (by rw [← e1];simp only [*];simp)];exact⟨_,_,_,_,rfl⟩)
  | (rw [if_neg (by rw [e2,if_neg (by omega)];simp),if_neg (by rw [← e1];simp only [*];simp)];exact⟨_,_,_,_,rfl⟩)
end Go.Proofs.YtnmhlpnapgojjaaGreatDoor
